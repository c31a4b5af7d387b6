/- Marks on a cluster all of whose rows are the call's own, and what bears them: in words of clusters. -/
import Derived.Test.YtcfpilkhjpegcaaK22
import Derived.Test.YtcfpilkhjpegcaaK21
import Derived.Test.YtcfpilkhjpegcaaK8
namespace Go.Proofs.Ytcfpilkhjpegcaa
open Go.RowKit
set_option maxRecDepth 4000

theorem cntQ_wt : ∀ (qs : List (TaskD × Value)), cntQ qs = wTasks (qs.map (·.1))
  | [] => rfl
  | q :: qs => by
    rw [cntQ_cons, cntQ_wt qs]
    simp only [wTasks, sumN, wTask, wInts, List.map_cons, List.length_cons, List.sum_cons]
    omega
theorem cntU_wt : ∀ (us : List UnitW), cntU us = wUnits (us.map UnitW.d)
  | [] => rfl
  | u :: us => by
    rw [cntU_cons, cntU_wt us, cntQ_wt]
    simp only [wUnits, sumN, wUnit, UnitW.d, List.map_cons, List.length_cons, List.sum_cons]
    omega
theorem sumN_bd {α : Type} (f : α → Nat) (M : Nat) : ∀ (xs : List α), (∀ x ∈ xs, f x ≤ M) → sumN f xs ≤ xs.length * M
  | [], _ => by simp [sumN]
  | x :: xs, h => by
    have h1 := sumN_bd f M xs (fun y hy => h y (by simp [hy]))
    have h2 := h x (by simp)
    unfold sumN at *
    rw [List.map_cons, List.sum_cons, List.length_cons, Nat.add_mul]
    omega
theorem small_w {C : ClusD} (h : SmallC C) : wClus C ≤ 100000 := by
  have h1 : sumN wUnit C.units ≤ C.units.length * 4000 := sumN_bd _ _ _ (fun u hu => by
    have h2 := (h.tasks u hu).1
    have h3 : sumN wTask u.tasks ≤ u.tasks.length * 3 := sumN_bd _ _ _ (fun t ht => ((h.tasks u hu).2 t ht).1)
    show u.tasks.length + sumN wTask u.tasks ≤ 4000
    omega)
  have h4 := h.room
  have h5 := h.units
  show C.room.length + (C.units.length + sumN wUnit C.units) ≤ 100000
  omega
/-- what other rows' marks leave of a cluster -/
theorem DCl.touch {w w' : World} {base : Nat} {v : Value} {C : ClusD} {L : List Nat} (h : DCl w base v C) (hT : Touch L w w') (hL : ∀ b ∈ L, b < base) : DCl w' base v C := by
  obtain ⟨rv, uv, us, h1, h2, h3, h4, h5, h6⟩ := h
  have hk : ∀ k, base ≤ k → k < w.heap.size → w'.heap[k]? = w.heap[k]? := fun k hb hk => hT.block k hk (fun hm => by have := hL k hm; omega)
  exact ⟨rv, uv, us, h1, Own.farI h2 (fun k hb => hk k (Own.lt h2 k hb).1 (Own.lt h2 k hb).2), ODU.far h3 (fun k hb => hk k (Own.lt h3 k hb).1 (Own.lt h3 k hb).2) (fun k hb => hk k (ODU.tlt h3 k hb).1 (ODU.tlt h3 k hb).2) (fun k hb => hk k (ODU.ilt h3 k hb).1 (ODU.ilt h3 k hb).2), h4, h5, h6⟩
/-- a cluster that bears marks from k on -/
def HeldC (w : World) (v : Value) (C : ClusD) (k : Int) : Prop := ∃ rv uv us, v = .agg #[rv, uv] ∧ RI w rv (marks k C.room.length) ∧ RU w uv ((markU (k + (C.room.length : Int)) us).map UnitW.d) ∧ cntU us = wUnits C.units
theorem HeldC.ext {w w' : World} {v : Value} {C : ClusD} {k : Int} (h : HeldC w v C k) (ha : Ext w w') : HeldC w' v C k :=
  let ⟨rv, uv, us, h1, h2, h3, h4⟩ := h; ⟨rv, uv, us, h1, h2.ext ha, h3.ext ha, h4⟩
theorem Own.typed {α : Type} {e : TypeId} {size : Nat} {E : Enc α} {w : World} {base : Nat} {v : Value} {xs : List α} (h : Own e size E w base v xs) {b : Nat} (hb : v.ownBlock = some b) : ∃ cur, w.heap[b]? = some (.cells cur e (0, 0)) := by
  obtain ⟨cells, ho, _⟩ := h
  rcases ho.2 with ⟨rfl, _⟩ | ⟨g, cap, cur, rfl, _, hg, _⟩
  · simp [Value.ownBlock] at hb
  · simp [Value.ownBlock] at hb
    subst hb
    exact ⟨cur, hg⟩
theorem Own.notClus {α : Type} {e : TypeId} {size : Nat} {E : Enc α} {w : World} {base : Nat} {v : Value} {xs : List α} (h : Own e size E w base v xs) {b : Nat} (hb : v.ownBlock = some b) (he : e ≠ 26) : ∀ cur fr, w.heap[b]? ≠ some (.cells cur 26 fr) := by
  obtain ⟨c, hc⟩ := h.typed hb
  intro cur fr hh
  rw [hc] at hh
  injection hh with hh
  injection hh with _ h2 _
  exact he h2
theorem Touch.clus {L : List Nat} {w w' : World} (hT : Touch L w w') (hL : ∀ b ∈ L, ∀ cur fr, w.heap[b]? ≠ some (.cells cur 26 fr)) {k : Nat} {cur : Array Value} {fr : Nat × Nat} (hk : w.heap[k]? = some (.cells cur 26 fr)) : w'.heap[k]? = some (.cells cur 26 fr) :=
  (hT.block k (obj_lt hk) (fun hm => hL k hm _ _ hk)).trans hk
theorem lMarkClusterD (v : Value) (C : ClusD) (k : Int) (w0 w : World) (base : Nat) (h : DCl w0 base v C) (hE : Ext w0 w) (hl : wClus C ≤ 4000000) (hk0 : 0 ≤ k) (hk1 : k ≤ 10000000) :
    Calls Try.prog 22 #[v, .int .i64 k] w fun e w' => ∃ L, e = .returned (.int .i64 (k + (wClus C : Int))) ∧ HeldC w' v C k ∧ (∀ b ∈ L, base ≤ b ∧ b < w0.heap.size) ∧ (∀ b ∈ L, ∀ cur fr, w.heap[b]? ≠ some (.cells cur 26 fr)) ∧ Touch L w w' := by
  obtain ⟨rv, uv, us, rfl, h1, h2, h3, h4, h5⟩ := h
  have hu : cntU us = wUnits C.units := by rw [cntU_wt, h3]
  have hw : wClus C = C.room.length + wUnits C.units := rfl
  have k1 := Own.ext EI.ok h1 hE
  have k2 := Own.ext (EDU.ok _) h2 hE
  refine (lMarkCluster rv uv C.room us k w base k1 k2 h4 h5 (by omega) (by omega) hk0 hk1).mono ?_
  rintro e w' ⟨rfl, ho1, ho2, hT⟩
  refine ⟨_, ret_i (by omega), ⟨rv, uv, us, rfl, ho1.read, ho2.read, hu⟩, fun b hb => ?_, fun b hb => ?_, hT⟩
  · rcases List.mem_append.1 hb with hb | hb
    · exact Own.lt h1 b (by simpa using hb)
    · rcases List.mem_append.1 hb with hb | hb
      · exact Own.lt h2 b (by simpa using hb)
      · rcases List.mem_append.1 hb with hb | hb
        · exact ODU.tlt h2 b hb
        · exact ODU.ilt h2 b hb
  · rcases List.mem_append.1 hb with hb | hb
    · exact k1.notClus (by simpa using hb) (by decide)
    · rcases List.mem_append.1 hb with hb | hb
      · exact k2.notClus (by simpa using hb) (by decide)
      · rcases List.mem_append.1 hb with hb | hb
        · obtain ⟨u, hu, hb⟩ := List.mem_filterMap.1 hb
          exact (ODU.tasks k2 hu).notClus hb (by decide)
        · obtain ⟨u, hu, hb⟩ := List.mem_flatMap.1 hb
          obtain ⟨p, hp, hb⟩ := List.mem_filterMap.1 hb
          exact (ODT.need (ODU.tasks k2 hu) hp).notClus hb (by decide)
end Go.Proofs.Ytcfpilkhjpegcaa
