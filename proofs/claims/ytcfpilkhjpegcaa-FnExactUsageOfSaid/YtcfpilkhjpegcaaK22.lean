/- Clusters all of whose rows are the call's own; marks. -/
import Derived.Test.YtcfpilkhjpegcaaK7
import Derived.Test.YtcfpilkhjpegcaaK21
namespace Go.Proofs.Ytcfpilkhjpegcaa
open Go.RowKit
set_option maxRecDepth 4000

/-- blocks of this list alone have turned -/
structure Touch (L : List Nat) (w w' : World) : Prop where
  os : w'.os = w.os
  tape : w'.tape = w.tape
  output : w'.output = w.output
  size : w.heap.size ≤ w'.heap.size
  block : ∀ k, k < w.heap.size → k ∉ L → w'.heap[k]? = w.heap[k]?
theorem Touch.refl (L : List Nat) (w : World) : Touch L w w := ⟨rfl, rfl, rfl, Nat.le_refl _, fun _ _ _ => rfl⟩
theorem Touch.trans {L : List Nat} {a b c : World} (h : Touch L a b) (k : Touch L b c) : Touch L a c :=
  ⟨k.os.trans h.os, k.tape.trans h.tape, k.output.trans h.output, Nat.le_trans h.size k.size, fun i hi hn => (k.block i (Nat.lt_of_lt_of_le hi h.size) hn).trans (h.block i hi hn)⟩
theorem Touch.mono {L L' : List Nat} {a b : World} (h : Touch L a b) (hl : ∀ k ∈ L, k ∈ L') : Touch L' a b := ⟨h.os, h.tape, h.output, h.size, fun k hk hn => h.block k hk fun hc => hn (hl k hc)⟩
theorem Touch.ext {a b : World} (h : Ext a b) (L : List Nat) : Touch L a b := ⟨h.os, h.tape, h.output, h.size, fun k hk _ => h.block k hk⟩
theorem Touch.setCell {L : List Nat} {a w : World} (h : Touch L a w) {p : Addr} (hp : p.block ∈ L) (u : Value) : Touch L a (w.setCell p u) :=
  h.trans ⟨rfl, rfl, rfl, by simp [World.setCell], fun k _ hk => Below.heap_setCell _ _ _ _ (fun e => hk (by rw [e]; exact hp))⟩
theorem Touch.below {L : List Nat} {a b : World} (h : Touch L a b) {H : Nat} (hl : ∀ k ∈ L, H ≤ k) (hs : H ≤ a.heap.size) : Below H a b :=
  ⟨h.os, h.tape, h.output, h.size, fun k hk => h.block k (by omega) fun hc => by have := hl k hc; omega⟩

/-- a row that lies where it lay, its elements told anew -/
theorem Own.far2 {α β : Type} {e : TypeId} {size : Nat} {E : Enc α} {E' : Enc β} {w w' : World} {base : Nat} {v : Value} {xs : List α} {ys : List β} (h : Own e size E w base v xs) (hl : ys.length = xs.length) (hb : ∀ k, v.ownBlock = some k → w'.heap[k]? = w.heap[k]?)
    (hE : ∀ (j : Nat) cs x y, xs[j]? = some x → ys[j]? = some y → E w cs x → E' w' cs y) : Own e size E' w' base v ys := by
  obtain ⟨cells, ho, hc⟩ := h
  refine ⟨cells, ⟨by rw [hl]; exact ho.1, ?_⟩, by rw [hl]; exact hc.1, fun j y hy => ?_⟩
  · rw [hl]
    rcases ho.2 with h0 | ⟨g, cap, cur, hv, hg, hh, r⟩
    · exact .inl h0
    · exact .inr ⟨g, cap, cur, hv, hg, (hb g (by rw [hv]; rfl)).trans hh, r⟩
  · have hj : j < xs.length := by rw [← hl]; exact (List.getElem?_eq_some_iff.1 hy).1
    obtain ⟨cs, hcs, he, hu⟩ := hc.2 j xs[j] (List.getElem?_eq_getElem hj)
    exact ⟨cs, hcs, hE j cs _ y (List.getElem?_eq_getElem hj) hy he, hu⟩
theorem Own.farI {w w' : World} {base : Nat} {v : Value} {xs : List Int} (h : OI w base v xs) (hb : ∀ k, v.ownBlock = some k → w'.heap[k]? = w.heap[k]?) : OI w' base v xs := Own.far h hb (fun _ _ _ he => he)

/-- a task whose need is a row of the call's own -/
def EDT (base : Nat) : Enc (TaskD × Value) := fun w cs p => cs = [.int .i64 p.1.id, p.2] ∧ OI w base p.2 p.1.need
theorem EDT.ok (base : Nat) : (EDT base).Ok (fun t => t = 3) := fun _ _ _ _ ⟨h, hr⟩ ha => ⟨h, hr.same EI.ok (ha.mono fun t ht => by rcases ht with ht | ht; exact ht; exact ht.elim)⟩
theorem EDT.flat (base : Nat) : (EDT base).Flat := fun _ _ _ ⟨h, hr⟩ u hu => by
  obtain ⟨A, c, hv, _⟩ := hr.form
  rw [h] at hu; simp at hu; rcases hu with rfl | rfl
  · rfl
  · rw [hv]; rfl
theorem EDT.ne : ∀ t, (fun t => t = 3) t → t ≠ 80 := ET.ne
abbrev ODT (w : World) (base : Nat) (v : Value) (qs : List (TaskD × Value)) : Prop := Own 80 2 (EDT base) w base v qs
theorem ODT.read {w : World} {base : Nat} {v : Value} {qs : List (TaskD × Value)} (h : ODT w base v qs) : RT w v (qs.map (·.1)) := (Own.read h).map fun _ p ⟨h1, h2⟩ => ⟨p.2, h1, h2.read⟩
theorem ODT.own {w : World} {base : Nat} {v : Value} {qs : List (TaskD × Value)} (h : ODT w base v qs) : OT w base v (qs.map (·.1)) :=
  Own.far2 h (by simp) (fun _ _ => rfl) (fun j cs x y hx hy he => by
    rw [List.getElem?_map, hx] at hy
    injection hy with hy
    subst hy
    exact ⟨x.2, he.1, he.2.read⟩)
theorem ODT.low {w : World} {base base' : Nat} {v : Value} {qs : List (TaskD × Value)} (h : ODT w base v qs) (hb : base' ≤ base) : ODT w base' v qs :=
  Own.low (base' := base') (Own.far2 (E' := EDT base') h rfl (fun _ _ => rfl) (fun j cs x y hx hy he => by
    rw [hx] at hy
    injection hy with hy
    subst hy
    exact ⟨he.1, he.2.low hb⟩)) hb
def needBs (qs : List (TaskD × Value)) : List Nat := qs.filterMap fun p => p.2.ownBlock
theorem ODT.need {w : World} {base : Nat} {v : Value} {qs : List (TaskD × Value)} (h : ODT w base v qs) {p : TaskD × Value} (hp : p ∈ qs) : OI w base p.2 p.1.need := by
  obtain ⟨cells, _, hc⟩ := h
  obtain ⟨k, hk⟩ := List.getElem?_of_mem hp
  obtain ⟨cs, _, he, _⟩ := hc.2 k p hk
  exact he.2
theorem ODT.lt {w : World} {base : Nat} {v : Value} {qs : List (TaskD × Value)} (h : ODT w base v qs) : ∀ g ∈ needBs qs, base ≤ g ∧ g < w.heap.size := by
  intro g hg
  obtain ⟨p, hp, hb⟩ := List.mem_filterMap.1 hg
  exact (h.need hp).lt g hb
/-- the row and its needs' rows lie where they lay -/
theorem ODT.far {w w' : World} {base : Nat} {v : Value} {qs : List (TaskD × Value)} (h : ODT w base v qs) (hb : ∀ k, v.ownBlock = some k → w'.heap[k]? = w.heap[k]?) (hg : ∀ g ∈ needBs qs, w'.heap[g]? = w.heap[g]?) : ODT w' base v qs :=
  Own.far h hb (fun _ p hp ⟨he, ht⟩ => ⟨he, Own.farI ht (fun k hk => hg k (List.mem_filterMap.2 ⟨p, hp, hk⟩))⟩)

/-- a node of a cluster, with the values of its rows -/
structure UnitW where
  opened : Bool
  tv : Value
  qs : List (TaskD × Value)
def UnitW.d (u : UnitW) : UnitD := ⟨u.opened, u.qs.map (·.1)⟩
def EDU (base : Nat) : Enc UnitW := fun w cs u => cs = [.bool u.opened, u.tv] ∧ ODT w base u.tv u.qs
theorem EDU.ok (base : Nat) : (EDU base).Ok (fun t => t = 80 ∨ t = 3) := fun _ _ _ _ ⟨h, hr⟩ ha => ⟨h, hr.same (EDT.ok base) ha⟩
theorem EDU.flat (base : Nat) : (EDU base).Flat := fun _ _ _ ⟨h, hr⟩ u hu => by
  obtain ⟨A, c, hv, _⟩ := hr.form
  rw [h] at hu; simp at hu; rcases hu with rfl | rfl
  · rfl
  · rw [hv]; rfl
theorem EDU.ne : ∀ t, (fun t => t = 80 ∨ t = 3) t → t ≠ 44 := EU.ne
abbrev ODU (w : World) (base : Nat) (v : Value) (us : List UnitW) : Prop := Own 44 2 (EDU base) w base v us
theorem ODU.read {w : World} {base : Nat} {v : Value} {us : List UnitW} (h : ODU w base v us) : RU w v (us.map UnitW.d) := (Own.read h).map fun _ p ⟨h1, h2⟩ => ⟨p.tv, h1, h2.read⟩
theorem ODU.low {w : World} {base base' : Nat} {v : Value} {us : List UnitW} (h : ODU w base v us) (hb : base' ≤ base) : ODU w base' v us :=
  Own.low (base' := base') (Own.far2 (E' := EDU base') h rfl (fun _ _ => rfl) (fun j cs x y hx hy he => by
    rw [hx] at hy
    injection hy with hy
    subst hy
    exact ⟨he.1, ODT.low he.2 hb⟩)) hb
theorem ODU.tasks {w : World} {base : Nat} {v : Value} {us : List UnitW} (h : ODU w base v us) {u : UnitW} (hu : u ∈ us) : ODT w base u.tv u.qs := by
  obtain ⟨cells, _, hc⟩ := h
  obtain ⟨k, hk⟩ := List.getElem?_of_mem hu
  obtain ⟨cs, _, he, _⟩ := hc.2 k u hk
  exact he.2
def taskBs (us : List UnitW) : List Nat := us.filterMap fun u => u.tv.ownBlock
def intBs (us : List UnitW) : List Nat := us.flatMap fun u => needBs u.qs
/-- a cluster all of whose rows are the call's own, and lie apart -/
def DCl (w : World) (base : Nat) (cv : Value) (C : ClusD) : Prop := ∃ rv uv us, cv = .agg #[rv, uv] ∧ OI w base rv C.room ∧ ODU w base uv us ∧ us.map UnitW.d = C.units ∧ (taskBs us).Nodup ∧ (rv.ownBlock.toList ++ intBs us).Nodup
theorem DCl.read {w : World} {base : Nat} {cv : Value} {C : ClusD} (h : DCl w base cv C) : ClusV w cv C := by
  obtain ⟨rv, uv, us, h1, h2, h3, h4, _⟩ := h
  exact ⟨rv, uv, h1, h2.read, by rw [← h4]; exact h3.read⟩
theorem DCl.ext {w w' : World} {base : Nat} {cv : Value} {C : ClusD} (h : DCl w base cv C) (ha : Ext w w') : DCl w' base cv C :=
  let ⟨rv, uv, us, h1, h2, h3, h4, h5, h6⟩ := h; ⟨rv, uv, us, h1, h2.ext EI.ok ha, h3.ext (EDU.ok base) ha, h4, h5, h6⟩
theorem DCl.low {w : World} {base base' : Nat} {cv : Value} {C : ClusD} (h : DCl w base cv C) (hb : base' ≤ base) : DCl w base' cv C :=
  let ⟨rv, uv, us, h1, h2, h3, h4, h5, h6⟩ := h; ⟨rv, uv, us, h1, Own.low h2 hb, ODU.low h3 hb, h4, h5, h6⟩
theorem DCl.same {w w' : World} {base : Nat} {cv : Value} {C : ClusD} (h : DCl w base cv C) (hs : SameT (fun t => t = 44 ∨ t = 80 ∨ t = 3) w w') : DCl w' base cv C :=
  let ⟨rv, uv, us, h1, h2, h3, h4, h5, h6⟩ := h; ⟨rv, uv, us, h1, Own.same EI.ok h2 (hs.mono (fun t ht => by rcases ht with ht | ht; exact .inr (.inr ht); exact ht.elim)), Own.same (EDU.ok base) h3 hs, h4, h5, h6⟩
theorem DCl.form {w : World} {base : Nat} {cv : Value} {C : ClusD} (h : DCl w base cv C) : ∃ A c A2 c2, cv = .agg #[.slice A C.room.length c, .slice A2 C.units.length c2] := by
  obtain ⟨rv, uv, us, h1, h2, h3, h4, _⟩ := h
  obtain ⟨A, c, rfl, _⟩ := h2.form
  obtain ⟨A2, c2, rfl, _, _⟩ := h3.form
  exact ⟨A, c, A2, c2, by rw [h1, ← h4, List.length_map]⟩
theorem DCl.zero (w : World) (base : Nat) : DCl w base (.agg #[.slice none 0 0, .slice none 0 0]) ⟨[], []⟩ :=
  ⟨_, _, [], rfl, Own.none_ _ _ _ _ _, Own.none_ _ _ _ _ _, rfl, by simp [taskBs], by simp [intBs, Value.ownBlock]⟩
/-- no more than that the rows are of one's own -/
theorem ODU.own {w : World} {base : Nat} {v : Value} {us : List UnitW} (h : ODU w base v us) : OUV w base v (us.map fun u => (u.d, u.tv)) :=
  Own.far2 h (by simp) (fun _ _ => rfl) (fun j cs x y hx hy he => by
    rw [List.getElem?_map, hx] at hy
    injection hy with hy
    subst hy
    exact ⟨he.1, ODT.own he.2⟩)
theorem DCl.own {w : World} {base : Nat} {cv : Value} {C : ClusD} (h : DCl w base cv C) : OCl w base cv C := by
  obtain ⟨rv, uv, us, h1, h2, h3, h4, h5, _⟩ := h
  refine ⟨rv, uv, _, h1, h2.read, h3.own, by rw [← h4, List.map_map]; rfl, ?_⟩
  have : blocksOf (us.map fun u => (u.d, u.tv)) = taskBs us := by
    unfold blocksOf taskBs
    rw [List.filterMap_map]
    rfl
  rw [this]
  exact h5

/-- n numbers from k on -/
def marks (k : Int) (n : Nat) : List Int := (List.range n).map fun (i : Nat) => k + (i : Int)
theorem marks_len (k : Int) (n : Nat) : (marks k n).length = n := by simp [marks]
theorem marks_at {k : Int} {n i : Nat} (hi : i < n) : (marks k n)[i]? = some (k + (i : Int)) := by
  unfold marks
  rw [List.getElem?_map, List.getElem?_range hi]
  rfl
theorem marks_succ (k : Int) (n : Nat) : marks k (n + 1) = marks k n ++ [k + (n : Int)] := by
  unfold marks
  rw [List.range_succ, List.map_append]
  rfl
def cntQ (qs : List (TaskD × Value)) : Nat := (qs.map fun q => 1 + q.1.need.length).sum
/-- tasks that bear marks from k on -/
def markQ : Int → List (TaskD × Value) → List (TaskD × Value)
  | _, [] => []
  | k, q :: qs => (⟨k, marks (k + 1) q.1.need.length⟩, q.2) :: markQ (k + 1 + (q.1.need.length : Int)) qs
theorem cntQ_cons (q : TaskD × Value) (qs : List (TaskD × Value)) : cntQ (q :: qs) = 1 + q.1.need.length + cntQ qs := by simp [cntQ]
theorem cntQ_app (a b : List (TaskD × Value)) : cntQ (a ++ b) = cntQ a + cntQ b := by simp [cntQ]
theorem markQ_len : ∀ (k : Int) (qs : List (TaskD × Value)), (markQ k qs).length = qs.length
  | _, [] => rfl
  | k, q :: qs => by simp [markQ, markQ_len _ qs]
theorem markQ_app : ∀ (k : Int) (a b : List (TaskD × Value)), markQ k (a ++ b) = markQ k a ++ markQ (k + (cntQ a : Int)) b
  | k, [], b => by simp [markQ, cntQ]
  | k, q :: a, b => by
    show _ :: markQ _ (a ++ b) = _
    rw [markQ_app _ a b, cntQ_cons]
    have : k + 1 + (q.1.need.length : Int) + (cntQ a : Int) = k + ((1 + q.1.need.length + cntQ a : Nat) : Int) := by omega
    rw [this]
    rfl
theorem markQ_bs : ∀ (k : Int) (qs : List (TaskD × Value)), needBs (markQ k qs) = needBs qs
  | _, [] => rfl
  | k, q :: qs => by
    have ih := markQ_bs (k + 1 + (q.1.need.length : Int)) qs
    unfold needBs at ih ⊢
    show List.filterMap _ (_ :: markQ _ qs) = _
    rw [List.filterMap_cons, List.filterMap_cons, ih]
def cntU (us : List UnitW) : Nat := (us.map fun u => 1 + cntQ u.qs).sum
def markU : Int → List UnitW → List UnitW
  | _, [] => []
  | k, u :: us => ⟨k % 3 == 0, u.tv, markQ (k + 1) u.qs⟩ :: markU (k + 1 + (cntQ u.qs : Int)) us
theorem cntU_cons (u : UnitW) (us : List UnitW) : cntU (u :: us) = 1 + cntQ u.qs + cntU us := by simp [cntU]
theorem cntU_app (a b : List UnitW) : cntU (a ++ b) = cntU a + cntU b := by simp [cntU]
theorem markU_len : ∀ (k : Int) (us : List UnitW), (markU k us).length = us.length
  | _, [] => rfl
  | k, u :: us => by simp [markU, markU_len _ us]
theorem markU_app : ∀ (k : Int) (a b : List UnitW), markU k (a ++ b) = markU k a ++ markU (k + (cntU a : Int)) b
  | k, [], b => by simp [markU, cntU]
  | k, u :: a, b => by
    show _ :: markU _ (a ++ b) = _
    rw [markU_app _ a b, cntU_cons]
    have : k + 1 + (cntQ u.qs : Int) + (cntU a : Int) = k + ((1 + cntQ u.qs + cntU a : Nat) : Int) := by omega
    rw [this]
    rfl
theorem markU_tbs : ∀ (k : Int) (us : List UnitW), taskBs (markU k us) = taskBs us
  | _, [] => rfl
  | k, u :: us => by
    have ih := markU_tbs (k + 1 + (cntQ u.qs : Int)) us
    unfold taskBs at ih ⊢
    show List.filterMap _ (_ :: markU _ us) = _
    rw [List.filterMap_cons, List.filterMap_cons, ih]
theorem markU_ibs : ∀ (k : Int) (us : List UnitW), intBs (markU k us) = intBs us
  | _, [] => rfl
  | k, u :: us => by
    have ih := markU_ibs (k + 1 + (cntQ u.qs : Int)) us
    unfold intBs at ih ⊢
    show List.flatMap _ (_ :: markU _ us) = _
    rw [List.flatMap_cons, List.flatMap_cons, ih, markQ_bs]

end Go.Proofs.Ytcfpilkhjpegcaa

/- The laws' marks on ints. -/
namespace Go.Proofs.Ytcfpilkhjpegcaa
open Go.RowKit
set_option maxRecDepth 4000

theorem mark_step {k : Int} {xs : List Int} {j : Nat} (hj : j < xs.length) : (marks k j ++ xs.drop j).set j (k + (j : Int)) = marks k (j + 1) ++ xs.drop (j + 1) := by
  rw [List.set_append_right _ _ (by rw [marks_len]; exact Nat.le_refl _), marks_len, Nat.sub_self, List.drop_eq_getElem_cons hj, List.set_cons_zero, marks_succ, List.append_assoc]
  rfl
theorem mark_at {k : Int} {xs : List Int} {j : Nat} (hj : j < xs.length) : (marks k j ++ xs.drop j)[j]? = some xs[j] := by
  rw [List.getElem?_append_right (by rw [marks_len]; exact Nat.le_refl _), marks_len, Nat.sub_self, List.drop_eq_getElem_cons hj]
  rfl
set_option maxHeartbeats 1000000 in
theorem lMarkInts (A : Option Addr) (n c c' : Nat) (xs : List Int) (k : Int) (w : World) (base : Nat) (h : OI w base (.slice A n c) xs) (hl : n ≤ 4000000) (hk0 : 0 ≤ k) (hk1 : k ≤ 1000000000) :
    Calls Try.prog 23 #[.slice A n c', .int .i64 k] w fun e w' => e = .returned (.int .i64 (k + (n : Int))) ∧ OI w' base (.slice A n c) (marks k n) ∧ Touch (Value.slice A n c).ownBlock.toList w w' := by
  have hn : n = xs.length := by
    obtain ⟨A', c1, hv, _⟩ := h.form
    injection hv
  by_cases h0 : 0 < n
  · obtain ⟨g, c1, hv, _⟩ := Own.row h (by omega)
    injection hv with e1 _ e3
    subst e1 e3
    have HX := hid hn
    have HO0 := hid h
    clear h hn
    go_enter Try.func23, Try.ntmps23
    go_wp2
    go_loopw [1, 5] (fun s i wr => ∃ j : Nat, j ≤ n ∧ i = .int .i64 j ∧ s = .int .i64 (k + (j : Int)) ∧ Hid (OI wr base (.slice (some ⟨g, 0, none⟩) n c) (marks k j ++ xs.drop j) ∧ Touch [g] w wr)) (fun _ i _ => n - (intOf i).toNat)
    case atStart => exact ⟨0, Nat.zero_le _, rfl, by simp, hid ⟨HO0.out, Touch.refl _ _⟩⟩
    case round =>
      obtain ⟨j, hj, rfl, rfl, H⟩ := hrel
      have HO := hid H.out.1
      have HT := hid H.out.2
      clear H
      by_cases hjl : j < n
      · have ij : (j : Int) < (n : Int) := by omega
        have i0 : (0 : Int) ≤ (j : Int) := by omega
        have hjx : j < xs.length := by rw [← HX.out]; exact hjl
        have HJX := hid hjx
        obtain ⟨y, hy⟩ : ∃ y, (marks k j ++ xs.drop j)[j]? = some y := ⟨_, mark_at hjx⟩
        obtain ⟨c0, f0, _⟩ := OI.at_ HO.out hy
        clear hjx hy
        go_wp2
        go_roundw
        case rel =>
          have hs := (OI.set HO.out (j := j) (by rw [List.length_append, marks_len, List.length_drop]; have := HJX.out; omega) (k + (j : Int))).1
          rw [mark_step HJX.out] at hs
          exact ⟨j + 1, by omega, by go_num, by go_num, hid ⟨hs, HT.out.setCell (p := ⟨g, j, none⟩) (by simp) _⟩⟩
        case measure => simp [intOf]; omega
      · go_wp2
        go_ret
        have hj' : j = n := by omega
        subst hj'
        have hd : xs.drop j = [] := List.drop_eq_nil_of_le (by rw [← HX.out]; exact Nat.le_refl _)
        have ho := HO.out
        rw [hd, List.append_nil] at ho
        exact ⟨rfl, ho, HT.out⟩
  · have hz : n = 0 := by omega
    subst hz
    have hx : xs = [] := List.eq_nil_of_length_eq_zero hn.symm
    subst hx
    have HO0 := hid h
    clear h hn
    go_enter Try.func23, Try.ntmps23
    go_wp2
    go_loopw [1, 5] (fun s i wr => i = .int .i64 0 ∧ s = .int .i64 k ∧ wr = w) (fun _ _ _ => 0)
    case atStart => exact ⟨rfl, rfl, rfl⟩
    case round =>
      obtain ⟨rfl, rfl, rfl⟩ := hrel
      go_wp2
      go_ret
      exact ⟨by simp, HO0.out, Touch.refl _ _⟩

theorem lHeldInts (v : Value) (n : Nat) (k : Int) (w : World) (h : RI w v (marks k n)) (hl : n ≤ 4000000) (hk0 : 0 ≤ k) (hk1 : k ≤ 1000000000) :
    Calls Try.prog 24 #[v, .int .i64 k] w (RetN w (k + (n : Int))) := by
  obtain ⟨A, c, rfl, hc, hc', hg⟩ := h.get
  rw [marks_len] at hc hg ⊢
  clear h
  go_enter Try.func24, Try.ntmps24
  go_wp2
  go_loopw [1, 5] (fun s i wr => ∃ j : Nat, j ≤ n ∧ i = .int .i64 j ∧ s = .int .i64 (k + (j : Int)) ∧ Ext w wr) (fun _ i _ => n - (intOf i).toNat)
  case atStart => exact ⟨0, Nat.zero_le _, rfl, by simp, Ext.refl _⟩
  case round =>
    obtain ⟨j, hj, rfl, rfl, hE⟩ := hrel
    by_cases hjl : j < n
    · obtain ⟨b, o, x, rfl, e, c1⟩ := hg j hjl
      have hx : x = k + (j : Int) := by
        have h1 := e.out
        rw [marks_at hjl] at h1
        injection h1 with h1
        exact h1.symm
      subst hx
      have ij : (j : Int) < (n : Int) := by omega
      have c1r := hE.cell c1
      have hne : ((k + (j : Int)) != (k + (j : Int))) = false := by simp
      clear c1
      go_wp2
      go_roundw
      case rel => exact ⟨j + 1, by omega, by go_num, by go_num, hE⟩
      case measure => simp [intOf]; omega
    · go_wp2
      go_ret
      have hj' : j = n := by omega
      subst hj'
      exact ⟨rfl, hE⟩

end Go.Proofs.Ytcfpilkhjpegcaa

/- The laws' marks on tasks. -/
namespace Go.Proofs.Ytcfpilkhjpegcaa
open Go.RowKit
set_option maxRecDepth 4000

theorem Own.at_ {α : Type} {e : TypeId} {size : Nat} {E : Enc α} {w : World} {base g n c : Nat} {xs : List α} (h : Own e size E w base (.slice (some ⟨g, 0, none⟩) n c) xs) {j : Nat} {x : α} (hj : xs[j]? = some x) : ∃ cs : List Value, cs.length = size ∧ E w cs x ∧ ∀ i u, cs[i]? = some u → w.cell? ⟨g, j * size + i, none⟩ = some u := by
  obtain ⟨A', c', hv, _, _, hg⟩ := RSl.get_ h.read
  injection hv with e1 e2 e3
  obtain ⟨b, o, y, cs, hA, hy, hl, he, hc⟩ := hg j (List.getElem?_eq_some_iff.1 hj).1
  rw [hj] at hy
  injection hy with hy
  subst hy
  rw [← e1] at hA
  injection hA with hA
  injection hA with e4 e5 _
  subst e4 e5
  exact ⟨cs, hl, he, fun i u hu => by have := hc i u hu; rwa [Nat.zero_add] at this⟩
theorem ODT.at_ {w : World} {base g n c : Nat} {qs : List (TaskD × Value)} (h : ODT w base (.slice (some ⟨g, 0, none⟩) n c) qs) {j : Nat} {q : TaskD × Value} (hj : qs[j]? = some q) :
    w.cell? ⟨g, j * 2, none⟩ = some (.int .i64 q.1.id) ∧ w.cell? ⟨g, j * 2 + 1, none⟩ = some q.2 ∧ w.frozen? ⟨g, j * 2, none⟩ = false ∧ w.frozen? ⟨g, j * 2 + 1, none⟩ = false ∧ OI w base q.2 q.1.need := by
  obtain ⟨cs, _, ⟨he, hn⟩, hc⟩ := Own.at_ h hj
  subst he
  exact ⟨by simpa using hc 0 _ rfl, hc 1 _ rfl, h.frozen_ _, h.frozen_ _, hn⟩
theorem ODT.setId {w : World} {base g n c : Nat} {qs : List (TaskD × Value)} (h : ODT w base (.slice (some ⟨g, 0, none⟩) n c) qs) {j : Nat} {q : TaskD × Value} (hj : qs[j]? = some q) (k : Int) :
    ODT (w.setCell ⟨g, j * 2, none⟩ (.int .i64 k)) base (.slice (some ⟨g, 0, none⟩) n c) (qs.set j (⟨k, q.1.need⟩, q.2)) := by
  have := (Own.set (EDT.ok base) EDT.ne h hj (i := 0) (u := .int .i64 k) (x' := (⟨k, q.1.need⟩, q.2)) (by omega) (fun w' hw cs hl ⟨he, ht⟩ => ⟨by rw [he]; rfl, ht.same EI.ok (hw.mono (fun t ht => by rcases ht with ht | ht; exact ht; exact ht.elim))⟩)).1
  simpa using this
theorem needs_apart {ps : List (TaskD × Value)} (h : (needBs ps).Nodup) {i k : Nat} {p q : TaskD × Value} (hi : ps[i]? = some p) (hk : ps[k]? = some q) (hik : i ≠ k) {a : Nat} (ha : p.2.ownBlock = some a) : q.2.ownBlock ≠ some a := by
  intro hb
  unfold needBs at h
  rw [List.nodup_iff_pairwise_ne, List.pairwise_filterMap, List.pairwise_iff_getElem] at h
  obtain ⟨li, ei⟩ := List.getElem?_eq_some_iff.1 hi
  obtain ⟨lk, ek⟩ := List.getElem?_eq_some_iff.1 hk
  rcases Nat.lt_or_gt_of_ne hik with hlt | hlt
  · exact h i k li lk hlt a (by rw [ei]; exact ha) a (by rw [ek]; exact hb) rfl
  · exact h k i lk li hlt a (by rw [ek]; exact hb) a (by rw [ei]; exact ha) rfl
theorem needBs_set {ps : List (TaskD × Value)} {j : Nat} {q : TaskD × Value} (hj : ps[j]? = some q) (x : TaskD) : needBs (ps.set j (x, q.2)) = needBs ps := by
  unfold needBs
  induction ps generalizing j with
  | nil => rfl
  | cons p ps ih =>
    cases j with
    | zero =>
      have hj : p = q := by simpa using hj
      rw [List.set_cons_zero, List.filterMap_cons, List.filterMap_cons, hj]
    | succ j =>
      rw [List.set_cons_succ, List.filterMap_cons, List.filterMap_cons, ih (by simpa using hj)]
theorem Own.form_eq {α : Type} {e : TypeId} {size : Nat} {E : Enc α} {w : World} {base : Nat} {A : Option Addr} {n c : Nat} {xs : List α} (h : Own e size E w base (.slice A n c) xs) : n = xs.length := by
  obtain ⟨A', c1, hv, _⟩ := h.form
  injection hv
/-- a need's row has been marked: the row of tasks behind it -/
theorem ODT.marked {w w' : World} {base g n c : Nat} {qs : List (TaskD × Value)} (h : ODT w base (.slice (some ⟨g, 0, none⟩) n c) qs) (hnd : (needBs qs).Nodup) {j : Nat} {q : TaskD × Value} (hj : qs[j]? = some q) {ys : List Int} (hO : OI w' base q.2 ys) (hT : Touch q.2.ownBlock.toList w w') :
    ODT w' base (.slice (some ⟨g, 0, none⟩) n c) (qs.set j (⟨q.1.id, ys⟩, q.2)) := by
  have hq := (ODT.at_ h hj).2.2.2.2
  refine Own.far2 h (by simp) (fun k hk => hT.block k (Own.lt h k hk).2 (fun hm => ?_)) (fun i cs x y hx hy he => ?_)
  · have hm : q.2.ownBlock = some k := by simpa using hm
    exact Own.block_ne (by decide) h hq hk hm
  · by_cases hij : j = i
    · subst hij
      rw [hj] at hx
      injection hx with hx
      subst hx
      rw [List.getElem?_set_self (List.getElem?_eq_some_iff.1 hj).1] at hy
      injection hy with hy
      subst hy
      exact ⟨he.1, hO⟩
    · rw [List.getElem?_set_ne hij, hx] at hy
      injection hy with hy
      subst hy
      refine ⟨he.1, Own.farI he.2 (fun k hk => hT.block k (Own.lt he.2 k hk).2 (fun hm => ?_))⟩
      have hm : q.2.ownBlock = some k := by simpa using hm
      exact needs_apart hnd hj hx hij hm hk
theorem cntQ_take_le (qs : List (TaskD × Value)) (k : Nat) : cntQ (qs.take k) ≤ cntQ qs := by
  have := cntQ_app (qs.take k) (qs.drop k)
  rw [List.take_append_drop] at this
  omega
theorem cntQ_take_succ {qs : List (TaskD × Value)} {k : Nat} {q : TaskD × Value} (h : qs[k]? = some q) : cntQ (qs.take (k + 1)) = cntQ (qs.take k) + (1 + q.1.need.length) := by
  rw [take_snoc h, cntQ_app]
  simp [cntQ]
/-- some are marked -/
def someQ (k : Int) (qs : List (TaskD × Value)) (j : Nat) : List (TaskD × Value) := markQ k (qs.take j) ++ qs.drop j
theorem someQ_at {k : Int} {qs : List (TaskD × Value)} {j : Nat} {q : TaskD × Value} (h : qs[j]? = some q) : (someQ k qs j)[j]? = some q := by
  have hl : (markQ k (qs.take j)).length = j := by
    rw [markQ_len, List.length_take]
    have := (List.getElem?_eq_some_iff.1 h).1
    omega
  unfold someQ
  rw [List.getElem?_append_right (by omega), hl, Nat.sub_self, List.getElem?_drop]
  simpa using h
theorem someQ_bs (k : Int) (qs : List (TaskD × Value)) (j : Nat) : needBs (someQ k qs j) = needBs qs := by
  have e : ∀ a b : List (TaskD × Value), needBs (a ++ b) = needBs a ++ needBs b := fun a b => by unfold needBs; rw [List.filterMap_append]
  unfold someQ
  rw [e, markQ_bs, ← e, List.take_append_drop]
theorem someQ_step {k : Int} {qs : List (TaskD × Value)} {j : Nat} {q : TaskD × Value} (h : qs[j]? = some q) {kk : Int} (hk : kk = k + (cntQ (qs.take j) : Int)) : (someQ k qs j).set j (⟨kk, marks (kk + 1) q.1.need.length⟩, q.2) = someQ k qs (j + 1) := by
  have hj := (List.getElem?_eq_some_iff.1 h).1
  have hq := (List.getElem?_eq_some_iff.1 h).2
  have hl : (markQ k (qs.take j)).length = j := by
    rw [markQ_len, List.length_take]
    omega
  unfold someQ
  rw [List.set_append_right _ _ (by omega), hl, Nat.sub_self, List.drop_eq_getElem_cons hj, List.set_cons_zero, take_snoc h, markQ_app, ← hk, List.append_assoc]
  rfl

set_option maxHeartbeats 2000000 in
theorem lMarkTasks (A : Option Addr) (n c : Nat) (qs : List (TaskD × Value)) (k : Int) (w : World) (base : Nat) (h : ODT w base (.slice A n c) qs) (hnd : (needBs qs).Nodup) (hl : cntQ qs ≤ 4000000) (hk0 : 0 ≤ k) (hk1 : k ≤ 500000000) :
    Calls Try.prog 79 #[.slice A n c, .int .i64 k] w fun e w' => e = .returned (.int .i64 (k + (cntQ qs : Int))) ∧ ODT w' base (.slice A n c) (markQ k qs) ∧ Touch ((Value.slice A n c).ownBlock.toList ++ needBs qs) w w' := by
  have hn := Own.form_eq h
  by_cases h0 : 0 < n
  · obtain ⟨g, c1, hv, _⟩ := Own.row h (by omega)
    injection hv with e1 e2 e3
    subst e1 e3
    clear e2
    have HX := hid hn
    have HO0 := hid h
    have HND := hid hnd
    have hnb : n ≤ 9223372036854775807 := by have := h.form; obtain ⟨A', c', hv, h1, h2⟩ := this; omega
    have HCT : Hid (∀ j, cntQ (qs.take j) ≤ 4000000) := hid fun j => Nat.le_trans (cntQ_take_le qs j) hl
    clear h hn hnd
    go_enter Try.func79, Try.ntmps79
    go_wp2
    go_loopw [1, 5] (fun s i wr => ∃ (j : Nat) (kk : Int), j ≤ n ∧ i = .int .i64 j ∧ s = .int .i64 kk ∧ Hid (kk = k + (cntQ (qs.take j) : Int)) ∧ 0 ≤ kk ∧ kk ≤ 600000000 ∧ Hid (ODT wr base (.slice (some ⟨g, 0, none⟩) n c) (someQ k qs j) ∧ Touch (g :: needBs qs) w wr)) (fun _ i _ => n - (intOf i).toNat)
    case atStart => exact ⟨0, k, Nat.zero_le _, rfl, rfl, hid (by simp [cntQ]), hk0, by omega, hid ⟨by unfold someQ; simpa [markQ] using HO0.out, Touch.refl _ _⟩⟩
    case round =>
      obtain ⟨j, kk, hj, rfl, rfl, hkk, hkk0, hkk1, H⟩ := hrel
      have HO := hid H.out.1
      have HT := hid H.out.2
      clear H
      by_cases hjl : j < n
      · have ij : (j : Int) < (n : Int) := by omega
        have i0 : (0 : Int) ≤ (j : Int) := by omega
        obtain ⟨q, hq⟩ : ∃ q, qs[j]? = some q := ⟨_, List.getElem?_eq_getElem (by rw [← HX.out]; exact hjl)⟩
        have HQ := hid hq
        have HQS := hid (someQ_at (k := k) hq)
        obtain ⟨c0, c1', f0, _, hneed⟩ := ODT.at_ HO.out HQS.out
        have hS := ODT.setId HO.out HQS.out kk
        have hset : ((someQ k qs j).set j (⟨kk, q.1.need⟩, q.2))[j]? = some (⟨kk, q.1.need⟩, q.2) := List.getElem?_set_self (List.getElem?_eq_some_iff.1 HQS.out).1
        have HSET := hid hset
        obtain ⟨_, d1, _, _, hneed1⟩ := ODT.at_ hS hset
        obtain ⟨t, nv⟩ := q
        obtain ⟨An, cn, hnv, _⟩ := hneed.form
        have hnv : nv = .slice An t.need.length cn := hnv
        subst hnv
        have HS := hid hS
        have HN1 := hid hneed1
        have hctx := HCT.out (j + 1)
        rw [cntQ_take_succ HQ.out] at hctx
        have hctx : cntQ (qs.take j) + (1 + t.need.length) ≤ 4000000 := hctx
        have HCX := hid hctx
        have HTL := hid (show t.need.length ≤ 4000000 by omega)
        clear hq hS hset hneed hneed1 hctx
        have d1' : (wr.setCell ⟨g, j * 2, none⟩ (.int .i64 kk)).cell? ⟨g, j * 2 + 1, none⟩ = some (.slice An t.need.length cn) := d1
        clear d1
        go_wp2_with (go_at_call 23; refine (lMarkInts An t.need.length cn cn t.need (kk + 1) _ base HN1.out HTL.out (by omega) (by omega)).mono ?_; rintro e w2 ⟨rfl, hO2, hT2⟩; have HO2 := hid hO2; have HT2 := hid hT2; clear hO2 hT2)
        go_roundw
        case rel =>
          have hm := ODT.marked HS.out (by rw [needBs_set HQS.out, someQ_bs]; exact HND.out) HSET.out HO2.out HT2.out
          rw [List.set_set] at hm
          have hst := someQ_step HQ.out hkk.out
          refine ⟨j + 1, kk + 1 + (t.need.length : Int), by omega, by go_num, by go_num, hid (by rw [cntQ_take_succ HQ.out, hkk.out]; show _ = k + ((cntQ (qs.take j) + (1 + t.need.length) : Nat) : Int); omega), by omega, ?_, hid ⟨by rw [← hst]; exact hm, ?_⟩⟩
          · have h1 := HCX.out
            have h2 := hkk.out
            omega
          · refine Touch.trans (HT.out.setCell (p := ⟨g, j * 2, none⟩) (by simp) _) (HT2.out.mono (fun a ha => ?_))
            have ha : (Value.slice An t.need.length cn).ownBlock = some a := by simpa using ha
            exact List.mem_cons_of_mem _ (List.mem_filterMap.2 ⟨_, List.mem_of_getElem? HQ.out, ha⟩)
        case measure => simp [intOf]; omega
      · go_wp2
        go_ret
        have hj' : j = qs.length := by rw [← HX.out]; omega
        have hs : someQ k qs j = markQ k qs := by unfold someQ; rw [hj', List.take_length, List.drop_length, List.append_nil]
        have ho := HO.out
        rw [hs] at ho
        exact ⟨ret_i (by rw [hkk.out, hj', List.take_length]), ho, HT.out⟩
  · have hz : n = 0 := by omega
    subst hz
    have hx : qs = [] := List.eq_nil_of_length_eq_zero hn.symm
    subst hx
    have HO0 := hid h
    clear h hn hnd
    go_enter Try.func79, Try.ntmps79
    go_wp2
    go_loopw [1, 5] (fun s i wr => i = .int .i64 0 ∧ s = .int .i64 k ∧ wr = w) (fun _ _ _ => 0)
    case atStart => exact ⟨rfl, rfl, rfl⟩
    case round =>
      obtain ⟨rfl, rfl, rfl⟩ := hrel
      go_wp2
      go_ret
      exact ⟨by simp [cntQ], HO0.out, Touch.refl _ _⟩

end Go.Proofs.Ytcfpilkhjpegcaa

/- The laws' marks on nodes and clusters. -/
namespace Go.Proofs.Ytcfpilkhjpegcaa
open Go.RowKit
set_option maxRecDepth 4000

theorem ODU.at_ {w : World} {base g n c : Nat} {us : List UnitW} (h : ODU w base (.slice (some ⟨g, 0, none⟩) n c) us) {j : Nat} {u : UnitW} (hj : us[j]? = some u) :
    w.cell? ⟨g, j * 2, none⟩ = some (.bool u.opened) ∧ w.cell? ⟨g, j * 2 + 1, none⟩ = some u.tv ∧ w.frozen? ⟨g, j * 2, none⟩ = false ∧ w.frozen? ⟨g, j * 2 + 1, none⟩ = false ∧ ODT w base u.tv u.qs := by
  obtain ⟨cs, _, ⟨he, hn⟩, hc⟩ := Own.at_ h hj
  subst he
  exact ⟨by simpa using hc 0 _ rfl, hc 1 _ rfl, h.frozen_ _, h.frozen_ _, hn⟩
theorem ODU.setOpen {w : World} {base g n c : Nat} {us : List UnitW} (h : ODU w base (.slice (some ⟨g, 0, none⟩) n c) us) {j : Nat} {u : UnitW} (hj : us[j]? = some u) (b : Bool) :
    ODU (w.setCell ⟨g, j * 2, none⟩ (.bool b)) base (.slice (some ⟨g, 0, none⟩) n c) (us.set j ⟨b, u.tv, u.qs⟩) := by
  have := (Own.set (EDU.ok base) EDU.ne h hj (i := 0) (u := .bool b) (x' := ⟨b, u.tv, u.qs⟩) (by omega) (fun w' hw cs hl ⟨he, ht⟩ => ⟨by rw [he]; rfl, ht.same (EDT.ok base) (hw.mono (fun _ ht => ht))⟩)).1
  simpa using this
theorem tasks_apart {us : List UnitW} (h : (taskBs us).Nodup) {i k : Nat} {p q : UnitW} (hi : us[i]? = some p) (hk : us[k]? = some q) (hik : i ≠ k) {a : Nat} (ha : p.tv.ownBlock = some a) : q.tv.ownBlock ≠ some a := by
  intro hb
  unfold taskBs at h
  rw [List.nodup_iff_pairwise_ne, List.pairwise_filterMap, List.pairwise_iff_getElem] at h
  obtain ⟨li, ei⟩ := List.getElem?_eq_some_iff.1 hi
  obtain ⟨lk, ek⟩ := List.getElem?_eq_some_iff.1 hk
  rcases Nat.lt_or_gt_of_ne hik with hlt | hlt
  · exact h i k li lk hlt a (by rw [ei]; exact ha) a (by rw [ek]; exact hb) rfl
  · exact h k i lk li hlt a (by rw [ek]; exact hb) a (by rw [ei]; exact ha) rfl
theorem ints_apart {us : List UnitW} (h : (intBs us).Nodup) {i k : Nat} {p q : UnitW} (hi : us[i]? = some p) (hk : us[k]? = some q) (hik : i ≠ k) {a : Nat} (ha : a ∈ needBs p.qs) : a ∉ needBs q.qs := by
  intro hb
  unfold intBs at h
  rw [List.nodup_iff_pairwise_ne, List.pairwise_flatMap] at h
  have h := List.pairwise_iff_getElem.1 h.2
  obtain ⟨li, ei⟩ := List.getElem?_eq_some_iff.1 hi
  obtain ⟨lk, ek⟩ := List.getElem?_eq_some_iff.1 hk
  rcases Nat.lt_or_gt_of_ne hik with hlt | hlt
  · exact h i k li lk hlt a (by rw [ei]; exact ha) a (by rw [ek]; exact hb) rfl
  · exact h k i lk li hlt a (by rw [ek]; exact hb) a (by rw [ei]; exact ha) rfl
theorem ints_each {us : List UnitW} (h : (intBs us).Nodup) {u : UnitW} (hu : u ∈ us) : (needBs u.qs).Nodup := by
  unfold intBs at h
  rw [List.nodup_iff_pairwise_ne, List.pairwise_flatMap] at h
  exact List.nodup_iff_pairwise_ne.2 (h.1 u hu)
theorem taskBs_set {us : List UnitW} {j : Nat} {u : UnitW} (hj : us[j]? = some u) (b : Bool) (qs : List (TaskD × Value)) : taskBs (us.set j ⟨b, u.tv, qs⟩) = taskBs us := by
  unfold taskBs
  induction us generalizing j with
  | nil => rfl
  | cons p us ih =>
    cases j with
    | zero =>
      have hj : p = u := by simpa using hj
      rw [List.set_cons_zero, List.filterMap_cons, List.filterMap_cons, hj]
    | succ j =>
      rw [List.set_cons_succ, List.filterMap_cons, List.filterMap_cons, ih (by simpa using hj)]
theorem intBs_set {us : List UnitW} {j : Nat} {u : UnitW} (hj : us[j]? = some u) (b : Bool) (qs : List (TaskD × Value)) (hq : needBs qs = needBs u.qs) : intBs (us.set j ⟨b, u.tv, qs⟩) = intBs us := by
  unfold intBs
  induction us generalizing j with
  | nil => rfl
  | cons p us ih =>
    cases j with
    | zero =>
      have hj : p = u := by simpa using hj
      rw [List.set_cons_zero, List.flatMap_cons, List.flatMap_cons, hj, hq]
    | succ j =>
      rw [List.set_cons_succ, List.flatMap_cons, List.flatMap_cons, ih (by simpa using hj)]
/-- a node's tasks have been marked: the row of nodes behind it -/
theorem ODU.marked {w w' : World} {base g n c : Nat} {us : List UnitW} (h : ODU w base (.slice (some ⟨g, 0, none⟩) n c) us) (ht : (taskBs us).Nodup) (hi : (intBs us).Nodup) {j : Nat} {u : UnitW} (hj : us[j]? = some u) {qs : List (TaskD × Value)} (hO : ODT w' base u.tv qs) (hT : Touch (u.tv.ownBlock.toList ++ needBs u.qs) w w') :
    ODU w' base (.slice (some ⟨g, 0, none⟩) n c) (us.set j ⟨u.opened, u.tv, qs⟩) := by
  have hq := (ODU.at_ h hj).2.2.2.2
  refine Own.far2 h (by simp) (fun k hk => hT.block k (Own.lt h k hk).2 (fun hm => ?_)) (fun i cs x y hx hy he => ?_)
  · rcases List.mem_append.1 hm with hm | hm
    · exact Own.block_ne (by decide) h hq hk (by simpa using hm)
    · obtain ⟨p, hp, hb⟩ := List.mem_filterMap.1 hm
      exact Own.block_ne (by decide) h (ODT.need hq hp) hk hb
  · by_cases hij : j = i
    · subst hij
      rw [hj] at hx
      injection hx with hx
      subst hx
      rw [List.getElem?_set_self (List.getElem?_eq_some_iff.1 hj).1] at hy
      injection hy with hy
      subst hy
      exact ⟨he.1, hO⟩
    · rw [List.getElem?_set_ne hij, hx] at hy
      injection hy with hy
      subst hy
      refine ⟨he.1, ODT.far he.2 (fun k hk => hT.block k (Own.lt he.2 k hk).2 (fun hm => ?_)) (fun k hk => hT.block k (ODT.lt he.2 k hk).2 (fun hm => ?_))⟩
      · rcases List.mem_append.1 hm with hm | hm
        · exact tasks_apart ht hj hx hij (by simpa using hm) hk
        · obtain ⟨p, hp, hb⟩ := List.mem_filterMap.1 hm
          exact Own.block_ne (by decide) he.2 (ODT.need hq hp) hk hb
      · rcases List.mem_append.1 hm with hm | hm
        · obtain ⟨p, hp, hb⟩ := List.mem_filterMap.1 hk
          exact Own.block_ne (by decide) hq (ODT.need he.2 hp) (by simpa using hm) hb
        · exact ints_apart hi hj hx hij hm hk
theorem cntU_take_le (us : List UnitW) (k : Nat) : cntU (us.take k) ≤ cntU us := by
  have := cntU_app (us.take k) (us.drop k)
  rw [List.take_append_drop] at this
  omega
theorem cntU_take_succ {us : List UnitW} {k : Nat} {u : UnitW} (h : us[k]? = some u) : cntU (us.take (k + 1)) = cntU (us.take k) + (1 + cntQ u.qs) := by
  rw [take_snoc h, cntU_app]
  simp [cntU]
def someU (k : Int) (us : List UnitW) (j : Nat) : List UnitW := markU k (us.take j) ++ us.drop j
theorem someU_at {k : Int} {us : List UnitW} {j : Nat} {u : UnitW} (h : us[j]? = some u) : (someU k us j)[j]? = some u := by
  have hl : (markU k (us.take j)).length = j := by
    rw [markU_len, List.length_take]
    have := (List.getElem?_eq_some_iff.1 h).1
    omega
  unfold someU
  rw [List.getElem?_append_right (by omega), hl, Nat.sub_self, List.getElem?_drop]
  simpa using h
theorem someU_tbs (k : Int) (us : List UnitW) (j : Nat) : taskBs (someU k us j) = taskBs us := by
  have e : ∀ a b : List UnitW, taskBs (a ++ b) = taskBs a ++ taskBs b := fun a b => by unfold taskBs; rw [List.filterMap_append]
  unfold someU
  rw [e, markU_tbs, ← e, List.take_append_drop]
theorem someU_ibs (k : Int) (us : List UnitW) (j : Nat) : intBs (someU k us j) = intBs us := by
  have e : ∀ a b : List UnitW, intBs (a ++ b) = intBs a ++ intBs b := fun a b => by unfold intBs; rw [List.flatMap_append]
  unfold someU
  rw [e, markU_ibs, ← e, List.take_append_drop]
theorem someU_step {k : Int} {us : List UnitW} {j : Nat} {u : UnitW} (h : us[j]? = some u) {kk : Int} (hk : kk = k + (cntU (us.take j) : Int)) : (someU k us j).set j ⟨kk % 3 == 0, u.tv, markQ (kk + 1) u.qs⟩ = someU k us (j + 1) := by
  have hj := (List.getElem?_eq_some_iff.1 h).1
  have hl : (markU k (us.take j)).length = j := by
    rw [markU_len, List.length_take]
    omega
  have hu := (List.getElem?_eq_some_iff.1 h).2
  unfold someU
  rw [List.set_append_right _ _ (by omega), hl, Nat.sub_self, List.drop_eq_getElem_cons hj, List.set_cons_zero, take_snoc h, markU_app, ← hk, List.append_assoc]
  rfl

set_option maxHeartbeats 2000000 in
theorem lMarkUnits (A : Option Addr) (n c : Nat) (us : List UnitW) (k : Int) (w : World) (base : Nat) (h : ODU w base (.slice A n c) us) (ht : (taskBs us).Nodup) (hi : (intBs us).Nodup) (hl : cntU us ≤ 4000000) (hk0 : 0 ≤ k) (hk1 : k ≤ 100000000) :
    Calls Try.prog 50 #[.slice A n c, .int .i64 k] w fun e w' => e = .returned (.int .i64 (k + (cntU us : Int))) ∧ ODU w' base (.slice A n c) (markU k us) ∧ Touch ((Value.slice A n c).ownBlock.toList ++ (taskBs us ++ intBs us)) w w' := by
  have hn := Own.form_eq h
  by_cases h0 : 0 < n
  · obtain ⟨g, c1, hv, _⟩ := Own.row h (by omega)
    injection hv with e1 e2 e3
    subst e1 e3
    clear e2
    have HX := hid hn
    have HO0 := hid h
    have HTN := hid ht
    have HIN := hid hi
    have hnb : n ≤ 9223372036854775807 := by have := h.form; obtain ⟨A', c', hv, h1, h2⟩ := this; omega
    have HCT : Hid (∀ j, cntU (us.take j) ≤ 4000000) := hid fun j => Nat.le_trans (cntU_take_le us j) hl
    clear h hn ht hi
    go_enter Try.func50, Try.ntmps50
    go_wp2
    go_loopw [1, 5] (fun s i wr => ∃ (j : Nat) (kk : Int), j ≤ n ∧ i = .int .i64 j ∧ s = .int .i64 kk ∧ Hid (kk = k + (cntU (us.take j) : Int)) ∧ 0 ≤ kk ∧ kk ≤ 200000000 ∧ Hid (ODU wr base (.slice (some ⟨g, 0, none⟩) n c) (someU k us j) ∧ Touch (g :: (taskBs us ++ intBs us)) w wr)) (fun _ i _ => n - (intOf i).toNat)
    case atStart => exact ⟨0, k, Nat.zero_le _, rfl, rfl, hid (by simp [cntU]), hk0, by omega, hid ⟨by unfold someU; simpa [markU] using HO0.out, Touch.refl _ _⟩⟩
    case round =>
      obtain ⟨j, kk, hj, rfl, rfl, hkk, hkk0, hkk1, H⟩ := hrel
      have HO := hid H.out.1
      have HT := hid H.out.2
      clear H
      by_cases hjl : j < n
      · have ij : (j : Int) < (n : Int) := by omega
        have i0 : (0 : Int) ≤ (j : Int) := by omega
        obtain ⟨u, hq⟩ : ∃ u, us[j]? = some u := ⟨_, List.getElem?_eq_getElem (by rw [← HX.out]; exact hjl)⟩
        have HQ := hid hq
        have HQS := hid (someU_at (k := k) hq)
        obtain ⟨r, t1, t2⟩ : ∃ r, kk.tmod 3 = r ∧ kk % 3 = r := ⟨kk % 3, Int.tmod_eq_emod_of_nonneg hkk0, rfl⟩
        obtain ⟨c0, c1', f0, _, hneed⟩ := ODU.at_ HO.out HQS.out
        have hS := ODU.setOpen HO.out HQS.out (r == 0)
        have hset : ((someU k us j).set j ⟨r == 0, u.tv, u.qs⟩)[j]? = some ⟨r == 0, u.tv, u.qs⟩ := List.getElem?_set_self (List.getElem?_eq_some_iff.1 HQS.out).1
        have HSET := hid hset
        obtain ⟨_, d1, _, _, hneed1⟩ := ODU.at_ hS hset
        obtain ⟨op, tv, qs⟩ := u
        obtain ⟨An, cn, hnv, _⟩ := hneed.form
        have hnv : tv = .slice An qs.length cn := hnv
        subst hnv
        have HS := hid hS
        have HN1 := hid hneed1
        have hctx := HCT.out (j + 1)
        rw [cntU_take_succ HQ.out] at hctx
        have HCX : Hid (cntU (us.take j) + (1 + cntQ qs) ≤ 4000000) := hid hctx
        have HTL : Hid (cntQ qs ≤ 4000000) := hid (by have := HCX.out; omega)
        have HND : Hid ((needBs qs).Nodup) := hid (ints_each HIN.out (List.mem_of_getElem? HQ.out))
        have HR2 := hid t2
        clear hq hS hset hneed hneed1 hctx hnv
        have d1' : (wr.setCell ⟨g, j * 2, none⟩ (.bool (r == 0))).cell? ⟨g, j * 2 + 1, none⟩ = some (.slice An qs.length cn) := d1
        clear d1
        go_wp2_with (go_at_call 79; refine (lMarkTasks An qs.length cn qs (kk + 1) _ base HN1.out HND.out HTL.out (by omega) (by omega)).mono ?_; rintro e w2 ⟨rfl, hO2, hT2⟩; have HO2 := hid hO2; have HT2 := hid hT2; clear hO2 hT2)
        go_roundw
        case rel =>
          have hm := ODU.marked HS.out (by rw [taskBs_set HQS.out, someU_tbs]; exact HTN.out) (by rw [intBs_set HQS.out _ _ rfl, someU_ibs]; exact HIN.out) HSET.out HO2.out HT2.out
          rw [List.set_set] at hm
          have hst := someU_step HQ.out hkk.out
          rw [HR2.out] at hst
          refine ⟨j + 1, kk + 1 + (cntQ qs : Int), by omega, by go_num, by go_num, hid (by rw [cntU_take_succ HQ.out, hkk.out]; show _ = k + ((cntU (us.take j) + (1 + cntQ qs) : Nat) : Int); omega), by omega, ?_, hid ⟨by rw [← hst]; exact hm, ?_⟩⟩
          · have h1 := HCX.out
            have h2 := hkk.out
            omega
          · refine Touch.trans (HT.out.setCell (p := ⟨g, j * 2, none⟩) (by simp) _) (HT2.out.mono (fun a ha => ?_))
            refine List.mem_cons_of_mem _ (List.mem_append.2 ?_)
            rcases List.mem_append.1 ha with ha | ha
            · exact .inl (List.mem_filterMap.2 ⟨_, List.mem_of_getElem? HQ.out, by simpa using ha⟩)
            · exact .inr (List.mem_flatMap.2 ⟨_, List.mem_of_getElem? HQ.out, ha⟩)
        case measure => simp [intOf]; omega
      · go_wp2
        go_ret
        have hj' : j = us.length := by rw [← HX.out]; omega
        have hs : someU k us j = markU k us := by unfold someU; rw [hj', List.take_length, List.drop_length, List.append_nil]
        have ho := HO.out
        rw [hs] at ho
        exact ⟨ret_i (by rw [hkk.out, hj', List.take_length]), ho, HT.out⟩
  · have hz : n = 0 := by omega
    subst hz
    have hx : us = [] := List.eq_nil_of_length_eq_zero hn.symm
    subst hx
    have HO0 := hid h
    clear h hn ht hi
    go_enter Try.func50, Try.ntmps50
    go_wp2
    go_loopw [1, 5] (fun s i wr => i = .int .i64 0 ∧ s = .int .i64 k ∧ wr = w) (fun _ _ _ => 0)
    case atStart => exact ⟨rfl, rfl, rfl⟩
    case round =>
      obtain ⟨rfl, rfl, rfl⟩ := hrel
      go_wp2
      go_ret
      exact ⟨by simp [cntU], HO0.out, Touch.refl _ _⟩

end Go.Proofs.Ytcfpilkhjpegcaa

/- The laws' marks on a cluster; marks that are held. -/
namespace Go.Proofs.Ytcfpilkhjpegcaa
open Go.RowKit
set_option maxRecDepth 4000

theorem ODU.far {w w' : World} {base : Nat} {v : Value} {us : List UnitW} (h : ODU w base v us) (hb : ∀ k, v.ownBlock = some k → w'.heap[k]? = w.heap[k]?) (hg : ∀ g ∈ taskBs us, w'.heap[g]? = w.heap[g]?) (hi : ∀ g ∈ intBs us, w'.heap[g]? = w.heap[g]?) : ODU w' base v us :=
  Own.far h hb (fun _ u hu ⟨he, ht⟩ => ⟨he, ODT.far ht (fun k hk => hg k (List.mem_filterMap.2 ⟨u, hu, hk⟩)) (fun g hm => hi g (List.mem_flatMap.2 ⟨u, hu, hm⟩))⟩)
theorem ODU.tlt {w : World} {base : Nat} {v : Value} {us : List UnitW} (h : ODU w base v us) : ∀ g ∈ taskBs us, base ≤ g ∧ g < w.heap.size := by
  intro g hg
  obtain ⟨u, hu, hb⟩ := List.mem_filterMap.1 hg
  exact Own.lt (h.tasks hu) g hb
theorem ODU.ilt {w : World} {base : Nat} {v : Value} {us : List UnitW} (h : ODU w base v us) : ∀ g ∈ intBs us, base ≤ g ∧ g < w.heap.size := by
  intro g hg
  obtain ⟨u, hu, hb⟩ := List.mem_flatMap.1 hg
  exact ODT.lt (h.tasks hu) g hb
/-- the room's row lies apart from all of the nodes' rows -/
theorem room_apart {w : World} {base : Nat} {rv uv : Value} {xs : List Int} {us : List UnitW} (h1 : OI w base rv xs) (h2 : ODU w base uv us) (h4 : (rv.ownBlock.toList ++ intBs us).Nodup) {k : Nat} (hk : rv.ownBlock = some k) : uv.ownBlock ≠ some k ∧ k ∉ taskBs us ∧ k ∉ intBs us := by
  refine ⟨Own.block_ne (by decide) h1 h2 hk, fun hm => ?_, fun hm => ?_⟩
  · obtain ⟨u, hu, hb⟩ := List.mem_filterMap.1 hm
    exact Own.block_ne (by decide) h1 (h2.tasks hu) hk hb
  · obtain ⟨_, _, n3⟩ := List.nodup_append.1 h4
    exact n3 k (by rw [hk]; simp) k hm rfl

set_option maxHeartbeats 2000000 in
theorem lMarkCluster (rv uv : Value) (xs : List Int) (us : List UnitW) (k : Int) (w : World) (base : Nat) (h1 : OI w base rv xs) (h2 : ODU w base uv us) (h3 : (taskBs us).Nodup) (h4 : (rv.ownBlock.toList ++ intBs us).Nodup) (hl : xs.length ≤ 4000000) (hlu : cntU us ≤ 4000000) (hk0 : 0 ≤ k) (hk1 : k ≤ 10000000) :
    Calls Try.prog 22 #[.agg #[rv, uv], .int .i64 k] w fun e w' => e = .returned (.int .i64 (k + (xs.length : Int) + (cntU us : Int))) ∧ OI w' base rv (marks k xs.length) ∧ ODU w' base uv (markU (k + (xs.length : Int)) us) ∧ Touch (rv.ownBlock.toList ++ (uv.ownBlock.toList ++ (taskBs us ++ intBs us))) w w' := by
  obtain ⟨Ar, cr, rfl, _⟩ := h1.form
  obtain ⟨Au, cu, rfl, _⟩ := h2.form
  obtain ⟨W, hW⟩ : ∃ W, W = w.alloc (.cells #[.slice Ar xs.length cr, .slice Au us.length cu] 26) := ⟨_, rfl⟩
  have hEW : Ext w W := by rw [hW]; exact Ext.alloc _ _
  have hx : W.heap[w.heap.size]? = some (.cells #[.slice Ar xs.length cr, .slice Au us.length cu] 26 (0, 0)) := by rw [hW]; exact heap_alloc_new _ _
  have c0 := obj_cell hx (i := 0) rfl
  have c1 := obj_cell hx (i := 1) rfl
  have H1 := hid (h1.ext EI.ok hEW)
  have H2 := hid (h2.ext (EDU.ok base) hEW)
  have H3 := hid h3
  have H4 := hid h4
  have HX := hid hx
  have HEW := hid hEW
  have HRL : Hid (∀ a, (Value.slice Ar xs.length cr).ownBlock = some a → a < w.heap.size) := hid fun a ha => (Own.lt h1 a ha).2
  have hIN : (intBs us).Nodup := (List.nodup_append.1 h4).2.1
  have HIN := hid hIN
  have HA := hid (fun (k : Nat) (hk : (Value.slice Ar xs.length cr).ownBlock = some k) => room_apart h1 h2 h4 hk)
  clear h1 h2 h3 h4 hEW hx hIN
  go_enter Try.func22, Try.ntmps22
  go_wp2_with (first
    | (go_at_call 23; rw [← hW]; refine (lMarkInts Ar xs.length cr cr xs k _ base H1.out hl hk0 (by omega)).mono ?_; rintro e w1 ⟨rfl, hO1, hT1⟩; have hx1 := (hT1.block w.heap.size (obj_lt HX.out) (fun hm => absurd (HRL.out _ (by simpa using hm)) (Nat.lt_irrefl _))).trans HX.out; have c0 := obj_cell hx1 (i := 0) rfl; have c1 := obj_cell hx1 (i := 1) rfl; have HO1 := hid hO1; have HT1 := hid hT1; have H21 : Hid (ODU w1 base (.slice Au us.length cu) us) := hid (ODU.far H2.out (fun a ha => hT1.block a (Own.lt H2.out a ha).2 (fun hm => (HA.out a (by simpa using hm)).1 ha)) (fun a ha => hT1.block a (ODU.tlt H2.out a ha).2 (fun hm => (HA.out a (by simpa using hm)).2.1 ha)) (fun a ha => hT1.block a (ODU.ilt H2.out a ha).2 (fun hm => (HA.out a (by simpa using hm)).2.2 ha))); clear hO1 hT1 hx1 hW)
    | (go_at_call 50; refine (lMarkUnits Au us.length cu us (k + (xs.length : Int)) _ base H21.out H3.out HIN.out hlu (by omega) (by omega)).mono ?_; rintro e w2 ⟨rfl, hO2, hT2⟩; have HO2 := hid hO2; have HT2 := hid hT2; clear hO2 hT2))
  go_ret
  refine ⟨rfl, Own.farI HO1.out (fun a ha => HT2.out.block a (Own.lt HO1.out a ha).2 (fun hm => ?_)), HO2.out, ?_⟩
  · obtain ⟨a1, a2, a3⟩ := HA.out a ha
    rcases List.mem_append.1 hm with hm | hm
    · exact a1 (by simpa using hm)
    · rcases List.mem_append.1 hm with hm | hm
      · exact a2 hm
      · exact a3 hm
  · exact ((Touch.ext HEW.out _).trans (HT1.out.mono (fun a ha => List.mem_append_left _ ha))).trans (HT2.out.mono (fun a ha => List.mem_append_right _ ha))

theorem markQ_at {k : Int} {qs : List (TaskD × Value)} {j : Nat} {q : TaskD × Value} (h : qs[j]? = some q) : (markQ k qs)[j]? = some (⟨k + (cntQ (qs.take j) : Int), marks (k + (cntQ (qs.take j) : Int) + 1) q.1.need.length⟩, q.2) := by
  have hj := (List.getElem?_eq_some_iff.1 h).1
  have hl : (markQ k (qs.take j)).length = j := by
    rw [markQ_len, List.length_take]
    omega
  have e : qs = qs.take j ++ q :: qs.drop (j + 1) := by
    have h2 := (List.getElem?_eq_some_iff.1 h).2
    rw [← h2, ← List.drop_eq_getElem_cons hj, List.take_append_drop]
  have : markQ k qs = markQ k (qs.take j) ++ markQ (k + (cntQ (qs.take j) : Int)) (q :: qs.drop (j + 1)) := by rw [← markQ_app, ← e]
  rw [this, List.getElem?_append_right (by omega), hl, Nat.sub_self]
  rfl
end Go.Proofs.Ytcfpilkhjpegcaa

/- Marks that are held on nodes and clusters. -/
namespace Go.Proofs.Ytcfpilkhjpegcaa
open Go.RowKit
set_option maxRecDepth 4000

theorem markU_at {k : Int} {us : List UnitW} {j : Nat} {u : UnitW} (h : us[j]? = some u) : (markU k us)[j]? = some ⟨(k + (cntU (us.take j) : Int)) % 3 == 0, u.tv, markQ (k + (cntU (us.take j) : Int) + 1) u.qs⟩ := by
  have hj := (List.getElem?_eq_some_iff.1 h).1
  have hl : (markU k (us.take j)).length = j := by
    rw [markU_len, List.length_take]
    omega
  have e : us = us.take j ++ u :: us.drop (j + 1) := by
    have h2 := (List.getElem?_eq_some_iff.1 h).2
    rw [← h2, ← List.drop_eq_getElem_cons hj, List.take_append_drop]
  have : markU k us = markU k (us.take j) ++ markU (k + (cntU (us.take j) : Int)) (u :: us.drop (j + 1)) := by rw [← markU_app, ← e]
  rw [this, List.getElem?_append_right (by omega), hl, Nat.sub_self]
  rfl
end Go.Proofs.Ytcfpilkhjpegcaa

/- The laws' copies of tasks and nodes: all rows the call's own. -/
namespace Go.Proofs.Ytcfpilkhjpegcaa
open Go.RowKit
set_option maxRecDepth 4000

theorem pad2_at {α : Type} (qs : List α) (z : α) {k n : Nat} (hk : qs.length = k) (h : k < n) : (qs ++ List.replicate (n - k) z)[k]? = some z := by
  rw [List.getElem?_append_right (by omega), hk, Nat.sub_self, List.getElem?_replicate, if_pos (by omega)]
theorem pad2_set {α : Type} (qs : List α) (z x : α) {k n : Nat} (hk : qs.length = k) (h : k < n) : (qs ++ List.replicate (n - k) z).set k x = (qs ++ [x]) ++ List.replicate (n - (k + 1)) z := by
  rw [List.set_append_right _ _ (by omega), hk, Nat.sub_self, List.append_assoc]
  have : n - k = (n - (k + 1)) + 1 := by omega
  rw [this, List.replicate_succ]
  rfl
theorem ODT.set2 {w : World} {base g n c : Nat} {qs : List (TaskD × Value)} (h : ODT w base (.slice (some ⟨g, 0, none⟩) n c) qs) {j : Nat} {q : TaskD × Value} (hj : qs[j]? = some q) (y : TaskD) (v : Value) (hv : OI w base v y.need) :
    ODT ((w.setCell ⟨g, j * 2, none⟩ (.int .i64 y.id)).setCell ⟨g, j * 2 + 1, none⟩ v) base (.slice (some ⟨g, 0, none⟩) n c) (qs.set j (y, v)) := by
  have hlt : j < qs.length := (List.getElem?_eq_some_iff.1 hj).1
  obtain ⟨h1, s1⟩ := Own.set (EDT.ok base) EDT.ne h hj (i := 0) (u := .int .i64 y.id) (x' := (⟨y.id, q.1.need⟩, q.2)) (by omega) (fun w' hw cs hl ⟨he, hr⟩ => ⟨by rw [he]; rfl, Own.same EI.ok hr (hw.mono (fun t ht => by rcases ht with ht | ht; exact ht; exact ht.elim))⟩)
  obtain ⟨h2, _⟩ := Own.set (EDT.ok base) EDT.ne h1 (j := j) (i := 1) (x := (⟨y.id, q.1.need⟩, q.2)) (u := v) (x' := (y, v)) (by rw [List.getElem?_set_self hlt]) (by omega) (fun w' hw cs hl ⟨he, hr⟩ => ⟨by rw [he]; rfl, Own.same EI.ok (Own.same EI.ok hv (s1.mono (fun t ht => by rcases ht with ht | ht; rw [ht]; decide; exact ht.elim))) (hw.mono (fun t ht => by rcases ht with ht | ht; exact ht; exact ht.elim))⟩)
  rw [List.set_set] at h2
  exact h2
theorem ODU.set2 {w : World} {base g n c : Nat} {us : List UnitW} (h : ODU w base (.slice (some ⟨g, 0, none⟩) n c) us) {j : Nat} {u : UnitW} (hj : us[j]? = some u) (op : Bool) (v : Value) (qs : List (TaskD × Value)) (hv : ODT w base v qs) :
    ODU ((w.setCell ⟨g, j * 2, none⟩ (.bool op)).setCell ⟨g, j * 2 + 1, none⟩ v) base (.slice (some ⟨g, 0, none⟩) n c) (us.set j ⟨op, v, qs⟩) := by
  have hlt : j < us.length := (List.getElem?_eq_some_iff.1 hj).1
  obtain ⟨h1, s1⟩ := Own.set (EDU.ok base) EDU.ne h hj (i := 0) (u := .bool op) (x' := ⟨op, u.tv, u.qs⟩) (by omega) (fun w' hw cs hl ⟨he, hr⟩ => ⟨by rw [he]; rfl, Own.same (EDT.ok base) hr (hw.mono (fun t ht => ht))⟩)
  obtain ⟨h2, _⟩ := Own.set (EDU.ok base) EDU.ne h1 (j := j) (i := 1) (x := ⟨op, u.tv, u.qs⟩) (u := v) (x' := ⟨op, v, qs⟩) (by rw [List.getElem?_set_self hlt]) (by omega) (fun w' hw cs hl ⟨he, hr⟩ => ⟨by rw [he]; rfl, Own.same (EDT.ok base) (Own.same (EDT.ok base) hv (s1.mono (fun t ht => EDU.ne t ht))) (hw.mono (fun t ht => ht))⟩)
  rw [List.set_set] at h2
  exact h2
theorem needBs_app (a b : List (TaskD × Value)) : needBs (a ++ b) = needBs a ++ needBs b := by unfold needBs; rw [List.filterMap_append]
theorem needBs_pad (n : Nat) : needBs (List.replicate n (⟨0, []⟩, .slice none 0 0)) = [] := by
  induction n with
  | zero => rfl
  | succ n ih => rw [List.replicate_succ]; unfold needBs at *; rw [List.filterMap_cons, ih]; rfl
theorem needBs_one (p : TaskD × Value) : needBs [p] = p.2.ownBlock.toList := by
  unfold needBs
  cases h : p.2.ownBlock <;> simp [h]
theorem taskBs_app (a b : List UnitW) : taskBs (a ++ b) = taskBs a ++ taskBs b := by unfold taskBs; rw [List.filterMap_append]
theorem intBs_app (a b : List UnitW) : intBs (a ++ b) = intBs a ++ intBs b := by unfold intBs; rw [List.flatMap_append]
theorem taskBs_one (p : UnitW) : taskBs [p] = p.tv.ownBlock.toList := by
  unfold taskBs
  cases h : p.tv.ownBlock <;> simp [h]
theorem intBs_one (p : UnitW) : intBs [p] = needBs p.qs := by unfold intBs; simp
theorem taskBs_pad (n : Nat) : taskBs (List.replicate n ⟨false, .slice none 0 0, []⟩) = [] := by
  induction n with
  | zero => rfl
  | succ n ih => rw [List.replicate_succ]; unfold taskBs at *; rw [List.filterMap_cons, ih]; rfl
theorem intBs_pad (n : Nat) : intBs (List.replicate n ⟨false, .slice none 0 0, []⟩) = [] := by
  induction n with
  | zero => rfl
  | succ n ih => rw [List.replicate_succ]; unfold intBs at *; rw [List.flatMap_cons, ih]; rfl
theorem nodup_fresh {a b : List Nat} {H : Nat} (ha : a.Nodup) (hb : b.Nodup) (hl : ∀ x ∈ a, x < H) (hg : ∀ x ∈ b, H ≤ x) : (a ++ b).Nodup :=
  List.nodup_append.2 ⟨ha, hb, fun x hx y hy e => by have := hl x hx; have := hg y hy; omega⟩
theorem optList_nodup (o : Option Nat) : o.toList.Nodup := by cases o <;> simp

set_option maxHeartbeats 1000000 in
theorem lToTasksD (v : Value) (xs : List TaskD) (w : World) (h : XT w v xs) (hl : xs.length ≤ 4000000) (hn : ∀ t ∈ xs, t.need.length ≤ 4000000) :
    Calls Try.prog 112 #[v] w fun e w' => ∃ v' qs, e = .returned v' ∧ ODT w' w.heap.size v' qs ∧ qs.map (·.1) = xs ∧ (needBs qs).Nodup ∧ Ext w w' := by
  obtain ⟨A, c, rfl, hc, hc', hr⟩ := h.get
  clear h
  obtain ⟨i0_task, hi0_task, hz0_task, hz1_task, hz2_task⟩ := info_parts info_task
  go_enter Try.func112, Try.ntmps112
  go_wp2_with (at_make; refine wpList_make_full _ rfl _ _ 42 rfl w.heap.size 80 i0_task _ 2 Try.underlying42 hi0_task hz0_task hz1_task _ _ _ _ xs.length rfl rfl rfl rfl (by rw [hz2_task]; omega) (by unfold maxLen; omega) (Nat.le_refl _) ?_; intro w1 hO1 hg1; have HE1 : Hid (Ext w w1) := hid (Below.grown (Ext.refl _) hg1 (Nat.le_refl _) (fun k hk => by cases hk)); have HO1 : Hid (ODT w1 w.heap.size (.slice (some ⟨w.heap.size, 0, none⟩) xs.length xs.length) (List.replicate xs.length (⟨0, []⟩, .slice none 0 0))) := hid (Own.full (E := EDT w.heap.size) (size := 2) (z := .agg #[.int .i64 0, .slice none 0 0]) (⟨0, []⟩, .slice none 0 0) (by rfl) ⟨rfl, Own.none_ _ _ _ _ _⟩ hO1); clear hO1 hg1)
  go_loopw [4] (fun i wr => ∃ (k : Nat) (qs : List (TaskD × Value)), k ≤ xs.length ∧ i = .int .i64 k ∧ Hid (ODT wr w.heap.size (.slice (some ⟨w.heap.size, 0, none⟩) xs.length xs.length) (qs ++ List.replicate (xs.length - k) (⟨0, []⟩, .slice none 0 0)) ∧ qs.map (·.1) = xs.take k ∧ (needBs qs).Nodup) ∧ Ext w wr) (fun i _ => xs.length - (intOf i).toNat)
  case atStart => exact ⟨0, [], Nat.zero_le _, rfl, hid ⟨by simpa using HO1.out, by simp, by simp [needBs]⟩, HE1.out⟩
  case round =>
    obtain ⟨k, qs, hk, rfl, H, hE⟩ := hrel
    have HO := hid H.out.1
    have HM1 := hid H.out.2.1
    have HND := hid H.out.2.2
    have HQL : Hid (qs.length = k) := hid (by have := congrArg List.length HM1.out; rw [List.length_map, List.length_take] at this; omega)
    clear H
    by_cases hlt : k < xs.length
    · obtain ⟨b1, o1, x1, An, cn, rfl, e1, c1, c2, hn⟩ := hr k hlt
      have i1 : (k : Int) < (xs.length : Int) := by omega
      have c1r := hE.cell c1
      have c2r := hE.cell c2
      have HN := hid (XI.ext hn hE)
      have HM := hid (List.mem_of_getElem? e1.out)
      clear c1 c2 hn
      go_wp2_with (go_at_call 129; refine (lToTask x1 _ _ HN.out (hn x1 HM.out)).mono ?_; rintro e w2 ⟨v2, rfl, hO2, hE2⟩; obtain ⟨A2, c2, rfl, hf1, hf2⟩ := hO2.form; have HO2 := hid hO2; have HE2 := hid hE2; have HBL := hid (fun x hx => ((ODT.lt HO.out) x (by rw [needBs_app]; exact List.mem_append_left _ hx)).2); have HO := hid (Own.ext (EDT.ok _) HO.out hE2); obtain ⟨s0, s1, s0f, s1f, _⟩ := ODT.at_ HO.out (pad2_at qs _ HQL.out hlt); have sg : w.heap.size ≤ wr.heap.size := hE.size; clear hO2 hE2)
      go_roundw
      case rel =>
        have hs := ODT.set2 HO.out (pad2_at qs _ HQL.out hlt) x1 (.slice A2 x1.need.length c2) (Own.low HO2.out sg)
        rw [pad2_set qs _ _ HQL.out hlt] at hs
        exact ⟨k + 1, qs ++ [(x1, .slice A2 x1.need.length c2)], by omega, by go_num, hid ⟨hs, by rw [List.map_append, HM1.out, take_snoc e1.out]; rfl, by rw [needBs_app, needBs_one]; exact nodup_fresh HND.out (optList_nodup _) HBL.out (fun a ha => (Own.lt HO2.out a (by simpa using ha)).1)⟩, Below.setCell (Below.setCell (hE.trans HE2.out) (Nat.le_refl _) _) (Nat.le_refl _) _⟩
      case measure => simp [intOf]; omega
    · go_wp2
      go_ret
      have hk' : k = xs.length := by omega
      have ho := HO.out
      have hm := HM1.out
      rw [hk', Nat.sub_self, List.replicate_zero, List.append_nil] at ho
      rw [hk', List.take_length] at hm
      exact ⟨_, qs, rfl, ho, hm, HND.out, hE⟩

set_option maxHeartbeats 1000000 in
theorem lToUnitD (x : UnitD) (v : Value) (w : World) (h : XT w v x.tasks) (hl : x.tasks.length ≤ 4000000) (hn : ∀ t ∈ x.tasks, t.need.length ≤ 4000000) :
    Calls Try.prog 74 #[.agg #[.bool x.opened, v]] w fun e w' => ∃ v' qs, e = .returned (.agg #[.bool x.opened, v']) ∧ ODT w' w.heap.size v' qs ∧ qs.map (·.1) = x.tasks ∧ (needBs qs).Nodup ∧ Ext w w' := by
  have h0 := h
  obtain ⟨A, c, rfl, _⟩ := h
  have hX : Ext w (((w.alloc (.cells #[.bool x.opened, .slice A x.tasks.length c] 103)).alloc (.cells #[.bool false, .slice none 0 0] 44)).alloc (.cells #[.bool x.opened, .slice none 0 0] 44)) :=
    ((Ext.alloc _ _).trans (Ext.alloc _ _)).trans (Ext.alloc _ _)
  have g1 : (((w.alloc (.cells #[.bool x.opened, .slice A x.tasks.length c] 103)).alloc (.cells #[.bool false, .slice none 0 0] 44)).alloc (.cells #[.bool x.opened, .slice none 0 0] 44)).heap[w.heap.size]? = some (.cells #[.bool x.opened, .slice A x.tasks.length c] 103 (0, 0)) :=
    (Ext.alloc _ _).obj ((Ext.alloc _ _).obj (heap_alloc_new _ _))
  have g2 : (((w.alloc (.cells #[.bool x.opened, .slice A x.tasks.length c] 103)).alloc (.cells #[.bool false, .slice none 0 0] 44)).alloc (.cells #[.bool x.opened, .slice none 0 0] 44)).heap[w.heap.size + 1]? = some (.cells #[.bool false, .slice none 0 0] 44 (0, 0)) :=
    (Ext.alloc _ _).obj (heap_new (by simp))
  have g3 : (((w.alloc (.cells #[.bool x.opened, .slice A x.tasks.length c] 103)).alloc (.cells #[.bool false, .slice none 0 0] 44)).alloc (.cells #[.bool x.opened, .slice none 0 0] 44)).heap[w.heap.size + 1 + 1]? = some (.cells #[.bool x.opened, .slice none 0 0] 44 (0, 0)) :=
    heap_new (by simp)
  have HX := hid hX
  have G2 := hid g2
  have G3 := hid g3
  have b0 := cell_new w #[.bool x.opened, .slice A x.tasks.length c] 103 0
  simp only [List.getElem?_toArray, List.getElem?_cons_zero] at b0
  have b1 := obj_cell g1 (i := 1) rfl
  clear hX g1 g2 g3
  go_enter Try.func74, Try.ntmps74
  go_wp2_with (go_at_call 112; refine (lToTasksD _ x.tasks _ (XT.ext h0 HX.out) hl hn).mono ?_; rintro e w1 ⟨v1, qs1, rfl, hO1, hm1, hnd1, hE1⟩; obtain ⟨A1, c1, hv1, hf1, hf2⟩ := hO1.form; have hql : qs1.length = x.tasks.length := (by rw [← hm1, List.length_map]); rw [hql] at hv1 hf2; subst hv1; clear hql; have HM1 := hid hm1; have HND1 := hid hnd1; clear hm1 hnd1; have p2 := hE1.obj G2.out; have p3 := hE1.obj G3.out; have HO1 := hid (ODT.low hO1 HX.out.size); have HE1 := hid (HX.out.trans hE1); clear hO1 hE1; have q1 := obj_cell p3 (i := 1) rfl; have q1f := obj_frozen p3 1; have x3 := obj_set p3 1 (.slice A1 x.tasks.length c1); have x2 := obj_far p2 (p := ⟨w.heap.size + 1 + 1, 1, none⟩) (by show w.heap.size + 1 ≠ w.heap.size + 1 + 1; omega) (.slice A1 x.tasks.length c1); have z0 := obj_cell x3 (i := 0) rfl; have z1 := obj_cell x3 (i := 1) rfl; have y0 := obj_cell x2 (i := 0) rfl; have y1 := obj_cell x2 (i := 1) rfl; have y0f := obj_frozen x2 0; have y1f := obj_frozen x2 1; have k := obj_set x2 0 (.bool x.opened); have k1 := obj_cell k (i := 1) rfl; have k1f := obj_frozen k 1; have r := obj_set2 x2 (.bool x.opened) (.slice A1 x.tasks.length c1); have r0 := obj_cell r (i := 0) rfl; have r1 := obj_cell r (i := 1) rfl)
  have hlt := HE1.out.size
  have hE2 : Ext w (((w1.setCell ⟨w.heap.size + 1 + 1, 1, none⟩ (.slice A1 x.tasks.length c1)).setCell ⟨w.heap.size + 1, 0, none⟩ (.bool x.opened)).setCell ⟨w.heap.size + 1, 1, none⟩ (.slice A1 x.tasks.length c1)) :=
    Below.setCell (Below.setCell (Below.setCell HE1.out (by show w.heap.size ≤ w.heap.size + 1 + 1; omega) _) (by show w.heap.size ≤ w.heap.size + 1; omega) _) (by show w.heap.size ≤ w.heap.size + 1; omega) _
  have hsm := ((SameT.setCell (p := ⟨w.heap.size + 1 + 1, 1, none⟩) p3 (.slice A1 x.tasks.length c1) (T := fun t => t ≠ 44) (fun t ht => ht)).trans (SameT.setCell (p := ⟨w.heap.size + 1, 0, none⟩) x2 (.bool x.opened) (T := fun t => t ≠ 44) (fun t ht => ht))).trans (SameT.setCell (p := ⟨w.heap.size + 1, 1, none⟩) k (.slice A1 x.tasks.length c1) (T := fun t => t ≠ 44) (fun t ht => ht))
  refine bodyPost_ret (v := .agg #[.bool x.opened, .slice A1 x.tasks.length c1]) (by simp [results, Try.results74, go_sem, r0, r1]) rfl ⟨_, qs1, rfl, ?_, HM1.out, HND1.out, hE2⟩
  exact Own.same (EDT.ok _) HO1.out (hsm.mono (by rintro t (rfl | rfl) <;> decide))

set_option maxHeartbeats 1000000 in
theorem lToUnitsD (v : Value) (xs : List UnitD) (w : World) (h : XU w v xs) (hl : xs.length ≤ 4000000) (hn : ∀ u ∈ xs, u.tasks.length ≤ 4000000 ∧ ∀ t ∈ u.tasks, t.need.length ≤ 4000000) :
    Calls Try.prog 46 #[v] w fun e w' => ∃ v' us, e = .returned v' ∧ ODU w' w.heap.size v' us ∧ us.map UnitW.d = xs ∧ (taskBs us).Nodup ∧ (intBs us).Nodup ∧ Ext w w' := by
  obtain ⟨A, c, rfl, hc, hc', hr⟩ := h.get
  clear h
  obtain ⟨i0_unit, hi0_unit, hz0_unit, hz1_unit, hz2_unit⟩ := info_parts info_unit
  go_enter Try.func46, Try.ntmps46
  go_wp2_with (at_make; refine wpList_make_full _ rfl _ _ 24 rfl w.heap.size 44 i0_unit _ 2 Try.underlying24 hi0_unit hz0_unit hz1_unit _ _ _ _ xs.length rfl rfl rfl rfl (by rw [hz2_unit]; omega) (by unfold maxLen; omega) (Nat.le_refl _) ?_; intro w1 hO1 hg1; have HE1 : Hid (Ext w w1) := hid (Below.grown (Ext.refl _) hg1 (Nat.le_refl _) (fun k hk => by cases hk)); have HO1 : Hid (ODU w1 w.heap.size (.slice (some ⟨w.heap.size, 0, none⟩) xs.length xs.length) (List.replicate xs.length ⟨false, .slice none 0 0, []⟩)) := hid (Own.full (E := EDU w.heap.size) (size := 2) (z := .agg #[.bool false, .slice none 0 0]) ⟨false, .slice none 0 0, []⟩ (by rfl) ⟨rfl, Own.none_ _ _ _ _ _⟩ hO1); clear hO1 hg1)
  go_loopw [4] (fun i wr => ∃ (k : Nat) (us : List UnitW), k ≤ xs.length ∧ i = .int .i64 k ∧ Hid (ODU wr w.heap.size (.slice (some ⟨w.heap.size, 0, none⟩) xs.length xs.length) (us ++ List.replicate (xs.length - k) ⟨false, .slice none 0 0, []⟩) ∧ us.map UnitW.d = xs.take k ∧ (taskBs us).Nodup ∧ (intBs us).Nodup) ∧ Ext w wr) (fun i _ => xs.length - (intOf i).toNat)
  case atStart => exact ⟨0, [], Nat.zero_le _, rfl, hid ⟨by simpa using HO1.out, by simp, by simp [taskBs], by simp [intBs]⟩, HE1.out⟩
  case round =>
    obtain ⟨k, us, hk, rfl, H, hE⟩ := hrel
    have HO := hid H.out.1
    have HM1 := hid H.out.2.1
    have HND := hid H.out.2.2
    have HQL : Hid (us.length = k) := hid (by have := congrArg List.length HM1.out; rw [List.length_map, List.length_take] at this; omega)
    clear H
    by_cases hlt : k < xs.length
    · obtain ⟨b1, o1, x1, An, cn, rfl, e1, c1, c2, hn⟩ := hr k hlt
      have i1 : (k : Int) < (xs.length : Int) := by omega
      have c1r := hE.cell c1
      have c2r := hE.cell c2
      have HN := hid (XT.ext hn hE)
      have HM := hid (List.mem_of_getElem? e1.out)
      clear c1 c2 hn
      go_wp2_with (go_at_call 74; refine (lToUnitD x1 _ _ HN.out (hn x1 HM.out).1 (hn x1 HM.out).2).mono ?_; rintro e w2 ⟨v2, qs2, rfl, hO2, hm2, hnd2, hE2⟩; obtain ⟨A2, c2, rfl, hf1, hf2⟩ := hO2.form; have HM2 := hid hm2; have HND2 := hid hnd2; clear hm2 hnd2; have HO2 := hid hO2; have HE2 := hid hE2; have HBL := hid (fun x hx => ((ODU.tlt HO.out) x (by rw [taskBs_app]; exact List.mem_append_left _ hx)).2); have HBI := hid (fun x hx => ((ODU.ilt HO.out) x (by rw [intBs_app]; exact List.mem_append_left _ hx)).2); have HO := hid (Own.ext (EDU.ok _) HO.out hE2); obtain ⟨s0, s1, s0f, s1f, _⟩ := ODU.at_ HO.out (pad2_at us _ HQL.out hlt); have sg : w.heap.size ≤ wr.heap.size := hE.size; clear hO2 hE2)
      go_roundw
      case rel =>
        have hs := ODU.set2 HO.out (pad2_at us _ HQL.out hlt) x1.opened (.slice A2 qs2.length c2) qs2 (ODT.low HO2.out sg)
        rw [pad2_set us _ _ HQL.out hlt] at hs
        exact ⟨k + 1, us ++ [⟨x1.opened, .slice A2 qs2.length c2, qs2⟩], by omega, by go_num, hid ⟨hs, by rw [List.map_append, HM1.out, take_snoc e1.out]; show _ ++ [(⟨x1.opened, qs2.map (·.1)⟩ : UnitD)] = _; rw [HM2.out], by rw [taskBs_app, taskBs_one]; exact nodup_fresh HND.out.1 (optList_nodup _) HBL.out (fun a ha => (Own.lt HO2.out a (by simpa using ha)).1), by rw [intBs_app, intBs_one]; exact nodup_fresh HND.out.2 HND2.out HBI.out (fun a ha => (ODT.lt HO2.out a ha).1)⟩, Below.setCell (Below.setCell (hE.trans HE2.out) (Nat.le_refl _) _) (Nat.le_refl _) _⟩
      case measure => simp [intOf]; omega
    · go_wp2
      go_ret
      have hk' : k = xs.length := by omega
      have ho := HO.out
      have hm := HM1.out
      rw [hk', Nat.sub_self, List.replicate_zero, List.append_nil] at ho
      rw [hk', List.take_length] at hm
      exact ⟨_, us, rfl, ho, hm, HND.out.1, HND.out.2, hE⟩

end Go.Proofs.Ytcfpilkhjpegcaa

/- The laws' copy of a cluster: all rows the call's own, and apart. -/
namespace Go.Proofs.Ytcfpilkhjpegcaa
open Go.RowKit
set_option maxRecDepth 4000

set_option maxHeartbeats 2000000 in
theorem lToClusterD (cv : Value) (C : ClusD) (w : World) (h : ClusX w cv C) (hr : C.room.length ≤ 4000000) (hu : C.units.length ≤ 4000000) (hn : ∀ u ∈ C.units, u.tasks.length ≤ 4000000 ∧ ∀ t ∈ u.tasks, t.need.length ≤ 4000000) :
    Calls Try.prog 15 #[cv] w fun e w' => ∃ v', e = .returned v' ∧ DCl w' w.heap.size v' C ∧ Ext w w' := by
  obtain ⟨rv, uv, rfl, hrv, huv⟩ := h
  have hrv0 := hrv
  have huv0 := huv
  obtain ⟨Ar, cr, rfl, _⟩ := hrv
  obtain ⟨Au, cu, rfl, _⟩ := huv
  have hX : Ext w (((w.alloc (.cells #[.slice Ar C.room.length cr, .slice Au C.units.length cu] 34)).alloc (.cells #[.slice none 0 0, .slice none 0 0] 26)).alloc (.cells #[.slice none 0 0, .slice none 0 0] 26)) :=
    ((Ext.alloc _ _).trans (Ext.alloc _ _)).trans (Ext.alloc _ _)
  have g1 : (((w.alloc (.cells #[.slice Ar C.room.length cr, .slice Au C.units.length cu] 34)).alloc (.cells #[.slice none 0 0, .slice none 0 0] 26)).alloc (.cells #[.slice none 0 0, .slice none 0 0] 26)).heap[w.heap.size]? = some (.cells #[.slice Ar C.room.length cr, .slice Au C.units.length cu] 34 (0, 0)) :=
    (Ext.alloc _ _).obj ((Ext.alloc _ _).obj (heap_alloc_new _ _))
  have g2 : (((w.alloc (.cells #[.slice Ar C.room.length cr, .slice Au C.units.length cu] 34)).alloc (.cells #[.slice none 0 0, .slice none 0 0] 26)).alloc (.cells #[.slice none 0 0, .slice none 0 0] 26)).heap[w.heap.size + 1]? = some (.cells #[.slice none 0 0, .slice none 0 0] 26 (0, 0)) :=
    (Ext.alloc _ _).obj (heap_new (by simp))
  have g3 : (((w.alloc (.cells #[.slice Ar C.room.length cr, .slice Au C.units.length cu] 34)).alloc (.cells #[.slice none 0 0, .slice none 0 0] 26)).alloc (.cells #[.slice none 0 0, .slice none 0 0] 26)).heap[w.heap.size + 1 + 1]? = some (.cells #[.slice none 0 0, .slice none 0 0] 26 (0, 0)) :=
    heap_new (by simp)
  have HX := hid hX
  have G1 := hid g1
  have G2 := hid g2
  have G3 := hid g3
  have HR := hid (XI.ext hrv0 hX)
  have HU := hid huv0
  have b0 := obj_cell g1 (i := 0) rfl
  clear hX g1 g2 g3 hrv0 huv0
  go_enter Try.func15, Try.ntmps15
  go_wp2_with (first
    | (go_at_call 45; refine (lToInts _ C.room _ HR.out hr).mono ?_; rintro e w1 ⟨v1, rfl, hO1, hE1⟩; obtain ⟨A1, c1, rfl, hf1, hf2⟩ := hO1.form; have p1 := hE1.obj G1.out; have p2 := hE1.obj G2.out; have p3 := hE1.obj G3.out; have HLR : Hid (∀ a, (Value.slice A1 C.room.length c1).ownBlock = some a → a < (w1.setCell ⟨w.heap.size + 1 + 1, 0, none⟩ (.slice A1 C.room.length c1)).heap.size) := hid (fun a ha => by have := (Own.lt hO1 a ha).2; simpa [World.setCell] using this); have HO1 := hid (Own.low hO1 HX.out.size); have HE1 := hid (HX.out.trans hE1); clear hO1 hE1; have q0 := obj_cell p3 (i := 0) rfl; have q0f := obj_frozen p3 0; have x1 := obj_far p1 (p := ⟨w.heap.size + 1 + 1, 0, none⟩) (by show w.heap.size ≠ w.heap.size + 1 + 1; omega) (.slice A1 C.room.length c1); have x2 := obj_far p2 (p := ⟨w.heap.size + 1 + 1, 0, none⟩) (by show w.heap.size + 1 ≠ w.heap.size + 1 + 1; omega) (.slice A1 C.room.length c1); have x3 := obj_set p3 0 (.slice A1 C.room.length c1); have y1 := obj_cell x1 (i := 1) rfl; have X2 := hid x2; have X3 := hid x3; have HE2 : Hid (Ext w (w1.setCell ⟨w.heap.size + 1 + 1, 0, none⟩ (.slice A1 C.room.length c1))) := hid (Below.setCell HE1.out (by show w.heap.size ≤ w.heap.size + 1 + 1; omega) _); have HS2 := hid (SameT.setCell (p := ⟨w.heap.size + 1 + 1, 0, none⟩) p3 (.slice A1 C.room.length c1) (T := fun t => t ≠ 26) (fun t ht => ht)); clear x1 x2 x3 p1 p2 p3)
    | (go_at_call 46; refine (lToUnitsD _ C.units _ (XU.ext HU.out HE2.out) hu hn).mono ?_; rintro e w3 ⟨v3, us3, rfl, hO3, hm3, ht3, hi3, hE3⟩; obtain ⟨A3, c3, hv3, hf3, hf4⟩ := hO3.form; have hul : us3.length = C.units.length := (by rw [← hm3, List.length_map]); rw [hul] at hv3 hf4; subst hv3; clear hul; have HM3 := hid hm3; have HT3 := hid ht3; have HI3 : Hid (((Value.slice A1 C.room.length c1).ownBlock.toList ++ intBs us3).Nodup) := hid (nodup_fresh (optList_nodup _) hi3 (fun a ha => Nat.lt_of_lt_of_le (HLR.out a (by simpa using ha)) (Nat.le_refl _)) (fun a ha => (ODU.ilt hO3 a ha).1)); clear hm3 ht3 hi3; have p2 := hE3.obj X2.out; have p3 := hE3.obj X3.out; have HO3 := hid (ODU.low hO3 HE2.out.size); have HE3 := hid (HE2.out.trans hE3); have HS3 := hid (HS2.out.trans (hE3.same (fun t => t ≠ 26))); clear hO3 hE3; have q1 := obj_cell p3 (i := 1) rfl; have q1f := obj_frozen p3 1; have x3 := obj_set p3 1 (.slice A3 C.units.length c3); have x2 := obj_far p2 (p := ⟨w.heap.size + 1 + 1, 1, none⟩) (by show w.heap.size + 1 ≠ w.heap.size + 1 + 1; omega) (.slice A3 C.units.length c3); have z0 := obj_cell x3 (i := 0) rfl; have z1 := obj_cell x3 (i := 1) rfl; have y0 := obj_cell x2 (i := 0) rfl; have y1 := obj_cell x2 (i := 1) rfl; have y0f := obj_frozen x2 0; have y1f := obj_frozen x2 1; have k := obj_set x2 0 (.slice A1 C.room.length c1); have k1 := obj_cell k (i := 1) rfl; have k1f := obj_frozen k 1; have r := obj_set2 x2 (.slice A1 C.room.length c1) (.slice A3 C.units.length c3); have r0 := obj_cell r (i := 0) rfl; have r1 := obj_cell r (i := 1) rfl))
  have hlt := HE3.out.size
  have hE4 : Ext w (((w3.setCell ⟨w.heap.size + 1 + 1, 1, none⟩ (.slice A3 C.units.length c3)).setCell ⟨w.heap.size + 1, 0, none⟩ (.slice A1 C.room.length c1)).setCell ⟨w.heap.size + 1, 1, none⟩ (.slice A3 C.units.length c3)) :=
    Below.setCell (Below.setCell (Below.setCell HE3.out (by show w.heap.size ≤ w.heap.size + 1 + 1; omega) _) (by show w.heap.size ≤ w.heap.size + 1; omega) _) (by show w.heap.size ≤ w.heap.size + 1; omega) _
  have hsm := ((SameT.setCell (p := ⟨w.heap.size + 1 + 1, 1, none⟩) p3 (.slice A3 C.units.length c3) (T := fun t => t ≠ 26) (fun t ht => ht)).trans (SameT.setCell (p := ⟨w.heap.size + 1, 0, none⟩) x2 (.slice A1 C.room.length c1) (T := fun t => t ≠ 26) (fun t ht => ht))).trans (SameT.setCell (p := ⟨w.heap.size + 1, 1, none⟩) k (.slice A3 C.units.length c3) (T := fun t => t ≠ 26) (fun t ht => ht))
  refine bodyPost_ret (v := .agg #[.slice A1 C.room.length c1, .slice A3 C.units.length c3]) (by simp [results, Try.results15, go_sem, r0, r1]) rfl ⟨_, rfl, ⟨_, _, us3, rfl, ?_, ?_, HM3.out, HT3.out, HI3.out⟩, hE4⟩
  · exact Own.same EI.ok HO1.out ((HS3.out.trans hsm).mono (by rintro t (rfl | h) <;> first | decide | exact h.elim))
  · exact Own.same (EDU.ok _) HO3.out (hsm.mono notClus)

end Go.Proofs.Ytcfpilkhjpegcaa
