/- Clusters all of whose rows are the call's own; marks. -/
import Derived.Test.YtllchacophapoaaDoorK5
import Derived.Test.YtllchacophapoaaDoorK7
namespace Go.Proofs.YtllchacophapoaaDoor
open Go.RowKit
set_option maxRecDepth 4000

/-- blocks of this list alone have turned -/
structure Touch (L : List Nat) (w w' : World) : Prop where
  os : w'.os = w.os
  tape : w'.tape = w.tape
  output : w'.output = w.output
  size : w.heap.size ≤ w'.heap.size
  block : ∀ k, k < w.heap.size → k ∉ L → w'.heap[k]? = w.heap[k]?
theorem Touch.refl (L : List Nat) (w : World) : Touch L w w := ⟨rfl, rfl, rfl, Nat.le_refl _, fun _ _ _ => rfl⟩
theorem Touch.trans {L : List Nat} {a b c : World} (h : Touch L a b) (k : Touch L b c) : Touch L a c :=
  ⟨k.os.trans h.os, k.tape.trans h.tape, k.output.trans h.output, Nat.le_trans h.size k.size, fun i hi hn => (k.block i (Nat.lt_of_lt_of_le hi h.size) hn).trans (h.block i hi hn)⟩
theorem Touch.mono {L L' : List Nat} {a b : World} (h : Touch L a b) (hl : ∀ k ∈ L, k ∈ L') : Touch L' a b := ⟨h.os, h.tape, h.output, h.size, fun k hk hn => h.block k hk fun hc => hn (hl k hc)⟩
theorem Touch.ext {a b : World} (h : Ext a b) (L : List Nat) : Touch L a b := ⟨h.os, h.tape, h.output, h.size, fun k hk _ => h.block k hk⟩
theorem Touch.setCell {L : List Nat} {a w : World} (h : Touch L a w) {p : Addr} (hp : p.block ∈ L) (u : Value) : Touch L a (w.setCell p u) :=
  h.trans ⟨rfl, rfl, rfl, by simp [World.setCell], fun k _ hk => Below.heap_setCell _ _ _ _ (fun e => hk (by rw [e]; exact hp))⟩
theorem Touch.below {L : List Nat} {a b : World} (h : Touch L a b) {H : Nat} (hl : ∀ k ∈ L, H ≤ k) (hs : H ≤ a.heap.size) : Below H a b :=
  ⟨h.os, h.tape, h.output, h.size, fun k hk => h.block k (by omega) fun hc => by have := hl k hc; omega⟩

/-- a row that lies where it lay, its elements told anew -/
theorem Own.far2 {α β : Type} {e : TypeId} {size : Nat} {E : Enc α} {E' : Enc β} {w w' : World} {base : Nat} {v : Value} {xs : List α} {ys : List β} (h : Own e size E w base v xs) (hl : ys.length = xs.length) (hb : ∀ k, v.ownBlock = some k → w'.heap[k]? = w.heap[k]?)
    (hE : ∀ (j : Nat) cs x y, xs[j]? = some x → ys[j]? = some y → E w cs x → E' w' cs y) : Own e size E' w' base v ys := by
  obtain ⟨cells, ho, hc⟩ := h
  refine ⟨cells, ⟨by rw [hl]; exact ho.1, ?_⟩, by rw [hl]; exact hc.1, fun j y hy => ?_⟩
  · rw [hl]
    rcases ho.2 with h0 | ⟨g, cap, cur, hv, hg, hh, r⟩
    · exact .inl h0
    · exact .inr ⟨g, cap, cur, hv, hg, (hb g (by rw [hv]; rfl)).trans hh, r⟩
  · have hj : j < xs.length := by rw [← hl]; exact (List.getElem?_eq_some_iff.1 hy).1
    obtain ⟨cs, hcs, he, hu⟩ := hc.2 j xs[j] (List.getElem?_eq_getElem hj)
    exact ⟨cs, hcs, hE j cs _ y (List.getElem?_eq_getElem hj) hy he, hu⟩
theorem Own.farI {w w' : World} {base : Nat} {v : Value} {xs : List Int} (h : OI w base v xs) (hb : ∀ k, v.ownBlock = some k → w'.heap[k]? = w.heap[k]?) : OI w' base v xs := Own.far h hb (fun _ _ _ he => he)

/-- a task whose need is a row of the call's own -/
def EDT (base : Nat) : Enc (TaskD × Value) := fun w cs p => cs = [.int .i64 p.1.id, p.2] ∧ OI w base p.2 p.1.need
theorem EDT.ok (base : Nat) : (EDT base).Ok (fun t => t = 3) := fun _ _ _ _ ⟨h, hr⟩ ha => ⟨h, hr.same EI.ok (ha.mono fun t ht => by rcases ht with ht | ht; exact ht; exact ht.elim)⟩
theorem EDT.flat (base : Nat) : (EDT base).Flat := fun _ _ _ ⟨h, hr⟩ u hu => by
  obtain ⟨A, c, hv, _⟩ := hr.form
  rw [h] at hu; simp at hu; rcases hu with rfl | rfl
  · rfl
  · rw [hv]; rfl
theorem EDT.ne : ∀ t, (fun t => t = 3) t → t ≠ 44 := ET.ne
abbrev ODT (w : World) (base : Nat) (v : Value) (qs : List (TaskD × Value)) : Prop := Own 44 2 (EDT base) w base v qs
theorem ODT.read {w : World} {base : Nat} {v : Value} {qs : List (TaskD × Value)} (h : ODT w base v qs) : RT w v (qs.map (·.1)) := (Own.read h).map fun _ p ⟨h1, h2⟩ => ⟨p.2, h1, h2.read⟩
theorem ODT.own {w : World} {base : Nat} {v : Value} {qs : List (TaskD × Value)} (h : ODT w base v qs) : OT w base v (qs.map (·.1)) :=
  Own.far2 h (by simp) (fun _ _ => rfl) (fun j cs x y hx hy he => by
    rw [List.getElem?_map, hx] at hy
    injection hy with hy
    subst hy
    exact ⟨x.2, he.1, he.2.read⟩)
theorem ODT.low {w : World} {base base' : Nat} {v : Value} {qs : List (TaskD × Value)} (h : ODT w base v qs) (hb : base' ≤ base) : ODT w base' v qs :=
  Own.low (base' := base') (Own.far2 (E' := EDT base') h rfl (fun _ _ => rfl) (fun j cs x y hx hy he => by
    rw [hx] at hy
    injection hy with hy
    subst hy
    exact ⟨he.1, he.2.low hb⟩)) hb
def needBs (qs : List (TaskD × Value)) : List Nat := qs.filterMap fun p => p.2.ownBlock
theorem ODT.need {w : World} {base : Nat} {v : Value} {qs : List (TaskD × Value)} (h : ODT w base v qs) {p : TaskD × Value} (hp : p ∈ qs) : OI w base p.2 p.1.need := by
  obtain ⟨cells, _, hc⟩ := h
  obtain ⟨k, hk⟩ := List.getElem?_of_mem hp
  obtain ⟨cs, _, he, _⟩ := hc.2 k p hk
  exact he.2
theorem ODT.lt {w : World} {base : Nat} {v : Value} {qs : List (TaskD × Value)} (h : ODT w base v qs) : ∀ g ∈ needBs qs, base ≤ g ∧ g < w.heap.size := by
  intro g hg
  obtain ⟨p, hp, hb⟩ := List.mem_filterMap.1 hg
  exact (h.need hp).lt g hb
/-- the row and its needs' rows lie where they lay -/
theorem ODT.far {w w' : World} {base : Nat} {v : Value} {qs : List (TaskD × Value)} (h : ODT w base v qs) (hb : ∀ k, v.ownBlock = some k → w'.heap[k]? = w.heap[k]?) (hg : ∀ g ∈ needBs qs, w'.heap[g]? = w.heap[g]?) : ODT w' base v qs :=
  Own.far h hb (fun _ p hp ⟨he, ht⟩ => ⟨he, Own.farI ht (fun k hk => hg k (List.mem_filterMap.2 ⟨p, hp, hk⟩))⟩)

/-- a node of a cluster, with the values of its rows -/
structure UnitW where
  opened : Bool
  tv : Value
  qs : List (TaskD × Value)
def UnitW.d (u : UnitW) : UnitD := ⟨u.opened, u.qs.map (·.1)⟩
def EDU (base : Nat) : Enc UnitW := fun w cs u => cs = [.bool u.opened, u.tv] ∧ ODT w base u.tv u.qs
theorem EDU.ok (base : Nat) : (EDU base).Ok (fun t => t = 44 ∨ t = 3) := fun _ _ _ _ ⟨h, hr⟩ ha => ⟨h, hr.same (EDT.ok base) ha⟩
theorem EDU.flat (base : Nat) : (EDU base).Flat := fun _ _ _ ⟨h, hr⟩ u hu => by
  obtain ⟨A, c, hv, _⟩ := hr.form
  rw [h] at hu; simp at hu; rcases hu with rfl | rfl
  · rfl
  · rw [hv]; rfl
def taskBs (us : List UnitW) : List Nat := us.filterMap fun u => u.tv.ownBlock
def intBs (us : List UnitW) : List Nat := us.flatMap fun u => needBs u.qs
/-- n numbers from k on -/
def marks (k : Int) (n : Nat) : List Int := (List.range n).map fun (i : Nat) => k + (i : Int)
theorem marks_len (k : Int) (n : Nat) : (marks k n).length = n := by simp [marks]
theorem marks_at {k : Int} {n i : Nat} (hi : i < n) : (marks k n)[i]? = some (k + (i : Int)) := by
  unfold marks
  rw [List.getElem?_map, List.getElem?_range hi]
  rfl
theorem marks_succ (k : Int) (n : Nat) : marks k (n + 1) = marks k n ++ [k + (n : Int)] := by
  unfold marks
  rw [List.range_succ, List.map_append]
  rfl
def cntQ (qs : List (TaskD × Value)) : Nat := (qs.map fun q => 1 + q.1.need.length).sum
/-- tasks that bear marks from k on -/
def markQ : Int → List (TaskD × Value) → List (TaskD × Value)
  | _, [] => []
  | k, q :: qs => (⟨k, marks (k + 1) q.1.need.length⟩, q.2) :: markQ (k + 1 + (q.1.need.length : Int)) qs
theorem cntQ_cons (q : TaskD × Value) (qs : List (TaskD × Value)) : cntQ (q :: qs) = 1 + q.1.need.length + cntQ qs := by simp [cntQ]
theorem cntQ_app (a b : List (TaskD × Value)) : cntQ (a ++ b) = cntQ a + cntQ b := by simp [cntQ]
theorem markQ_len : ∀ (k : Int) (qs : List (TaskD × Value)), (markQ k qs).length = qs.length
  | _, [] => rfl
  | k, q :: qs => by simp [markQ, markQ_len _ qs]
theorem markQ_app : ∀ (k : Int) (a b : List (TaskD × Value)), markQ k (a ++ b) = markQ k a ++ markQ (k + (cntQ a : Int)) b
  | k, [], b => by simp [markQ, cntQ]
  | k, q :: a, b => by
    show _ :: markQ _ (a ++ b) = _
    rw [markQ_app _ a b, cntQ_cons]
    have : k + 1 + (q.1.need.length : Int) + (cntQ a : Int) = k + ((1 + q.1.need.length + cntQ a : Nat) : Int) := by omega
    rw [this]
    rfl
theorem markQ_bs : ∀ (k : Int) (qs : List (TaskD × Value)), needBs (markQ k qs) = needBs qs
  | _, [] => rfl
  | k, q :: qs => by
    have ih := markQ_bs (k + 1 + (q.1.need.length : Int)) qs
    unfold needBs at ih ⊢
    show List.filterMap _ (_ :: markQ _ qs) = _
    rw [List.filterMap_cons, List.filterMap_cons, ih]
def cntU (us : List UnitW) : Nat := (us.map fun u => 1 + cntQ u.qs).sum
def markU : Int → List UnitW → List UnitW
  | _, [] => []
  | k, u :: us => ⟨k % 3 == 0, u.tv, markQ (k + 1) u.qs⟩ :: markU (k + 1 + (cntQ u.qs : Int)) us
theorem cntU_cons (u : UnitW) (us : List UnitW) : cntU (u :: us) = 1 + cntQ u.qs + cntU us := by simp [cntU]
theorem cntU_app (a b : List UnitW) : cntU (a ++ b) = cntU a + cntU b := by simp [cntU]
theorem markU_len : ∀ (k : Int) (us : List UnitW), (markU k us).length = us.length
  | _, [] => rfl
  | k, u :: us => by simp [markU, markU_len _ us]
theorem markU_app : ∀ (k : Int) (a b : List UnitW), markU k (a ++ b) = markU k a ++ markU (k + (cntU a : Int)) b
  | k, [], b => by simp [markU, cntU]
  | k, u :: a, b => by
    show _ :: markU _ (a ++ b) = _
    rw [markU_app _ a b, cntU_cons]
    have : k + 1 + (cntQ u.qs : Int) + (cntU a : Int) = k + ((1 + cntQ u.qs + cntU a : Nat) : Int) := by omega
    rw [this]
    rfl
theorem markU_tbs : ∀ (k : Int) (us : List UnitW), taskBs (markU k us) = taskBs us
  | _, [] => rfl
  | k, u :: us => by
    have ih := markU_tbs (k + 1 + (cntQ u.qs : Int)) us
    unfold taskBs at ih ⊢
    show List.filterMap _ (_ :: markU _ us) = _
    rw [List.filterMap_cons, List.filterMap_cons, ih]
theorem markU_ibs : ∀ (k : Int) (us : List UnitW), intBs (markU k us) = intBs us
  | _, [] => rfl
  | k, u :: us => by
    have ih := markU_ibs (k + 1 + (cntQ u.qs : Int)) us
    unfold intBs at ih ⊢
    show List.flatMap _ (_ :: markU _ us) = _
    rw [List.flatMap_cons, List.flatMap_cons, ih, markQ_bs]

end Go.Proofs.YtllchacophapoaaDoor

/- The laws' marks on ints. -/
namespace Go.Proofs.YtllchacophapoaaDoor
open Go.RowKit
set_option maxRecDepth 4000

theorem mark_step {k : Int} {xs : List Int} {j : Nat} (hj : j < xs.length) : (marks k j ++ xs.drop j).set j (k + (j : Int)) = marks k (j + 1) ++ xs.drop (j + 1) := by
  rw [List.set_append_right _ _ (by rw [marks_len]; exact Nat.le_refl _), marks_len, Nat.sub_self, List.drop_eq_getElem_cons hj, List.set_cons_zero, marks_succ, List.append_assoc]
  rfl
theorem mark_at {k : Int} {xs : List Int} {j : Nat} (hj : j < xs.length) : (marks k j ++ xs.drop j)[j]? = some xs[j] := by
  rw [List.getElem?_append_right (by rw [marks_len]; exact Nat.le_refl _), marks_len, Nat.sub_self, List.drop_eq_getElem_cons hj]
  rfl
set_option maxHeartbeats 1000000 in
theorem lMarkInts (A : Option Addr) (n c c' : Nat) (xs : List Int) (k : Int) (w : World) (base : Nat) (h : OI w base (.slice A n c) xs) (hl : n ≤ 4000000) (hk0 : 0 ≤ k) (hk1 : k ≤ 1000000000) :
    Calls Tryd.prog 14 #[.slice A n c', .int .i64 k] w fun e w' => e = .returned (.int .i64 (k + (n : Int))) ∧ OI w' base (.slice A n c) (marks k n) ∧ Touch (Value.slice A n c).ownBlock.toList w w' := by
  have hn : n = xs.length := by
    obtain ⟨A', c1, hv, _⟩ := h.form
    injection hv
  by_cases h0 : 0 < n
  · obtain ⟨g, c1, hv, _⟩ := Own.row h (by omega)
    injection hv with e1 _ e3
    subst e1 e3
    have HX := hid hn
    have HO0 := hid h
    clear h hn
    go_enter Tryd.func14, Tryd.ntmps14
    go_wp2
    go_loopw [1, 5] (fun s i wr => ∃ j : Nat, j ≤ n ∧ i = .int .i64 j ∧ s = .int .i64 (k + (j : Int)) ∧ Hid (OI wr base (.slice (some ⟨g, 0, none⟩) n c) (marks k j ++ xs.drop j) ∧ Touch [g] w wr)) (fun _ i _ => n - (intOf i).toNat)
    case atStart => exact ⟨0, Nat.zero_le _, rfl, by simp, hid ⟨HO0.out, Touch.refl _ _⟩⟩
    case round =>
      obtain ⟨j, hj, rfl, rfl, H⟩ := hrel
      have HO := hid H.out.1
      have HT := hid H.out.2
      clear H
      by_cases hjl : j < n
      · have ij : (j : Int) < (n : Int) := by omega
        have i0 : (0 : Int) ≤ (j : Int) := by omega
        have hjx : j < xs.length := by rw [← HX.out]; exact hjl
        have HJX := hid hjx
        obtain ⟨y, hy⟩ : ∃ y, (marks k j ++ xs.drop j)[j]? = some y := ⟨_, mark_at hjx⟩
        obtain ⟨c0, f0, _⟩ := OI.at_ HO.out hy
        clear hjx hy
        go_wp2
        go_roundw
        case rel =>
          have hs := (OI.set HO.out (j := j) (by rw [List.length_append, marks_len, List.length_drop]; have := HJX.out; omega) (k + (j : Int))).1
          rw [mark_step HJX.out] at hs
          exact ⟨j + 1, by omega, by go_num, by go_num, hid ⟨hs, HT.out.setCell (p := ⟨g, j, none⟩) (by simp) _⟩⟩
        case measure => simp [intOf]; omega
      · go_wp2
        go_ret
        have hj' : j = n := by omega
        subst hj'
        have hd : xs.drop j = [] := List.drop_eq_nil_of_le (by rw [← HX.out]; exact Nat.le_refl _)
        have ho := HO.out
        rw [hd, List.append_nil] at ho
        exact ⟨rfl, ho, HT.out⟩
  · have hz : n = 0 := by omega
    subst hz
    have hx : xs = [] := List.eq_nil_of_length_eq_zero hn.symm
    subst hx
    have HO0 := hid h
    clear h hn
    go_enter Tryd.func14, Tryd.ntmps14
    go_wp2
    go_loopw [1, 5] (fun s i wr => i = .int .i64 0 ∧ s = .int .i64 k ∧ wr = w) (fun _ _ _ => 0)
    case atStart => exact ⟨rfl, rfl, rfl⟩
    case round =>
      obtain ⟨rfl, rfl, rfl⟩ := hrel
      go_wp2
      go_ret
      exact ⟨by simp, HO0.out, Touch.refl _ _⟩

theorem lHeldInts (v : Value) (n : Nat) (k : Int) (w : World) (h : RI w v (marks k n)) (hl : n ≤ 4000000) (hk0 : 0 ≤ k) (hk1 : k ≤ 1000000000) :
    Calls Tryd.prog 64 #[v, .int .i64 k] w (RetN w (k + (n : Int))) := by
  obtain ⟨A, c, rfl, hc, hc', hg⟩ := h.get
  rw [marks_len] at hc hg ⊢
  clear h
  go_enter Tryd.func64, Tryd.ntmps64
  go_wp2
  go_loopw [1, 5] (fun s i wr => ∃ j : Nat, j ≤ n ∧ i = .int .i64 j ∧ s = .int .i64 (k + (j : Int)) ∧ Ext w wr) (fun _ i _ => n - (intOf i).toNat)
  case atStart => exact ⟨0, Nat.zero_le _, rfl, by simp, Ext.refl _⟩
  case round =>
    obtain ⟨j, hj, rfl, rfl, hE⟩ := hrel
    by_cases hjl : j < n
    · obtain ⟨b, o, x, rfl, e, c1⟩ := hg j hjl
      have hx : x = k + (j : Int) := by
        have h1 := e.out
        rw [marks_at hjl] at h1
        injection h1 with h1
        exact h1.symm
      subst hx
      have ij : (j : Int) < (n : Int) := by omega
      have c1r := hE.cell c1
      have hne : ((k + (j : Int)) != (k + (j : Int))) = false := by simp
      clear c1
      go_wp2
      go_roundw
      case rel => exact ⟨j + 1, by omega, by go_num, by go_num, hE⟩
      case measure => simp [intOf]; omega
    · go_wp2
      go_ret
      have hj' : j = n := by omega
      subst hj'
      exact ⟨rfl, hE⟩

end Go.Proofs.YtllchacophapoaaDoor

/- The laws' marks on tasks. -/
namespace Go.Proofs.YtllchacophapoaaDoor
open Go.RowKit
set_option maxRecDepth 4000

theorem Own.at_ {α : Type} {e : TypeId} {size : Nat} {E : Enc α} {w : World} {base g n c : Nat} {xs : List α} (h : Own e size E w base (.slice (some ⟨g, 0, none⟩) n c) xs) {j : Nat} {x : α} (hj : xs[j]? = some x) : ∃ cs : List Value, cs.length = size ∧ E w cs x ∧ ∀ i u, cs[i]? = some u → w.cell? ⟨g, j * size + i, none⟩ = some u := by
  obtain ⟨A', c', hv, _, _, hg⟩ := RSl.get_ h.read
  injection hv with e1 e2 e3
  obtain ⟨b, o, y, cs, hA, hy, hl, he, hc⟩ := hg j (List.getElem?_eq_some_iff.1 hj).1
  rw [hj] at hy
  injection hy with hy
  subst hy
  rw [← e1] at hA
  injection hA with hA
  injection hA with e4 e5 _
  subst e4 e5
  exact ⟨cs, hl, he, fun i u hu => by have := hc i u hu; rwa [Nat.zero_add] at this⟩
theorem ODT.at_ {w : World} {base g n c : Nat} {qs : List (TaskD × Value)} (h : ODT w base (.slice (some ⟨g, 0, none⟩) n c) qs) {j : Nat} {q : TaskD × Value} (hj : qs[j]? = some q) :
    w.cell? ⟨g, j * 2, none⟩ = some (.int .i64 q.1.id) ∧ w.cell? ⟨g, j * 2 + 1, none⟩ = some q.2 ∧ w.frozen? ⟨g, j * 2, none⟩ = false ∧ w.frozen? ⟨g, j * 2 + 1, none⟩ = false ∧ OI w base q.2 q.1.need := by
  obtain ⟨cs, _, ⟨he, hn⟩, hc⟩ := Own.at_ h hj
  subst he
  exact ⟨by simpa using hc 0 _ rfl, hc 1 _ rfl, h.frozen_ _, h.frozen_ _, hn⟩
theorem ODT.setId {w : World} {base g n c : Nat} {qs : List (TaskD × Value)} (h : ODT w base (.slice (some ⟨g, 0, none⟩) n c) qs) {j : Nat} {q : TaskD × Value} (hj : qs[j]? = some q) (k : Int) :
    ODT (w.setCell ⟨g, j * 2, none⟩ (.int .i64 k)) base (.slice (some ⟨g, 0, none⟩) n c) (qs.set j (⟨k, q.1.need⟩, q.2)) := by
  have := (Own.set (EDT.ok base) EDT.ne h hj (i := 0) (u := .int .i64 k) (x' := (⟨k, q.1.need⟩, q.2)) (by omega) (fun w' hw cs hl ⟨he, ht⟩ => ⟨by rw [he]; rfl, ht.same EI.ok (hw.mono (fun t ht => by rcases ht with ht | ht; exact ht; exact ht.elim))⟩)).1
  simpa using this
theorem needs_apart {ps : List (TaskD × Value)} (h : (needBs ps).Nodup) {i k : Nat} {p q : TaskD × Value} (hi : ps[i]? = some p) (hk : ps[k]? = some q) (hik : i ≠ k) {a : Nat} (ha : p.2.ownBlock = some a) : q.2.ownBlock ≠ some a := by
  intro hb
  unfold needBs at h
  rw [List.nodup_iff_pairwise_ne, List.pairwise_filterMap, List.pairwise_iff_getElem] at h
  obtain ⟨li, ei⟩ := List.getElem?_eq_some_iff.1 hi
  obtain ⟨lk, ek⟩ := List.getElem?_eq_some_iff.1 hk
  rcases Nat.lt_or_gt_of_ne hik with hlt | hlt
  · exact h i k li lk hlt a (by rw [ei]; exact ha) a (by rw [ek]; exact hb) rfl
  · exact h k i lk li hlt a (by rw [ek]; exact hb) a (by rw [ei]; exact ha) rfl
theorem needBs_set {ps : List (TaskD × Value)} {j : Nat} {q : TaskD × Value} (hj : ps[j]? = some q) (x : TaskD) : needBs (ps.set j (x, q.2)) = needBs ps := by
  unfold needBs
  induction ps generalizing j with
  | nil => rfl
  | cons p ps ih =>
    cases j with
    | zero =>
      have hj : p = q := by simpa using hj
      rw [List.set_cons_zero, List.filterMap_cons, List.filterMap_cons, hj]
    | succ j =>
      rw [List.set_cons_succ, List.filterMap_cons, List.filterMap_cons, ih (by simpa using hj)]
theorem Own.form_eq {α : Type} {e : TypeId} {size : Nat} {E : Enc α} {w : World} {base : Nat} {A : Option Addr} {n c : Nat} {xs : List α} (h : Own e size E w base (.slice A n c) xs) : n = xs.length := by
  obtain ⟨A', c1, hv, _⟩ := h.form
  injection hv
/-- a need's row has been marked: the row of tasks behind it -/
theorem ODT.marked {w w' : World} {base g n c : Nat} {qs : List (TaskD × Value)} (h : ODT w base (.slice (some ⟨g, 0, none⟩) n c) qs) (hnd : (needBs qs).Nodup) {j : Nat} {q : TaskD × Value} (hj : qs[j]? = some q) {ys : List Int} (hO : OI w' base q.2 ys) (hT : Touch q.2.ownBlock.toList w w') :
    ODT w' base (.slice (some ⟨g, 0, none⟩) n c) (qs.set j (⟨q.1.id, ys⟩, q.2)) := by
  have hq := (ODT.at_ h hj).2.2.2.2
  refine Own.far2 h (by simp) (fun k hk => hT.block k (Own.lt h k hk).2 (fun hm => ?_)) (fun i cs x y hx hy he => ?_)
  · have hm : q.2.ownBlock = some k := by simpa using hm
    exact Own.block_ne (by decide) h hq hk hm
  · by_cases hij : j = i
    · subst hij
      rw [hj] at hx
      injection hx with hx
      subst hx
      rw [List.getElem?_set_self (List.getElem?_eq_some_iff.1 hj).1] at hy
      injection hy with hy
      subst hy
      exact ⟨he.1, hO⟩
    · rw [List.getElem?_set_ne hij, hx] at hy
      injection hy with hy
      subst hy
      refine ⟨he.1, Own.farI he.2 (fun k hk => hT.block k (Own.lt he.2 k hk).2 (fun hm => ?_))⟩
      have hm : q.2.ownBlock = some k := by simpa using hm
      exact needs_apart hnd hj hx hij hm hk
theorem cntQ_take_le (qs : List (TaskD × Value)) (k : Nat) : cntQ (qs.take k) ≤ cntQ qs := by
  have := cntQ_app (qs.take k) (qs.drop k)
  rw [List.take_append_drop] at this
  omega
theorem cntQ_take_succ {qs : List (TaskD × Value)} {k : Nat} {q : TaskD × Value} (h : qs[k]? = some q) : cntQ (qs.take (k + 1)) = cntQ (qs.take k) + (1 + q.1.need.length) := by
  rw [take_snoc h, cntQ_app]
  simp [cntQ]
/-- some are marked -/
def someQ (k : Int) (qs : List (TaskD × Value)) (j : Nat) : List (TaskD × Value) := markQ k (qs.take j) ++ qs.drop j
theorem someQ_at {k : Int} {qs : List (TaskD × Value)} {j : Nat} {q : TaskD × Value} (h : qs[j]? = some q) : (someQ k qs j)[j]? = some q := by
  have hl : (markQ k (qs.take j)).length = j := by
    rw [markQ_len, List.length_take]
    have := (List.getElem?_eq_some_iff.1 h).1
    omega
  unfold someQ
  rw [List.getElem?_append_right (by omega), hl, Nat.sub_self, List.getElem?_drop]
  simpa using h
theorem someQ_bs (k : Int) (qs : List (TaskD × Value)) (j : Nat) : needBs (someQ k qs j) = needBs qs := by
  have e : ∀ a b : List (TaskD × Value), needBs (a ++ b) = needBs a ++ needBs b := fun a b => by unfold needBs; rw [List.filterMap_append]
  unfold someQ
  rw [e, markQ_bs, ← e, List.take_append_drop]
theorem someQ_step {k : Int} {qs : List (TaskD × Value)} {j : Nat} {q : TaskD × Value} (h : qs[j]? = some q) {kk : Int} (hk : kk = k + (cntQ (qs.take j) : Int)) : (someQ k qs j).set j (⟨kk, marks (kk + 1) q.1.need.length⟩, q.2) = someQ k qs (j + 1) := by
  have hj := (List.getElem?_eq_some_iff.1 h).1
  have hq := (List.getElem?_eq_some_iff.1 h).2
  have hl : (markQ k (qs.take j)).length = j := by
    rw [markQ_len, List.length_take]
    omega
  unfold someQ
  rw [List.set_append_right _ _ (by omega), hl, Nat.sub_self, List.drop_eq_getElem_cons hj, List.set_cons_zero, take_snoc h, markQ_app, ← hk, List.append_assoc]
  rfl

set_option maxHeartbeats 2000000 in
theorem lMarkTasks (A : Option Addr) (n c : Nat) (qs : List (TaskD × Value)) (k : Int) (w : World) (base : Nat) (h : ODT w base (.slice A n c) qs) (hnd : (needBs qs).Nodup) (hl : cntQ qs ≤ 4000000) (hk0 : 0 ≤ k) (hk1 : k ≤ 500000000) :
    Calls Tryd.prog 15 #[.slice A n c, .int .i64 k] w fun e w' => e = .returned (.int .i64 (k + (cntQ qs : Int))) ∧ ODT w' base (.slice A n c) (markQ k qs) ∧ Touch ((Value.slice A n c).ownBlock.toList ++ needBs qs) w w' := by
  have hn := Own.form_eq h
  by_cases h0 : 0 < n
  · obtain ⟨g, c1, hv, _⟩ := Own.row h (by omega)
    injection hv with e1 e2 e3
    subst e1 e3
    clear e2
    have HX := hid hn
    have HO0 := hid h
    have HND := hid hnd
    have hnb : n ≤ 9223372036854775807 := by have := h.form; obtain ⟨A', c', hv, h1, h2⟩ := this; omega
    have HCT : Hid (∀ j, cntQ (qs.take j) ≤ 4000000) := hid fun j => Nat.le_trans (cntQ_take_le qs j) hl
    clear h hn hnd
    go_enter Tryd.func15, Tryd.ntmps15
    go_wp2
    go_loopw [1, 5] (fun s i wr => ∃ (j : Nat) (kk : Int), j ≤ n ∧ i = .int .i64 j ∧ s = .int .i64 kk ∧ Hid (kk = k + (cntQ (qs.take j) : Int)) ∧ 0 ≤ kk ∧ kk ≤ 600000000 ∧ Hid (ODT wr base (.slice (some ⟨g, 0, none⟩) n c) (someQ k qs j) ∧ Touch (g :: needBs qs) w wr)) (fun _ i _ => n - (intOf i).toNat)
    case atStart => exact ⟨0, k, Nat.zero_le _, rfl, rfl, hid (by simp [cntQ]), hk0, by omega, hid ⟨by unfold someQ; simpa [markQ] using HO0.out, Touch.refl _ _⟩⟩
    case round =>
      obtain ⟨j, kk, hj, rfl, rfl, hkk, hkk0, hkk1, H⟩ := hrel
      have HO := hid H.out.1
      have HT := hid H.out.2
      clear H
      by_cases hjl : j < n
      · have ij : (j : Int) < (n : Int) := by omega
        have i0 : (0 : Int) ≤ (j : Int) := by omega
        obtain ⟨q, hq⟩ : ∃ q, qs[j]? = some q := ⟨_, List.getElem?_eq_getElem (by rw [← HX.out]; exact hjl)⟩
        have HQ := hid hq
        have HQS := hid (someQ_at (k := k) hq)
        obtain ⟨c0, c1', f0, _, hneed⟩ := ODT.at_ HO.out HQS.out
        have hS := ODT.setId HO.out HQS.out kk
        have hset : ((someQ k qs j).set j (⟨kk, q.1.need⟩, q.2))[j]? = some (⟨kk, q.1.need⟩, q.2) := List.getElem?_set_self (List.getElem?_eq_some_iff.1 HQS.out).1
        have HSET := hid hset
        obtain ⟨_, d1, _, _, hneed1⟩ := ODT.at_ hS hset
        obtain ⟨t, nv⟩ := q
        obtain ⟨An, cn, hnv, _⟩ := hneed.form
        have hnv : nv = .slice An t.need.length cn := hnv
        subst hnv
        have HS := hid hS
        have HN1 := hid hneed1
        have hctx := HCT.out (j + 1)
        rw [cntQ_take_succ HQ.out] at hctx
        have hctx : cntQ (qs.take j) + (1 + t.need.length) ≤ 4000000 := hctx
        have HCX := hid hctx
        have HTL := hid (show t.need.length ≤ 4000000 by omega)
        clear hq hS hset hneed hneed1 hctx
        have d1' : (wr.setCell ⟨g, j * 2, none⟩ (.int .i64 kk)).cell? ⟨g, j * 2 + 1, none⟩ = some (.slice An t.need.length cn) := d1
        clear d1
        go_wp2_with (go_at_call 14; refine (lMarkInts An t.need.length cn cn t.need (kk + 1) _ base HN1.out HTL.out (by omega) (by omega)).mono ?_; rintro e w2 ⟨rfl, hO2, hT2⟩; have HO2 := hid hO2; have HT2 := hid hT2; clear hO2 hT2)
        go_roundw
        case rel =>
          have hm := ODT.marked HS.out (by rw [needBs_set HQS.out, someQ_bs]; exact HND.out) HSET.out HO2.out HT2.out
          rw [List.set_set] at hm
          have hst := someQ_step HQ.out hkk.out
          refine ⟨j + 1, kk + 1 + (t.need.length : Int), by omega, by go_num, by go_num, hid (by rw [cntQ_take_succ HQ.out, hkk.out]; show _ = k + ((cntQ (qs.take j) + (1 + t.need.length) : Nat) : Int); omega), by omega, ?_, hid ⟨by rw [← hst]; exact hm, ?_⟩⟩
          · have h1 := HCX.out
            have h2 := hkk.out
            omega
          · refine Touch.trans (HT.out.setCell (p := ⟨g, j * 2, none⟩) (by simp) _) (HT2.out.mono (fun a ha => ?_))
            have ha : (Value.slice An t.need.length cn).ownBlock = some a := by simpa using ha
            exact List.mem_cons_of_mem _ (List.mem_filterMap.2 ⟨_, List.mem_of_getElem? HQ.out, ha⟩)
        case measure => simp [intOf]; omega
      · go_wp2
        go_ret
        have hj' : j = qs.length := by rw [← HX.out]; omega
        have hs : someQ k qs j = markQ k qs := by unfold someQ; rw [hj', List.take_length, List.drop_length, List.append_nil]
        have ho := HO.out
        rw [hs] at ho
        exact ⟨ret_i (by rw [hkk.out, hj', List.take_length]), ho, HT.out⟩
  · have hz : n = 0 := by omega
    subst hz
    have hx : qs = [] := List.eq_nil_of_length_eq_zero hn.symm
    subst hx
    have HO0 := hid h
    clear h hn hnd
    go_enter Tryd.func15, Tryd.ntmps15
    go_wp2
    go_loopw [1, 5] (fun s i wr => i = .int .i64 0 ∧ s = .int .i64 k ∧ wr = w) (fun _ _ _ => 0)
    case atStart => exact ⟨rfl, rfl, rfl⟩
    case round =>
      obtain ⟨rfl, rfl, rfl⟩ := hrel
      go_wp2
      go_ret
      exact ⟨by simp [cntQ], HO0.out, Touch.refl _ _⟩

end Go.Proofs.YtllchacophapoaaDoor

/- The laws' marks on nodes and clusters. -/
namespace Go.Proofs.YtllchacophapoaaDoor
open Go.RowKit
set_option maxRecDepth 4000

theorem tasks_apart {us : List UnitW} (h : (taskBs us).Nodup) {i k : Nat} {p q : UnitW} (hi : us[i]? = some p) (hk : us[k]? = some q) (hik : i ≠ k) {a : Nat} (ha : p.tv.ownBlock = some a) : q.tv.ownBlock ≠ some a := by
  intro hb
  unfold taskBs at h
  rw [List.nodup_iff_pairwise_ne, List.pairwise_filterMap, List.pairwise_iff_getElem] at h
  obtain ⟨li, ei⟩ := List.getElem?_eq_some_iff.1 hi
  obtain ⟨lk, ek⟩ := List.getElem?_eq_some_iff.1 hk
  rcases Nat.lt_or_gt_of_ne hik with hlt | hlt
  · exact h i k li lk hlt a (by rw [ei]; exact ha) a (by rw [ek]; exact hb) rfl
  · exact h k i lk li hlt a (by rw [ek]; exact hb) a (by rw [ei]; exact ha) rfl
theorem ints_apart {us : List UnitW} (h : (intBs us).Nodup) {i k : Nat} {p q : UnitW} (hi : us[i]? = some p) (hk : us[k]? = some q) (hik : i ≠ k) {a : Nat} (ha : a ∈ needBs p.qs) : a ∉ needBs q.qs := by
  intro hb
  unfold intBs at h
  rw [List.nodup_iff_pairwise_ne, List.pairwise_flatMap] at h
  have h := List.pairwise_iff_getElem.1 h.2
  obtain ⟨li, ei⟩ := List.getElem?_eq_some_iff.1 hi
  obtain ⟨lk, ek⟩ := List.getElem?_eq_some_iff.1 hk
  rcases Nat.lt_or_gt_of_ne hik with hlt | hlt
  · exact h i k li lk hlt a (by rw [ei]; exact ha) a (by rw [ek]; exact hb) rfl
  · exact h k i lk li hlt a (by rw [ek]; exact hb) a (by rw [ei]; exact ha) rfl
theorem ints_each {us : List UnitW} (h : (intBs us).Nodup) {u : UnitW} (hu : u ∈ us) : (needBs u.qs).Nodup := by
  unfold intBs at h
  rw [List.nodup_iff_pairwise_ne, List.pairwise_flatMap] at h
  exact List.nodup_iff_pairwise_ne.2 (h.1 u hu)
theorem taskBs_set {us : List UnitW} {j : Nat} {u : UnitW} (hj : us[j]? = some u) (b : Bool) (qs : List (TaskD × Value)) : taskBs (us.set j ⟨b, u.tv, qs⟩) = taskBs us := by
  unfold taskBs
  induction us generalizing j with
  | nil => rfl
  | cons p us ih =>
    cases j with
    | zero =>
      have hj : p = u := by simpa using hj
      rw [List.set_cons_zero, List.filterMap_cons, List.filterMap_cons, hj]
    | succ j =>
      rw [List.set_cons_succ, List.filterMap_cons, List.filterMap_cons, ih (by simpa using hj)]
theorem intBs_set {us : List UnitW} {j : Nat} {u : UnitW} (hj : us[j]? = some u) (b : Bool) (qs : List (TaskD × Value)) (hq : needBs qs = needBs u.qs) : intBs (us.set j ⟨b, u.tv, qs⟩) = intBs us := by
  unfold intBs
  induction us generalizing j with
  | nil => rfl
  | cons p us ih =>
    cases j with
    | zero =>
      have hj : p = u := by simpa using hj
      rw [List.set_cons_zero, List.flatMap_cons, List.flatMap_cons, hj, hq]
    | succ j =>
      rw [List.set_cons_succ, List.flatMap_cons, List.flatMap_cons, ih (by simpa using hj)]
theorem cntU_take_le (us : List UnitW) (k : Nat) : cntU (us.take k) ≤ cntU us := by
  have := cntU_app (us.take k) (us.drop k)
  rw [List.take_append_drop] at this
  omega
theorem cntU_take_succ {us : List UnitW} {k : Nat} {u : UnitW} (h : us[k]? = some u) : cntU (us.take (k + 1)) = cntU (us.take k) + (1 + cntQ u.qs) := by
  rw [take_snoc h, cntU_app]
  simp [cntU]
def someU (k : Int) (us : List UnitW) (j : Nat) : List UnitW := markU k (us.take j) ++ us.drop j
theorem someU_at {k : Int} {us : List UnitW} {j : Nat} {u : UnitW} (h : us[j]? = some u) : (someU k us j)[j]? = some u := by
  have hl : (markU k (us.take j)).length = j := by
    rw [markU_len, List.length_take]
    have := (List.getElem?_eq_some_iff.1 h).1
    omega
  unfold someU
  rw [List.getElem?_append_right (by omega), hl, Nat.sub_self, List.getElem?_drop]
  simpa using h
theorem someU_tbs (k : Int) (us : List UnitW) (j : Nat) : taskBs (someU k us j) = taskBs us := by
  have e : ∀ a b : List UnitW, taskBs (a ++ b) = taskBs a ++ taskBs b := fun a b => by unfold taskBs; rw [List.filterMap_append]
  unfold someU
  rw [e, markU_tbs, ← e, List.take_append_drop]
theorem someU_ibs (k : Int) (us : List UnitW) (j : Nat) : intBs (someU k us j) = intBs us := by
  have e : ∀ a b : List UnitW, intBs (a ++ b) = intBs a ++ intBs b := fun a b => by unfold intBs; rw [List.flatMap_append]
  unfold someU
  rw [e, markU_ibs, ← e, List.take_append_drop]
theorem someU_step {k : Int} {us : List UnitW} {j : Nat} {u : UnitW} (h : us[j]? = some u) {kk : Int} (hk : kk = k + (cntU (us.take j) : Int)) : (someU k us j).set j ⟨kk % 3 == 0, u.tv, markQ (kk + 1) u.qs⟩ = someU k us (j + 1) := by
  have hj := (List.getElem?_eq_some_iff.1 h).1
  have hl : (markU k (us.take j)).length = j := by
    rw [markU_len, List.length_take]
    omega
  have hu := (List.getElem?_eq_some_iff.1 h).2
  unfold someU
  rw [List.set_append_right _ _ (by omega), hl, Nat.sub_self, List.drop_eq_getElem_cons hj, List.set_cons_zero, take_snoc h, markU_app, ← hk, List.append_assoc]
  rfl

end Go.Proofs.YtllchacophapoaaDoor

/- The laws' marks on a cluster; marks that are held. -/
namespace Go.Proofs.YtllchacophapoaaDoor
open Go.RowKit
set_option maxRecDepth 4000

theorem markQ_at {k : Int} {qs : List (TaskD × Value)} {j : Nat} {q : TaskD × Value} (h : qs[j]? = some q) : (markQ k qs)[j]? = some (⟨k + (cntQ (qs.take j) : Int), marks (k + (cntQ (qs.take j) : Int) + 1) q.1.need.length⟩, q.2) := by
  have hj := (List.getElem?_eq_some_iff.1 h).1
  have hl : (markQ k (qs.take j)).length = j := by
    rw [markQ_len, List.length_take]
    omega
  have e : qs = qs.take j ++ q :: qs.drop (j + 1) := by
    have h2 := (List.getElem?_eq_some_iff.1 h).2
    rw [← h2, ← List.drop_eq_getElem_cons hj, List.take_append_drop]
  have : markQ k qs = markQ k (qs.take j) ++ markQ (k + (cntQ (qs.take j) : Int)) (q :: qs.drop (j + 1)) := by rw [← markQ_app, ← e]
  rw [this, List.getElem?_append_right (by omega), hl, Nat.sub_self]
  rfl
set_option maxHeartbeats 1000000 in
theorem lHeldTasks (v : Value) (qs : List (TaskD × Value)) (k : Int) (w : World) (h : RT w v ((markQ k qs).map (·.1))) (hl : cntQ qs ≤ 4000000) (hk0 : 0 ≤ k) (hk1 : k ≤ 500000000) :
    Calls Tryd.prog 38 #[v, .int .i64 k] w (RetN w (k + (cntQ qs : Int))) := by
  obtain ⟨A, c, rfl, hc, hc', hg⟩ := RT.get h
  rw [List.length_map, markQ_len] at hc hg ⊢
  have HCT : Hid (∀ j, cntQ (qs.take j) ≤ 4000000) := hid fun j => Nat.le_trans (cntQ_take_le qs j) hl
  clear h
  obtain ⟨n, hn⟩ : ∃ n, n = qs.length := ⟨_, rfl⟩
  have HN := hid hn
  rw [← hn] at hc hg ⊢
  clear hn
  go_enter Tryd.func38, Tryd.ntmps38
  go_wp2
  go_loopw [1, 5] (fun s i wr => ∃ (j : Nat) (kk : Int), j ≤ n ∧ i = .int .i64 j ∧ s = .int .i64 kk ∧ Hid (kk = k + (cntQ (qs.take j) : Int)) ∧ 0 ≤ kk ∧ kk ≤ 600000000 ∧ Ext w wr) (fun _ i _ => n - (intOf i).toNat)
  case atStart => exact ⟨0, k, Nat.zero_le _, rfl, rfl, hid (by simp [cntQ]), hk0, by omega, Ext.refl _⟩
  case round =>
    obtain ⟨j, kk, hj, rfl, rfl, hkk, hkk0, hkk1, hE⟩ := hrel
    by_cases hjl : j < n
    · obtain ⟨b, o, x, An, cn, rfl, e, c1, c2, hnx⟩ := hg j hjl
      obtain ⟨q, hq⟩ : ∃ q, qs[j]? = some q := ⟨_, List.getElem?_eq_getElem (by rw [← HN.out]; exact hjl)⟩
      have hx : x = ⟨kk, marks (kk + 1) q.1.need.length⟩ := by
        have h1 := e.out
        rw [List.getElem?_map, markQ_at hq, ← hkk.out] at h1
        injection h1 with h1
        exact h1.symm
      have ij : (j : Int) < (n : Int) := by omega
      have hctx := HCT.out (j + 1)
      rw [cntQ_take_succ hq] at hctx
      have HQ := hid hq
      subst hx
      have c1r : wr.cell? ⟨b, o + j * 2, none⟩ = some (.int .i64 kk) := hE.cell c1
      have hlx : (marks (kk + 1) q.1.need.length).length = q.1.need.length := marks_len _ _
      have c2r : wr.cell? ⟨b, o + j * 2 + 1, none⟩ = some (.slice An q.1.need.length cn) := by have := hE.cell c2; rw [hlx] at this; exact this
      have HNX : Hid (RI wr (.slice An q.1.need.length cn) (marks (kk + 1) q.1.need.length)) := hid (by have := RI.ext hnx hE; rw [hlx] at this; exact this)
      have HQL := hid (show q.1.need.length ≤ 4000000 by omega)
      have HCX := hid hctx
      obtain ⟨m, hm⟩ : ∃ m, m = q.1.need.length := ⟨_, rfl⟩
      have HM := hid hm
      rw [← hm] at c2r HNX HQL
      have hne : (kk != kk) = false := by simp
      have hmb : m ≤ 4000000 := HQL.out
      have hnn : ¬ kk + 1 + (m : Int) < 0 := by omega
      clear c1 c2 hnx hq hctx hlx hm e
      go_wp2_with (go_at_call 64; refine (lHeldInts _ m (kk + 1) _ HNX.out hmb (by omega) (by omega)).mono ?_; rintro e2 w2 ⟨rfl, hE2⟩; have HE2 := hid hE2; clear hE2)
      go_roundw
      case rel => exact ⟨j + 1, kk + 1 + (m : Int), by omega, by go_num, by go_num, hid (by rw [cntQ_take_succ HQ.out, hkk.out, HM.out]; omega), by omega, by have h1 := HCX.out; have h2 := hkk.out; have h3 := HM.out; omega, hE.trans HE2.out⟩
      case measure => simp [intOf]; omega
    · go_wp2
      go_ret
      have hj' : j = qs.length := by rw [← HN.out]; omega
      exact ⟨ret_i (by rw [hkk.out, hj', List.take_length]), hE⟩

end Go.Proofs.YtllchacophapoaaDoor

/- Marks that are held on nodes and clusters. -/
namespace Go.Proofs.YtllchacophapoaaDoor
open Go.RowKit
set_option maxRecDepth 4000

theorem markU_at {k : Int} {us : List UnitW} {j : Nat} {u : UnitW} (h : us[j]? = some u) : (markU k us)[j]? = some ⟨(k + (cntU (us.take j) : Int)) % 3 == 0, u.tv, markQ (k + (cntU (us.take j) : Int) + 1) u.qs⟩ := by
  have hj := (List.getElem?_eq_some_iff.1 h).1
  have hl : (markU k (us.take j)).length = j := by
    rw [markU_len, List.length_take]
    omega
  have e : us = us.take j ++ u :: us.drop (j + 1) := by
    have h2 := (List.getElem?_eq_some_iff.1 h).2
    rw [← h2, ← List.drop_eq_getElem_cons hj, List.take_append_drop]
  have : markU k us = markU k (us.take j) ++ markU (k + (cntU (us.take j) : Int)) (u :: us.drop (j + 1)) := by rw [← markU_app, ← e]
  rw [this, List.getElem?_append_right (by omega), hl, Nat.sub_self]
  rfl
end Go.Proofs.YtllchacophapoaaDoor

/- The laws' copies of tasks and nodes: all rows the call's own. -/
namespace Go.Proofs.YtllchacophapoaaDoor
open Go.RowKit
set_option maxRecDepth 4000

theorem pad2_at {α : Type} (qs : List α) (z : α) {k n : Nat} (hk : qs.length = k) (h : k < n) : (qs ++ List.replicate (n - k) z)[k]? = some z := by
  rw [List.getElem?_append_right (by omega), hk, Nat.sub_self, List.getElem?_replicate, if_pos (by omega)]
theorem pad2_set {α : Type} (qs : List α) (z x : α) {k n : Nat} (hk : qs.length = k) (h : k < n) : (qs ++ List.replicate (n - k) z).set k x = (qs ++ [x]) ++ List.replicate (n - (k + 1)) z := by
  rw [List.set_append_right _ _ (by omega), hk, Nat.sub_self, List.append_assoc]
  have : n - k = (n - (k + 1)) + 1 := by omega
  rw [this, List.replicate_succ]
  rfl
theorem ODT.set2 {w : World} {base g n c : Nat} {qs : List (TaskD × Value)} (h : ODT w base (.slice (some ⟨g, 0, none⟩) n c) qs) {j : Nat} {q : TaskD × Value} (hj : qs[j]? = some q) (y : TaskD) (v : Value) (hv : OI w base v y.need) :
    ODT ((w.setCell ⟨g, j * 2, none⟩ (.int .i64 y.id)).setCell ⟨g, j * 2 + 1, none⟩ v) base (.slice (some ⟨g, 0, none⟩) n c) (qs.set j (y, v)) := by
  have hlt : j < qs.length := (List.getElem?_eq_some_iff.1 hj).1
  obtain ⟨h1, s1⟩ := Own.set (EDT.ok base) EDT.ne h hj (i := 0) (u := .int .i64 y.id) (x' := (⟨y.id, q.1.need⟩, q.2)) (by omega) (fun w' hw cs hl ⟨he, hr⟩ => ⟨by rw [he]; rfl, Own.same EI.ok hr (hw.mono (fun t ht => by rcases ht with ht | ht; exact ht; exact ht.elim))⟩)
  obtain ⟨h2, _⟩ := Own.set (EDT.ok base) EDT.ne h1 (j := j) (i := 1) (x := (⟨y.id, q.1.need⟩, q.2)) (u := v) (x' := (y, v)) (by rw [List.getElem?_set_self hlt]) (by omega) (fun w' hw cs hl ⟨he, hr⟩ => ⟨by rw [he]; rfl, Own.same EI.ok (Own.same EI.ok hv (s1.mono (fun t ht => by rcases ht with ht | ht; rw [ht]; decide; exact ht.elim))) (hw.mono (fun t ht => by rcases ht with ht | ht; exact ht; exact ht.elim))⟩)
  rw [List.set_set] at h2
  exact h2
theorem needBs_app (a b : List (TaskD × Value)) : needBs (a ++ b) = needBs a ++ needBs b := by unfold needBs; rw [List.filterMap_append]
theorem needBs_pad (n : Nat) : needBs (List.replicate n (⟨0, []⟩, .slice none 0 0)) = [] := by
  induction n with
  | zero => rfl
  | succ n ih => rw [List.replicate_succ]; unfold needBs at *; rw [List.filterMap_cons, ih]; rfl
theorem needBs_one (p : TaskD × Value) : needBs [p] = p.2.ownBlock.toList := by
  unfold needBs
  cases h : p.2.ownBlock <;> simp [h]
theorem taskBs_app (a b : List UnitW) : taskBs (a ++ b) = taskBs a ++ taskBs b := by unfold taskBs; rw [List.filterMap_append]
theorem intBs_app (a b : List UnitW) : intBs (a ++ b) = intBs a ++ intBs b := by unfold intBs; rw [List.flatMap_append]
theorem taskBs_one (p : UnitW) : taskBs [p] = p.tv.ownBlock.toList := by
  unfold taskBs
  cases h : p.tv.ownBlock <;> simp [h]
theorem intBs_one (p : UnitW) : intBs [p] = needBs p.qs := by unfold intBs; simp
theorem taskBs_pad (n : Nat) : taskBs (List.replicate n ⟨false, .slice none 0 0, []⟩) = [] := by
  induction n with
  | zero => rfl
  | succ n ih => rw [List.replicate_succ]; unfold taskBs at *; rw [List.filterMap_cons, ih]; rfl
theorem intBs_pad (n : Nat) : intBs (List.replicate n ⟨false, .slice none 0 0, []⟩) = [] := by
  induction n with
  | zero => rfl
  | succ n ih => rw [List.replicate_succ]; unfold intBs at *; rw [List.flatMap_cons, ih]; rfl
theorem nodup_fresh {a b : List Nat} {H : Nat} (ha : a.Nodup) (hb : b.Nodup) (hl : ∀ x ∈ a, x < H) (hg : ∀ x ∈ b, H ≤ x) : (a ++ b).Nodup :=
  List.nodup_append.2 ⟨ha, hb, fun x hx y hy e => by have := hl x hx; have := hg y hy; omega⟩
theorem optList_nodup (o : Option Nat) : o.toList.Nodup := by cases o <;> simp

set_option maxHeartbeats 1000000 in
theorem lToTasksD (v : Value) (xs : List TaskD) (w : World) (h : XT w v xs) (hl : xs.length ≤ 4000000) (hn : ∀ t ∈ xs, t.need.length ≤ 4000000) :
    Calls Tryd.prog 9 #[v] w fun e w' => ∃ v' qs, e = .returned v' ∧ ODT w' w.heap.size v' qs ∧ qs.map (·.1) = xs ∧ (needBs qs).Nodup ∧ Ext w w' := by
  obtain ⟨A, c, rfl, hc, hc', hr⟩ := h.get
  clear h
  obtain ⟨i0_task, hi0_task, hz0_task, hz1_task, hz2_task⟩ := info_parts info_task
  go_enter Tryd.func9, Tryd.ntmps9
  go_wp2_with (at_make; refine wpList_make_full _ rfl _ _ 28 rfl w.heap.size 44 i0_task _ 2 Tryd.underlying28 hi0_task hz0_task hz1_task _ _ _ _ xs.length rfl rfl rfl rfl (by rw [hz2_task]; omega) (by unfold maxLen; omega) (Nat.le_refl _) ?_; intro w1 hO1 hg1; have HE1 : Hid (Ext w w1) := hid (Below.grown (Ext.refl _) hg1 (Nat.le_refl _) (fun k hk => by cases hk)); have HO1 : Hid (ODT w1 w.heap.size (.slice (some ⟨w.heap.size, 0, none⟩) xs.length xs.length) (List.replicate xs.length (⟨0, []⟩, .slice none 0 0))) := hid (Own.full (E := EDT w.heap.size) (size := 2) (z := .agg #[.int .i64 0, .slice none 0 0]) (⟨0, []⟩, .slice none 0 0) (by rfl) ⟨rfl, Own.none_ _ _ _ _ _⟩ hO1); clear hO1 hg1)
  go_loopw [4] (fun i wr => ∃ (k : Nat) (qs : List (TaskD × Value)), k ≤ xs.length ∧ i = .int .i64 k ∧ Hid (ODT wr w.heap.size (.slice (some ⟨w.heap.size, 0, none⟩) xs.length xs.length) (qs ++ List.replicate (xs.length - k) (⟨0, []⟩, .slice none 0 0)) ∧ qs.map (·.1) = xs.take k ∧ (needBs qs).Nodup) ∧ Ext w wr) (fun i _ => xs.length - (intOf i).toNat)
  case atStart => exact ⟨0, [], Nat.zero_le _, rfl, hid ⟨by simpa using HO1.out, by simp, by simp [needBs]⟩, HE1.out⟩
  case round =>
    obtain ⟨k, qs, hk, rfl, H, hE⟩ := hrel
    have HO := hid H.out.1
    have HM1 := hid H.out.2.1
    have HND := hid H.out.2.2
    have HQL : Hid (qs.length = k) := hid (by have := congrArg List.length HM1.out; rw [List.length_map, List.length_take] at this; omega)
    clear H
    by_cases hlt : k < xs.length
    · obtain ⟨b1, o1, x1, An, cn, rfl, e1, c1, c2, hn⟩ := hr k hlt
      have i1 : (k : Int) < (xs.length : Int) := by omega
      have c1r := hE.cell c1
      have c2r := hE.cell c2
      have HN := hid (XI.ext hn hE)
      have HM := hid (List.mem_of_getElem? e1.out)
      clear c1 c2 hn
      go_wp2_with (go_at_call 32; refine (lToTask x1 _ _ HN.out (hn x1 HM.out)).mono ?_; rintro e w2 ⟨v2, rfl, hO2, hE2⟩; obtain ⟨A2, c2, rfl, hf1, hf2⟩ := hO2.form; have HO2 := hid hO2; have HE2 := hid hE2; have HBL := hid (fun x hx => ((ODT.lt HO.out) x (by rw [needBs_app]; exact List.mem_append_left _ hx)).2); have HO := hid (Own.ext (EDT.ok _) HO.out hE2); obtain ⟨s0, s1, s0f, s1f, _⟩ := ODT.at_ HO.out (pad2_at qs _ HQL.out hlt); have sg : w.heap.size ≤ wr.heap.size := hE.size; clear hO2 hE2)
      go_roundw
      case rel =>
        have hs := ODT.set2 HO.out (pad2_at qs _ HQL.out hlt) x1 (.slice A2 x1.need.length c2) (Own.low HO2.out sg)
        rw [pad2_set qs _ _ HQL.out hlt] at hs
        exact ⟨k + 1, qs ++ [(x1, .slice A2 x1.need.length c2)], by omega, by go_num, hid ⟨hs, by rw [List.map_append, HM1.out, take_snoc e1.out]; rfl, by rw [needBs_app, needBs_one]; exact nodup_fresh HND.out (optList_nodup _) HBL.out (fun a ha => (Own.lt HO2.out a (by simpa using ha)).1)⟩, Below.setCell (Below.setCell (hE.trans HE2.out) (Nat.le_refl _) _) (Nat.le_refl _) _⟩
      case measure => simp [intOf]; omega
    · go_wp2
      go_ret
      have hk' : k = xs.length := by omega
      have ho := HO.out
      have hm := HM1.out
      rw [hk', Nat.sub_self, List.replicate_zero, List.append_nil] at ho
      rw [hk', List.take_length] at hm
      exact ⟨_, qs, rfl, ho, hm, HND.out, hE⟩

end Go.Proofs.YtllchacophapoaaDoor

/- The program's copies of tasks and of a cluster: all rows the call's own, and apart. -/
namespace Go.Proofs.YtllchacophapoaaDoor
open Go.RowKit
set_option maxRecDepth 4000

set_option maxHeartbeats 2000000 in
theorem iCopyTasksD (v : Value) (ts : List TaskD) (w : World) (h : RT w v ts) (hl : ts.length ≤ 4000000) (hn : ∀ t ∈ ts, t.need.length ≤ 4000000) :
    Calls Tryd.prog 46 #[v] w fun e w' => ∃ v' qs, e = .returned v' ∧ ODT w' w.heap.size v' qs ∧ qs.map (·.1) = ts ∧ (needBs qs).Nodup ∧ Ext w w' := by
  obtain ⟨A, c, rfl, hc, hc', hg⟩ := RT.get h
  clear h
  obtain ⟨i0_task, hi0_task, hz0_task, hz1_task, hz2_task⟩ := info_parts info_task
  go_enter Tryd.func46, Tryd.ntmps46
  go_wp2_with (at_make; refine wpList_make_own _ rfl _ _ 28 rfl w.heap.size 44 i0_task _ 2 Tryd.underlying28 hi0_task hz0_task hz1_task _ _ _ ts.length rfl rfl rfl (by rw [hz2_task]; omega) (by unfold maxLen; omega) (by simp) ?_; intro w1 hO1 hg1; have hE1 : Ext w w1 := Below.grown (Below.refl _ _) hg1 (Nat.le_refl _) (fun k hk => by cases hk); have hO1 : ODT w1 w.heap.size _ [] := ⟨[], hO1, Cells.nil_ _ _ _⟩; have HO1 := hid hO1; have HE1 := hid hE1; clear hO1 hE1 hg1)
  go_loopw [3, 11] (fun s i wr => ∃ (u : Value) (k : Nat) (qs : List (TaskD × Value)), u = s ∧ k ≤ ts.length ∧ i = .int .i64 k ∧ Hid (ODT wr w.heap.size u qs ∧ qs.map (·.1) = ts.take k ∧ (needBs qs).Nodup ∧ Ext w wr)) (fun _ i _ => ts.length - (intOf i).toNat)
  case atStart => exact ⟨_, 0, [], rfl, Nat.zero_le _, rfl, hid ⟨HO1.out, rfl, by simp [needBs], HE1.out⟩⟩
  case round =>
    obtain ⟨u, k, qs, hu, hk, rfl, H⟩ := hrel
    subst hu
    by_cases hlt : k < ts.length
    · obtain ⟨b, o, x, An, cn, rfl, e, c1, c2, hnx⟩ := hg k hlt
      have i1 : (k : Int) < (ts.length : Int) := by omega
      have HE := hid H.out.2.2.2
      have c1r := HE.out.cell c1
      have c2r := HE.out.cell c2
      have hsz := HE.out.size
      have HN := hid (RI.ext hnx HE.out)
      have HXL := hid (hn x (List.mem_of_getElem? e.out))
      have HQL : Hid (qs.length ≤ k) := hid (by have := congrArg List.length H.out.2.1; rw [List.length_map, List.length_take] at this; omega)
      have HBL := hid (ODT.lt H.out.1)
      obtain ⟨O, hO⟩ : ∃ O : Obj, O = .cells #[.int .i64 x.id, .slice An x.need.length cn] 44 := ⟨_, rfl⟩
      have hbx : (wr.alloc O).heap[wr.heap.size]? = some O := heap_alloc_new wr _
      rw [hO] at hbx
      have q0 := obj_cell hbx (i := 0) rfl
      have q1 := obj_cell hbx (i := 1) rfl
      rw [← hO] at q0 q1
      have HEO := hid (Ext.alloc wr O)
      subst hO
      clear c1 c2 hnx hbx
      go_wp2_with (first
        | (go_at_call 70; refine (iTaskCopy _ x _ ⟨_, rfl, RI.ext HN.out HEO.out⟩ HXL.out).mono ?_; rintro e2 w2 ⟨A2, c2, rfl, hO2, hE2⟩; have hEa := (HEO.out.trans hE2).trans (Ext.alloc w2 (.cells #[.int .i64 x.id, .slice A2 x.need.length c2] 44)); have HV := hid (Own.ext (EDT.ok _) H.out.1 hEa); have HF2 := hid (fun a (ha : (Value.slice A2 x.need.length c2).ownBlock = some a) => Nat.le_trans HEO.out.size (Own.lt hO2 a ha).1); have HR2 := hid (Own.ext EI.ok (Own.low (base' := w.heap.size) hO2 (Nat.le_trans HE.out.size HEO.out.size)) (Ext.alloc w2 (.cells #[.int .i64 x.id, .slice A2 x.need.length c2] 44))); have HEa := hid (HE.out.trans hEa); have hsz2 := HEa.out.size; clear hO2 hE2 hEa)
        | (at_builtin; refine wpList_append_sl _ (by rfl) _ _ 28 (by rfl) (EDT.ok _) (EDT.flat _) (w.heap.size) 44 EDT.ne i0_task _ 2 32 Tryd.underlying28 hi0_task hz0_task hz1_task hz2_task rfl (by omega) _ (by rfl) _ (HV.out) _ (by rfl) _ (RSl.laid (cs := [.int .i64 x.id, .slice A2 x.need.length c2]) (x := (x, .slice A2 x.need.length c2)) (heap_alloc_new _ _) rfl ⟨rfl, HR2.out⟩) (by have := HQL.out; simp; omega) (by have := HQL.out; simp; omega) ?_ ?_; (focus (first | exact Nat.le_refl _ | (simp; done) | (simp; omega) | omega)); intro v3 w3 hO3 hg3 hat3 hs3; have HO3 := hid hO3; have HE3 := hid (Ext.grown HEa.out hg3 HV.out.lt); clear hO3 hg3 hat3 hs3))
      go_roundw
      case rel => exact ⟨_, k + 1, qs ++ [(x, .slice A2 x.need.length c2)], rfl, by omega, by go_num, hid ⟨HO3.out, by rw [List.map_append, H.out.2.1, take_snoc e.out]; rfl, by rw [needBs_app, needBs_one]; exact nodup_fresh H.out.2.2.1 (optList_nodup _) (fun a ha => (HBL.out a ha).2) (fun a ha => HF2.out a (by simpa using ha)), HE3.out⟩⟩
      case measure => simp [intOf]; omega
    · go_wp2
      go_ret
      have hk' : k = ts.length := by omega
      have hm := H.out.2.1
      rw [hk', List.take_length] at hm
      exact ⟨_, qs, rfl, H.out.1, hm, H.out.2.2.1, H.out.2.2.2⟩

end Go.Proofs.YtllchacophapoaaDoor
