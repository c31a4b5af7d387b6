/- The laws' copy of a cluster. -/
import Derived.Test.YtllchacophapoaaDoorK7
namespace Go.Proofs.YtllchacophapoaaDoor
open Go.RowKit
set_option maxRecDepth 4000

end Go.Proofs.YtllchacophapoaaDoor

/- How much came in. -/
namespace Go.Proofs.YtllchacophapoaaDoor
open Go.RowKit
set_option maxRecDepth 4000

def sumN {α : Type} (f : α → Nat) (xs : List α) : Nat := (xs.map f).sum
theorem sumN_take {α : Type} (f : α → Nat) {xs : List α} {k : Nat} {x : α} (h : xs[k]? = some x) : sumN f (xs.take (k + 1)) = sumN f (xs.take k) + f x := by
  unfold sumN
  rw [take_snoc h]
  simp
theorem sumN_mem {α : Type} (f : α → Nat) : ∀ {xs : List α} {x : α}, x ∈ xs → f x ≤ sumN f xs
  | y :: ys, x, h => by
    rcases List.mem_cons.1 h with rfl | h
    · simp [sumN]
    · have := sumN_mem f h
      simp only [sumN, List.map_cons, List.sum_cons] at this ⊢
      omega
theorem sumN_le {α : Type} {f g : α → Nat} : ∀ (xs : List α), (∀ x ∈ xs, f x ≤ g x) → sumN f xs ≤ sumN g xs
  | [], _ => by simp [sumN]
  | y :: ys, h => by
    have h1 := h y (by simp)
    have h2 := sumN_le ys (fun x hx => h x (by simp [hx]))
    simp only [sumN, List.map_cons, List.sum_cons] at h2 ⊢
    omega
def wInts (xs : List Int) : Nat := xs.length
def wTask (t : TaskD) : Nat := wInts t.need
def wTasks (ts : List TaskD) : Nat := ts.length + sumN wTask ts
def wUnit (u : UnitD) : Nat := wTasks u.tasks
def wUnits (us : List UnitD) : Nat := us.length + sumN wUnit us
def wClus (c : ClusD) : Nat := wInts c.room + wUnits c.units
def RetSz (w : World) (left : Int) (n : Nat) (e : Ending) (w' : World) : Prop := ∃ r : Int, e = .returned (.int .i64 r) ∧ Ext w w' ∧ -1 ≤ r ∧ r ≤ left ∧ (0 ≤ r → (n : Int) + r ≤ left)

theorem lSzInts (v : Value) (xs : List Int) (left : Int) (w : World) (h : XI w v xs) (h0 : 0 ≤ left) (h1 : left ≤ 2000000) :
    Calls Tryd.prog 58 #[v, .int .i64 left] w (RetSz w left (wInts xs)) := by
  obtain ⟨A, c, rfl, hc, hc', _⟩ := h
  by_cases hneg : left - (xs.length : Int) < 0
  · go_enter Tryd.func58, Tryd.ntmps58
    go_wp2
    go_ret
    exact ⟨-1, rfl, Ext.refl _, by omega, by omega, fun h => absurd h (by omega)⟩
  · have hneg' : ¬ left < (xs.length : Int) := by omega
    go_enter Tryd.func58, Tryd.ntmps58
    go_wp2
    go_ret
    exact ⟨left - (xs.length : Int), rfl, Ext.refl _, by omega, by omega, fun _ => by unfold wInts; omega⟩

theorem lSzTask (x : TaskD) (v : Value) (left : Int) (w : World) (h : XI w v x.need) (h0 : 0 ≤ left) (h1 : left ≤ 2000000) :
    Calls Tryd.prog 29 #[.agg #[.int .i64 x.id, v], .int .i64 left] w (RetSz w left (wTask x)) := by
  have h' := h
  obtain ⟨A, c, rfl, _⟩ := h
  have hX := Ext.alloc w (.cells #[.int .i64 x.id, .slice A x.need.length c] 49)
  have b1 := cell_new w #[.int .i64 x.id, .slice A x.need.length c] 49 1
  simp only [List.getElem?_toArray, List.getElem?_cons_succ, List.getElem?_cons_zero] at b1
  have HX := hid hX
  have HH := hid (XI.ext h' hX)
  clear h' hX
  go_enter Tryd.func29, Tryd.ntmps29
  go_wp2_with (go_at_call 58; refine (lSzInts _ x.need left _ HH.out h0 h1).mono ?_; rintro e w1 ⟨r, rfl, hE1, hr1, hr2, hr3⟩; have HE1 := hid (HX.out.trans hE1); have HR3 := hid hr3; clear hE1 hr3)
  · go_ret
    exact ⟨-1, rfl, HE1.out, by omega, by omega, fun h => absurd h (by omega)⟩
  · go_ret
    exact ⟨r, rfl, HE1.out, hr1, hr2, HR3.out⟩

set_option maxHeartbeats 1000000 in
theorem lSzTasks (v : Value) (xs : List TaskD) (left : Int) (w : World) (h : XT w v xs) (h0 : 0 ≤ left) (h1 : left ≤ 2000000) :
    Calls Tryd.prog 6 #[v, .int .i64 left] w (RetSz w left (wTasks xs)) := by
  obtain ⟨A, c, rfl, hc, hc', hr⟩ := h.get
  clear h
  by_cases hneg : left - (xs.length : Int) < 0
  · go_enter Tryd.func6, Tryd.ntmps6
    go_wp2
    go_ret
    exact ⟨-1, rfl, Ext.refl _, by omega, by omega, fun h => absurd h (by omega)⟩
  · have hneg' : ¬ left < (xs.length : Int) := by omega
    have hge : 0 ≤ left - (xs.length : Int) := by omega
    go_enter Tryd.func6, Tryd.ntmps6
    go_wp2
    go_loopw [1, 5] (fun s i wr => ∃ (k : Nat) (l : Int), k ≤ xs.length ∧ i = .int .i64 k ∧ s = .int .i64 l ∧ 0 ≤ l ∧ l ≤ 2000000 ∧ Hid ((xs.length : Int) + (sumN wTask (xs.take k) : Nat) + l ≤ left) ∧ Ext w wr) (fun _ i _ => xs.length - (intOf i).toNat)
    case atStart => exact ⟨0, left - (xs.length : Int), Nat.zero_le _, rfl, rfl, hge, by omega, hid (by simp [sumN]; omega), Ext.refl _⟩
    case round =>
      obtain ⟨k, l, hk, rfl, rfl, hl0, hl1, H, hE⟩ := hrel
      by_cases hlt : k < xs.length
      · obtain ⟨b1, o1, x1, An, cn, rfl, e1, c1, c2, hn⟩ := hr k hlt
        have i1 : (k : Int) < (xs.length : Int) := by omega
        have c1r := hE.cell c1
        have c2r := hE.cell c2
        have HN := hid (XI.ext hn hE)
        have HS := hid (sumN_take wTask e1.out)
        clear c1 c2 hn
        go_wp2_with (go_at_call 29; refine (lSzTask x1 _ l _ HN.out hl0 hl1).mono ?_; rintro e w2 ⟨r, rfl, hE2, hr1, hr2, hr3⟩; have HE2 := hid (hE.trans hE2); have HR3 := hid hr3; clear hE2 hr3)
        · go_ret
          exact ⟨-1, rfl, HE2.out, by omega, by omega, fun h => absurd h (by omega)⟩
        · have hr : 0 ≤ r := by omega
          go_roundw
          case rel => exact ⟨k + 1, r, by omega, by go_num, rfl, hr, by omega, hid (by
            have a1 := HR3.out hr
            have a2 := H.out
            rw [HS.out]
            omega), HE2.out⟩
          case measure => simp [intOf]; omega
      · go_wp2
        go_ret
        have hk' : k = xs.length := by omega
        subst hk'
        have a2 := H.out
        rw [List.take_length] at a2
        exact ⟨l, rfl, hE, by omega, by omega, fun _ => by unfold wTasks; omega⟩

/-- what a bounded cluster is good for -/
theorem wClus_bd {C : ClusD} {M : Nat} (h : wClus C ≤ M) : C.room.length ≤ M ∧ C.units.length ≤ M ∧ (C.units.map (·.tasks)).flatten.length ≤ M ∧ ∀ u ∈ C.units, u.tasks.length ≤ M ∧ ∀ t ∈ u.tasks, t.need.length ≤ M := by
  unfold wClus wUnits wInts at h
  refine ⟨by omega, by omega, ?_, fun u hu => ?_⟩
  · have h1 : (C.units.map (·.tasks)).flatten.length = sumN (fun u => u.tasks.length) C.units := by
      rw [List.length_flatten, List.map_map]
      rfl
    have h2 : sumN (fun u => u.tasks.length) C.units ≤ sumN wUnit C.units := sumN_le _ (fun u _ => by unfold wUnit wTasks; omega)
    omega
  · have h1 := sumN_mem wUnit hu
    have e1 : wUnit u = u.tasks.length + sumN wTask u.tasks := rfl
    refine ⟨by omega, fun t ht => ?_⟩
    have h2 := sumN_mem wTask ht
    have e2 : wTask t = t.need.length := rfl
    omega

end Go.Proofs.YtllchacophapoaaDoor

/- The laws' tests for equal values, where they are equal. -/
namespace Go.Proofs.YtllchacophapoaaDoor
open Go.RowKit
set_option maxRecDepth 4000

theorem lEqInts (v u : Value) (xs : List Int) (w : World) (h : RI w v xs) (h' : RI w u xs) :
    Calls Tryd.prog 12 #[v, u] w (RetB w true) := by
  obtain ⟨A, c, rfl, hc, hc', hr⟩ := h.get
  obtain ⟨A', c', rfl, _, _, hr'⟩ := h'.get
  clear h h'
  go_enter Tryd.func12, Tryd.ntmps12
  go_wp2
  go_loopw [5] (fun i wr => ∃ k : Nat, k ≤ xs.length ∧ i = .int .i64 k ∧ ∃ n, wr = w.drewN n) (fun i _ => xs.length - (intOf i).toNat)
  case atStart => exact ⟨0, Nat.zero_le _, rfl, 0, rfl⟩
  case round =>
    obtain ⟨k, hk, rfl, n, rfl⟩ := hrel
    by_cases hlt : k < xs.length
    · obtain ⟨b1, o1, x1, rfl, e1, c1⟩ := hr k hlt
      obtain ⟨b2, o2, x2, rfl, e2, c2⟩ := hr' k hlt
      have hx : x2 = x1 := by have a := e1.out; rw [e2.out] at a; injection a
      subst hx
      have i1 : (k : Int) < (xs.length : Int) := by omega
      go_wp2
      go_quiet (fail)
      go_wp2
      go_roundw
      case rel => exact ⟨k + 1, by omega, by go_num, _, rfl⟩
      case measure => simp [intOf]; omega
    · go_wp2
      go_ret
      exact ⟨rfl, Ext.drewN _ _⟩

set_option maxHeartbeats 1000000 in
theorem lEqTask (x : TaskD) (v u : Value) (w : World) (h : RI w v x.need) (h' : RI w u x.need) :
    Calls Tryd.prog 37 #[.agg #[.int .i64 x.id, v], .agg #[.int .i64 x.id, u]] w (RetB w true) := by
  have k := h
  have k' := h'
  obtain ⟨A, c, rfl, _⟩ := h
  obtain ⟨A', c', rfl, _⟩ := h'
  have hX := (Ext.alloc w (.cells #[.int .i64 x.id, .slice A x.need.length c] 44)).trans (Ext.alloc _ (.cells #[.int .i64 x.id, .slice A' x.need.length c'] 44))
  have p0 := (Ext.alloc (w.alloc (.cells #[.int .i64 x.id, .slice A x.need.length c] 44)) (.cells #[.int .i64 x.id, .slice A' x.need.length c'] 44)).obj (heap_alloc_new w _)
  have p1 : ((w.alloc (.cells #[.int .i64 x.id, .slice A x.need.length c] 44)).alloc (.cells #[.int .i64 x.id, .slice A' x.need.length c'] 44)).heap[w.heap.size + 1]? = some (.cells #[.int .i64 x.id, .slice A' x.need.length c'] 44 (0, 0)) := heap_new (by simp)
  have a0 := obj_cell p0 (i := 0) rfl
  have a1 := obj_cell p0 (i := 1) rfl
  have a2 := obj_cell p1 (i := 0) rfl
  have a3 := obj_cell p1 (i := 1) rfl
  have HX := hid hX
  have H1 := hid (k.ext hX)
  have H2 := hid (k'.ext hX)
  clear k k' hX p0 p1
  go_enter Tryd.func37, Tryd.ntmps37
  go_wp2_with (go_at_call 12; refine (lEqInts _ _ x.need _ H1.out H2.out).mono ?_; rintro e w1 ⟨rfl, hE1⟩)
  go_ret
  exact ⟨rfl, HX.out.trans hE1⟩

set_option maxHeartbeats 1000000 in
theorem lEqTasks (v u : Value) (xs : List TaskD) (w : World) (h : RT w v xs) (h' : RT w u xs) :
    Calls Tryd.prog 13 #[v, u] w (RetB w true) := by
  obtain ⟨A, c, rfl, hc, hc', hr⟩ := h.get
  obtain ⟨A', c', rfl, _, _, hr'⟩ := h'.get
  clear h h'
  go_enter Tryd.func13, Tryd.ntmps13
  go_wp2
  go_loopw [5] (fun i wr => ∃ k : Nat, k ≤ xs.length ∧ i = .int .i64 k ∧ Ext w wr) (fun i _ => xs.length - (intOf i).toNat)
  case atStart => exact ⟨0, Nat.zero_le _, rfl, Ext.refl _⟩
  case round =>
    obtain ⟨k, hk, rfl, hE⟩ := hrel
    by_cases hlt : k < xs.length
    · obtain ⟨b1, o1, x1, An, cn, rfl, e1, c1, c2, hn⟩ := hr k hlt
      obtain ⟨b2, o2, x2, Am, cm, rfl, e2, d1, d2, hm⟩ := hr' k hlt
      have hx : x2 = x1 := by have a := e1.out; rw [e2.out] at a; injection a
      subst hx
      have i1 : (k : Int) < (xs.length : Int) := by omega
      have i0 : (0 : Int) ≤ (k : Int) := by omega
      have KH : Hid (∀ w', Ext wr w' → w'.cell? ⟨b1, o1 + k * 2, none⟩ = some (.int .i64 x2.id) ∧ w'.cell? ⟨b1, o1 + k * 2 + 1, none⟩ = some (.slice An x2.need.length cn) ∧ w'.cell? ⟨b2, o2 + k * 2, none⟩ = some (.int .i64 x2.id) ∧ w'.cell? ⟨b2, o2 + k * 2 + 1, none⟩ = some (.slice Am x2.need.length cm) ∧ Ext wr w') :=
        hid fun w' hw => ⟨hw.cell (hE.cell c1), hw.cell (hE.cell c2), hw.cell (hE.cell d1), hw.cell (hE.cell d2), hw⟩
      have H1 := hid (RI.ext hn hE)
      have H2 := hid (RI.ext hm hE)
      clear c1 c2 d1 d2 hn hm
      go_wp2
      go_region_held3 (fun w' => w'.cell? ⟨b1, o1 + k * 2, none⟩ = some (.int .i64 x2.id) ∧ w'.cell? ⟨b1, o1 + k * 2 + 1, none⟩ = some (.slice An x2.need.length cn) ∧ w'.cell? ⟨b2, o2 + k * 2, none⟩ = some (.int .i64 x2.id) ∧ w'.cell? ⟨b2, o2 + k * 2 + 1, none⟩ = some (.slice Am x2.need.length cm) ∧ Ext wr w')
        (first | exact KH.out _ (by assumption) | exact KH.out _ (Below.drew (Below.refl _ _)))
        ((go_at_call 37; refine (lEqTask x2 _ _ _ (RI.ext H1.out (Below.drew (Below.refl _ _))) (RI.ext H2.out (Below.drew (Below.refl _ _)))).mono ?_; rintro e w1 ⟨rfl, hE1⟩; have h01 : Ext wr w1 := Ext.trans (Below.drew (Below.refl _ _)) hE1))
      go_wp2
      go_roundw
      case rel => exact ⟨k + 1, by omega, by go_num, hE.trans h01⟩
      case measure => simp [intOf]; omega
    · go_wp2
      go_ret
      exact ⟨rfl, hE⟩

end Go.Proofs.YtllchacophapoaaDoor
