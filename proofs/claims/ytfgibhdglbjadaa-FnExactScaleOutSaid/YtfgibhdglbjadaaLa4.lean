/- How much came in. -/
import Derived.Test.YtfgibhdglbjadaaLa3
namespace Go.Proofs.Ytfgibhdglbjadaa
open Go.RowKit
set_option maxRecDepth 4000

def sumN {α : Type} (f : α → Nat) (xs : List α) : Nat := (xs.map f).sum
theorem sumN_take {α : Type} (f : α → Nat) {xs : List α} {k : Nat} {x : α} (h : xs[k]? = some x) : sumN f (xs.take (k + 1)) = sumN f (xs.take k) + f x := by
  unfold sumN
  rw [take_snoc h]
  simp
theorem sumN_mem {α : Type} (f : α → Nat) : ∀ {xs : List α} {x : α}, x ∈ xs → f x ≤ sumN f xs
  | y :: ys, x, h => by
    rcases List.mem_cons.1 h with rfl | h
    · simp [sumN]
    · have := sumN_mem f h
      simp only [sumN, List.map_cons, List.sum_cons] at this ⊢
      omega
theorem sumN_le {α : Type} {f g : α → Nat} : ∀ (xs : List α), (∀ x ∈ xs, f x ≤ g x) → sumN f xs ≤ sumN g xs
  | [], _ => by simp [sumN]
  | y :: ys, h => by
    have h1 := h y (by simp)
    have h2 := sumN_le ys (fun x hx => h x (by simp [hx]))
    simp only [sumN, List.map_cons, List.sum_cons] at h2 ⊢
    omega
def wInts (xs : List Int) : Nat := xs.length
def wTask (t : TaskD) : Nat := wInts t.need
def wTasks (ts : List TaskD) : Nat := ts.length + sumN wTask ts
def wUnit (u : UnitD) : Nat := wTasks u.tasks
def wUnits (us : List UnitD) : Nat := us.length + sumN wUnit us
def wClus (c : ClusD) : Nat := wInts c.room + wUnits c.units
def RetSz (w : World) (left : Int) (n : Nat) (e : Ending) (w' : World) : Prop := ∃ r : Int, e = .returned (.int .i64 r) ∧ Ext w w' ∧ -1 ≤ r ∧ r ≤ left ∧ (0 ≤ r → (n : Int) + r ≤ left)

theorem lSzInts (v : Value) (xs : List Int) (left : Int) (w : World) (h : XI w v xs) (h0 : 0 ≤ left) (h1 : left ≤ 2000000) :
    Calls Try.prog 60 #[v, .int .i64 left] w (RetSz w left (wInts xs)) := by
  obtain ⟨A, c, rfl, hc, hc', _⟩ := h
  by_cases hneg : left - (xs.length : Int) < 0
  · go_enter Try.func60, Try.ntmps60
    go_wp2
    go_ret
    exact ⟨-1, rfl, Ext.refl _, by omega, by omega, fun h => absurd h (by omega)⟩
  · have hneg' : ¬ left < (xs.length : Int) := by omega
    go_enter Try.func60, Try.ntmps60
    go_wp2
    go_ret
    exact ⟨left - (xs.length : Int), rfl, Ext.refl _, by omega, by omega, fun _ => by unfold wInts; omega⟩

theorem lSzTask (x : TaskD) (v : Value) (left : Int) (w : World) (h : XI w v x.need) (h0 : 0 ≤ left) (h1 : left ≤ 2000000) :
    Calls Try.prog 154 #[.agg #[.int .i64 x.id, v], .int .i64 left] w (RetSz w left (wTask x)) := by
  have h' := h
  obtain ⟨A, c, rfl, _⟩ := h
  have hX := Ext.alloc w (.cells #[.int .i64 x.id, .slice A x.need.length c] 165)
  have b1 := cell_new w #[.int .i64 x.id, .slice A x.need.length c] 165 1
  simp only [List.getElem?_toArray, List.getElem?_cons_succ, List.getElem?_cons_zero] at b1
  have HX := hid hX
  have HH := hid (XI.ext h' hX)
  clear h' hX
  go_enter Try.func154, Try.ntmps154
  go_wp2_with (go_at_call 60; refine (lSzInts _ x.need left _ HH.out h0 h1).mono ?_; rintro e w1 ⟨r, rfl, hE1, hr1, hr2, hr3⟩; have HE1 := hid (HX.out.trans hE1); have HR3 := hid hr3; clear hE1 hr3)
  · go_ret
    exact ⟨-1, rfl, HE1.out, by omega, by omega, fun h => absurd h (by omega)⟩
  · go_ret
    exact ⟨r, rfl, HE1.out, hr1, hr2, HR3.out⟩

set_option maxHeartbeats 1000000 in
theorem lSzTasks (v : Value) (xs : List TaskD) (left : Int) (w : World) (h : XT w v xs) (h0 : 0 ≤ left) (h1 : left ≤ 2000000) :
    Calls Try.prog 141 #[v, .int .i64 left] w (RetSz w left (wTasks xs)) := by
  obtain ⟨A, c, rfl, hc, hc', hr⟩ := h.get
  clear h
  by_cases hneg : left - (xs.length : Int) < 0
  · go_enter Try.func141, Try.ntmps141
    go_wp2
    go_ret
    exact ⟨-1, rfl, Ext.refl _, by omega, by omega, fun h => absurd h (by omega)⟩
  · have hneg' : ¬ left < (xs.length : Int) := by omega
    have hge : 0 ≤ left - (xs.length : Int) := by omega
    go_enter Try.func141, Try.ntmps141
    go_wp2
    go_loopw [1, 5] (fun s i wr => ∃ (k : Nat) (l : Int), k ≤ xs.length ∧ i = .int .i64 k ∧ s = .int .i64 l ∧ 0 ≤ l ∧ l ≤ 2000000 ∧ Hid ((xs.length : Int) + (sumN wTask (xs.take k) : Nat) + l ≤ left) ∧ Ext w wr) (fun _ i _ => xs.length - (intOf i).toNat)
    case atStart => exact ⟨0, left - (xs.length : Int), Nat.zero_le _, rfl, rfl, hge, by omega, hid (by simp [sumN]; omega), Ext.refl _⟩
    case round =>
      obtain ⟨k, l, hk, rfl, rfl, hl0, hl1, H, hE⟩ := hrel
      by_cases hlt : k < xs.length
      · obtain ⟨b1, o1, x1, An, cn, rfl, e1, c1, c2, hn⟩ := hr k hlt
        have i1 : (k : Int) < (xs.length : Int) := by omega
        have c1r := hE.cell c1
        have c2r := hE.cell c2
        have HN := hid (XI.ext hn hE)
        have HS := hid (sumN_take wTask e1.out)
        clear c1 c2 hn
        go_wp2_with (go_at_call 154; refine (lSzTask x1 _ l _ HN.out hl0 hl1).mono ?_; rintro e w2 ⟨r, rfl, hE2, hr1, hr2, hr3⟩; have HE2 := hid (hE.trans hE2); have HR3 := hid hr3; clear hE2 hr3)
        · go_ret
          exact ⟨-1, rfl, HE2.out, by omega, by omega, fun h => absurd h (by omega)⟩
        · have hr : 0 ≤ r := by omega
          go_roundw
          case rel => exact ⟨k + 1, r, by omega, by go_num, rfl, hr, by omega, hid (by
            have a1 := HR3.out hr
            have a2 := H.out
            rw [HS.out]
            omega), HE2.out⟩
          case measure => simp [intOf]; omega
      · go_wp2
        go_ret
        have hk' : k = xs.length := by omega
        subst hk'
        have a2 := H.out
        rw [List.take_length] at a2
        exact ⟨l, rfl, hE, by omega, by omega, fun _ => by unfold wTasks; omega⟩

theorem lSzUnit (x : UnitD) (v : Value) (left : Int) (w : World) (h : XT w v x.tasks) (h0 : 0 ≤ left) (h1 : left ≤ 2000000) :
    Calls Try.prog 108 #[.agg #[.bool x.opened, v], .int .i64 left] w (RetSz w left (wUnit x)) := by
  have h' := h
  obtain ⟨A, c, rfl, _⟩ := h
  have hX := Ext.alloc w (.cells #[.bool x.opened, .slice A x.tasks.length c] 121)
  have b1 := cell_new w #[.bool x.opened, .slice A x.tasks.length c] 121 1
  simp only [List.getElem?_toArray, List.getElem?_cons_succ, List.getElem?_cons_zero] at b1
  have HX := hid hX
  have HH := hid (XT.ext h' hX)
  clear h' hX
  go_enter Try.func108, Try.ntmps108
  go_wp2_with (go_at_call 141; refine (lSzTasks _ x.tasks left _ HH.out h0 h1).mono ?_; rintro e w1 ⟨r, rfl, hE1, hr1, hr2, hr3⟩; have HE1 := hid (HX.out.trans hE1); have HR3 := hid hr3; clear hE1 hr3)
  · go_ret
    exact ⟨-1, rfl, HE1.out, by omega, by omega, fun h => absurd h (by omega)⟩
  · go_ret
    exact ⟨r, rfl, HE1.out, hr1, hr2, HR3.out⟩

set_option maxHeartbeats 1000000 in
theorem lSzUnits (v : Value) (xs : List UnitD) (left : Int) (w : World) (h : XU w v xs) (h0 : 0 ≤ left) (h1 : left ≤ 2000000) :
    Calls Try.prog 61 #[v, .int .i64 left] w (RetSz w left (wUnits xs)) := by
  obtain ⟨A, c, rfl, hc, hc', hr⟩ := h.get
  clear h
  by_cases hneg : left - (xs.length : Int) < 0
  · go_enter Try.func61, Try.ntmps61
    go_wp2
    go_ret
    exact ⟨-1, rfl, Ext.refl _, by omega, by omega, fun h => absurd h (by omega)⟩
  · have hneg' : ¬ left < (xs.length : Int) := by omega
    have hge : 0 ≤ left - (xs.length : Int) := by omega
    go_enter Try.func61, Try.ntmps61
    go_wp2
    go_loopw [1, 5] (fun s i wr => ∃ (k : Nat) (l : Int), k ≤ xs.length ∧ i = .int .i64 k ∧ s = .int .i64 l ∧ 0 ≤ l ∧ l ≤ 2000000 ∧ Hid ((xs.length : Int) + (sumN wUnit (xs.take k) : Nat) + l ≤ left) ∧ Ext w wr) (fun _ i _ => xs.length - (intOf i).toNat)
    case atStart => exact ⟨0, left - (xs.length : Int), Nat.zero_le _, rfl, rfl, hge, by omega, hid (by simp [sumN]; omega), Ext.refl _⟩
    case round =>
      obtain ⟨k, l, hk, rfl, rfl, hl0, hl1, H, hE⟩ := hrel
      by_cases hlt : k < xs.length
      · obtain ⟨b1, o1, x1, An, cn, rfl, e1, c1, c2, hn⟩ := hr k hlt
        have i1 : (k : Int) < (xs.length : Int) := by omega
        have c1r := hE.cell c1
        have c2r := hE.cell c2
        have HN := hid (XT.ext hn hE)
        have HS := hid (sumN_take wUnit e1.out)
        clear c1 c2 hn
        go_wp2_with (go_at_call 108; refine (lSzUnit x1 _ l _ HN.out hl0 hl1).mono ?_; rintro e w2 ⟨r, rfl, hE2, hr1, hr2, hr3⟩; have HE2 := hid (hE.trans hE2); have HR3 := hid hr3; clear hE2 hr3)
        · go_ret
          exact ⟨-1, rfl, HE2.out, by omega, by omega, fun h => absurd h (by omega)⟩
        · have hr : 0 ≤ r := by omega
          go_roundw
          case rel => exact ⟨k + 1, r, by omega, by go_num, rfl, hr, by omega, hid (by
            have a1 := HR3.out hr
            have a2 := H.out
            rw [HS.out]
            omega), HE2.out⟩
          case measure => simp [intOf]; omega
      · go_wp2
        go_ret
        have hk' : k = xs.length := by omega
        subst hk'
        have a2 := H.out
        rw [List.take_length] at a2
        exact ⟨l, rfl, hE, by omega, by omega, fun _ => by unfold wUnits; omega⟩

set_option maxHeartbeats 1000000 in
theorem lSzClus (cv : Value) (C : ClusD) (left : Int) (w : World) (h : ClusX w cv C) (h0 : 0 ≤ left) (h1 : left ≤ 2000000) :
    Calls Try.prog 21 #[cv, .int .i64 left] w (RetSz w left (wClus C)) := by
  obtain ⟨rv, uv, rfl, hrv, huv⟩ := h
  have hrv0 := hrv
  have huv0 := huv
  obtain ⟨Ar, cr, rfl, _⟩ := hrv
  obtain ⟨Au, cu, rfl, _⟩ := huv
  have hX := Ext.alloc w (.cells #[.slice Ar C.room.length cr, .slice Au C.units.length cu] 33)
  have b0 := cell_new w #[.slice Ar C.room.length cr, .slice Au C.units.length cu] 33 0
  have b1 := cell_new w #[.slice Ar C.room.length cr, .slice Au C.units.length cu] 33 1
  simp only [List.getElem?_toArray, List.getElem?_cons_succ, List.getElem?_cons_zero] at b0 b1
  have HX := hid hX
  have HR := hid (XI.ext hrv0 hX)
  have HU := hid (XU.ext huv0 hX)
  clear hrv0 huv0 hX
  go_enter Try.func21, Try.ntmps21
  go_wp2_with (go_at_call 60; refine (lSzInts _ C.room left _ HR.out h0 h1).mono ?_; rintro e w1 ⟨r, rfl, hE1, hr1, hr2, hr3⟩; have b1 := hE1.cell b1; have HE1 := hid hE1; have HR3 := hid hr3; clear hE1 hr3)
  · go_ret
    exact ⟨-1, rfl, HX.out.trans HE1.out, by omega, by omega, fun h => absurd h (by omega)⟩
  · have hr : 0 ≤ r := by omega
    go_wp2_with (go_at_call 61; refine (lSzUnits _ C.units r _ (XU.ext HU.out HE1.out) hr (by omega)).mono ?_; rintro e w2 ⟨r2, rfl, hE2, hr4, hr5, hr6⟩; have HE2 := hid hE2; have HR6 := hid hr6; clear hE2 hr6)
    · go_ret
      exact ⟨-1, rfl, (HX.out.trans HE1.out).trans HE2.out, by omega, by omega, fun h => absurd h (by omega)⟩
    · go_ret
      exact ⟨r2, rfl, (HX.out.trans HE1.out).trans HE2.out, hr4, by omega, fun h => by
        have a1 := HR3.out hr
        have a2 := HR6.out h
        unfold wClus
        omega⟩

/-- what a bounded cluster is good for -/
theorem wClus_bd {C : ClusD} {M : Nat} (h : wClus C ≤ M) : C.room.length ≤ M ∧ C.units.length ≤ M ∧ (C.units.map (·.tasks)).flatten.length ≤ M ∧ ∀ u ∈ C.units, u.tasks.length ≤ M ∧ ∀ t ∈ u.tasks, t.need.length ≤ M := by
  unfold wClus wUnits wInts at h
  refine ⟨by omega, by omega, ?_, fun u hu => ?_⟩
  · have h1 : (C.units.map (·.tasks)).flatten.length = sumN (fun u => u.tasks.length) C.units := by
      rw [List.length_flatten, List.map_map]
      rfl
    have h2 : sumN (fun u => u.tasks.length) C.units ≤ sumN wUnit C.units := sumN_le _ (fun u _ => by unfold wUnit wTasks; omega)
    omega
  · have h1 := sumN_mem wUnit hu
    have e1 : wUnit u = u.tasks.length + sumN wTask u.tasks := rfl
    refine ⟨by omega, fun t ht => ?_⟩
    have h2 := sumN_mem wTask ht
    have e2 : wTask t = t.need.length := rfl
    omega

end Go.Proofs.Ytfgibhdglbjadaa
