/- The program's vectors. -/
import Derived.Test.YtfgibhdglbjadaaInfo
import Derived.Test.YtfgibhdglbjadaaBase2
import Derived.Test.YtfgibhdglbjadaaReg
import Derived.Test.YtfgibhdglbjadaaMath2
namespace Go.Proofs.Ytfgibhdglbjadaa
open Go.RowKit
set_option maxRecDepth 4000

theorem iWithin (n l h : Int) (w : World) :
    Calls Try.prog 72 #[.int .i64 n, .int .i64 l, .int .i64 h] w fun e w' => e = .returned (.bool (inB n l h)) ∧ ∃ n, w' = w.drewN n := by
  go_enter Try.func72, Try.ntmps72
  by_cases h1 : l ≤ n <;> by_cases h2 : n ≤ h
  all_goals
    go_wp2
    go_ret
    exact ⟨by simp [inB, h1, h2], 0, rfl⟩

theorem iValid1 (x : Int) (w : World) :
    Calls Try.prog 153 #[.int .i64 x] w fun e w' => e = .returned (.bool (!inB x 0 20)) ∧ ∃ n, w' = w.drewN n := by
  go_enter Try.func153, Try.ntmps153
  go_wp2_with fail
  refine (iWithin _ _ _ _).mono ?_
  rintro e w' ⟨rfl, n1, rfl⟩
  go_wp2
  go_ret
  exact ⟨rfl, n1, rfl⟩

theorem iIndexV (v : Value) (xs : List Int) (w : World) (h : RI w v xs) :
    Calls Try.prog 167 #[v, .func (.func 153) #[] #[]] w fun e w' => e = .returned (.int .i64 (idxI (fun x => !inB x 0 20) xs)) ∧ ∃ n, w' = w.drewN n := by
  obtain ⟨A, c, rfl, hc, hc', hr⟩ := h.get
  clear h
  go_enter Try.func167, Try.ntmps167
  go_wp2
  go_loopw [8] (fun i wr => ∃ k : Nat, k ≤ xs.length ∧ i = .int .i64 k ∧ Hid (∀ (j : Nat) y, j < k → xs[j]? = some y → (!inB y 0 20) = false) ∧ ∃ n, wr = w.drewN n) (fun i _ => xs.length - (intOf i).toNat)
  case atStart => exact ⟨0, Nat.zero_le _, rfl, fun j y hj => absurd hj (by omega), 0, rfl⟩
  case round =>
    obtain ⟨k, hk, rfl, H, n, rfl⟩ := hrel
    by_cases hlt : k < xs.length
    · obtain ⟨b, o, x, rfl, e, hcell⟩ := hr k hlt
      go_wp2_with (go_at_call 153; refine (iValid1 _ _).mono ?_; rintro e w' ⟨rfl, n1, rfl⟩)
      · have hx : (!inB x 0 20) = true := by assumption
        go_ret
        exact ⟨ret_i (idxI_hit (p := fun x => !inB x 0 20) e.out hx H.out).symm, _, by first | rfl | exact World.drewN_drewN _ _ _⟩
      · have hx : (!inB x 0 20) = false := by assumption
        go_roundw
        case rel => exact ⟨k + 1, by omega, by go_num, idx_more (p := fun x => !inB x 0 20) e.out hx H.out, _, by first | rfl | exact World.drewN_drewN _ _ _⟩
        case measure => simp [intOf]; omega
    · go_wp2
      go_ret
      have hk' : k = xs.length := by omega
      subst hk'
      exact ⟨ret_i (idxI_miss (p := fun x => !inB x 0 20) fun j y hj => H.out j y (List.getElem?_eq_some_iff.1 hj).1 hj).symm, _, rfl⟩

theorem iContainsV (v : Value) (xs : List Int) (w : World) (h : RI w v xs) :
    Calls Try.prog 152 #[v, .func (.func 153) #[] #[]] w fun e w' => e = .returned (.bool (xs.any fun x => !inB x 0 20)) ∧ ∃ n, w' = w.drewN n := by
  go_enter Try.func152, Try.ntmps152
  go_wp2_with fail
  refine (iIndexV _ xs _ h).mono ?_
  rintro e w' ⟨rfl, n1, rfl⟩
  go_wp2
  go_ret
  exact ⟨ret_b (idxI_ge _ _), n1, rfl⟩

theorem iVValid (v : Value) (xs : List Int) (w : World) (h : RI w v xs) :
    Calls Try.prog 140 #[v] w fun e w' => e = .returned (.bool (vecOk xs)) ∧ ∃ n, w' = w.drewN n := by
  have h0 := h
  obtain ⟨A, c, rfl, hc, hc', _⟩ := h.get
  clear h
  have hany : (xs.any fun x => !inB x 0 20) = !(xs.all fun x => inB x 0 20) := by rw [List.all_eq_not_any_not]; simp
  have HA := hid hany
  clear hany
  by_cases hl : xs.length = 3
  · have hl' : ((xs.length : Int) == 3) = true := by rw [hl]; rfl
    have HL := hid hl
    clear hl
    go_enter Try.func140, Try.ntmps140
    go_wp2_with fail
    refine (iContainsV _ xs _ h0).mono ?_
    rintro e w' ⟨rfl, n1, rfl⟩
    go_wp2
    go_ret
    exact ⟨ret_b (by rw [HA.out]; simp [vecOk, HL.out]), n1, rfl⟩
  · have hl' : ((xs.length : Int) == 3) = false := by rw [len_beq3]; simpa using hl
    have HL := hid hl
    clear hl
    go_enter Try.func140, Try.ntmps140
    go_wp2
    go_ret
    exact ⟨ret_b (by simp [vecOk, HL.out]), 0, rfl⟩

theorem iVecValid (v : Value) (xs : List Int) (w : World) (h : RI w v xs) :
    Calls Try.prog 102 #[v] w fun e w' => e = .returned (.bool (vecOk xs)) ∧ ∃ n, w' = w.drewN n := by
  go_enter Try.func102, Try.ntmps102
  go_wp2_with fail
  refine (iVValid _ xs _ h).mono ?_
  rintro e w' ⟨rfl, n1, rfl⟩
  go_wp2
  go_ret
  exact ⟨rfl, n1, rfl⟩

theorem iBothValid (va vb : Value) (a b : List Int) (w : World) (ha : RI w va a) (hb : RI w vb b) :
    Calls Try.prog 91 #[va, vb] w fun e w' => e = .returned (.bool (vecOk a && vecOk b)) ∧ ∃ n, w' = w.drewN n := by
  by_cases h1 : vecOk a = true
  · go_enter Try.func91, Try.ntmps91
    go_wp2_with fail
    refine (iVecValid _ a _ ha).mono ?_
    rintro e w' ⟨rfl, n1, rfl⟩
    go_wp2_with fail
    refine (iVecValid _ b _ (hb.ext (Ext.drewN _ _))).mono ?_
    rintro e w' ⟨rfl, n2, rfl⟩
    go_wp2
    go_ret
    exact ⟨ret_b (by rw [h1]; rfl), _, by first | rfl | exact World.drewN_drewN _ _ _⟩
  · have h1 : vecOk a = false := by simpa using h1
    go_enter Try.func91, Try.ntmps91
    go_wp2_with fail
    refine (iVecValid _ a _ ha).mono ?_
    rintro e w' ⟨rfl, n1, rfl⟩
    go_wp2
    go_ret
    exact ⟨ret_b (by rw [h1]; rfl), n1, rfl⟩

theorem iFits (va vb : Value) (a b : List Int) (w : World) (ha : RI w va a) (hb : RI w vb b) (la : a.length = 3) (lb : b.length = 3) :
    Calls Try.prog 92 #[va, vb] w fun e w' => e = .returned (.bool (fitsL a b)) ∧ ∃ n, w' = w.drewN n := by
  obtain ⟨A, c, rfl, h1, h2, h3⟩ := ha.get
  obtain ⟨A', c', rfl, h1', h2', h3'⟩ := hb.get
  have La : 3 ≤ a.length := by omega
  have La' : a.length ≤ 3 := by omega
  have Lb : 3 ≤ b.length := by omega
  clear la lb ha hb
  go_enter Try.func92, Try.ntmps92
  go_wp2
  go_loopw [9] (fun i wr => ∃ k : Nat, k ≤ 3 ∧ i = .int .i64 k ∧ Hid (fitsTo a b k = true) ∧ ∃ n, wr = w.drewN n) (fun i _ => 3 - (intOf i).toNat)
  case atStart => exact ⟨0, by omega, rfl, rfl, 0, rfl⟩
  case round =>
    obtain ⟨k, hk, rfl, H, n, rfl⟩ := hrel
    by_cases hlt : k < 3
    · obtain ⟨b1, o1, x1, rfl, e1, c1⟩ := h3 k (by omega)
      obtain ⟨b2, o2, x2, rfl, e2, c2⟩ := h3' k (by omega)
      go_wp2
      · go_ret
        exact ⟨ret_b (fitsL_false hlt e1.out e2.out (by assumption)).symm, _, rfl⟩
      · have hx : x1 ≤ x2 := by assumption
        go_roundw
        case rel => exact ⟨k + 1, by omega, by go_num, by show fitsTo a b (k + 1) = true; rw [fitsTo_succ e1.out e2.out, H.out]; simpa using hx, _, rfl⟩
        case measure => simp [intOf]; omega
    · go_wp2
      go_ret
      have hk' : k = 3 := by omega
      subst hk'
      exact ⟨ret_b (by unfold fitsL; rw [H.out]), _, rfl⟩

theorem iVecFits (va vb : Value) (a b : List Int) (w : World) (ha : RI w va a) (hb : RI w vb b) :
    Calls Try.prog 50 #[va, vb] w fun e w' => e = .returned (.bool (vecFits a b)) ∧ ∃ n, w' = w.drewN n := by
  by_cases h1 : (vecOk a && vecOk b) = true
  · have g : vecOk a = true ∧ vecOk b = true := by simpa using h1
    have G := hid g
    clear g
    go_enter Try.func50, Try.ntmps50
    go_wp2_with fail
    refine (iBothValid _ _ a b _ ha hb).mono ?_
    rintro e w' ⟨rfl, n1, rfl⟩
    go_wp2_with fail
    refine (iFits _ _ a b _ (ha.ext (Ext.drewN _ _)) (hb.ext (Ext.drewN _ _)) (vecOk_len G.out.1) (vecOk_len G.out.2)).mono ?_
    rintro e w' ⟨rfl, n2, rfl⟩
    go_wp2
    go_ret
    exact ⟨ret_b (by unfold vecFits; rw [G.out.1, G.out.2]; rfl), _, by first | rfl | exact World.drewN_drewN _ _ _⟩
  · have h1 : (vecOk a && vecOk b) = false := by simpa using h1
    go_enter Try.func50, Try.ntmps50
    go_wp2_with fail
    refine (iBothValid _ _ a b _ ha hb).mono ?_
    rintro e w' ⟨rfl, n1, rfl⟩
    go_wp2
    go_ret
    exact ⟨ret_b (by unfold vecFits; rw [← Bool.and_assoc, h1]; rfl), n1, rfl⟩

theorem iIdValid (x : Int) (w : World) :
    Calls Try.prog 134 #[.int .i64 x] w fun e w' => e = .returned (.bool (inB x 1 40)) ∧ ∃ n, w' = w.drewN n := by
  go_enter Try.func134, Try.ntmps134
  go_wp2_with fail
  refine (iWithin _ _ _ _).mono ?_
  rintro e w' ⟨rfl, n1, rfl⟩
  go_wp2
  go_ret
  exact ⟨rfl, n1, rfl⟩

theorem hmk3 (w : World) : (Instr.makeSlice 104 (.int .i64 3) (.int .i64 3)).run Try.prog w = .ok (.slice (some ⟨w.heap.size, 0, none⟩) 3 3) (w.alloc (.cells #[.int .i64 0, .int .i64 0, .int .i64 0] 3)) := by kernel_rfl

theorem iZeros (w : World) :
    Calls Try.prog 136 #[] w fun e w' => ∃ v, e = .returned v ∧ OI w' w.heap.size v [0, 0, 0] ∧ Ext w w' := by
  have hmk := hmk3 w
  go_enter Try.func136, Try.ntmps136
  go_wp2
  go_ret
  exact ⟨_, rfl, OI.lit w [0, 0, 0] (by simp) _ (Nat.le_refl _), Ext.alloc _ _⟩

end Go.Proofs.Ytfgibhdglbjadaa
