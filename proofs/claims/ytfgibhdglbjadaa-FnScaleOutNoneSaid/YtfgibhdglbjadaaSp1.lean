/- The reference's vectors and tasks: what each call returns. -/
import Derived.Test.YtfgibhdglbjadaaInfo
namespace Go.Proofs.Ytfgibhdglbjadaa
open Go.RowKit
set_option maxRecDepth 4000

theorem sIn (a l h : Int) (w : World) :
    Calls Try.prog 69 #[.int .i64 a, .int .i64 l, .int .i64 h] w fun e w' => e = .returned (.bool (inB a l h)) ∧ ∃ n, w' = w.drewN n := by
  go_enter Try.func69, Try.ntmps69
  by_cases h1 : l ≤ a <;> by_cases h2 : a ≤ h
  all_goals
    go_wp2
    go_ret
    exact ⟨by simp [inB, h1, h2], 0, rfl⟩

theorem sVecValid (v : Value) (xs : List Int) (w : World) (h : RI w v xs) :
    Calls Try.prog 104 #[v] w fun e w' => e = .returned (.bool (vecOk xs)) ∧ ∃ n, w' = w.drewN n := by
  obtain ⟨A, c, rfl, hc, hc', hr⟩ := h.get
  clear h
  go_enter Try.func104, Try.ntmps104
  go_wp2
  go_loopw [3] (fun i wr => ∃ k : Nat, k ≤ xs.length ∧ i = .int .i64 k ∧ Hid (vecTo xs k = true) ∧ ∃ n, wr = w.drewN n) (fun i _ => xs.length - (intOf i).toNat)
  case atStart => exact ⟨0, Nat.zero_le _, rfl, rfl, 0, rfl⟩
  case round =>
    obtain ⟨k, hk, rfl, H, n, rfl⟩ := hrel
    by_cases hlt : k < xs.length
    · obtain ⟨b, o, x, rfl, e, hcell⟩ := hr k hlt
      go_wp2_with (go_at_call 69; refine (sIn _ _ _ _).mono ?_; rintro e w' ⟨rfl, n1, rfl⟩)
      · have hx : inB x 0 20 = false := by simpa using (by assumption : (!inB x 0 20) = true)
        go_ret
        exact ⟨by unfold vecOk; rw [all_false_of e.out hx]; rfl, _, rfl⟩
      · have hx : inB x 0 20 = true := by simpa using (by assumption : (!inB x 0 20) = false)
        go_roundw
        case rel => exact ⟨k + 1, by omega, by go_num, by show vecTo xs (k + 1) = true; rw [vecTo_succ e.out, H.out, hx]; rfl, _, rfl⟩
        case measure => simp [intOf]; omega
    · go_wp2
      go_ret
      have hk' : k = xs.length := by omega
      subst hk'
      have H1 := H.out
      rw [vecTo_all] at H1
      exact ⟨by unfold vecOk; rw [H1, len_beq3]; rfl, _, rfl⟩

theorem sFits (va vb : Value) (a b : List Int) (w : World) (ha : RI w va a) (hb : RI w vb b) (la : a.length = 3) (lb : b.length = 3) :
    Calls Try.prog 121 #[va, vb] w fun e w' => e = .returned (.bool (fitsL a b)) ∧ ∃ n, w' = w.drewN n := by
  obtain ⟨A, c, rfl, h1, h2, h3⟩ := ha.get
  obtain ⟨A', c', rfl, h1', h2', h3'⟩ := hb.get
  have La : 3 ≤ a.length := by omega
  have Lb : 3 ≤ b.length := by omega
  clear la lb ha hb
  go_enter Try.func121, Try.ntmps121
  go_wp2
  go_loopw [5] (fun i wr => ∃ k : Nat, k ≤ 3 ∧ i = .int .i64 k ∧ Hid (fitsTo a b k = true) ∧ ∃ n, wr = w.drewN n) (fun i _ => 3 - (intOf i).toNat)
  case atStart => exact ⟨0, by omega, rfl, rfl, 0, rfl⟩
  case round =>
    obtain ⟨k, hk, rfl, H, n, rfl⟩ := hrel
    by_cases hlt : k < 3
    · obtain ⟨b1, o1, x1, rfl, e1, c1⟩ := h3 k (by omega)
      obtain ⟨b2, o2, x2, rfl, e2, c2⟩ := h3' k (by omega)
      have i1 : (k : Int) < (a.length : Int) := by omega
      have i2 : (k : Int) < (b.length : Int) := by omega
      go_wp2
      go_quiet (fail)
      go_wp2
      · go_ret
        exact ⟨ret_b (fitsL_false hlt e1.out e2.out (by assumption)).symm, _, World.drewN_drewN _ _ _⟩
      · have hx : x1 ≤ x2 := by assumption
        go_roundw
        case rel => exact ⟨k + 1, by omega, by go_num, by show fitsTo a b (k + 1) = true; rw [fitsTo_succ e1.out e2.out, H.out]; simpa using hx, _, rfl⟩
        case measure => simp [intOf]; omega
    · go_wp2
      go_ret
      have hk' : k = 3 := by omega
      subst hk'
      exact ⟨ret_b (by unfold fitsL; rw [H.out]), _, rfl⟩

theorem sVecFits (va vb : Value) (a b : List Int) (w : World) (ha : RI w va a) (hb : RI w vb b) :
    Calls Try.prog 131 #[va, vb] w fun e w' => e = .returned (.bool (vecFits a b)) ∧ ∃ n, w' = w.drewN n := by
  by_cases h1 : vecOk a = true
  · by_cases h2 : vecOk b = true
    · have H1 := vecOk_len h1
      have H2 := vecOk_len h2
      have G1 := hid H1
      have G2 := hid H2
      clear H1 H2
      go_enter Try.func131, Try.ntmps131
      go_wp2_with fail
      refine (sVecValid _ a _ (by exact ha)).mono ?_
      rintro e w' ⟨rfl, n1, rfl⟩
      go_wp2_with fail
      refine (sVecValid _ b _ (by exact hb.ext (Ext.drewN _ _))).mono ?_
      rintro e w' ⟨rfl, n2, rfl⟩
      go_wp2_with fail
      refine (sFits _ _ a b _ (by exact ha.ext (Ext.drewN _ _)) (by exact hb.ext (Ext.drewN _ _)) G1.out G2.out).mono ?_
      rintro e w' ⟨rfl, n3, rfl⟩
      go_wp2
      go_ret
      exact ⟨by simp [vecFits, h1, h2], _, rfl⟩
    · have h2 : vecOk b = false := by simpa using h2
      go_enter Try.func131, Try.ntmps131
      go_wp2_with fail
      refine (sVecValid _ a _ (by exact ha)).mono ?_
      rintro e w' ⟨rfl, n1, rfl⟩
      go_wp2_with fail
      refine (sVecValid _ b _ (by exact hb.ext (Ext.drewN _ _))).mono ?_
      rintro e w' ⟨rfl, n2, rfl⟩
      go_wp2
      go_ret
      exact ⟨by simp [vecFits, h1, h2], _, rfl⟩
  · have h1 : vecOk a = false := by simpa using h1
    go_enter Try.func131, Try.ntmps131
    go_wp2_with fail
    refine (sVecValid _ a _ (by exact ha)).mono ?_
    rintro e w' ⟨rfl, n1, rfl⟩
    go_wp2
    go_ret
    exact ⟨by simp [vecFits, h1], _, rfl⟩

set_option maxHeartbeats 400000 in
theorem sAdd (va vb : Value) (a b : List Int) (t : Int) (w : World) (ha : RI w va a) (hb : RI w vb b) (la : a.length = 3) (lb : b.length = 3)
    (ba : Bd 1000000 a) (bb : Bd 1000000 b) (bt : t = 1 ∨ t = -1) :
    Calls Try.prog 106 #[va, vb, .int .i64 t] w (RetRI w (addL a b t)) := by
  obtain ⟨A, c, rfl, h1, h2, h3⟩ := ha.get
  obtain ⟨A', c', rfl, h1', h2', h3'⟩ := hb.get
  have La : 3 ≤ a.length := by omega
  have Lb : 3 ≤ b.length := by omega
  clear la lb ha hb
  obtain ⟨i0_int, hi0_int, hz0_int, hz1_int, hz2_int⟩ := info_parts info_int
  go_enter Try.func106, Try.ntmps106
  go_wp2
  go_loopw [7, 8] (fun v i wr => ∃ k : Nat, k ≤ 3 ∧ i = .int .i64 k ∧ OI wr w.heap.size v (addTo a b t k) ∧ Ext w wr) (fun _ i _ => 3 - (intOf i).toNat)
  case atStart => exact ⟨0, by omega, rfl, Own.made _ _ (Nat.le_refl _) (by omega) rfl, Below.alloc (Below.refl _ _) (Nat.le_refl _) _⟩
  case round =>
    obtain ⟨k, hk, rfl, hO, hB⟩ := hrel
    by_cases hlt : k < 3
    · obtain ⟨b1, o1, x1, rfl, e1, c1⟩ := h3 k (by omega)
      obtain ⟨b2, o2, x2, rfl, e2, c2⟩ := h3' k (by omega)
      have i1 : (k : Int) < (a.length : Int) := by omega
      have i2 : (k : Int) < (b.length : Int) := by omega
      have c1r := hB.cell c1
      have c2r := hB.cell c2
      have HO := hid hO
      have d1 := ba.at_ e1
      have d2 := bb.at_ e2
      have w1 : IntKind.i64.wrap (t * x2) = t * x2 := by rcases bt with h | h <;> subst h <;> exact IntWalk.i64_in _ (by omega)
      have w2 : IntKind.i64.wrap (x1 + t * x2) = x1 + t * x2 := by rcases bt with h | h <;> subst h <;> exact IntWalk.i64_in _ (by omega)
      have KH : Hid (∀ w', Ext w w' → w'.cell? ⟨b1, o1 + k, none⟩ = some (.int .i64 x1) ∧ w'.cell? ⟨b2, o2 + k, none⟩ = some (.int .i64 x2) ∧ Below w.heap.size w w') := hid fun w' hw => ⟨hw.cell c1, hw.cell c2, hw⟩
      have HL := hid (addTo_len a b t k)
      have hsz : w.heap.size ≤ wr.heap.size := hB.size
      clear d1 d2 c1 c2 hO
      go_wp2
      go_region_held3 (fun w' => w'.cell? ⟨b1, o1 + k, none⟩ = some (.int .i64 x1) ∧ w'.cell? ⟨b2, o2 + k, none⟩ = some (.int .i64 x2) ∧ Below w.heap.size w w')
        (first | exact KH.out _ (by assumption) | exact KH.out _ (Below.drew (by assumption)) | exact KH.out _ (Below.alloc (by assumption) hsz _) | exact KH.out _ (Below.alloc (Below.drew (by assumption)) hsz _) | exact KH.out _ (Below.drew (Below.alloc (by assumption) hsz _)))
        ((refine step_append_sl _ (by rfl) _ _ 23 (by rfl) EI.ok EI.flat (w.heap.size) 3 EI.ne i0_int _ 1 8 Try.underlying23 hi0_int hz0_int hz1_int hz2_int rfl (by omega) _ (by rfl) _ (HO.out.ext EI.ok (Below.drew (Ext.alloc _ _))) _ (by rfl) _ (RSl.laid (cs := [.int .i64 (x1 + t * x2)]) (heap_alloc_new _ _) rfl rfl) (by rw [HL.out]; simp; omega) (by rw [HL.out]; simp; omega) ?_ ?_; (focus (first | exact Nat.le_refl _ | (simp; done) | (simp; omega) | omega)); intro v1 w1 hO1 hg1 hat1 hs1; have hb1 : Below w.heap.size w w1 := Ext.grown (Below.drew (Below.alloc hB hsz _)) hg1 (fun q hq => ((HO.out.ext EI.ok (Below.drew (Ext.alloc _ _))).lt q hq))))
      go_wp2
      go_roundw
      case rel => exact ⟨k + 1, by omega, by go_num, by rw [addTo_succ t e1.out e2.out]; exact hO1, hb1⟩
      case measure => simp [intOf]; omega
    · go_wp2
      go_ret
      have hk' : k = 3 := by omega
      subst hk'
      exact ⟨_, rfl, hO.read, hB⟩

theorem sRoom (v : Value) (xs : List Int) (w : World) (h : RI w v xs) :
    Calls Try.prog 129 #[v] w fun e w' => e = .returned (.bool (roomOk xs)) ∧ ∃ n, w' = w.drewN n := by
  have h0 := h
  obtain ⟨A, c, rfl, hc, hc', hr⟩ := h.get
  clear h
  go_enter Try.func129, Try.ntmps129
  go_wp2
  go_loopw [3] (fun i wr => ∃ k : Nat, k ≤ xs.length ∧ i = .int .i64 k ∧ Hid (roomTo xs k = true) ∧ ∃ n, wr = w.drewN n) (fun i _ => xs.length - (intOf i).toNat)
  case atStart => exact ⟨0, Nat.zero_le _, rfl, rfl, 0, rfl⟩
  case round =>
    obtain ⟨k, hk, rfl, H, n, rfl⟩ := hrel
    by_cases hlt : k < xs.length
    · obtain ⟨b, o, x, rfl, e, hcell⟩ := hr k hlt
      go_wp2
      · have hx : x < 1 := by assumption
        go_ret
        exact ⟨by unfold roomOk; rw [all_false_of e.out (by simp; omega)]; rfl, _, rfl⟩
      · have hx : 1 ≤ x := by assumption
        go_roundw
        case rel => exact ⟨k + 1, by omega, by go_num, by show roomTo xs (k + 1) = true; rw [roomTo_succ e.out, H.out]; simpa using hx, _, rfl⟩
        case measure => simp [intOf]; omega
    · go_wp2_with (go_at_call 104; refine (sVecValid _ xs _ (by exact h0.ext (Ext.drewN _ _))).mono ?_; rintro e w' ⟨rfl, n1, rfl⟩)
      go_ret
      have hk' : k = xs.length := by omega
      subst hk'
      have H1 := H.out
      unfold roomTo at H1
      rw [List.take_length] at H1
      exact ⟨by unfold roomOk; rw [H1]; rfl, _, rfl⟩

end Go.Proofs.Ytfgibhdglbjadaa
