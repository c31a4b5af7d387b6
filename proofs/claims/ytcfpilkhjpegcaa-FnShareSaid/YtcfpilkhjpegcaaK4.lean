/- The program's vectors. -/
import Derived.Test.YtcfpilkhjpegcaaK2
import Derived.Test.YtcfpilkhjpegcaaK1
import Derived.Test.YtcfpilkhjpegcaaK3
import Derived.Lib.AppendZeros
import Derived.Maps.OwnSet
namespace Go.Proofs.Ytcfpilkhjpegcaa
open Go.RowKit
set_option maxRecDepth 4000

theorem iWithin (n l h : Int) (w : World) :
    Calls Try.prog 33 #[.int .i64 n, .int .i64 l, .int .i64 h] w fun e w' => e = .returned (.bool (inB n l h)) ∧ ∃ n, w' = w.drewN n := by
  go_enter Try.func33, Try.ntmps33
  by_cases h1 : l ≤ n <;> by_cases h2 : n ≤ h
  all_goals
    go_wp2
    go_ret
    exact ⟨by simp [inB, h1, h2], 0, rfl⟩

theorem iValid1 (x : Int) (w : World) :
    Calls Try.prog 134 #[.int .i64 x] w fun e w' => e = .returned (.bool (!inB x 0 20)) ∧ ∃ n, w' = w.drewN n := by
  go_enter Try.func134, Try.ntmps134
  go_wp2_with fail
  refine (iWithin _ _ _ _).mono ?_
  rintro e w' ⟨rfl, n1, rfl⟩
  go_wp2
  go_ret
  exact ⟨rfl, n1, rfl⟩

theorem iIndexV (v : Value) (xs : List Int) (w : World) (h : RI w v xs) :
    Calls Try.prog 135 #[v, .func (.func 134) #[] #[]] w fun e w' => e = .returned (.int .i64 (idxI (fun x => !inB x 0 20) xs)) ∧ ∃ n, w' = w.drewN n := by
  obtain ⟨A, c, rfl, hc, hc', hr⟩ := h.get
  clear h
  go_enter Try.func135, Try.ntmps135
  go_wp2
  go_loopw [8] (fun i wr => ∃ k : Nat, k ≤ xs.length ∧ i = .int .i64 k ∧ Hid (∀ (j : Nat) y, j < k → xs[j]? = some y → (!inB y 0 20) = false) ∧ ∃ n, wr = w.drewN n) (fun i _ => xs.length - (intOf i).toNat)
  case atStart => exact ⟨0, Nat.zero_le _, rfl, fun j y hj => absurd hj (by omega), 0, rfl⟩
  case round =>
    obtain ⟨k, hk, rfl, H, n, rfl⟩ := hrel
    by_cases hlt : k < xs.length
    · obtain ⟨b, o, x, rfl, e, hcell⟩ := hr k hlt
      go_wp2_with (go_at_call 134; refine (iValid1 _ _).mono ?_; rintro e w' ⟨rfl, n1, rfl⟩)
      · have hx : (!inB x 0 20) = true := by assumption
        go_ret
        exact ⟨ret_i (idxI_hit (p := fun x => !inB x 0 20) e.out hx H.out).symm, _, by first | rfl | exact World.drewN_drewN _ _ _⟩
      · have hx : (!inB x 0 20) = false := by assumption
        go_roundw
        case rel => exact ⟨k + 1, by omega, by go_num, idx_more (p := fun x => !inB x 0 20) e.out hx H.out, _, by first | rfl | exact World.drewN_drewN _ _ _⟩
        case measure => simp [intOf]; omega
    · go_wp2
      go_ret
      have hk' : k = xs.length := by omega
      subst hk'
      exact ⟨ret_i (idxI_miss (p := fun x => !inB x 0 20) fun j y hj => H.out j y (List.getElem?_eq_some_iff.1 hj).1 hj).symm, _, rfl⟩

theorem iContainsV (v : Value) (xs : List Int) (w : World) (h : RI w v xs) :
    Calls Try.prog 133 #[v, .func (.func 134) #[] #[]] w fun e w' => e = .returned (.bool (xs.any fun x => !inB x 0 20)) ∧ ∃ n, w' = w.drewN n := by
  go_enter Try.func133, Try.ntmps133
  go_wp2_with fail
  refine (iIndexV _ xs _ h).mono ?_
  rintro e w' ⟨rfl, n1, rfl⟩
  go_wp2
  go_ret
  exact ⟨ret_b (idxI_ge _ _), n1, rfl⟩

theorem iVValid (v : Value) (xs : List Int) (w : World) (h : RI w v xs) :
    Calls Try.prog 131 #[v] w fun e w' => e = .returned (.bool (vecOk xs)) ∧ ∃ n, w' = w.drewN n := by
  have h0 := h
  obtain ⟨A, c, rfl, hc, hc', _⟩ := h.get
  clear h
  have hany : (xs.any fun x => !inB x 0 20) = !(xs.all fun x => inB x 0 20) := by rw [List.all_eq_not_any_not]; simp
  have HA := hid hany
  clear hany
  by_cases hl : xs.length = 3
  · have hl' : ((xs.length : Int) == 3) = true := by rw [hl]; rfl
    have HL := hid hl
    clear hl
    go_enter Try.func131, Try.ntmps131
    go_wp2_with fail
    refine (iContainsV _ xs _ h0).mono ?_
    rintro e w' ⟨rfl, n1, rfl⟩
    go_wp2
    go_ret
    exact ⟨ret_b (by rw [HA.out]; simp [vecOk, HL.out]), n1, rfl⟩
  · have hl' : ((xs.length : Int) == 3) = false := by rw [len_beq3]; simpa using hl
    have HL := hid hl
    clear hl
    go_enter Try.func131, Try.ntmps131
    go_wp2
    go_ret
    exact ⟨ret_b (by simp [vecOk, HL.out]), 0, rfl⟩

theorem iVecValid (v : Value) (xs : List Int) (w : World) (h : RI w v xs) :
    Calls Try.prog 114 #[v] w fun e w' => e = .returned (.bool (vecOk xs)) ∧ ∃ n, w' = w.drewN n := by
  go_enter Try.func114, Try.ntmps114
  go_wp2_with fail
  refine (iVValid _ xs _ h).mono ?_
  rintro e w' ⟨rfl, n1, rfl⟩
  go_wp2
  go_ret
  exact ⟨rfl, n1, rfl⟩

theorem iBothValid (va vb : Value) (a b : List Int) (w : World) (ha : RI w va a) (hb : RI w vb b) :
    Calls Try.prog 116 #[va, vb] w fun e w' => e = .returned (.bool (vecOk a && vecOk b)) ∧ ∃ n, w' = w.drewN n := by
  by_cases h1 : vecOk a = true
  · go_enter Try.func116, Try.ntmps116
    go_wp2_with fail
    refine (iVecValid _ a _ ha).mono ?_
    rintro e w' ⟨rfl, n1, rfl⟩
    go_wp2_with fail
    refine (iVecValid _ b _ (hb.ext (Ext.drewN _ _))).mono ?_
    rintro e w' ⟨rfl, n2, rfl⟩
    go_wp2
    go_ret
    exact ⟨ret_b (by rw [h1]; rfl), _, by first | rfl | exact World.drewN_drewN _ _ _⟩
  · have h1 : vecOk a = false := by simpa using h1
    go_enter Try.func116, Try.ntmps116
    go_wp2_with fail
    refine (iVecValid _ a _ ha).mono ?_
    rintro e w' ⟨rfl, n1, rfl⟩
    go_wp2
    go_ret
    exact ⟨ret_b (by rw [h1]; rfl), n1, rfl⟩

theorem iFits (va vb : Value) (a b : List Int) (w : World) (ha : RI w va a) (hb : RI w vb b) (la : a.length = 3) (lb : b.length = 3) :
    Calls Try.prog 90 #[va, vb] w fun e w' => e = .returned (.bool (fitsL a b)) ∧ ∃ n, w' = w.drewN n := by
  obtain ⟨A, c, rfl, h1, h2, h3⟩ := ha.get
  obtain ⟨A', c', rfl, h1', h2', h3'⟩ := hb.get
  have La : 3 ≤ a.length := by omega
  have La' : a.length ≤ 3 := by omega
  have Lb : 3 ≤ b.length := by omega
  clear la lb ha hb
  go_enter Try.func90, Try.ntmps90
  go_wp2
  go_loopw [9] (fun i wr => ∃ k : Nat, k ≤ 3 ∧ i = .int .i64 k ∧ Hid (fitsTo a b k = true) ∧ ∃ n, wr = w.drewN n) (fun i _ => 3 - (intOf i).toNat)
  case atStart => exact ⟨0, by omega, rfl, rfl, 0, rfl⟩
  case round =>
    obtain ⟨k, hk, rfl, H, n, rfl⟩ := hrel
    by_cases hlt : k < 3
    · obtain ⟨b1, o1, x1, rfl, e1, c1⟩ := h3 k (by omega)
      obtain ⟨b2, o2, x2, rfl, e2, c2⟩ := h3' k (by omega)
      go_wp2
      · go_ret
        exact ⟨ret_b (fitsL_false hlt e1.out e2.out (by assumption)).symm, _, rfl⟩
      · have hx : x1 ≤ x2 := by assumption
        go_roundw
        case rel => exact ⟨k + 1, by omega, by go_num, by show fitsTo a b (k + 1) = true; rw [fitsTo_succ e1.out e2.out, H.out]; simpa using hx, _, rfl⟩
        case measure => simp [intOf]; omega
    · go_wp2
      go_ret
      have hk' : k = 3 := by omega
      subst hk'
      exact ⟨ret_b (by unfold fitsL; rw [H.out]), _, rfl⟩

theorem iVecFits (va vb : Value) (a b : List Int) (w : World) (ha : RI w va a) (hb : RI w vb b) :
    Calls Try.prog 78 #[va, vb] w fun e w' => e = .returned (.bool (vecFits a b)) ∧ ∃ n, w' = w.drewN n := by
  by_cases h1 : (vecOk a && vecOk b) = true
  · have g : vecOk a = true ∧ vecOk b = true := by simpa using h1
    have G := hid g
    clear g
    go_enter Try.func78, Try.ntmps78
    go_wp2_with fail
    refine (iBothValid _ _ a b _ ha hb).mono ?_
    rintro e w' ⟨rfl, n1, rfl⟩
    go_wp2_with fail
    refine (iFits _ _ a b _ (ha.ext (Ext.drewN _ _)) (hb.ext (Ext.drewN _ _)) (vecOk_len G.out.1) (vecOk_len G.out.2)).mono ?_
    rintro e w' ⟨rfl, n2, rfl⟩
    go_wp2
    go_ret
    exact ⟨ret_b (by unfold vecFits; rw [G.out.1, G.out.2]; rfl), _, by first | rfl | exact World.drewN_drewN _ _ _⟩
  · have h1 : (vecOk a && vecOk b) = false := by simpa using h1
    go_enter Try.func78, Try.ntmps78
    go_wp2_with fail
    refine (iBothValid _ _ a b _ ha hb).mono ?_
    rintro e w' ⟨rfl, n1, rfl⟩
    go_wp2
    go_ret
    exact ⟨ret_b (by unfold vecFits; rw [← Bool.and_assoc, h1]; rfl), n1, rfl⟩

theorem iIdValid (x : Int) (w : World) :
    Calls Try.prog 77 #[.int .i64 x] w fun e w' => e = .returned (.bool (inB x 1 40)) ∧ ∃ n, w' = w.drewN n := by
  go_enter Try.func77, Try.ntmps77
  go_wp2_with fail
  refine (iWithin _ _ _ _).mono ?_
  rintro e w' ⟨rfl, n1, rfl⟩
  go_wp2
  go_ret
  exact ⟨rfl, n1, rfl⟩

theorem hmk3 (w : World) : (Instr.makeSlice 55 (.int .i64 3) (.int .i64 3)).run Try.prog w = .ok (.slice (some ⟨w.heap.size, 0, none⟩) 3 3) (w.alloc (.cells #[.int .i64 0, .int .i64 0, .int .i64 0] 3)) := by kernel_rfl

theorem iZeros (w : World) :
    Calls Try.prog 65 #[] w fun e w' => ∃ v, e = .returned v ∧ OI w' w.heap.size v [0, 0, 0] ∧ Ext w w' := by
  have hmk := hmk3 w
  go_enter Try.func65, Try.ntmps65
  go_wp2
  go_ret
  exact ⟨_, rfl, OI.lit w [0, 0, 0] (by simp) _ (Nat.le_refl _), Ext.alloc _ _⟩

end Go.Proofs.Ytcfpilkhjpegcaa

/- The program's sums of vectors, loads. -/
namespace Go.Proofs.Ytcfpilkhjpegcaa
open Go.RowKit
set_option maxRecDepth 4000

theorem zero_at (a b : List Int) (t : Int) {k : Nat} (hk : k < 3) : (addTo a b t k ++ List.replicate (3 - k) 0)[k]? = some 0 := by
  rw [List.getElem?_append_right (by rw [addTo_len]; omega), addTo_len, Nat.sub_self, List.getElem?_replicate, if_pos (by omega)]
theorem zero_set {a b : List Int} {k : Nat} (hk : k < 3) {x y : Int} (h : a[k]? = some x) (h' : b[k]? = some y) (t z : Int) (hz : z = x + t * y) :
    (addTo a b t k ++ List.replicate (3 - k) 0).set k z = addTo a b t (k + 1) ++ List.replicate (3 - (k + 1)) 0 := by
  rw [addTo_succ t h h', hz, List.append_assoc]
  rw [List.set_append_right _ _ (by rw [addTo_len]; omega), addTo_len, Nat.sub_self]
  have : 3 - k = (3 - (k + 1)) + 1 := by omega
  rw [this, List.replicate_succ]
  rfl

set_option maxHeartbeats 400000 in
theorem iPlus (va vb : Value) (a b : List Int) (w : World) (ha : RI w va a) (hb : RI w vb b) (la : a.length = 3) (lb : b.length = 3) (ba : Bd 1000000 a) (bb : Bd 1000000 b) :
    Calls Try.prog 66 #[va, vb] w fun e w' => ∃ v, e = .returned v ∧ OI w' w.heap.size v (addL a b (1)) ∧ Ext w w' := by
  obtain ⟨A, c, rfl, h1, h2, h3⟩ := ha.get
  obtain ⟨A', c', rfl, h1', h2', h3'⟩ := hb.get
  have La : 3 ≤ a.length := by omega
  have Lb : 3 ≤ b.length := by omega
  clear la lb ha hb
  have hmk := hmk3 w
  go_enter Try.func66, Try.ntmps66
  go_wp2
  go_loopw [10] (fun i wr => ∃ k : Nat, k ≤ 3 ∧ i = .int .i64 k ∧ OI wr w.heap.size (.slice (some ⟨w.heap.size, 0, none⟩) 3 3) (addTo a b (1) k ++ List.replicate (3 - k) 0) ∧ Ext w wr) (fun i _ => 3 - (intOf i).toNat)
  case atStart => exact ⟨0, by omega, rfl, OI.lit w [0, 0, 0] (by simp) _ (Nat.le_refl _), Ext.alloc _ _⟩
  case round =>
    obtain ⟨k, hk, rfl, hO, hE⟩ := hrel
    by_cases hlt : k < 3
    · obtain ⟨b1, o1, x1, rfl, e1, c1⟩ := h3 k (by omega)
      obtain ⟨b2, o2, x2, rfl, e2, c2⟩ := h3' k (by omega)
      have i1 : (k : Int) < (a.length : Int) := by omega
      have i2 : (k : Int) < (b.length : Int) := by omega
      have i3 : (k : Int) < 3 := by omega
      have d1 := ba.at_ e1
      have d2 := bb.at_ e2
      have w1 : IntKind.i64.wrap (x1 + x2) = x1 + x2 := IntWalk.i64_in _ (by omega)
      obtain ⟨c3, f3, _⟩ := hO.at_ (j := k) (x := 0) (zero_at a b (1) hlt)
      have HO := hid hO
      have KH : Hid (wr.cell? ⟨b1, o1 + k, none⟩ = some (.int .i64 x1) ∧ wr.cell? ⟨b2, o2 + k, none⟩ = some (.int .i64 x2) ∧ wr.cell? ⟨w.heap.size, k, none⟩ = some (.int .i64 0) ∧ wr.frozen? ⟨w.heap.size, k, none⟩ = false) := hid ⟨hE.cell c1, hE.cell c2, c3, f3⟩
      clear d1 d2 c1 c2 hO c3 f3
      go_wp2
      refine WG.start (fun w' => w'.cell? ⟨b1, o1 + k, none⟩ = some (.int .i64 x1) ∧ w'.cell? ⟨b2, o2 + k, none⟩ = some (.int .i64 x2) ∧ w'.cell? ⟨w.heap.size, k, none⟩ = some (.int .i64 0) ∧ w'.frozen? ⟨w.heap.size, k, none⟩ = false) [12] (by kernel_rfl) (by exact KH.out) (fun hHeld => ?_)
      (refine WG.take (i := 0) (v := ?_) rfl (by kernel_rfl) (by kernel_rfl) (by kernel_rfl) (by kernel_rfl) (fun _ _ _ h => h) (Or.inl ⟨by rfl, ?_⟩) (by assumption) ?_; rotate_left; (intro w hSw; (try dsimp only at hSw); go_split_ands; go_simp; (try with_reducible rfl)); (try simp only [Act.put, List.setIfInBounds_toArray, List.set_cons_zero, List.set_cons_succ]))
      (refine WG.take (i := 1) (v := ?_) rfl (by kernel_rfl) (by kernel_rfl) (by kernel_rfl) (by kernel_rfl) (fun _ _ _ h => h) (Or.inl ⟨by rfl, ?_⟩) (by assumption) ?_; rotate_left; (intro w hSw; (try dsimp only at hSw); go_split_ands; go_simp; (try with_reducible rfl)); (try simp only [Act.put, List.setIfInBounds_toArray, List.set_cons_zero, List.set_cons_succ]))
      (refine WG.take (i := 2) (v := ?_) rfl (by kernel_rfl) (by kernel_rfl) (by kernel_rfl) (by kernel_rfl) (fun _ _ _ h => h) (Or.inl ⟨by rfl, ?_⟩) (by assumption) ?_; rotate_left; (intro w hSw; (try dsimp only at hSw); go_split_ands; go_simp; (try with_reducible rfl)); (try simp only [Act.put, List.setIfInBounds_toArray, List.set_cons_zero, List.set_cons_succ]))
      (refine WG.take (i := 3) (v := ?_) rfl (by kernel_rfl) (by kernel_rfl) (by kernel_rfl) (by kernel_rfl) (fun _ _ _ h => h) (Or.inl ⟨by rfl, ?_⟩) (by assumption) ?_; rotate_left; (intro w hSw; (try dsimp only at hSw); go_split_ands; go_simp; (try with_reducible rfl)); (try simp only [Act.put, List.setIfInBounds_toArray, List.set_cons_zero, List.set_cons_succ]))
      (refine WG.take (i := 4) (v := ?_) rfl (by kernel_rfl) (by kernel_rfl) (by kernel_rfl) (by kernel_rfl) (fun _ _ _ h => h) (Or.inl ⟨by rfl, ?_⟩) (by assumption) ?_; rotate_left; (intro w hSw; (try dsimp only at hSw); go_split_ands; go_simp; (try with_reducible rfl)); (try simp only [Act.put, List.setIfInBounds_toArray, List.set_cons_zero, List.set_cons_succ]))
      (refine WG.take (i := 5) (v := ?_) rfl (by kernel_rfl) (by kernel_rfl) (by kernel_rfl) (by kernel_rfl) (fun _ _ _ h => h) (Or.inl ⟨by rfl, ?_⟩) (by assumption) ?_; rotate_left; (intro w hSw; (try dsimp only at hSw); go_split_ands; go_simp; (try with_reducible rfl)); (try simp only [Act.put, List.setIfInBounds_toArray, List.set_cons_zero, List.set_cons_succ]))
      (refine WG.take (i := 6) (v := ?_) rfl (by kernel_rfl) (by kernel_rfl) (by kernel_rfl) (by kernel_rfl) (fun _ _ _ h => h) (Or.inl ⟨by rfl, ?_⟩) (by assumption) ?_; rotate_left; (intro w hSw; (try dsimp only at hSw); go_split_ands; go_simp; (try with_reducible rfl)); (try simp only [Act.put, List.setIfInBounds_toArray, List.set_cons_zero, List.set_cons_succ]))
      (refine WG.take (i := 7) (v := ?_) rfl (by kernel_rfl) (by kernel_rfl) (by kernel_rfl) (by kernel_rfl) (fun _ _ _ h => h) (Or.inl ⟨by rfl, ?_⟩) (by assumption) ?_; rotate_left; (intro w hSw; (try dsimp only at hSw); go_split_ands; go_simp; (try with_reducible rfl)); (try simp only [Act.put, List.setIfInBounds_toArray, List.set_cons_zero, List.set_cons_succ]))
      (refine WG.take (i := 8) (v := ?_) rfl (by kernel_rfl) (by kernel_rfl) (by kernel_rfl) (by kernel_rfl) (fun _ _ _ h => h) (Or.inl ⟨by rfl, ?_⟩) (by assumption) ?_; rotate_left; (intro w hSw; (try dsimp only at hSw); go_split_ands; go_simp; (try with_reducible rfl)); (try simp only [Act.put, List.setIfInBounds_toArray, List.set_cons_zero, List.set_cons_succ]))
      (refine WG.take (i := 9) (v := ?_) rfl (by kernel_rfl) (by kernel_rfl) (by kernel_rfl) (by kernel_rfl) (fun _ _ _ h => h) (Or.inl ⟨by rfl, ?_⟩) (by assumption) ?_; rotate_left; (intro w hSw; (try dsimp only at hSw); go_split_ands; go_simp; (try with_reducible rfl)); (try simp only [Act.put, List.setIfInBounds_toArray, List.set_cons_zero, List.set_cons_succ]))
      (refine WG.take (i := 10) (v := ?_) rfl (by kernel_rfl) (by kernel_rfl) (by kernel_rfl) (by kernel_rfl) (fun _ _ _ h => h) (Or.inl ⟨by rfl, ?_⟩) (by assumption) ?_; rotate_left; (intro w hSw; (try dsimp only at hSw); go_split_ands; go_simp; (try with_reducible rfl)); (try simp only [Act.put, List.setIfInBounds_toArray, List.set_cons_zero, List.set_cons_succ]))
      (refine WG.take (i := 11) (v := ?_) rfl (by kernel_rfl) (by kernel_rfl) (by kernel_rfl) (by kernel_rfl) (fun _ _ _ h => h) (Or.inl ⟨by rfl, ?_⟩) (by assumption) ?_; rotate_left; (intro w hSw; (try dsimp only at hSw); go_split_ands; go_simp; (try with_reducible rfl)); (try simp only [Act.put, List.setIfInBounds_toArray, List.set_cons_zero, List.set_cons_succ]))
      obtain ⟨_, _, c3, f3⟩ := KH.out
      have c3' : wr.drew.cell? ⟨w.heap.size, k, none⟩ = some (.int .i64 0) := c3
      have f3' : wr.drew.frozen? ⟨w.heap.size, k, none⟩ = false := f3
      refine WG.last (i := 12) rfl (by kernel_rfl) (by kernel_rfl) (fun K hK => ?_)
      go_simp
      refine hK.out _ _ ?_
      clear hK K
      (try simp only [Act.put, List.setIfInBounds_toArray, List.set_cons_zero, List.set_cons_succ])
      refine WG.done (by kernel_rfl) ?_
      go_wp2
      go_roundw
      case rel =>
        have hs := (OI.set (HO.out.ext EI.ok (Below.drew (Below.refl _ _))) (j := k) (by rw [List.length_append, addTo_len, List.length_replicate]; omega) (x1 + x2)).1
        rw [zero_set hlt e1.out e2.out (1) (x1 + x2) (by omega)] at hs
        exact ⟨k + 1, by omega, by go_num, hs, Below.setCell (Below.drew hE) (Nat.le_refl _) _⟩
      case measure => simp [intOf]; omega
    · go_wp2
      go_ret
      have hk' : k = 3 := by omega
      subst hk'
      exact ⟨_, rfl, by simpa [addL] using hO, hE⟩

set_option maxHeartbeats 400000 in
theorem iMinus (va vb : Value) (a b : List Int) (w : World) (ha : RI w va a) (hb : RI w vb b) (la : a.length = 3) (lb : b.length = 3) (ba : Bd 1000000 a) (bb : Bd 1000000 b) :
    Calls Try.prog 81 #[va, vb] w fun e w' => ∃ v, e = .returned v ∧ OI w' w.heap.size v (addL a b (-1)) ∧ Ext w w' := by
  obtain ⟨A, c, rfl, h1, h2, h3⟩ := ha.get
  obtain ⟨A', c', rfl, h1', h2', h3'⟩ := hb.get
  have La : 3 ≤ a.length := by omega
  have Lb : 3 ≤ b.length := by omega
  clear la lb ha hb
  have hmk := hmk3 w
  go_enter Try.func81, Try.ntmps81
  go_wp2
  go_loopw [10] (fun i wr => ∃ k : Nat, k ≤ 3 ∧ i = .int .i64 k ∧ OI wr w.heap.size (.slice (some ⟨w.heap.size, 0, none⟩) 3 3) (addTo a b (-1) k ++ List.replicate (3 - k) 0) ∧ Ext w wr) (fun i _ => 3 - (intOf i).toNat)
  case atStart => exact ⟨0, by omega, rfl, OI.lit w [0, 0, 0] (by simp) _ (Nat.le_refl _), Ext.alloc _ _⟩
  case round =>
    obtain ⟨k, hk, rfl, hO, hE⟩ := hrel
    by_cases hlt : k < 3
    · obtain ⟨b1, o1, x1, rfl, e1, c1⟩ := h3 k (by omega)
      obtain ⟨b2, o2, x2, rfl, e2, c2⟩ := h3' k (by omega)
      have i1 : (k : Int) < (a.length : Int) := by omega
      have i2 : (k : Int) < (b.length : Int) := by omega
      have i3 : (k : Int) < 3 := by omega
      have d1 := ba.at_ e1
      have d2 := bb.at_ e2
      have w1 : IntKind.i64.wrap (x1 - x2) = x1 - x2 := IntWalk.i64_in _ (by omega)
      obtain ⟨c3, f3, _⟩ := hO.at_ (j := k) (x := 0) (zero_at a b (-1) hlt)
      have HO := hid hO
      have KH : Hid (wr.cell? ⟨b1, o1 + k, none⟩ = some (.int .i64 x1) ∧ wr.cell? ⟨b2, o2 + k, none⟩ = some (.int .i64 x2) ∧ wr.cell? ⟨w.heap.size, k, none⟩ = some (.int .i64 0) ∧ wr.frozen? ⟨w.heap.size, k, none⟩ = false) := hid ⟨hE.cell c1, hE.cell c2, c3, f3⟩
      clear d1 d2 c1 c2 hO c3 f3
      go_wp2
      refine WG.start (fun w' => w'.cell? ⟨b1, o1 + k, none⟩ = some (.int .i64 x1) ∧ w'.cell? ⟨b2, o2 + k, none⟩ = some (.int .i64 x2) ∧ w'.cell? ⟨w.heap.size, k, none⟩ = some (.int .i64 0) ∧ w'.frozen? ⟨w.heap.size, k, none⟩ = false) [12] (by kernel_rfl) (by exact KH.out) (fun hHeld => ?_)
      (refine WG.take (i := 0) (v := ?_) rfl (by kernel_rfl) (by kernel_rfl) (by kernel_rfl) (by kernel_rfl) (fun _ _ _ h => h) (Or.inl ⟨by rfl, ?_⟩) (by assumption) ?_; rotate_left; (intro w hSw; (try dsimp only at hSw); go_split_ands; go_simp; (try with_reducible rfl)); (try simp only [Act.put, List.setIfInBounds_toArray, List.set_cons_zero, List.set_cons_succ]))
      (refine WG.take (i := 1) (v := ?_) rfl (by kernel_rfl) (by kernel_rfl) (by kernel_rfl) (by kernel_rfl) (fun _ _ _ h => h) (Or.inl ⟨by rfl, ?_⟩) (by assumption) ?_; rotate_left; (intro w hSw; (try dsimp only at hSw); go_split_ands; go_simp; (try with_reducible rfl)); (try simp only [Act.put, List.setIfInBounds_toArray, List.set_cons_zero, List.set_cons_succ]))
      (refine WG.take (i := 2) (v := ?_) rfl (by kernel_rfl) (by kernel_rfl) (by kernel_rfl) (by kernel_rfl) (fun _ _ _ h => h) (Or.inl ⟨by rfl, ?_⟩) (by assumption) ?_; rotate_left; (intro w hSw; (try dsimp only at hSw); go_split_ands; go_simp; (try with_reducible rfl)); (try simp only [Act.put, List.setIfInBounds_toArray, List.set_cons_zero, List.set_cons_succ]))
      (refine WG.take (i := 3) (v := ?_) rfl (by kernel_rfl) (by kernel_rfl) (by kernel_rfl) (by kernel_rfl) (fun _ _ _ h => h) (Or.inl ⟨by rfl, ?_⟩) (by assumption) ?_; rotate_left; (intro w hSw; (try dsimp only at hSw); go_split_ands; go_simp; (try with_reducible rfl)); (try simp only [Act.put, List.setIfInBounds_toArray, List.set_cons_zero, List.set_cons_succ]))
      (refine WG.take (i := 4) (v := ?_) rfl (by kernel_rfl) (by kernel_rfl) (by kernel_rfl) (by kernel_rfl) (fun _ _ _ h => h) (Or.inl ⟨by rfl, ?_⟩) (by assumption) ?_; rotate_left; (intro w hSw; (try dsimp only at hSw); go_split_ands; go_simp; (try with_reducible rfl)); (try simp only [Act.put, List.setIfInBounds_toArray, List.set_cons_zero, List.set_cons_succ]))
      (refine WG.take (i := 5) (v := ?_) rfl (by kernel_rfl) (by kernel_rfl) (by kernel_rfl) (by kernel_rfl) (fun _ _ _ h => h) (Or.inl ⟨by rfl, ?_⟩) (by assumption) ?_; rotate_left; (intro w hSw; (try dsimp only at hSw); go_split_ands; go_simp; (try with_reducible rfl)); (try simp only [Act.put, List.setIfInBounds_toArray, List.set_cons_zero, List.set_cons_succ]))
      (refine WG.take (i := 6) (v := ?_) rfl (by kernel_rfl) (by kernel_rfl) (by kernel_rfl) (by kernel_rfl) (fun _ _ _ h => h) (Or.inl ⟨by rfl, ?_⟩) (by assumption) ?_; rotate_left; (intro w hSw; (try dsimp only at hSw); go_split_ands; go_simp; (try with_reducible rfl)); (try simp only [Act.put, List.setIfInBounds_toArray, List.set_cons_zero, List.set_cons_succ]))
      (refine WG.take (i := 7) (v := ?_) rfl (by kernel_rfl) (by kernel_rfl) (by kernel_rfl) (by kernel_rfl) (fun _ _ _ h => h) (Or.inl ⟨by rfl, ?_⟩) (by assumption) ?_; rotate_left; (intro w hSw; (try dsimp only at hSw); go_split_ands; go_simp; (try with_reducible rfl)); (try simp only [Act.put, List.setIfInBounds_toArray, List.set_cons_zero, List.set_cons_succ]))
      (refine WG.take (i := 8) (v := ?_) rfl (by kernel_rfl) (by kernel_rfl) (by kernel_rfl) (by kernel_rfl) (fun _ _ _ h => h) (Or.inl ⟨by rfl, ?_⟩) (by assumption) ?_; rotate_left; (intro w hSw; (try dsimp only at hSw); go_split_ands; go_simp; (try with_reducible rfl)); (try simp only [Act.put, List.setIfInBounds_toArray, List.set_cons_zero, List.set_cons_succ]))
      (refine WG.take (i := 9) (v := ?_) rfl (by kernel_rfl) (by kernel_rfl) (by kernel_rfl) (by kernel_rfl) (fun _ _ _ h => h) (Or.inl ⟨by rfl, ?_⟩) (by assumption) ?_; rotate_left; (intro w hSw; (try dsimp only at hSw); go_split_ands; go_simp; (try with_reducible rfl)); (try simp only [Act.put, List.setIfInBounds_toArray, List.set_cons_zero, List.set_cons_succ]))
      (refine WG.take (i := 10) (v := ?_) rfl (by kernel_rfl) (by kernel_rfl) (by kernel_rfl) (by kernel_rfl) (fun _ _ _ h => h) (Or.inl ⟨by rfl, ?_⟩) (by assumption) ?_; rotate_left; (intro w hSw; (try dsimp only at hSw); go_split_ands; go_simp; (try with_reducible rfl)); (try simp only [Act.put, List.setIfInBounds_toArray, List.set_cons_zero, List.set_cons_succ]))
      (refine WG.take (i := 11) (v := ?_) rfl (by kernel_rfl) (by kernel_rfl) (by kernel_rfl) (by kernel_rfl) (fun _ _ _ h => h) (Or.inl ⟨by rfl, ?_⟩) (by assumption) ?_; rotate_left; (intro w hSw; (try dsimp only at hSw); go_split_ands; go_simp; (try with_reducible rfl)); (try simp only [Act.put, List.setIfInBounds_toArray, List.set_cons_zero, List.set_cons_succ]))
      obtain ⟨_, _, c3, f3⟩ := KH.out
      have c3' : wr.drew.cell? ⟨w.heap.size, k, none⟩ = some (.int .i64 0) := c3
      have f3' : wr.drew.frozen? ⟨w.heap.size, k, none⟩ = false := f3
      refine WG.last (i := 12) rfl (by kernel_rfl) (by kernel_rfl) (fun K hK => ?_)
      go_simp
      refine hK.out _ _ ?_
      clear hK K
      (try simp only [Act.put, List.setIfInBounds_toArray, List.set_cons_zero, List.set_cons_succ])
      refine WG.done (by kernel_rfl) ?_
      go_wp2
      go_roundw
      case rel =>
        have hs := (OI.set (HO.out.ext EI.ok (Below.drew (Below.refl _ _))) (j := k) (by rw [List.length_append, addTo_len, List.length_replicate]; omega) (x1 - x2)).1
        rw [zero_set hlt e1.out e2.out (-1) (x1 - x2) (by omega)] at hs
        exact ⟨k + 1, by omega, by go_num, hs, Below.setCell (Below.drew hE) (Nat.le_refl _) _⟩
      case measure => simp [intOf]; omega
    · go_wp2
      go_ret
      have hk' : k = 3 := by omega
      subst hk'
      exact ⟨_, rfl, by simpa [addL] using hO, hE⟩

end Go.Proofs.Ytcfpilkhjpegcaa

/- The program's rooms, needs and loads. -/
namespace Go.Proofs.Ytcfpilkhjpegcaa
open Go.RowKit
set_option maxRecDepth 4000

theorem iMin_if (t m x : Int) : decide (t ≤ if x < m then x else m) = (decide (t ≤ m) && [x].all fun x => decide (t ≤ x)) := by
  rw [Bool.eq_iff_iff]; simp; split <;> omega
theorem iMax_if (t m x : Int) : decide (t < if m < x then x else m) = (decide (t < m) || [x].any fun x => decide (t < x)) := by
  rw [Bool.eq_iff_iff]; simp; split <;> omega

theorem iMin (v : Value) (xs : List Int) (w : World) (h : RI w v xs) (h0 : 0 < xs.length) :
    Calls Try.prog 115 #[v] w fun e w' => ∃ m, e = .returned (.int .i64 m) ∧ (∀ t : Int, decide (t ≤ m) = xs.all fun x => decide (t ≤ x)) ∧ ∃ n, w' = w.drewN n := by
  obtain ⟨A, c, rfl, hc, hc', hr⟩ := h.get
  clear h
  obtain ⟨b, o, x0, rfl, e0, c0⟩ := hr 0 h0
  have i0 : (0 : Int) < (xs.length : Int) := by omega
  have c0 : w.cell? ⟨b, o, none⟩ = some (.int .i64 x0) := c0
  go_enter Try.func115, Try.ntmps115
  go_wp2
  go_loopw [3, 4] (fun s i wr => ∃ (k : Nat) (m : Int), k ≤ xs.length ∧ i = .int .i64 k ∧ s = .int .i64 m ∧ Hid (∀ t : Int, decide (t ≤ m) = (xs.take k).all fun x => decide (t ≤ x)) ∧ ∃ n, wr = w.drewN n) (fun _ i _ => xs.length - (intOf i).toNat)
  case atStart => exact ⟨1, x0, h0, rfl, rfl, hid fun t => by rw [take_snoc (k := 0) e0.out]; simp, 0, rfl⟩
  case round =>
    obtain ⟨k, m, hk, rfl, rfl, H, n, rfl⟩ := hrel
    by_cases hlt : k < xs.length
    · obtain ⟨b', o', x, hA, e, hcell⟩ := hr k hlt
      injection hA with hA
      injection hA with hA1 hA2 _
      subst hA1 hA2
      have i1 : (k : Int) < (xs.length : Int) := by omega
      go_wp2
      go_roundw
      case rel => exact ⟨k + 1, _, by omega, by go_num, rfl, hid fun t => by rw [take_snoc e.out, List.all_append, ← H.out t]; exact iMin_if t m x, _, rfl⟩
      case measure => simp [intOf]; omega
    · go_wp2
      go_ret
      have hk' : k = xs.length := by omega
      subst hk'
      exact ⟨m, rfl, fun t => by have := H.out t; rwa [List.take_length] at this, _, rfl⟩

theorem iMax (v : Value) (xs : List Int) (w : World) (h : RI w v xs) (h0 : 0 < xs.length) :
    Calls Try.prog 54 #[v] w fun e w' => ∃ m, e = .returned (.int .i64 m) ∧ (∀ t : Int, decide (t < m) = xs.any fun x => decide (t < x)) ∧ ∃ n, w' = w.drewN n := by
  obtain ⟨A, c, rfl, hc, hc', hr⟩ := h.get
  clear h
  obtain ⟨b, o, x0, rfl, e0, c0⟩ := hr 0 h0
  have i0 : (0 : Int) < (xs.length : Int) := by omega
  have c0 : w.cell? ⟨b, o, none⟩ = some (.int .i64 x0) := c0
  go_enter Try.func54, Try.ntmps54
  go_wp2
  go_loopw [3, 4] (fun s i wr => ∃ (k : Nat) (m : Int), k ≤ xs.length ∧ i = .int .i64 k ∧ s = .int .i64 m ∧ Hid (∀ t : Int, decide (t < m) = (xs.take k).any fun x => decide (t < x)) ∧ ∃ n, wr = w.drewN n) (fun _ i _ => xs.length - (intOf i).toNat)
  case atStart => exact ⟨1, x0, h0, rfl, rfl, hid fun t => by rw [take_snoc (k := 0) e0.out]; simp, 0, rfl⟩
  case round =>
    obtain ⟨k, m, hk, rfl, rfl, H, n, rfl⟩ := hrel
    by_cases hlt : k < xs.length
    · obtain ⟨b', o', x, hA, e, hcell⟩ := hr k hlt
      injection hA with hA
      injection hA with hA1 hA2 _
      subst hA1 hA2
      have i1 : (k : Int) < (xs.length : Int) := by omega
      go_wp2
      go_roundw
      case rel => exact ⟨k + 1, _, by omega, by go_num, rfl, hid fun t => by rw [take_snoc e.out, List.any_append, ← H.out t]; exact iMax_if t m x, _, rfl⟩
      case measure => simp [intOf]; omega
    · go_wp2
      go_ret
      have hk' : k = xs.length := by omega
      subst hk'
      exact ⟨m, rfl, fun t => by have := H.out t; rwa [List.take_length] at this, _, rfl⟩

theorem sum_pos {xs : List Int} (h : vecOk xs = true) : (xs.any fun x => decide (0 < x)) = decide (0 < sumL xs) := by
  have hl := vecOk_len h
  have hm := vecOk_mem h
  match xs, hl, hm with
  | [a, b, c], _, hm =>
    have h1 := hm a (by simp)
    have h2 := hm b (by simp)
    have h3 := hm c (by simp)
    rw [Bool.eq_iff_iff]
    simp [sumL]
    omega

theorem iRoomValid (v : Value) (xs : List Int) (w : World) (h : RI w v xs) :
    Calls Try.prog 76 #[v] w fun e w' => e = .returned (.bool (roomOk xs)) ∧ ∃ n, w' = w.drewN n := by
  by_cases h1 : vecOk xs = true
  · have hlen : 0 < xs.length := by have := vecOk_len h1; omega
    go_enter Try.func76, Try.ntmps76
    go_wp2_with fail
    refine (iVecValid _ xs _ h).mono ?_
    rintro e w' ⟨rfl, n1, rfl⟩
    go_wp2_with fail
    refine (iMin _ xs _ (h.ext (Ext.drewN _ _)) hlen).mono ?_
    rintro e w' ⟨m, rfl, hm, n2, rfl⟩
    go_wp2
    go_ret
    exact ⟨ret_b (by simp [roomOk, h1]), _, by first | rfl | exact World.drewN_drewN _ _ _⟩
  · have h1 : vecOk xs = false := by simpa using h1
    go_enter Try.func76, Try.ntmps76
    go_wp2_with fail
    refine (iVecValid _ xs _ h).mono ?_
    rintro e w' ⟨rfl, n1, rfl⟩
    go_wp2
    go_ret
    exact ⟨ret_b (by simp [roomOk, h1]), n1, rfl⟩

set_option maxHeartbeats 1000000 in
theorem iLoad (v : Value) (ts : List TaskD) (w : World) (h : RT w v ts) (hg : GoodTs ts) :
    Calls Try.prog 49 #[v] w fun e w' => ∃ v, e = .returned v ∧ OI w' w.heap.size v (loadL ts) ∧ Ext w w' := by
  obtain ⟨A, c, rfl, hc, hc', hr⟩ := h.get
  clear h
  have HG := hid hg
  clear hg
  go_enter Try.func49, Try.ntmps49
  go_wp2_with fail
  refine (iZeros _).mono ?_
  rintro e w1 ⟨v1, rfl, hv1, hE1⟩
  have HV1 := hid hv1
  have HE1 := hid hE1
  clear hv1 hE1
  go_wp2
  go_loopw [3, 9] (fun s i wr => ∃ k : Nat, k ≤ ts.length ∧ i = .int .i64 k ∧ OI wr w.heap.size s (loadL (ts.take k)) ∧ Ext w wr) (fun _ i _ => ts.length - (intOf i).toNat)
  case atStart => exact ⟨0, Nat.zero_le _, rfl, by rw [List.take_zero]; exact HV1.out, HE1.out⟩
  case round =>
    obtain ⟨k, hk, rfl, hO, hE⟩ := hrel
    by_cases hlt : k < ts.length
    · obtain ⟨b, o, x, An, cn, rfl, e, c1, c2, hnx⟩ := hr k hlt
      have i1 : (k : Int) < (ts.length : Int) := by omega
      have c1r := hE.cell c1
      have c2r := hE.cell c2
      have HN := hid (hnx.ext hE)
      have HO := hid hO
      have HGx := hid (HG.out.2 x (List.mem_of_getElem? e.out))
      have hbx := cell_new wr #[.int .i64 x.id, .slice An x.need.length cn] 80 1
      simp only [List.getElem?_toArray, List.getElem?_cons_succ, List.getElem?_cons_zero] at hbx
      obtain ⟨B, hB⟩ : ∃ B, B = Obj.cells #[.int .i64 x.id, .slice An x.need.length cn] 80 := ⟨_, rfl⟩
      clear c1 c2 hnx hO
      go_wp2_with fail
      rw [← hB] at *
      refine (iPlus _ _ (loadL (ts.take k)) x.need _ ((HO.out.ext EI.ok (Ext.alloc wr B)).read) (HN.out.ext (Ext.alloc wr B)) (loadL_len _) HGx.out.1 (load_bd (HG.out.take k)) (HGx.out.2.mono (by omega))).mono ?_
      rintro e2 w2 ⟨v2, rfl, hv2, hE2⟩
      have hE3 := hE.trans ((Ext.alloc wr B).trans hE2)
      go_wp2
      go_roundw
      case rel => exact ⟨k + 1, by omega, by go_num, by rw [loadL_take_succ e.out]; exact Own.low hv2 (by have := hE.size; have := (Ext.alloc wr B).size; omega), hE3⟩
      case measure => simp [intOf]; omega
    · go_wp2
      go_ret
      have hk' : k = ts.length := by omega
      subst hk'
      rw [List.take_length] at hO
      exact ⟨_, rfl, hO, hE⟩

end Go.Proofs.Ytcfpilkhjpegcaa

/- The program's joined lists. -/
namespace Go.Proofs.Ytcfpilkhjpegcaa
open Go.RowKit
set_option maxRecDepth 4000

theorem iGrow0 (n : Nat) (w : World) (hn : n ≤ 4000000) :
    Calls Try.prog 122 #[.slice none 0 0, .int .i64 n] w fun e w' => ∃ v, e = .returned v ∧ OT w' w.heap.size v [] ∧ Ext w w' := by
  by_cases h0 : 0 < n
  · obtain ⟨i0_task, hi0_task, hz0_task, hz1_task, hz2_task⟩ := info_parts info_task
    have h := Lib.run_append_nil_zeros (P := Try.prog) w 42 3 42 80 i0_task _ .i64 .i64 Try.underlying42 Try.underlying3 hi0_task hz0_task n h0 (by rw [hz1_task]; omega) (by omega) (by rw [hz2_task]; omega)
    have h1 := grownCap_ge w n 0 80
    have h2 := grownCap_le_maxLen w n 0 80 (by unfold maxLen; omega)
    unfold maxLen at h2
    obtain ⟨cap, hcap⟩ : ∃ cap, grownCap w n 0 80 = cap := ⟨_, rfl⟩
    rw [hcap] at h h1 h2
    obtain ⟨cur, hcur⟩ : ∃ cur, Builtin.zeroCells (Value.agg #[.int .i64 0, .slice none 0 0]).cells n ++ Builtin.zeroCells (Value.agg #[.int .i64 0, .slice none 0 0]).cells (cap - n) = cur := ⟨_, rfl⟩
    rw [hcur] at h
    have hsz : cur.size = cap * 2 := by rw [← hcur, Array.size_append, size_zeroCells, size_zeroCells, ← Nat.add_mul]; show (n + (cap - n)) * 2 = _; rw [Nat.add_sub_cancel' h1]
    have H := hid h
    have HS := hid hsz
    clear hi0_task hz0_task hz1_task hz2_task hcap hcur h hsz
    go_enter Try.func122, Try.ntmps122
    go_wp2_with (at_builtin; refine Lib.wpList_append_run _ rfl _ _ _ _ rfl _ _ rfl rfl _ _ H.out ?_)
    go_ret
    exact ⟨_, rfl, Own.made (w := w.drew) cur cap (Nat.le_refl _) h2 HS.out, Below.alloc (Below.drew (Below.refl _ _)) (Nat.le_refl _) _⟩
  · have h0 : n = 0 := by omega
    subst h0
    go_enter Try.func122, Try.ntmps122
    go_wp2
    go_ret
    exact ⟨_, rfl, Own.none_ _ _ _ _ _, Ext.refl _⟩

set_option maxHeartbeats 1000000 in
theorem iConcat (v : Value) (bs : List (List TaskD)) (w : World) (h : RB w v bs) (hl : bs.flatten.length ≤ 4000000) :
    Calls Try.prog 89 #[v] w fun e w' => ∃ v, e = .returned v ∧ OT w' w.heap.size v bs.flatten ∧ Ext w w' := by
  obtain ⟨A, c, rfl, hc, hc', hr⟩ := h.get
  clear h
  obtain ⟨i0_task, hi0_task, hz0_task, hz1_task, hz2_task⟩ := info_parts info_task
  have HI0 := hid hi0_task
  have HZ0 := hid hz0_task
  have HZ1 := hid hz1_task
  have HZ2 := hid hz2_task
  clear hi0_task hz0_task hz1_task hz2_task
  go_enter Try.func89, Try.ntmps89
  go_wp2
  go_loopw [3, 11] (fun s i wr => ∃ k : Nat, k ≤ bs.length ∧ i = .int .i64 k ∧ s = .int .i64 ((bs.take k).flatten.length : Nat) ∧ ∃ n, wr = w.drewN n) (fun _ i _ => bs.length - (intOf i).toNat)
  case atStart => exact ⟨0, Nat.zero_le _, rfl, rfl, 0, rfl⟩
  case round =>
    obtain ⟨k, hk, rfl, rfl, n, rfl⟩ := hrel
    by_cases hlt : k < bs.length
    · obtain ⟨b, o, x, An, cn, rfl, e, c1, hnx⟩ := hr k hlt
      have i1 : (k : Int) < (bs.length : Int) := by omega
      have hfl := flatten_take_le bs (k + 1)
      have hfs : ((bs.take (k + 1)).flatten.length : Int) = ((bs.take k).flatten.length : Int) + (x.length : Int) := by rw [flatten_take_succ e.out, List.length_append]; omega
      obtain ⟨L, hL⟩ : ∃ L : Nat, L = (bs.take k).flatten.length := ⟨_, rfl⟩
      rw [← hL] at hfs ⊢
      obtain ⟨M, hM⟩ : ∃ M : Nat, M = (bs.take (k + 1)).flatten.length := ⟨_, rfl⟩
      rw [← hM] at hfs hfl
      have HS := hid hfs
      have HM := hid hM
      have g1 : (L : Int) + (x.length : Int) ≤ 4000000 := by omega
      clear hfs hfl hL hM
      go_wp2
      go_roundw
      case rel => exact ⟨k + 1, by omega, by go_num, by rw [← HM.out, HS.out], _, rfl⟩
      case measure => simp [intOf]; omega
    · have hk' : k = bs.length := by omega
      subst hk'
      rw [List.take_length]
      clear hk hlt
      obtain ⟨L, hL⟩ : ∃ L : Nat, bs.flatten.length = L := ⟨_, rfl⟩
      rw [hL] at hl ⊢
      have HL := hid hL
      clear hL
      go_wp2_with fail
      refine (iGrow0 L _ hl).mono ?_
      rintro e w1 ⟨v1, rfl, hv1, hE1⟩
      have HV1 := hid hv1
      have HE1 := hid ((Ext.drewN w n).trans hE1)
      clear hv1 hE1
      go_wp2
      go_loopw [6, 27] (fun s i wr => ∃ (k : Nat) (ts : List TaskD), k ≤ bs.length ∧ i = .int .i64 k ∧ OT wr w.heap.size s ts ∧ Hid (ts = (bs.take k).flatten) ∧ Ext w wr) (fun _ i _ => bs.length - (intOf i).toNat)
      case atStart => exact ⟨0, [], Nat.zero_le _, rfl, Own.low HV1.out (Ext.drewN w n).size, rfl, HE1.out⟩
      case round =>
        obtain ⟨k, ts, hk, rfl, hO, HT, hE⟩ := hrel
        by_cases hlt : k < bs.length
        · obtain ⟨b, o, x, An, cn, rfl, e, c1, hnx⟩ := hr k hlt
          have i1 : (k : Int) < (bs.length : Int) := by omega
          have c1r := hE.cell c1
          have HN := hid (hnx.ext hE)
          have HO := hid hO
          have hfl := flatten_take_le bs (k + 1)
          rw [flatten_take_succ e.out, ← HT.out, List.length_append] at hfl
          have HF := hid hfl
          have hi0_task := HI0.out
          have hz0_task := HZ0.out
          have hz1_task := HZ1.out
          have hz2_task := HZ2.out
          have hsz := hE.size
          clear c1 hnx hO hfl
          go_wp2_with (at_builtin; refine wpList_append_sl _ (by rfl) _ _ 42 (by rfl) ET.ok ET.flat (w.heap.size) 80 ET.ne i0_task _ 2 32 Try.underlying42 hi0_task hz0_task hz1_task hz2_task rfl (by omega) _ (by rfl) _ (HO.out) _ (by rfl) _ (HN.out) (by have := HF.out; have := HL.out; omega) (by have := HF.out; have := HL.out; omega) ?_ ?_; (focus (first | exact Nat.le_refl _ | (simp; done) | (simp; omega) | omega)); intro v2 w2 hO2 hg2 hat2 hs2; have hE2 : Ext w w2 := Ext.grown hE hg2 HO.out.lt)
          go_roundw
          case rel => exact ⟨k + 1, _, by omega, by go_num, hO2, by show _ = (bs.take (k + 1)).flatten; rw [flatten_take_succ e.out, ← HT.out], hE2⟩
          case measure => simp [intOf]; omega
        · go_wp2
          go_ret
          have hk' : k = bs.length := by omega
          subst hk'
          have hT := HT.out
          rw [List.take_length] at hT
          subst hT
          exact ⟨_, rfl, hO, hE⟩

end Go.Proofs.Ytcfpilkhjpegcaa

/- The program's valid tasks and nodes. -/
namespace Go.Proofs.Ytcfpilkhjpegcaa
open Go.RowKit
set_option maxRecDepth 4000

/-- a map's element that is a task -/
def taskElem : Value → Option (DataW Unit × List MemPlace)
  | .agg ⟨[.int .i64 _, .slice _ _ _]⟩ => some (.agg [], [])
  | _ => none
theorem taskElem_mk (x : Int) (p : Option Addr) (n c : Nat) : taskElem (.agg #[.int .i64 x, .slice p n c]) = some (.agg [], []) := rfl
theorem taskElem_inv {v : Value} {z : DataW Unit × List MemPlace} (h : taskElem v = some z) : ∃ x p n c, v = .agg #[.int .i64 x, .slice p n c] := by
  unfold taskElem at h
  split at h
  · exact ⟨_, _, _, _, rfl⟩
  · cases h
theorem zero_task (w : World) : (zeroValue 80).run Try.prog w = .ok (.agg #[.int .i64 0, .slice none 0 0]) w := by
  obtain ⟨i0_task, hi0_task, hz0_task, hz1_task, hz2_task⟩ := info_parts info_task
  simp [zeroValue, typeInfo, hi0_task, hz0_task]
def IdR (x : Int) : Prop := -9223372036854775808 ≤ x ∧ x ≤ 9223372036854775807
theorem IdR.wf {x : Int} (h : IdR x) : (Lit.int .i64 x).wf = true := by
  have h1 := h.1
  have h2 := h.2
  simp [Lit.wf, IntKind.min, IntKind.max, IntKind.signed, IntKind.bits]
  exact ⟨h1, h2⟩

def seenD (ts : List TaskD) : DataW Unit := Maps.setOf (.agg []) (ts.map fun t => Lit.int .i64 t.id)
theorem seenD_has (ts : List TaskD) (id : Int) : Maps.has (seenD ts) (.int .i64 id) = hasId ts id := by
  unfold seenD
  rw [Maps.has_setOf _ _ _ (by intro x hx; obtain ⟨t, _, rfl⟩ := List.mem_map.1 hx; trivial), List.any_map]
  unfold hasId
  congr 1
  funext t
  simp [Lit.sameKey, Function.comp]
  rw [Bool.eq_iff_iff]; simp
theorem seenD_snoc (ts : List TaskD) (t : TaskD) : seenD (ts ++ [t]) = (seenD ts).put (.int .i64 t.id) (.agg []) := by
  unfold seenD
  rw [List.map_append]
  exact Maps.setOf_snoc _ _ _
theorem wpList_seen {P : Program} (w : World) {ops : Array Oper} {rest : List Oper} {o : Oper} {a : Act} {Q : Exit → Act → World → Prop} (hg : o.guard = none) (m x : Operand) (t : TypeId) (hop : o.op = Op.lookup t m x true)
    (k e : TypeId) (K : Maps.Keyed P k) (ht : P.underlying t = some (.map k e)) (hz : (zeroValue e).run P w = .ok (.agg #[.int .i64 0, .slice none 0 0]) w) (b n : Nat) (D : DataW Unit)
    (hm : a.eval m = .map (some b)) (hown : w.ownsMap P k taskElem b n D) (key : Value) (kl : Lit) (hx : a.eval x = key) (hkey : keyOf P k key = some kl)
    (hK : ∀ x p n c, wpList P ops Q rest (a.put o.dst (.tuple #[.agg #[.int .i64 x, .slice p n c], .bool (Maps.has D kl)])) w) :
    wpList P ops Q (o :: rest) a w :=
  wpList_lookup_own_ok w hg m x t hop k e K ht taskElem hz (.agg []) [] (taskElem_mk _ _ _ _) b n D hm hown key kl hx hkey (fun v ps hv => by
    obtain ⟨x, p, n, c, rfl⟩ := taskElem_inv hv
    exact hK x p n c)
theorem keyed_int : Maps.Keyed Try.prog 3 := Maps.int_keyed Try.underlying3

theorem ownsMap_drewN {P : Program} {k : TypeId} {R : Value → Option (DataW Unit × List MemPlace)} {w : World} {b n : Nat} {D : DataW Unit} (h : w.ownsMap P k R b n D) (m : Nat) : (w.drewN m).ownsMap P k R b n D := by
  induction m generalizing w with
  | zero => exact h
  | succ m ih => exact World.ownsMap.drew (ih h)

set_option maxHeartbeats 2000000 in
theorem iTasksValid (rv v : Value) (room : List Int) (ts : List TaskD) (w : World) (hR : RI w rv room) (h : RT w v ts) (hid' : ∀ t ∈ ts, IdR t.id) :
    Calls Try.prog 48 #[rv, v] w (RetB w (tasksOk room ts)) := by
  obtain ⟨A, c, rfl, hc, hc', hr⟩ := h.get
  clear h
  by_cases hroom : roomOk room = true
  · by_cases hlen : ts.length ≤ 14
    · go_enter Try.func48, Try.ntmps48
      go_wp2_with fail
      refine (iRoomValid _ room _ hR).mono ?_
      rintro e w' ⟨rfl, n0, rfl⟩
      have hmk := run_makeMap (P := Try.prog) 107 (w.drewN n0)
      go_wp2
      go_loopw [21] (fun i wr => ∃ k : Nat, k ≤ ts.length ∧ i = .int .i64 k ∧ Hid (wr.ownsMap Try.prog 3 taskElem (w.drewN n0).heap.size k (seenD (ts.take k)) ∧ tasksTo room ts k = true ∧ Ext w wr)) (fun i _ => ts.length - (intOf i).toNat)
      case atStart => exact ⟨0, Nat.zero_le _, rfl, hid ⟨World.ownsMap_made _ _ _ _, rfl, (Ext.drewN w n0).trans (Ext.alloc _ _)⟩⟩
      case round =>
        obtain ⟨k, hk, rfl, H⟩ := hrel
        by_cases hlt : k < ts.length
        · obtain ⟨b, o, t, An, cn, rfl, e, c1, c2, hn⟩ := hr k hlt
          have i1 : (k : Int) < (ts.length : Int) := by omega
          have c1r := H.out.2.2.cell c1
          have c2r := H.out.2.2.cell c2
          have HN := hid (hn.ext H.out.2.2)
          have HR := hid (hR.ext H.out.2.2)
          have HK := hid (Maps.keyOf_int_mk Try.underlying3 (hid' t (List.mem_of_getElem? e.out)).wf)
          have hbx := cell_new wr #[.int .i64 t.id, .slice An t.need.length cn] 80
          have hb0 := hbx 0
          have hb1 := hbx 1
          simp only [List.getElem?_toArray, List.getElem?_cons_succ, List.getElem?_cons_zero] at hb0 hb1
          obtain ⟨B, hB⟩ : ∃ B, B = Obj.cells #[.int .i64 t.id, .slice An t.need.length cn] 80 := ⟨_, rfl⟩
          have HB := hid hB
          clear c1 c2 hn hbx hB
          by_cases h2 : hasId (ts.take k) t.id = true
          · go_wp2_with (at_lookup; refine wpList_seen _ rfl _ _ _ rfl _ _ keyed_int Try.underlying107 (zero_task _) _ _ _ rfl (H.out.1.alloc _) _ _ rfl HK.out ?_; intro x0 p0 n0 c0; rw [seenD_has])
            go_ret
            exact ⟨ret_b (tasksOk_bad e.out (by simp [taskFine, h2])).symm, H.out.2.2.trans ((Ext.alloc _ _).trans (Ext.alloc _ _))⟩
          · have h2 : hasId (ts.take k) t.id = false := by simpa using h2
            go_wp2_with (at_lookup; refine wpList_seen _ rfl _ _ _ rfl _ _ keyed_int Try.underlying107 (zero_task _) _ _ _ rfl (H.out.1.alloc _) _ _ rfl HK.out ?_; intro x0 p0 n0 c0; rw [seenD_has])
            refine (iIdValid _ _).mono ?_
            rintro e1 w1 ⟨rfl, n1, rfl⟩
            by_cases h1 : inB t.id 1 40 = true
            · go_wp2_with fail
              refine (iVecFits _ _ t.need room _ (HN.out.ext ((Ext.alloc _ _).trans ((Ext.alloc _ _).trans (Ext.drewN _ _)))) (HR.out.ext ((Ext.alloc _ _).trans ((Ext.alloc _ _).trans (Ext.drewN _ _))))).mono ?_
              rintro e1 w2 ⟨rfl, n2, rfl⟩
              by_cases h3 : vecFits t.need room = true
              · have hlm : k < maxLen := by unfold maxLen; omega
                go_wp2_with (at_mapUpdate; refine wpList_mapUpdate_own _ rfl _ _ _ 107 rfl 3 80 keyed_int Try.underlying107 taskElem _ k (seenD (ts.take k)) rfl (ownsMap_drewN ((H.out.1.alloc _).alloc _) _) hlm _ _ _ rfl rfl HK.out (.agg []) [] (taskElem_mk _ _ _ _) ?_; intro w3 hown3 hg3)
                go_roundw
                case rel => exact ⟨k + 1, by omega, by go_num, hid ⟨by rw [take_snoc e.out, seenD_snoc]; exact hown3, by rw [tasksTo_succ room e.out, H.out.2.1]; simp [taskFine, h1, h2, h3], Below.grown (H.out.2.2.trans ((Ext.alloc _ _).trans ((Ext.alloc _ _).trans (Ext.drewN _ _)))) hg3 (by have := H.out.2.2.size; simp; omega) (fun q hq => by injection hq with hq; subst hq; exact (Ext.drewN w n0).size)⟩⟩
                case measure => simp [intOf]; omega
              · have h3 : vecFits t.need room = false := by simpa using h3
                go_wp2
                go_ret
                exact ⟨ret_b (tasksOk_bad e.out (by simp [taskFine, h3])).symm, H.out.2.2.trans ((Ext.alloc _ _).trans ((Ext.alloc _ _).trans (Ext.drewN _ _)))⟩
            · have h1 : inB t.id 1 40 = false := by simpa using h1
              go_wp2
              go_ret
              exact ⟨ret_b (tasksOk_bad e.out (by simp [taskFine, h1])).symm, H.out.2.2.trans ((Ext.alloc _ _).trans ((Ext.alloc _ _).trans (Ext.drewN _ _)))⟩
        · go_wp2
          go_ret
          have hk' : k = ts.length := by omega
          subst hk'
          exact ⟨ret_b (by unfold tasksOk; rw [hroom, H.out.2.1, Bool.eq_iff_iff]; simp; omega), H.out.2.2⟩
    · have hlen' : 14 < ts.length := by omega
      go_enter Try.func48, Try.ntmps48
      go_wp2_with fail
      refine (iRoomValid _ room _ hR).mono ?_
      rintro e w' ⟨rfl, n0, rfl⟩
      go_wp2
      go_ret
      exact ⟨ret_b (by simp [tasksOk]; omega), Ext.drewN _ _⟩
  · have hroom : roomOk room = false := by simpa using hroom
    go_enter Try.func48, Try.ntmps48
    go_wp2_with fail
    refine (iRoomValid _ room _ hR).mono ?_
    rintro e w' ⟨rfl, n0, rfl⟩
    go_wp2
    go_ret
    exact ⟨ret_b (by simp [tasksOk, hroom]), Ext.drewN _ _⟩

end Go.Proofs.Ytcfpilkhjpegcaa

/- The program's valid nodes and clusters. -/
namespace Go.Proofs.Ytcfpilkhjpegcaa
open Go.RowKit
set_option maxRecDepth 4000

set_option maxHeartbeats 1000000 in
theorem iBinsValid (rv v : Value) (room : List Int) (bs : List (List TaskD)) (w : World) (hR : RI w rv room) (h : RB w v bs) (hl : bs.flatten.length ≤ 4000000) (hid' : ∀ t ∈ bs.flatten, IdR t.id) :
    Calls Try.prog 61 #[rv, v] w (RetB w (binsOk room bs)) := by
  have h0 := h
  obtain ⟨A, c, rfl, hc, hc', hr⟩ := h.get
  clear h
  by_cases hlen : bs.length ≤ 14
  · by_cases htk : tasksOk room bs.flatten = true
    · go_enter Try.func61, Try.ntmps61
      go_wp2_with fail
      refine (iConcat _ bs _ h0 hl).mono ?_
      rintro e w1 ⟨v1, rfl, hv1, hE1⟩
      go_wp2_with fail
      refine (iTasksValid _ _ room bs.flatten _ (hR.ext hE1) hv1.read hid').mono ?_
      rintro e w2 ⟨rfl, hE2⟩
      have HE := hid (hE1.trans hE2)
      have HRV := hid (vecOk_len (roomOk_vec (tasksOk_room htk)))
      have HT := hid htk
      clear hv1 hE1 hE2
      go_wp2
      clear htk
      go_loopw [19] (fun i wr => ∃ k : Nat, k ≤ bs.length ∧ i = .int .i64 k ∧ Hid (binsTo room bs k = true) ∧ Ext w wr) (fun i _ => bs.length - (intOf i).toNat)
      case atStart => exact ⟨0, Nat.zero_le _, rfl, rfl, HE.out⟩
      case round =>
        obtain ⟨k, hk, rfl, H, hE⟩ := hrel
        by_cases hlt : k < bs.length
        · obtain ⟨b, o, x, An, cn, rfl, e, c1, hnx⟩ := hr k hlt
          have i1 : (k : Int) < (bs.length : Int) := by omega
          have c1r := hE.cell c1
          have HN := hid (hnx.ext hE)
          clear c1 hnx
          go_wp2_with fail
          refine (iLoad _ x _ HN.out (binsOk_tasks HT.out (List.mem_of_getElem? e.out))).mono ?_
          rintro e2 w2 ⟨v2, rfl, hv2, hE2⟩
          have hEE := hE.trans hE2
          go_wp2_with fail
          refine (iFits _ _ (loadL x) room _ hv2.read (hR.ext hEE) (loadL_len _) HRV.out).mono ?_
          rintro e2 w3 ⟨rfl, n3, rfl⟩
          by_cases hf : fitsL (loadL x) room = true
          · go_wp2
            go_roundw
            case rel => exact ⟨k + 1, by omega, by go_num, by show binsTo room bs (k + 1) = true; rw [binsTo_succ room e.out, H.out, hf]; rfl, hEE.trans (Ext.drewN _ _)⟩
            case measure => simp [intOf]; omega
          · have hf : fitsL (loadL x) room = false := by simpa using hf
            go_wp2
            go_ret
            exact ⟨ret_b (by unfold binsOk; rw [all_false_of e.out hf]; simp), hEE.trans (Ext.drewN _ _)⟩
        · go_wp2
          go_ret
          have hk' : k = bs.length := by omega
          subst hk'
          have H1 := H.out
          unfold binsTo at H1
          rw [List.take_length] at H1
          exact ⟨ret_b (by unfold binsOk; rw [HT.out, H1]; simp; omega), hE⟩
    · have htk : tasksOk room bs.flatten = false := by simpa using htk
      go_enter Try.func61, Try.ntmps61
      go_wp2_with fail
      refine (iConcat _ bs _ h0 hl).mono ?_
      rintro e w1 ⟨v1, rfl, hv1, hE1⟩
      go_wp2_with fail
      refine (iTasksValid _ _ room bs.flatten _ (hR.ext hE1) hv1.read hid').mono ?_
      rintro e w2 ⟨rfl, hE2⟩
      have HE := hid (hE1.trans hE2)
      clear hv1 hE1 hE2
      go_wp2
      go_ret
      exact ⟨ret_b (by simp [binsOk, htk]), HE.out⟩
  · have hlen' : 14 < bs.length := by omega
    go_enter Try.func61, Try.ntmps61
    go_wp2
    go_ret
    exact ⟨ret_b (by simp [binsOk]; omega), Ext.refl _⟩

set_option maxHeartbeats 1000000 in
theorem iBins (cv : Value) (C : ClusD) (w : World) (h : ClusV w cv C) (hl : C.units.length ≤ 4000000) :
    Calls Try.prog 62 #[cv] w fun e w' => ∃ v, e = .returned v ∧ OB w' w.heap.size v (C.units.map (·.tasks)) ∧ Ext w w' := by
  obtain ⟨rv, uv, rfl, hr, hu⟩ := h
  obtain ⟨A, c, rfl, hc, hc', hg⟩ := hu.get
  have hbx := cell_new w #[rv, .slice A C.units.length c] 26 1
  simp only [List.getElem?_toArray, List.getElem?_cons_succ, List.getElem?_cons_zero] at hbx
  clear hu hr
  obtain ⟨i0_bin, hi0_bin, hz0_bin, hz1_bin, hz2_bin⟩ := info_parts info_bin
  go_enter Try.func62, Try.ntmps62
  go_wp2_with (at_make; refine wpList_make_own _ rfl _ _ 61 rfl w.heap.size 42 i0_bin _ 1 Try.underlying61 hi0_bin hz0_bin hz1_bin _ _ _ C.units.length rfl rfl rfl (by rw [hz2_bin]; omega) (by unfold maxLen; omega) (by simp) ?_; intro w1 hO1 hg1; have hE1 : Ext w w1 := Below.grown (Ext.alloc _ _) hg1 (by simp) (fun k hk => by cases hk); have hbx1 := Ext.cell (Below.grown (Below.refl _ _) hg1 (Nat.le_refl _) (fun k hk => by cases hk)) hbx; have HO1 : Hid (OB w1 w.heap.size (.slice (some ⟨w.heap.size + 1, 0, none⟩) 0 C.units.length) []) := hid ⟨[], (by simpa using hO1), Cells.nil_ _ _ _⟩; have HE1 := hid hE1; clear hbx hO1 hg1 hE1)
  go_loopw [3, 13] (fun s i wr => ∃ k : Nat, k ≤ C.units.length ∧ i = .int .i64 k ∧ OB wr w.heap.size s ((C.units.take k).map (·.tasks)) ∧ Ext w wr) (fun _ i _ => C.units.length - (intOf i).toNat)
  case atStart => exact ⟨0, Nat.zero_le _, rfl, HO1.out, HE1.out⟩
  case round =>
    obtain ⟨k, hk, rfl, hv, hE⟩ := hrel
    by_cases hlt : k < C.units.length
    · obtain ⟨b, o, x, An, cn, rfl, e, c1, c2, hn⟩ := hg k hlt
      have i1 : (k : Int) < (C.units.length : Int) := by omega
      have c1r := hE.cell c1
      have c2r := hE.cell c2
      have hb := cell_new wr #[.bool x.opened, .slice An x.tasks.length cn] 44 1
      simp only [List.getElem?_toArray, List.getElem?_cons_succ, List.getElem?_cons_zero] at hb
      have hEa := (Ext.alloc wr (.cells #[.bool x.opened, .slice An x.tasks.length cn] 44)).trans (Ext.alloc _ (.cells #[.slice An x.tasks.length cn] 42))
      have HV := hid (hv.ext EB.ok hEa)
      have HN := hid (hn.ext (hE.trans hEa))
      have HEa := hid (hE.trans hEa)
      have HK := hid (List.length_take_le k C.units)
      have hsz := hE.size
      clear c1 c2 hv hn hEa
      go_wp2_with (at_builtin; refine wpList_append_sl _ (by rfl) _ _ 61 (by rfl) EB.ok EB.flat (w.heap.size) 42 EB.ne i0_bin _ 1 24 Try.underlying61 hi0_bin hz0_bin hz1_bin hz2_bin rfl (by omega) _ (by rfl) _ (HV.out) _ (by rfl) _ (RSl.laid (cs := [.slice An x.tasks.length cn]) (heap_new (H := wr.heap.size + 1) (by simp)) rfl ⟨_, rfl, HN.out⟩) (by have := HK.out; simp; omega) (by have := HK.out; simp; omega) ?_ ?_; (focus (first | exact Nat.le_refl _ | (simp; done) | (simp; omega) | omega)); intro v1 w1 hO1 hg1 hat1 hs1; have hE1 : Ext w w1 := Ext.grown HEa.out hg1 HV.out.lt)
      go_roundw
      case rel => exact ⟨k + 1, by omega, by go_num, by rw [tasks_take_succ e.out]; exact hO1, hE1⟩
      case measure => simp [intOf]; omega
    · go_wp2
      go_ret
      have hk' : k = C.units.length := by omega
      subst hk'
      rw [List.take_length] at hv
      exact ⟨_, rfl, hv, hE⟩

theorem iClus1 (op : Bool) (An : Option Addr) (ts : List TaskD) (cn : Nat) (w : World) :
    Calls Try.prog 64 #[.agg #[.bool op, .slice An ts.length cn]] w (RetB w (!op && decide (0 < ts.length))) := by
  have hb := cell_new w #[.bool op, .slice An ts.length cn] 44
  have hb0 := hb 0
  have hb1 := hb 1
  simp only [List.getElem?_toArray, List.getElem?_cons_succ, List.getElem?_cons_zero] at hb0 hb1
  clear hb
  cases op
  · go_enter Try.func64, Try.ntmps64
    go_wp2
    go_ret
    exact ⟨ret_b (by simp), Ext.alloc _ _⟩
  · go_enter Try.func64, Try.ntmps64
    go_wp2
    go_ret
    exact ⟨ret_b (by simp), Ext.alloc _ _⟩

set_option maxHeartbeats 1000000 in
theorem iIndexU (v : Value) (us : List UnitD) (w : World) (h : RU w v us) :
    Calls Try.prog 91 #[v, .func (.func 64) #[] #[]] w (RetN w (idxI (fun u => !u.opened && decide (0 < u.tasks.length)) us)) := by
  obtain ⟨A, c, rfl, hc, hc', hr⟩ := h.get
  clear h
  go_enter Try.func91, Try.ntmps91
  go_wp2
  go_loopw [8] (fun i wr => ∃ k : Nat, k ≤ us.length ∧ i = .int .i64 k ∧ Hid (∀ (j : Nat) y, j < k → us[j]? = some y → (!y.opened && decide (0 < y.tasks.length)) = false) ∧ Ext w wr) (fun i _ => us.length - (intOf i).toNat)
  case atStart => exact ⟨0, Nat.zero_le _, rfl, fun j y hj => absurd hj (by omega), Ext.refl _⟩
  case round =>
    obtain ⟨k, hk, rfl, H, hE⟩ := hrel
    by_cases hlt : k < us.length
    · obtain ⟨b, o, x, An, cn, rfl, e, c1, c2, hn⟩ := hr k hlt
      have i1 : (k : Int) < (us.length : Int) := by omega
      have c1r := hE.cell c1
      have c2r := hE.cell c2
      clear c1 c2 hn
      go_wp2_with fail
      refine (iClus1 x.opened An x.tasks cn _).mono ?_
      rintro e1 w1 ⟨rfl, hE1⟩
      by_cases hx : (!x.opened && decide (0 < x.tasks.length)) = true
      · rw [hx]
        go_wp2
        go_ret
        exact ⟨ret_i (idxI_hit (p := fun u : UnitD => !u.opened && decide (0 < u.tasks.length)) e.out hx H.out).symm, hE.trans hE1⟩
      · have hx : (!x.opened && decide (0 < x.tasks.length)) = false := by simpa using hx
        rw [hx]
        go_wp2
        go_roundw
        case rel => exact ⟨k + 1, by omega, by go_num, idx_more (p := fun u : UnitD => !u.opened && decide (0 < u.tasks.length)) e.out hx H.out, hE.trans hE1⟩
        case measure => simp [intOf]; omega
    · go_wp2
      go_ret
      have hk' : k = us.length := by omega
      subst hk'
      exact ⟨ret_i (idxI_miss (p := fun u : UnitD => !u.opened && decide (0 < u.tasks.length)) fun j y hj => H.out j y (List.getElem?_eq_some_iff.1 hj).1 hj).symm, hE⟩

theorem iContainsU (v : Value) (us : List UnitD) (w : World) (h : RU w v us) :
    Calls Try.prog 63 #[v, .func (.func 64) #[] #[]] w (RetB w (us.any fun u => !u.opened && decide (0 < u.tasks.length))) := by
  go_enter Try.func63, Try.ntmps63
  go_wp2_with fail
  refine (iIndexU _ us _ h).mono ?_
  rintro e w' ⟨rfl, hE⟩
  go_wp2
  go_ret
  exact ⟨ret_b (idxI_ge _ _), hE⟩

end Go.Proofs.Ytcfpilkhjpegcaa

/- The program's clusters. -/
namespace Go.Proofs.Ytcfpilkhjpegcaa
open Go.RowKit
set_option maxRecDepth 4000

theorem any_not_all (us : List UnitD) : (!us.any fun u => !u.opened && decide (0 < u.tasks.length)) = us.all fun u => u.opened || u.tasks.isEmpty := by
  rw [List.not_any_eq_all_not]
  congr 1
  funext u
  cases u.opened <;> cases hu : u.tasks <;> simp

set_option maxHeartbeats 1000000 in
theorem iClusterValid (cv : Value) (C : ClusD) (w : World) (h : ClusV w cv C) (hl : C.units.length ≤ 4000000) (hfl : (C.units.map (·.tasks)).flatten.length ≤ 4000000) (hid' : ∀ t ∈ (C.units.map (·.tasks)).flatten, IdR t.id) :
    Calls Try.prog 32 #[cv] w (RetB w (clusOk C)) := by
  have h00 := h
  obtain ⟨rv, uv, rfl, hr, hu⟩ := h
  have hu0 := hu
  obtain ⟨A, c, rfl, hc, hc', hg⟩ := hu.get
  have hE0 := Ext.alloc w (.cells #[rv, .slice A C.units.length c] 26)
  have hb0 := cell_new w #[rv, .slice A C.units.length c] 26 0
  have hb1 := cell_new w #[rv, .slice A C.units.length c] 26 1
  simp only [List.getElem?_toArray, List.getElem?_cons_succ, List.getElem?_cons_zero] at hb0 hb1
  have hr0 := hr
  obtain ⟨Ar, cr, rfl, _⟩ := hr
  have hr := hr0
  clear hr0
  obtain ⟨W, hW⟩ : ∃ W, W = w.alloc (.cells #[.slice Ar C.room.length cr, .slice A C.units.length c] 26) := ⟨_, rfl⟩
  have HH := hid h00
  have KH : Hid (∀ w', Ext W w' → w'.cell? ⟨w.heap.size, 0, none⟩ = some (.slice Ar C.room.length cr) ∧ w'.cell? ⟨w.heap.size, 1, none⟩ = some (.slice A C.units.length c) ∧ Ext W w') :=
    hid fun w' hw => ⟨hw.cell (by rw [hW]; exact hb0), hw.cell (by rw [hW]; exact hb1), hw⟩
  have hEW : Ext w W := by rw [hW]; exact hE0
  rw [← hW] at hb0 hb1
  have HR := hid (hr.ext hEW)
  have HU := hid (hu0.ext hEW)
  clear hu hu0 hr hE0 hg h00
  by_cases hin : inB C.units.length 1 10 = true
  · go_enter Try.func32, Try.ntmps32
    go_wp2
    rw [← hW]
    clear hW
    go_region_held3 (fun w' => w'.cell? ⟨w.heap.size, 0, none⟩ = some (.slice Ar C.room.length cr) ∧ w'.cell? ⟨w.heap.size, 1, none⟩ = some (.slice A C.units.length c) ∧ Ext W w')
      (first | exact KH.out _ (by assumption) | exact KH.out _ (Below.drew (Below.refl _ _)))
      (first
        | (go_at_call 33; refine (iWithin _ _ _ _).mono ?_; rintro e w1 ⟨rfl, n1, rfl⟩; have h01 : Ext W (W.drew.drewN n1) := Ext.trans (Below.drew (Below.refl _ _)) (Ext.drewN _ _); have h02 : Ext W (W.drewN (1 + n1)) := Ext.drewN _ _)
        | (go_at_call 62; refine (iBins _ C _ (HH.out.ext (hEW.trans (by assumption))) hl).mono ?_; rintro e w2 ⟨v2, rfl, hv2, hE2⟩; have h03 : Ext W w2 := Ext.trans (by assumption) hE2)
        | (go_at_call 61; refine (iBinsValid _ _ C.room (C.units.map (·.tasks)) _ (HR.out.ext (by assumption)) hv2.read hfl hid').mono ?_; rintro e w3 ⟨rfl, hE3⟩; have h04 : Ext W w3 := Ext.trans (by assumption) hE3))
    have hb0 := h04.cell hb0
    have hb1 := h04.cell hb1
    by_cases hbo : binsOk C.room (C.units.map (·.tasks)) = true
    · rw [hbo]
      go_wp2_with (go_at_call 63; refine (iContainsU _ C.units _ (HU.out.ext h04)).mono ?_; rintro e w5 ⟨rfl, hE5⟩)
      go_ret
      exact ⟨ret_b (by rw [any_not_all]; unfold clusOk; rw [hin, hbo]; simp), (hEW.trans h04).trans hE5⟩
    · have hbo : binsOk C.room (C.units.map (·.tasks)) = false := by simpa using hbo
      rw [hbo]
      go_wp2
      go_ret
      exact ⟨ret_b (by unfold clusOk; rw [hin, hbo]; simp), hEW.trans h04⟩
  · have hin : inB C.units.length 1 10 = false := by simpa using hin
    go_enter Try.func32, Try.ntmps32
    go_wp2
    rw [← hW]
    clear hW
    go_quiet ((go_at_call 33; exact Calls.quiet_of (iWithin _ _ _ _)))
    go_wp2
    go_ret
    exact ⟨ret_b (by unfold clusOk; rw [hin]; simp), hEW.trans (Ext.drewN _ _)⟩

end Go.Proofs.Ytcfpilkhjpegcaa

/- The program's spare room. -/
namespace Go.Proofs.Ytcfpilkhjpegcaa
open Go.RowKit
set_option maxRecDepth 4000

end Go.Proofs.Ytcfpilkhjpegcaa

/- The program's count of spare room. -/
namespace Go.Proofs.Ytcfpilkhjpegcaa
open Go.RowKit
set_option maxRecDepth 4000

end Go.Proofs.Ytcfpilkhjpegcaa
