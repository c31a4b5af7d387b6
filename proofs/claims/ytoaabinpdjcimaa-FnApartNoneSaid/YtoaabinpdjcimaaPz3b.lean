/- The law FnApartNone. (Printed by genpz.py.) -/
import Derived.Test.YtoaabinpdjcimaaK28
import Derived.Test.YtoaabinpdjcimaaK29
import Derived.Test.YtoaabinpdjcimaaK23
namespace Go.Proofs.Ytoaabinpdjcimaa
open Go.RowKit
set_option maxRecDepth 4000

set_option maxHeartbeats 8000000 in
theorem lawApartNone (v : Value) (bs : List Int) (w : World) (h : XBy w v bs) :
    Calls Try.prog 4 #[v] w (RetB w true) := by
  have HB := hid h
  obtain ⟨A, c, rfl, _⟩ := h
  by_cases h1 : bs.length ≤ 1048576
  · have i1 : ¬ (1048576 : Int) < (bs.length : Int) := by omega
    go_enter Try.func4, Try.ntmps4
    go_wp2_with (go_at_call 15; refine (dDrawApartAt _ bs _ HB.out (by omega)).mono ?_; rintro e w0 ⟨rv, nv, pv, tv, room, Bs, ps, x, rfl, hr, hb, hp, hn, hbl, hfl, hg, hpl, hgx, hE0⟩; have hr0 := hr; have hb0 := hb; have hp0 := hp; have hn0 := hn; obtain ⟨Ar, cr, rfl, _⟩ := hr; obtain ⟨Ab, cb, rfl⟩ := bin_row hb; obtain ⟨Ap, cp, rfl, _⟩ := hp; obtain ⟨An, cn, rfl, _⟩ := hn; have hX := Ext.alloc w0 (.cells #[.int .i64 x.id, .slice An x.need.length cn] 34); have HR := hid (RI.ext hr0 hX); have HN := hid (RB.ext hb0 hX); have HP := hid (RP.ext hp0 hX); have HXR := hid (RI.ext hn0 hX); have HBL := hid hbl; have HFL : Hid (Bs.flatten.length ≤ 3000000) := hid (by omega); have HGX := hid hgx; have HPL := hid hpl; have HID : Hid (∀ t ∈ Bs.flatten ++ [x], IdR t.id) := hid (fun t ht => by rcases List.mem_append.1 ht with ht | ht; exact (hg t ht).2.2; rw [List.mem_singleton.1 ht]; exact hgx.2.2); have HE0 := hid (hE0.trans hX); have X0 := hid (heap_alloc_new w0 (.cells #[.int .i64 x.id, .slice An x.need.length cn] 34)); obtain ⟨y0, y1, y0f, y1f, k1, k1f, hkk, _⟩ := box2 (heap_alloc_new w0 (.cells #[.int .i64 0, .slice none 0 0] 34)) (.int .i64 x.id) (.slice An x.need.length cn); clear hr0 hb0 hp0 hn0 hkk hbl hfl hg hgx hpl hE0 hX)
    obtain ⟨w1, hw1⟩ : ∃ w1, w1 = w0.alloc (.cells #[.int .i64 x.id, .slice An x.need.length cn] 34) := ⟨_, rfl⟩
    rw [← hw1] at HR HN HP HXR HE0 X0 ⊢
    obtain ⟨H0, hH0⟩ : ∃ H, H = w0.heap.size := ⟨_, rfl⟩
    rw [← hH0] at X0 ⊢
    clear hw1 hH0 y0 y1 y0f y1f k1 k1f
    have KB : Hid (∀ w', Ext w1 w' → w'.cell? ⟨H0, 0, none⟩ = some (.int .i64 x.id) ∧ w'.cell? ⟨H0, 1, none⟩ = some (.slice An x.need.length cn)) := hid fun w' hw => ⟨obj_cell (hw.obj X0.out) (i := 0) rfl, obj_cell (hw.obj X0.out) (i := 1) rfl⟩
    obtain ⟨q0, q1⟩ := KB.out _ (Ext.refl _)
    have HTV : Hid (TaskV w1 (.agg #[.int .i64 x.id, .slice An x.need.length cn]) x) := hid ⟨_, rfl, HXR.out⟩
    have TK0 : Hid True := hid trivial
    obtain ⟨Z, hZ⟩ : ∃ Z, Z = apartAtN room Bs ps x := ⟨_, rfl⟩
    have HZ := hid hZ
    have hzz : (Z != Z) = false := by simp
    obtain ⟨Y, hY⟩ : ∃ Y, Y = firstAtN room Bs x := ⟨_, rfl⟩
    have HY1 : Hid (apartAtN room Bs [] x = Y) := hid (by rw [hY]; exact (apartAt_none (ps := ps)).1)
    have HY2 := hid hY
    have HYY : Hid ((Y == Y) = true) := hid (by simp)
    by_cases hneg : Z < 0
    · have HNEG : Hid (decide (Z < 0) = true) := hid (decide_eq_true hneg)
      clear hneg hY hZ
      go_wp2_with (first
        | (go_at_call 16; clear TK0; refine (iApartAt _ _ _ _ room Bs ps x _ HR.out HN.out HP.out HTV.out HFL.out HID.out).mono ?_; rw [← HZ.out]; rintro e w2 ⟨rfl, hE2⟩; obtain ⟨q0, q1⟩ := KB.out _ hE2; have HE2 := hid hE2; clear hE2; have TK1 : Hid True := hid trivial)
        | (go_at_call 17; clear TK1; refine (sApartAt _ _ _ _ room Bs ps x _ (RI.ext HR.out HE2.out) (RB.ext HN.out HE2.out) (RP.ext HP.out HE2.out) (HTV.out.ext HE2.out) HFL.out).mono ?_; rw [← HZ.out]; rintro e w3 ⟨rfl, hE3⟩; have HE23 := hid hE3; have HE3 := hid (HE2.out.trans hE3); clear hE3; have TK2 : Hid True := hid trivial))
      have HDr := hid (HE3.out.trans (Below.drew (Below.refl _ _)))
      refine WG.start (fun w' => w'.cell? ⟨H0, 0, none⟩ = some (.int .i64 x.id) ∧ w'.cell? ⟨H0, 1, none⟩ = some (.slice An x.need.length cn)) [21] (by kernel_rfl) (by exact KB.out _ HDr.out) (fun hHeld => ?_)
      obtain ⟨pz, hpz⟩ : ∃ x, x = w3.drew := ⟨_, rfl⟩
      rw [← hpz] at hHeld HDr ⊢
      clear hpz
      (refine WG.take (i := 0) (v := ?_) rfl (by kernel_rfl) (by kernel_rfl) (by kernel_rfl) (by kernel_rfl) (fun _ _ _ h => h) (Or.inl ⟨by rfl, ?_⟩) (by assumption) ?_; rotate_left; (intro w hSw; (try dsimp only at hSw); go_split_ands; go_simp; (try with_reducible rfl)); (try simp only [Act.put, List.setIfInBounds_toArray, List.set_cons_zero, List.set_cons_succ]))
      (refine WG.take (i := 1) (v := ?_) rfl (by kernel_rfl) (by kernel_rfl) (by kernel_rfl) (by kernel_rfl) (fun _ _ _ h => h) (Or.inl ⟨by rfl, ?_⟩) (by assumption) ?_; rotate_left; (intro w hSw; (try dsimp only at hSw); go_split_ands; go_simp; (try with_reducible rfl)); (try simp only [Act.put, List.setIfInBounds_toArray, List.set_cons_zero, List.set_cons_succ]))
      (refine WG.take (i := 3) (v := ?_) rfl (by kernel_rfl) (by kernel_rfl) (by kernel_rfl) (by kernel_rfl) (fun _ _ _ h => h) (Or.inl ⟨by rfl, ?_⟩) (by assumption) ?_; rotate_left; (intro w hSw; (try dsimp only at hSw); go_split_ands; go_simp; (try with_reducible rfl)); (try simp only [Act.put, List.setIfInBounds_toArray, List.set_cons_zero, List.set_cons_succ]))
      (refine WG.take (i := 5) (v := ?_) rfl (by kernel_rfl) (by kernel_rfl) (by kernel_rfl) (by kernel_rfl) (fun _ _ _ h => h) (Or.inl ⟨by rfl, ?_⟩) (by assumption) ?_; rotate_left; (intro w hSw; (try dsimp only at hSw); go_split_ands; go_simp; (try with_reducible rfl)); (try simp only [Act.put, List.setIfInBounds_toArray, List.set_cons_zero, List.set_cons_succ]))
      (refine WG.take (i := 6) (v := ?_) rfl (by kernel_rfl) (by kernel_rfl) (by kernel_rfl) (by kernel_rfl) (fun _ _ _ h => h) (Or.inl ⟨by rfl, ?_⟩) (by assumption) ?_; rotate_left; (intro w hSw; (try dsimp only at hSw); go_split_ands; go_simp; (try with_reducible rfl)); (try simp only [Act.put, List.setIfInBounds_toArray, List.set_cons_zero, List.set_cons_succ]))
      (refine WG.take (i := 7) (v := ?_) rfl (by kernel_rfl) (by kernel_rfl) (by kernel_rfl) (by kernel_rfl) (fun _ _ _ h => h) (Or.inl ⟨by rfl, ?_⟩) (by assumption) ?_; rotate_left; (intro w hSw; (try dsimp only at hSw); go_split_ands; go_simp; (try with_reducible rfl)); (try simp only [Act.put, List.setIfInBounds_toArray, List.set_cons_zero, List.set_cons_succ]))
      refine WG.one (i := 2) rfl (by kernel_rfl) (fun K hK => ?_)
      go_simp
      refine hK.out _ _ (by exact KB.out _ (HDr.out.trans (Ext.alloc _ _))) (fun hHeld => ?_)
      clear hK K
      (try simp only [Act.put, List.setIfInBounds_toArray, List.set_cons_zero, List.set_cons_succ])
      refine WG.one (i := 4) rfl (by kernel_rfl) (fun K hK => ?_)
      go_simp; refine (iApartAt _ _ _ _ room Bs [] x _ (RI.ext HR.out (HDr.out.trans (Ext.alloc _ _))) (RB.ext HN.out (HDr.out.trans (Ext.alloc _ _))) (RSl.nil_ _ _ _ _ _ _ (by omega)) (HTV.out.ext (HDr.out.trans (Ext.alloc _ _))) HFL.out HID.out).mono ?_; rw [HY1.out]; rintro e4 w4 ⟨rfl, hE4⟩; have HE4 : Hid (Ext w1 w4) := hid ((HDr.out.trans (Ext.alloc _ _)).trans hE4); clear hE4; (try dsimp only)
      refine hK.out _ _ (by exact KB.out _ HE4.out) (fun hHeld => ?_)
      clear hK K
      (try simp only [Act.put, List.setIfInBounds_toArray, List.set_cons_zero, List.set_cons_succ])
      refine WG.one (i := 8) rfl (by kernel_rfl) (fun K hK => ?_)
      go_simp; refine (iFirstAt _ _ _ room Bs x _ (RI.ext HR.out HE4.out) (RB.ext HN.out HE4.out) (HTV.out.ext HE4.out) HFL.out HID.out).mono ?_; rw [← HY2.out]; rintro e5 w5 ⟨rfl, hE5⟩; have HE5 := hid (HE4.out.trans hE5); clear hE5; (try dsimp only)
      refine hK.out _ _ (by exact KB.out _ HE5.out) (fun hHeld => ?_)
      clear hK K
      (try simp only [Act.put, List.setIfInBounds_toArray, List.set_cons_zero, List.set_cons_succ])
      (refine WG.take (i := 9) (v := ?_) rfl (by kernel_rfl) (by kernel_rfl) (by kernel_rfl) (by kernel_rfl) (fun _ _ _ h => h) (Or.inl ⟨by rfl, ?_⟩) (by assumption) ?_; rotate_left; (intro w hSw; (try dsimp only at hSw); go_split_ands; go_simp; (try with_reducible rfl)); (try simp only [Act.put, List.setIfInBounds_toArray, List.set_cons_zero, List.set_cons_succ]))
      (first | rw [HYY.out] | skip)
      (refine WG.take (i := 10) (v := ?_) rfl (by kernel_rfl) (by kernel_rfl) (by kernel_rfl) (by kernel_rfl) (fun _ _ _ h => h) (Or.inl ⟨by rfl, ?_⟩) (by assumption) ?_; rotate_left; (intro w hSw; (try dsimp only at hSw); go_split_ands; go_simp; (try with_reducible rfl)); (try simp only [Act.put, List.setIfInBounds_toArray, List.set_cons_zero, List.set_cons_succ]))
      (refine WG.take (i := 11) (v := ?_) rfl (by kernel_rfl) (by kernel_rfl) (by kernel_rfl) (by kernel_rfl) (fun _ _ _ h => h) (Or.inl ⟨by rfl, ?_⟩) (by assumption) ?_; rotate_left; (intro w hSw; (try dsimp only at hSw); go_split_ands; go_simp; (try with_reducible rfl)); (try simp only [Act.put, List.setIfInBounds_toArray, List.set_cons_zero, List.set_cons_succ]))
      (refine WG.take (i := 12) (v := ?_) rfl (by kernel_rfl) (by kernel_rfl) (by kernel_rfl) (by kernel_rfl) (fun _ _ _ h => h) (Or.inl ⟨by rfl, ?_⟩) (by assumption) ?_; rotate_left; (intro w hSw; (try dsimp only at hSw); go_split_ands; go_simp; (try with_reducible rfl)); (try simp only [Act.put, List.setIfInBounds_toArray, List.set_cons_zero, List.set_cons_succ]))
      (first | rw [HNEG.out] | skip)
      (refine WG.take (i := 13) (v := ?_) rfl (by kernel_rfl) (by kernel_rfl) (by kernel_rfl) (by kernel_rfl) (fun _ _ _ h => h) (Or.inl ⟨by rfl, ?_⟩) (by assumption) ?_; rotate_left; (intro w hSw; (try dsimp only at hSw); go_split_ands; go_simp; (try with_reducible rfl)); (try simp only [Act.put, List.setIfInBounds_toArray, List.set_cons_zero, List.set_cons_succ]))
      (refine WG.take (i := 14) rfl (by kernel_rfl) (by kernel_rfl) (by kernel_rfl) (by kernel_rfl) (fun _ _ _ h => h) (Or.inr ⟨?_, rfl⟩) (by assumption) ?_; go_simp; (try simp only [Act.put, List.setIfInBounds_toArray, List.set_cons_zero, List.set_cons_succ]))
      (refine WG.take (i := 15) rfl (by kernel_rfl) (by kernel_rfl) (by kernel_rfl) (by kernel_rfl) (fun _ _ _ h => h) (Or.inr ⟨?_, rfl⟩) (by assumption) ?_; go_simp; (try simp only [Act.put, List.setIfInBounds_toArray, List.set_cons_zero, List.set_cons_succ]))
      (refine WG.take (i := 16) rfl (by kernel_rfl) (by kernel_rfl) (by kernel_rfl) (by kernel_rfl) (fun _ _ _ h => h) (Or.inr ⟨?_, rfl⟩) (by assumption) ?_; go_simp; (try simp only [Act.put, List.setIfInBounds_toArray, List.set_cons_zero, List.set_cons_succ]))
      (refine WG.take (i := 17) rfl (by kernel_rfl) (by kernel_rfl) (by kernel_rfl) (by kernel_rfl) (fun _ _ _ h => h) (Or.inr ⟨?_, rfl⟩) (by assumption) ?_; go_simp; (try simp only [Act.put, List.setIfInBounds_toArray, List.set_cons_zero, List.set_cons_succ]))
      (refine WG.take (i := 18) rfl (by kernel_rfl) (by kernel_rfl) (by kernel_rfl) (by kernel_rfl) (fun _ _ _ h => h) (Or.inr ⟨?_, rfl⟩) (by assumption) ?_; go_simp; (try simp only [Act.put, List.setIfInBounds_toArray, List.set_cons_zero, List.set_cons_succ]))
      (refine WG.take (i := 19) (v := ?_) rfl (by kernel_rfl) (by kernel_rfl) (by kernel_rfl) (by kernel_rfl) (fun _ _ _ h => h) (Or.inl ⟨by rfl, ?_⟩) (by assumption) ?_; rotate_left; (intro w hSw; (try dsimp only at hSw); go_split_ands; go_simp; (try with_reducible rfl)); (try simp only [Act.put, List.setIfInBounds_toArray, List.set_cons_zero, List.set_cons_succ]))
      (refine WG.take (i := 20) (v := ?_) rfl (by kernel_rfl) (by kernel_rfl) (by kernel_rfl) (by kernel_rfl) (fun _ _ _ h => h) (Or.inl ⟨by rfl, ?_⟩) (by assumption) ?_; rotate_left; (intro w hSw; (try dsimp only at hSw); go_split_ands; go_simp; (try with_reducible rfl)); (try simp only [Act.put, List.setIfInBounds_toArray, List.set_cons_zero, List.set_cons_succ]))
      refine WG.last (i := 21) rfl (by kernel_rfl) (by kernel_rfl) (fun K hK => ?_)
      go_simp
      refine hK.out _ _ ?_
      clear hK K
      (try simp only [Act.put, List.setIfInBounds_toArray, List.set_cons_zero, List.set_cons_succ])
      refine WG.done (by kernel_rfl) ?_
      go_wp2
      go_ret
      exact ⟨rfl, HE0.out.trans HE5.out⟩
    · have HNEG : Hid (decide (Z < 0) = false) := hid (decide_eq_false hneg)
      have HGE : Hid (decide (0 ≤ Y) = true) := hid (decide_eq_true (by rw [hY]; exact ((apartAt_none (ps := ps)).2 (by rw [← hZ]; omega)).1))
      clear hneg hY hZ
      go_wp2_with (first
        | (go_at_call 16; clear TK0; refine (iApartAt _ _ _ _ room Bs ps x _ HR.out HN.out HP.out HTV.out HFL.out HID.out).mono ?_; rw [← HZ.out]; rintro e w2 ⟨rfl, hE2⟩; obtain ⟨q0, q1⟩ := KB.out _ hE2; have HE2 := hid hE2; clear hE2; have TK1 : Hid True := hid trivial)
        | (go_at_call 17; clear TK1; refine (sApartAt _ _ _ _ room Bs ps x _ (RI.ext HR.out HE2.out) (RB.ext HN.out HE2.out) (RP.ext HP.out HE2.out) (HTV.out.ext HE2.out) HFL.out).mono ?_; rw [← HZ.out]; rintro e w3 ⟨rfl, hE3⟩; have HE23 := hid hE3; have HE3 := hid (HE2.out.trans hE3); clear hE3; have TK2 : Hid True := hid trivial))
      have HDr := hid (HE3.out.trans (Below.drew (Below.refl _ _)))
      refine WG.start (fun w' => w'.cell? ⟨H0, 0, none⟩ = some (.int .i64 x.id) ∧ w'.cell? ⟨H0, 1, none⟩ = some (.slice An x.need.length cn)) [21] (by kernel_rfl) (by exact KB.out _ HDr.out) (fun hHeld => ?_)
      obtain ⟨pz, hpz⟩ : ∃ x, x = w3.drew := ⟨_, rfl⟩
      rw [← hpz] at hHeld HDr ⊢
      clear hpz
      (refine WG.take (i := 0) (v := ?_) rfl (by kernel_rfl) (by kernel_rfl) (by kernel_rfl) (by kernel_rfl) (fun _ _ _ h => h) (Or.inl ⟨by rfl, ?_⟩) (by assumption) ?_; rotate_left; (intro w hSw; (try dsimp only at hSw); go_split_ands; go_simp; (try with_reducible rfl)); (try simp only [Act.put, List.setIfInBounds_toArray, List.set_cons_zero, List.set_cons_succ]))
      (refine WG.take (i := 1) (v := ?_) rfl (by kernel_rfl) (by kernel_rfl) (by kernel_rfl) (by kernel_rfl) (fun _ _ _ h => h) (Or.inl ⟨by rfl, ?_⟩) (by assumption) ?_; rotate_left; (intro w hSw; (try dsimp only at hSw); go_split_ands; go_simp; (try with_reducible rfl)); (try simp only [Act.put, List.setIfInBounds_toArray, List.set_cons_zero, List.set_cons_succ]))
      (refine WG.take (i := 3) (v := ?_) rfl (by kernel_rfl) (by kernel_rfl) (by kernel_rfl) (by kernel_rfl) (fun _ _ _ h => h) (Or.inl ⟨by rfl, ?_⟩) (by assumption) ?_; rotate_left; (intro w hSw; (try dsimp only at hSw); go_split_ands; go_simp; (try with_reducible rfl)); (try simp only [Act.put, List.setIfInBounds_toArray, List.set_cons_zero, List.set_cons_succ]))
      (refine WG.take (i := 5) (v := ?_) rfl (by kernel_rfl) (by kernel_rfl) (by kernel_rfl) (by kernel_rfl) (fun _ _ _ h => h) (Or.inl ⟨by rfl, ?_⟩) (by assumption) ?_; rotate_left; (intro w hSw; (try dsimp only at hSw); go_split_ands; go_simp; (try with_reducible rfl)); (try simp only [Act.put, List.setIfInBounds_toArray, List.set_cons_zero, List.set_cons_succ]))
      (refine WG.take (i := 6) (v := ?_) rfl (by kernel_rfl) (by kernel_rfl) (by kernel_rfl) (by kernel_rfl) (fun _ _ _ h => h) (Or.inl ⟨by rfl, ?_⟩) (by assumption) ?_; rotate_left; (intro w hSw; (try dsimp only at hSw); go_split_ands; go_simp; (try with_reducible rfl)); (try simp only [Act.put, List.setIfInBounds_toArray, List.set_cons_zero, List.set_cons_succ]))
      (refine WG.take (i := 7) (v := ?_) rfl (by kernel_rfl) (by kernel_rfl) (by kernel_rfl) (by kernel_rfl) (fun _ _ _ h => h) (Or.inl ⟨by rfl, ?_⟩) (by assumption) ?_; rotate_left; (intro w hSw; (try dsimp only at hSw); go_split_ands; go_simp; (try with_reducible rfl)); (try simp only [Act.put, List.setIfInBounds_toArray, List.set_cons_zero, List.set_cons_succ]))
      refine WG.one (i := 2) rfl (by kernel_rfl) (fun K hK => ?_)
      go_simp
      refine hK.out _ _ (by exact KB.out _ (HDr.out.trans (Ext.alloc _ _))) (fun hHeld => ?_)
      clear hK K
      (try simp only [Act.put, List.setIfInBounds_toArray, List.set_cons_zero, List.set_cons_succ])
      refine WG.one (i := 4) rfl (by kernel_rfl) (fun K hK => ?_)
      go_simp; refine (iApartAt _ _ _ _ room Bs [] x _ (RI.ext HR.out (HDr.out.trans (Ext.alloc _ _))) (RB.ext HN.out (HDr.out.trans (Ext.alloc _ _))) (RSl.nil_ _ _ _ _ _ _ (by omega)) (HTV.out.ext (HDr.out.trans (Ext.alloc _ _))) HFL.out HID.out).mono ?_; rw [HY1.out]; rintro e4 w4 ⟨rfl, hE4⟩; have HE4 : Hid (Ext w1 w4) := hid ((HDr.out.trans (Ext.alloc _ _)).trans hE4); clear hE4; (try dsimp only)
      refine hK.out _ _ (by exact KB.out _ HE4.out) (fun hHeld => ?_)
      clear hK K
      (try simp only [Act.put, List.setIfInBounds_toArray, List.set_cons_zero, List.set_cons_succ])
      refine WG.one (i := 8) rfl (by kernel_rfl) (fun K hK => ?_)
      go_simp; refine (iFirstAt _ _ _ room Bs x _ (RI.ext HR.out HE4.out) (RB.ext HN.out HE4.out) (HTV.out.ext HE4.out) HFL.out HID.out).mono ?_; rw [← HY2.out]; rintro e5 w5 ⟨rfl, hE5⟩; have HE5 := hid (HE4.out.trans hE5); clear hE5; (try dsimp only)
      refine hK.out _ _ (by exact KB.out _ HE5.out) (fun hHeld => ?_)
      clear hK K
      (try simp only [Act.put, List.setIfInBounds_toArray, List.set_cons_zero, List.set_cons_succ])
      (refine WG.take (i := 9) (v := ?_) rfl (by kernel_rfl) (by kernel_rfl) (by kernel_rfl) (by kernel_rfl) (fun _ _ _ h => h) (Or.inl ⟨by rfl, ?_⟩) (by assumption) ?_; rotate_left; (intro w hSw; (try dsimp only at hSw); go_split_ands; go_simp; (try with_reducible rfl)); (try simp only [Act.put, List.setIfInBounds_toArray, List.set_cons_zero, List.set_cons_succ]))
      (first | rw [HYY.out] | skip)
      (refine WG.take (i := 10) (v := ?_) rfl (by kernel_rfl) (by kernel_rfl) (by kernel_rfl) (by kernel_rfl) (fun _ _ _ h => h) (Or.inl ⟨by rfl, ?_⟩) (by assumption) ?_; rotate_left; (intro w hSw; (try dsimp only at hSw); go_split_ands; go_simp; (try with_reducible rfl)); (try simp only [Act.put, List.setIfInBounds_toArray, List.set_cons_zero, List.set_cons_succ]))
      (refine WG.take (i := 11) (v := ?_) rfl (by kernel_rfl) (by kernel_rfl) (by kernel_rfl) (by kernel_rfl) (fun _ _ _ h => h) (Or.inl ⟨by rfl, ?_⟩) (by assumption) ?_; rotate_left; (intro w hSw; (try dsimp only at hSw); go_split_ands; go_simp; (try with_reducible rfl)); (try simp only [Act.put, List.setIfInBounds_toArray, List.set_cons_zero, List.set_cons_succ]))
      (refine WG.take (i := 12) (v := ?_) rfl (by kernel_rfl) (by kernel_rfl) (by kernel_rfl) (by kernel_rfl) (fun _ _ _ h => h) (Or.inl ⟨by rfl, ?_⟩) (by assumption) ?_; rotate_left; (intro w hSw; (try dsimp only at hSw); go_split_ands; go_simp; (try with_reducible rfl)); (try simp only [Act.put, List.setIfInBounds_toArray, List.set_cons_zero, List.set_cons_succ]))
      (first | rw [HNEG.out] | skip)
      (refine WG.take (i := 13) (v := ?_) rfl (by kernel_rfl) (by kernel_rfl) (by kernel_rfl) (by kernel_rfl) (fun _ _ _ h => h) (Or.inl ⟨by rfl, ?_⟩) (by assumption) ?_; rotate_left; (intro w hSw; (try dsimp only at hSw); go_split_ands; go_simp; (try with_reducible rfl)); (try simp only [Act.put, List.setIfInBounds_toArray, List.set_cons_zero, List.set_cons_succ]))
      (refine WG.take (i := 14) (v := ?_) rfl (by kernel_rfl) (by kernel_rfl) (by kernel_rfl) (by kernel_rfl) (fun _ _ _ h => h) (Or.inl ⟨by rfl, ?_⟩) (by assumption) ?_; rotate_left; (intro w hSw; (try dsimp only at hSw); go_split_ands; go_simp; (try with_reducible rfl)); (try simp only [Act.put, List.setIfInBounds_toArray, List.set_cons_zero, List.set_cons_succ]))
      (refine WG.take (i := 15) (v := ?_) rfl (by kernel_rfl) (by kernel_rfl) (by kernel_rfl) (by kernel_rfl) (fun _ _ _ h => h) (Or.inl ⟨by rfl, ?_⟩) (by assumption) ?_; rotate_left; (intro w hSw; (try dsimp only at hSw); go_split_ands; go_simp; (try with_reducible rfl)); (try simp only [Act.put, List.setIfInBounds_toArray, List.set_cons_zero, List.set_cons_succ]))
      (refine WG.take (i := 16) (v := ?_) rfl (by kernel_rfl) (by kernel_rfl) (by kernel_rfl) (by kernel_rfl) (fun _ _ _ h => h) (Or.inl ⟨by rfl, ?_⟩) (by assumption) ?_; rotate_left; (intro w hSw; (try dsimp only at hSw); go_split_ands; go_simp; (try with_reducible rfl)); (try simp only [Act.put, List.setIfInBounds_toArray, List.set_cons_zero, List.set_cons_succ]))
      refine WG.one (i := 17) rfl (by kernel_rfl) (fun K hK => ?_)
      go_simp; refine (iFirstAt _ _ _ room Bs x _ (RI.ext HR.out HE5.out) (RB.ext HN.out HE5.out) (HTV.out.ext HE5.out) HFL.out HID.out).mono ?_; rw [← HY2.out]; rintro e6 w6 ⟨rfl, hE6⟩; have HE6 := hid (HE5.out.trans hE6); clear hE6; (try dsimp only)
      refine hK.out _ _ (by exact KB.out _ HE6.out) (fun hHeld => ?_)
      clear hK K
      (try simp only [Act.put, List.setIfInBounds_toArray, List.set_cons_zero, List.set_cons_succ])
      (refine WG.take (i := 18) (v := ?_) rfl (by kernel_rfl) (by kernel_rfl) (by kernel_rfl) (by kernel_rfl) (fun _ _ _ h => h) (Or.inl ⟨by rfl, ?_⟩) (by assumption) ?_; rotate_left; (intro w hSw; (try dsimp only at hSw); go_split_ands; go_simp; (try with_reducible rfl)); (try simp only [Act.put, List.setIfInBounds_toArray, List.set_cons_zero, List.set_cons_succ]))
      (first | rw [HGE.out] | skip)
      (refine WG.take (i := 19) (v := ?_) rfl (by kernel_rfl) (by kernel_rfl) (by kernel_rfl) (by kernel_rfl) (fun _ _ _ h => h) (Or.inl ⟨by rfl, ?_⟩) (by assumption) ?_; rotate_left; (intro w hSw; (try dsimp only at hSw); go_split_ands; go_simp; (try with_reducible rfl)); (try simp only [Act.put, List.setIfInBounds_toArray, List.set_cons_zero, List.set_cons_succ]))
      (refine WG.take (i := 20) (v := ?_) rfl (by kernel_rfl) (by kernel_rfl) (by kernel_rfl) (by kernel_rfl) (fun _ _ _ h => h) (Or.inl ⟨by rfl, ?_⟩) (by assumption) ?_; rotate_left; (intro w hSw; (try dsimp only at hSw); go_split_ands; go_simp; (try with_reducible rfl)); (try simp only [Act.put, List.setIfInBounds_toArray, List.set_cons_zero, List.set_cons_succ]))
      refine WG.last (i := 21) rfl (by kernel_rfl) (by kernel_rfl) (fun K hK => ?_)
      go_simp
      refine hK.out _ _ ?_
      clear hK K
      (try simp only [Act.put, List.setIfInBounds_toArray, List.set_cons_zero, List.set_cons_succ])
      refine WG.done (by kernel_rfl) ?_
      go_wp2
      go_ret
      exact ⟨rfl, HE0.out.trans HE6.out⟩
  · have i1 : (1048576 : Int) < (bs.length : Int) := by omega
    go_enter Try.func4, Try.ntmps4
    go_wp2
    go_ret
    exact ⟨rfl, Ext.refl _⟩

end Go.Proofs.Ytoaabinpdjcimaa
