/- The law FnApartAll. (Printed by genpz.py.) -/
import Derived.Test.YtoaabinpdjcimaaK28
import Derived.Test.YtoaabinpdjcimaaK29
import Derived.Test.YtoaabinpdjcimaaK23
import Derived.Test.YtoaabinpdjcimaaK11
namespace Go.Proofs.Ytoaabinpdjcimaa
open Go.RowKit
set_option maxRecDepth 4000

theorem binz_id {room : List Int} {bs : List (List TaskD)} (h : binsOk room bs = true) : ∀ t ∈ bs.flatten, IdR t.id := by
  intro t ht
  have := (tasksOk_mem (binsOk_tk h) ht).1
  simp only [inB, Bool.and_eq_true, decide_eq_true_eq] at this
  unfold IdR
  omega
theorem binz_fl {room : List Int} {bs : List (List TaskD)} (h : binsOk room bs = true) : bs.flatten.length ≤ 4000000 := (bins_rows h).2.1

set_option maxHeartbeats 8000000 in
theorem lawApartAll (v : Value) (bs : List Int) (w : World) (h : XBy w v bs) :
    Calls Try.prog 9 #[v] w (RetB w true) := by
  have HB := hid h
  obtain ⟨A, c, rfl, _⟩ := h
  by_cases h1 : bs.length ≤ 1048576
  · have i1 : ¬ (1048576 : Int) < (bs.length : Int) := by omega
    go_enter Try.func9, Try.ntmps9
    go_wp2_with (go_at_call 10; refine (dDrawApartAll _ bs _ HB.out (by omega)).mono ?_; rintro e w1 ⟨rv, tv, pv, room, ts, ps, rfl, hr, ht, hp, hl, hg, hpl, hE1⟩; have HR := hid hr; have HT := hid ht; have HP := hid hp; have HTL := hid hl; have HGT := hid hg; have HID : Hid (∀ t ∈ ts, IdR t.id) := hid (fun t ht => (hg t ht).2.2); have HPL := hid hpl; have HE1 := hid hE1; obtain ⟨Ar, cr, rfl, _⟩ := hr; obtain ⟨At, ct, rfl, _⟩ := ht; obtain ⟨Ap, cp, rfl, _⟩ := hp; clear hl hg hpl hE1)
    have TK0 : Hid True := hid trivial
    obtain ⟨R, hR⟩ : ∃ R, R = apartAllN room ts ps := ⟨_, rfl⟩
    have HRR := hid hR
    clear hR
    cases h2 : tasksOk room ts with
    | false =>
      go_wp2_with (first
        | (go_at_call 11; clear TK0; refine (iApartAll _ _ _ room ts ps _ HR.out HT.out HP.out HID.out).mono ?_; rw [← HRR.out]; rintro e w2 ⟨v2, rfl, hD2, hE2⟩; have hx2 := hD2.read; have HX2 := hid hx2; obtain ⟨A2, c2, rfl⟩ := hD2.form; have HE2 := hid hE2; clear hD2 hE2 hx2; have TK1 : Hid True := hid trivial)
        | (go_at_call 12; clear TK1; refine (sApartAll _ _ _ room ts ps _ (RI.ext HR.out HE2.out) (RT.ext HT.out HE2.out) (RP.ext HP.out HE2.out) (by have := HTL.out; omega)).mono ?_; rw [← HRR.out]; rintro e w3 ⟨v3, rfl, hB3, hE3⟩; have HX3 := hid hB3; have HX23 := hid (RB.ext HX2.out hE3); have HE3 := hid (HE2.out.trans hE3); clear hB3 hE3; have TK2 : Hid True := hid trivial)
        | (go_at_call 13; clear TK2; refine (lSameBins _ _ R _ HX23.out HX3.out).mono ?_; rintro e w4 ⟨rfl, hE4⟩; have HX4 := hid (RB.ext HX23.out hE4); have HY4 := hid (RB.ext HX3.out hE4); have HE4 := hid (HE3.out.trans hE4); clear hE4; have TK3 : Hid True := hid trivial)
        | (go_at_call 32; clear TK3; refine (sTasksValid _ _ room ts _ (RI.ext HR.out HE4.out) (RT.ext HT.out HE4.out)).mono ?_; rintro e w5 ⟨rfl, n5, hw5⟩; rw [h2]; have hE5 : Ext w4 w5 := (by rw [hw5]; exact Ext.drewN _ _); have HX5 := hid (RB.ext HX4.out hE5); have HY5 := hid (RB.ext HY4.out hE5); have HE5 := hid (HE4.out.trans hE5); clear hw5 hE5; have TK4 : Hid True := hid trivial)
        | (go_at_call 13; clear TK4; refine (lSameBins _ _ R _ HX5.out HY5.out).mono ?_; rintro e w6 ⟨rfl, hE6⟩; have HE6 := hid (HE5.out.trans hE6); clear hE6; have TK5 : Hid True := hid trivial))
      go_ret
      exact ⟨rfl, HE1.out.trans HE6.out⟩
    | true =>
      cases h3 : pairsOk ps with
      | false =>
        go_wp2_with (first
          | (go_at_call 11; clear TK0; refine (iApartAll _ _ _ room ts ps _ HR.out HT.out HP.out HID.out).mono ?_; rw [← HRR.out]; rintro e w2 ⟨v2, rfl, hD2, hE2⟩; have hx2 := hD2.read; have HX2 := hid hx2; obtain ⟨A2, c2, rfl⟩ := hD2.form; have HE2 := hid hE2; clear hD2 hE2 hx2; have TK1 : Hid True := hid trivial)
          | (go_at_call 12; clear TK1; refine (sApartAll _ _ _ room ts ps _ (RI.ext HR.out HE2.out) (RT.ext HT.out HE2.out) (RP.ext HP.out HE2.out) (by have := HTL.out; omega)).mono ?_; rw [← HRR.out]; rintro e w3 ⟨v3, rfl, hB3, hE3⟩; have HX3 := hid hB3; have HX23 := hid (RB.ext HX2.out hE3); have HE3 := hid (HE2.out.trans hE3); clear hB3 hE3; have TK2 : Hid True := hid trivial)
          | (go_at_call 13; clear TK2; refine (lSameBins _ _ R _ HX23.out HX3.out).mono ?_; rintro e w4 ⟨rfl, hE4⟩; have HX4 := hid (RB.ext HX23.out hE4); have HY4 := hid (RB.ext HX3.out hE4); have HE4 := hid (HE3.out.trans hE4); clear hE4; have TK3 : Hid True := hid trivial)
          | (go_at_call 32; clear TK3; refine (sTasksValid _ _ room ts _ (RI.ext HR.out HE4.out) (RT.ext HT.out HE4.out)).mono ?_; rintro e w5 ⟨rfl, n5, hw5⟩; rw [h2]; have hE5 : Ext w4 w5 := (by rw [hw5]; exact Ext.drewN _ _); have HX5 := hid (RB.ext HX4.out hE5); have HY5 := hid (RB.ext HY4.out hE5); have HE5 := hid (HE4.out.trans hE5); clear hw5 hE5; have TK4 : Hid True := hid trivial)
          | (go_at_call 33; clear TK4; refine (sPairsValid _ ps _ (RP.ext HP.out HE5.out)).mono ?_; rintro e w6 ⟨rfl, hE6⟩; rw [h3]; have HX6 := hid (RB.ext HX5.out hE6); have HY6 := hid (RB.ext HY5.out hE6); have HE6 := hid (HE5.out.trans hE6); clear hE6; have TK5 : Hid True := hid trivial)
          | (go_at_call 13; clear TK5; refine (lSameBins _ _ R _ HX6.out HY6.out).mono ?_; rintro e w7 ⟨rfl, hE7⟩; have HE7 := hid (HE6.out.trans hE7); clear hE7; have TK6 : Hid True := hid trivial))
        go_ret
        exact ⟨rfl, HE1.out.trans HE7.out⟩
      | true =>
        have HOK : Hid (binsOk room R = true ∧ R.flatten.length = ts.length ∧ brokenN room R ps = []) := hid (by obtain ⟨q1, q2, q3, _⟩ := apartAllN_ok h2 h3; rw [HRR.out]; exact ⟨q1, q2, q3⟩)
        go_wp2_with (first
          | (go_at_call 11; clear TK0; refine (iApartAll _ _ _ room ts ps _ HR.out HT.out HP.out HID.out).mono ?_; rw [← HRR.out]; rintro e w2 ⟨v2, rfl, hD2, hE2⟩; have hx2 := hD2.read; have HX2 := hid hx2; obtain ⟨A2, c2, rfl⟩ := hD2.form; have HE2 := hid hE2; clear hD2 hE2 hx2; have TK1 : Hid True := hid trivial)
          | (go_at_call 12; clear TK1; refine (sApartAll _ _ _ room ts ps _ (RI.ext HR.out HE2.out) (RT.ext HT.out HE2.out) (RP.ext HP.out HE2.out) (by have := HTL.out; omega)).mono ?_; rw [← HRR.out]; rintro e w3 ⟨v3, rfl, hB3, hE3⟩; have HX3 := hid hB3; have HX23 := hid (RB.ext HX2.out hE3); have HE3 := hid (HE2.out.trans hE3); clear hB3 hE3; have TK2 : Hid True := hid trivial)
          | (go_at_call 13; clear TK2; refine (lSameBins _ _ R _ HX23.out HX3.out).mono ?_; rintro e w4 ⟨rfl, hE4⟩; have HX4 := hid (RB.ext HX23.out hE4); have HY4 := hid (RB.ext HX3.out hE4); have HE4 := hid (HE3.out.trans hE4); clear hE4; have TK3 : Hid True := hid trivial)
          | (go_at_call 32; clear TK3; refine (sTasksValid _ _ room ts _ (RI.ext HR.out HE4.out) (RT.ext HT.out HE4.out)).mono ?_; rintro e w5 ⟨rfl, n5, hw5⟩; rw [h2]; have hE5 : Ext w4 w5 := (by rw [hw5]; exact Ext.drewN _ _); have HX5 := hid (RB.ext HX4.out hE5); have HY5 := hid (RB.ext HY4.out hE5); have HE5 := hid (HE4.out.trans hE5); clear hw5 hE5; have TK4 : Hid True := hid trivial)
          | (go_at_call 33; clear TK4; refine (sPairsValid _ ps _ (RP.ext HP.out HE5.out)).mono ?_; rintro e w6 ⟨rfl, hE6⟩; rw [h3]; have HX6 := hid (RB.ext HX5.out hE6); have HY6 := hid (RB.ext HY5.out hE6); have HE6 := hid (HE5.out.trans hE6); clear hE6; have TK5 : Hid True := hid trivial)
          | (go_at_call 31; clear TK5; refine (iBinsValid _ _ room R _ (RI.ext HR.out HE6.out) HX6.out (binz_fl HOK.out.1) (binz_id HOK.out.1)).mono ?_; rintro e w7 ⟨rfl, hE7⟩; rw [HOK.out.1]; have HX7 := hid (RB.ext HX6.out hE7); have HE7 := hid (HE6.out.trans hE7); clear hE7; have TK6 : Hid True := hid trivial)
          | (go_at_call 42; clear TK6; refine (iBinsTasks _ _ room R _ (RI.ext HR.out HE7.out) HX7.out (binz_fl HOK.out.1) (binz_id HOK.out.1) HOK.out.1).mono ?_; rintro e w8 ⟨v8, rfl, hT8, hE8⟩; obtain ⟨A8, c8, hv8, _⟩ := RT.get hT8; rw [HOK.out.2.1] at hv8; subst hv8; have HX8 := hid (RB.ext HX7.out hE8); have HE8 := hid (HE7.out.trans hE8); clear hT8 hE8; have TK7 : Hid True := hid trivial)
          | (go_at_call 30; clear TK7; refine (iPairsBroken _ _ _ room R ps _ (RI.ext HR.out HE8.out) HX8.out (RP.ext HP.out HE8.out) (by have := binz_fl HOK.out.1; have h9 := HOK.out.2.1; have h10 := HTL.out; omega) (binz_id HOK.out.1)).mono ?_; rw [HOK.out.2.2]; rintro e w9 ⟨v9, rfl, hI9, hE9⟩; obtain ⟨A9, c9, hv9, _⟩ := RI.get hI9; subst hv9; have HE9 := hid (HE8.out.trans hE9); clear hI9 hE9; have TK8 : Hid True := hid trivial))
        go_ret
        exact ⟨rfl, HE1.out.trans HE9.out⟩
  · have i1 : (1048576 : Int) < (bs.length : Int) := by omega
    go_enter Try.func9, Try.ntmps9
    go_wp2
    go_ret
    exact ⟨rfl, Ext.refl _⟩

end Go.Proofs.Ytoaabinpdjcimaa
