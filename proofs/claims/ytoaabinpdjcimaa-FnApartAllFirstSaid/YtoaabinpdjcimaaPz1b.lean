/- The law FnApartAllFirst. (Printed by genpz.py.) -/
import Derived.Test.YtoaabinpdjcimaaK28
import Derived.Test.YtoaabinpdjcimaaK29
import Derived.Test.YtoaabinpdjcimaaK23
import Derived.Test.YtoaabinpdjcimaaK11
namespace Go.Proofs.Ytoaabinpdjcimaa
open Go.RowKit
set_option maxRecDepth 4000

set_option maxHeartbeats 8000000 in
theorem lawApartAllFirst (v : Value) (bs : List Int) (w : World) (h : XBy w v bs) :
    Calls Try.prog 3 #[v] w (RetB w true) := by
  have HB := hid h
  obtain ⟨A, c, rfl, _⟩ := h
  by_cases h1 : bs.length ≤ 1048576
  · have i1 : ¬ (1048576 : Int) < (bs.length : Int) := by omega
    go_enter Try.func3, Try.ntmps3
    go_wp2_with (go_at_call 10; refine (dDrawApartAll _ bs _ HB.out (by omega)).mono ?_; rintro e w1 ⟨rv, tv, pv, room, ts, ps, rfl, hr, ht, hp, hl, hg, hpl, hE1⟩; have HR := hid hr; have HT := hid ht; have HP := hid hp; have HTL := hid hl; have HGT := hid hg; have HID : Hid (∀ t ∈ ts, IdR t.id) := hid (fun t ht => (hg t ht).2.2); have HPL := hid hpl; have HE1 := hid hE1; obtain ⟨Ar, cr, rfl, _⟩ := hr; obtain ⟨At, ct, rfl, _⟩ := ht; obtain ⟨Ap, cp, rfl, _⟩ := hp; clear hl hg hpl hE1)
    have TK0 : Hid True := hid trivial
    obtain ⟨R, hR⟩ : ∃ R, R = apartAllN room ts ps := ⟨_, rfl⟩
    have HRR := hid hR
    have hle : (R.length : Int) ≤ (ts.length : Int) := by rw [hR]; have := apartAll_len room ts ps; omega
    obtain ⟨Q, hQ⟩ : ∃ Q, Q = firstAllN room ts := ⟨_, rfl⟩
    have HQ1 : Hid (apartAllN room ts [] = Q) := hid (by rw [hQ]; exact apartAll_first room ts)
    have HQ2 := hid hQ
    clear hR hQ
    go_wp2_with (first
      | (go_at_call 11; clear TK0; refine (iApartAll _ _ _ room ts ps _ HR.out HT.out HP.out HID.out).mono ?_; rw [← HRR.out]; rintro e w2 ⟨v2, rfl, hD2, hE2⟩; have hx2 := hD2.read; have HX2 := hid hx2; obtain ⟨A2, c2, rfl⟩ := hD2.form; have HE2 := hid hE2; clear hD2 hE2 hx2; have TK1 : Hid True := hid trivial)
      | (go_at_call 12; clear TK1; refine (sApartAll _ _ _ room ts ps _ (RI.ext HR.out HE2.out) (RT.ext HT.out HE2.out) (RP.ext HP.out HE2.out) (by have := HTL.out; omega)).mono ?_; rw [← HRR.out]; rintro e w3 ⟨v3, rfl, hB3, hE3⟩; have HX3 := hid hB3; have HX23 := hid (RB.ext HX2.out hE3); have HE3 := hid (HE2.out.trans hE3); clear hB3 hE3; have TK2 : Hid True := hid trivial)
      | (go_at_call 13; clear TK2; refine (lSameBins _ _ R _ HX23.out HX3.out).mono ?_; rintro e w4 ⟨rfl, hE4⟩; have HX4 := hid (RB.ext HX23.out hE4); have HY4 := hid (RB.ext HX3.out hE4); have HE4 := hid (HE3.out.trans hE4); clear hE4; have TK3 : Hid True := hid trivial)
      | (go_at_call 11; clear TK3; have hE5 := HE4.out.trans (Ext.alloc w4 (.cells #[] 55)); refine (iApartAll _ _ _ room ts [] _ (RI.ext HR.out hE5) (RT.ext HT.out hE5) (RSl.nil_ _ _ _ _ _ _ (by omega)) HID.out).mono ?_; rw [HQ1.out]; rintro e w5 ⟨v5, rfl, hD5, hE6⟩; have HX5 := hid hD5.read; have HE5 := hid (hE5.trans hE6); clear hD5 hE5 hE6; have TK4 : Hid True := hid trivial)
      | (go_at_call 14; clear TK4; refine (iFirstAll _ _ room ts _ (RI.ext HR.out HE5.out) (RT.ext HT.out HE5.out) HID.out).mono ?_; rw [← HQ2.out]; rintro e w6 ⟨v6, rfl, hD6, hE6⟩; have HX6 := hid hD6.read; have HX56 := hid (RB.ext HX5.out hE6); have HE6 := hid (HE5.out.trans hE6); clear hD6 hE6; have TK5 : Hid True := hid trivial)
      | (go_at_call 13; clear TK5; refine (lSameBins _ _ Q _ HX56.out HX6.out).mono ?_; rintro e w7 ⟨rfl, hE7⟩; have HE7 := hid (HE6.out.trans hE7); clear hE7; have TK6 : Hid True := hid trivial))
    go_ret
    exact ⟨rfl, HE1.out.trans HE7.out⟩
  · have i1 : (1048576 : Int) < (bs.length : Int) := by omega
    go_enter Try.func3, Try.ntmps3
    go_wp2
    go_ret
    exact ⟨rfl, Ext.refl _⟩

end Go.Proofs.Ytoaabinpdjcimaa
