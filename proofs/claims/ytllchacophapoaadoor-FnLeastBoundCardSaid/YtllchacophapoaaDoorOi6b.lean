/- The law FnLeastBound. -/
import Derived.Test.YtllchacophapoaaDoorOh9b
import Derived.Test.YtllchacophapoaaDoorK43
import Derived.Test.YtllchacophapoaaDoorK42
import Derived.Test.YtllchacophapoaaDoorK36
import Derived.Test.YtllchacophapoaaDoorK19
namespace Go.Proofs.YtllchacophapoaaDoor
open Go.RowKit
set_option maxRecDepth 4000

set_option maxHeartbeats 4000000 in
theorem lawLeastBound (v : Value) (bs : List Int) (w : World) (h : XBy w v bs) (htab : TabOk w) :
    Calls Tryd.prog 5 #[v] w (RetB w true) := by
  have HB := hid h
  have HTAB := hid htab
  obtain ⟨A, c, rfl, _⟩ := h
  clear htab
  by_cases h1 : bs.length ≤ 1048576
  · have i1 : ¬ (1048576 : Int) < (bs.length : Int) := by omega
    go_enter Tryd.func5, Tryd.ntmps5
    go_upto_region 4 with (go_at_call 25; refine (dDrawLeastCount _ bs _ HB.out (by omega)).mono ?_; rintro e w1 ⟨rv, tv, room, ts, rfl, hr, ht, hll, hg, hE1⟩; have hr0 := hr; have ht0 := ht; obtain ⟨Ar, cr, rfl, _⟩ := RI.get hr; obtain ⟨At, ct, rfl, _⟩ := RT.get ht; have HR := hid hr0; have HT := hid ht0; have HLL := hid hll; have HID : Hid (∀ t ∈ ts, IdR t.id) := hid (fun t ht => (hg t ht).2.2); have HE1 := hid hE1; clear hr hr0 ht ht0 hg hll hE1)
    have HTB1 := hid (HTAB.out.ext HE1.out)
    cases hq : leastOkB room ts with
    | false =>
      have HCN : Hid (leastCountN room ts = -1) := hid (by unfold leastCountN; rw [hq]; rfl)
      go_wp2_with (first
        | (go_at_call 24; refine (iLeastCount _ _ room ts _ HR.out HT.out HID.out HTB1.out).mono ?_; rw [HCN.out]; rintro e w2 ⟨rfl, hE2⟩; have HE2 := hid hE2; clear hE2)
        | (go_at_call 26; refine (sLeastCount _ _ room ts _ (RI.ext HR.out HE2.out) (RT.ext HT.out HE2.out)).mono ?_; rw [HCN.out]; rintro e w3 ⟨rfl, hE3⟩; have HE3 := hid (HE2.out.trans hE3); clear hE3))
      go_ret
      exact ⟨rfl, HE1.out.trans HE3.out⟩
    | true =>
      obtain ⟨L, hL⟩ : ∃ L, L = (leastR room ts).length := ⟨_, rfl⟩
      have HCN : Hid (leastCountN room ts = (L : Int)) := hid (by unfold leastCountN; rw [hq, hL]; rfl)
      have hb := least_bounds (leastOk_iff hq).1
      rw [← hL] at hb
      obtain ⟨m, hm⟩ : ∃ m, m = max (boundSumR room ts) ((apartR room ts).length : Int) := ⟨_, rfl⟩
      have hml : m ≤ (L : Int) := by rw [hm]; exact Int.max_le.2 ⟨hb.1, by have := hb.2.1; omega⟩
      obtain ⟨F, hF⟩ : ∃ F, F = fewestN room ts := ⟨_, rfl⟩
      have hfl : (L : Int) ≤ (F.length : Int) := by have := hb.2.2; rw [hF]; omega
      have HM := hid hm
      have HF := hid hF
      have HOK := hid (leastOk_iff hq).1
      have l0 : ¬ (L : Int) < 0 := by omega
      clear hb hm hF hL
      go_wp2_with (first
        | (go_at_call 24; refine (iLeastCount _ _ room ts _ HR.out HT.out HID.out HTB1.out).mono ?_; rw [HCN.out]; rintro e w2 ⟨rfl, hE2⟩; have HE2 := hid hE2; clear hE2)
        | (go_at_call 26; refine (sLeastCount _ _ room ts _ (RI.ext HR.out HE2.out) (RT.ext HT.out HE2.out)).mono ?_; rw [HCN.out]; rintro e w3 ⟨rfl, hE3⟩; have HE3 := hid (HE2.out.trans hE3); clear hE3)
        | (go_at_call 27; refine (iBoundBest _ _ room ts _ (RI.ext HR.out HE3.out) (RT.ext HT.out HE3.out) HID.out HOK.out).mono ?_; rw [← HM.out]; rintro e w4 ⟨rfl, hE4⟩; have HE4 := hid (HE3.out.trans hE4); clear hE4)
        | (go_at_call 28; refine (iFewestAll _ _ room ts _ (RI.ext HR.out HE4.out) (RT.ext HT.out HE4.out) HID.out).mono ?_; rw [← HF.out]; rintro e w5 ⟨v5, rfl, hB5, hE5⟩; obtain ⟨A5, c5, hv5⟩ := bin_row hB5.read; subst hv5; have HE5 := hid (HE4.out.trans hE5); clear hB5 hE5))
      go_ret
      exact ⟨rfl, HE1.out.trans HE5.out⟩
  · have i1 : (1048576 : Int) < (bs.length : Int) := by omega
    go_enter Tryd.func5, Tryd.ntmps5
    go_wp2
    go_ret
    exact ⟨rfl, Below.refl _ _⟩

end Go.Proofs.YtllchacophapoaaDoor
