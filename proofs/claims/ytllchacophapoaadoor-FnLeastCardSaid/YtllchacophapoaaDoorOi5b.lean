/- The law FnLeast. -/
import Derived.Test.YtllchacophapoaaDoorOh9b
import Derived.Test.YtllchacophapoaaDoorK43
import Derived.Test.YtllchacophapoaaDoorK42
import Derived.Test.YtllchacophapoaaDoorK36
import Derived.Test.YtllchacophapoaaDoorK19
namespace Go.Proofs.YtllchacophapoaaDoor
open Go.RowKit
set_option maxRecDepth 4000

theorem once_id {ts L : List TaskD} (hn : (ts.map (·.id)).Nodup) (hp : L.Perm ts) {y : TaskD} (hy : y ∈ ts) : y ∈ L ∧ ∀ t ∈ L, t.id = y.id → t = y :=
  ⟨hp.mem_iff.2 hy, fun _ ht he => once_eq hn (hp.mem_iff.1 ht) hy he⟩

set_option maxHeartbeats 4000000 in
theorem lawLeast (v : Value) (bs : List Int) (w : World) (h : XBy w v bs) (htab : TabOk w) :
    Calls Tryd.prog 4 #[v] w (RetB w true) := by
  have HB := hid h
  have HTAB := hid htab
  obtain ⟨A, c, rfl, _⟩ := h
  clear htab
  by_cases h1 : bs.length ≤ 1048576
  · have i1 : ¬ (1048576 : Int) < (bs.length : Int) := by omega
    go_enter Tryd.func4, Tryd.ntmps4
    go_upto_region 4 with (go_at_call 18; refine (dDrawLeastAll _ bs _ HB.out (by omega)).mono ?_; rintro e w1 ⟨rv, tv, room, ts, rfl, hr, ht, hll, hg, hE1⟩; have hr0 := hr; have ht0 := ht; obtain ⟨Ar, cr, rfl, _⟩ := RI.get hr; obtain ⟨At, ct, rfl, _, _, hgt⟩ := RT.get ht; have HR := hid hr0; have HT := hid ht0; have HGT := hid hgt; have HLL := hid hll; have HID : Hid (∀ t ∈ ts, IdR t.id) := hid (fun t ht => (hg t ht).2.2); have HE1 := hid hE1; clear hr hr0 ht ht0 hgt hg hll hE1)
    have HTB1 := hid (HTAB.out.ext HE1.out)
    obtain ⟨R, hR⟩ : ∃ R, R = leastAllN room ts := ⟨_, rfl⟩
    have HRR := hid hR
    have TK0 : Hid True := hid trivial
    clear hR
    cases hq : tasksOk room ts with
    | false =>
      go_wp2_with (first
        | (go_at_call 10; refine (iLeastAll _ _ room ts _ HR.out HT.out HID.out HTB1.out).mono ?_; rw [← HRR.out]; rintro e w2 ⟨v2, rfl, hB2, hE2⟩; have HB2 := hid hB2.read; have HE2 := hid hE2; clear hB2 hE2)
        | (go_at_call 7; refine (sLeastAll _ _ room ts _ (RI.ext HR.out HE2.out) (RT.ext HT.out HE2.out)).mono ?_; rw [← HRR.out]; rintro e w3 ⟨v3, rfl, hB3, hE3⟩; have HB3 := hid hB3; have HB2 := hid (RB.ext HB2.out hE3); have HE3 := hid (HE2.out.trans hE3); clear hB3 hE3)
        | (go_at_call 19; clear TK0; refine (lSameBins _ _ R _ HB2.out HB3.out).mono ?_; rintro e w4 ⟨rfl, hE4⟩; have HB4 := hid (RB.ext HB2.out hE4); have HB4s := hid (RB.ext HB3.out hE4); have HE4 := hid (HE3.out.trans hE4); have TK1 : Hid True := hid trivial; clear hE4)
        | (go_at_call 20; refine (sTasksValid _ _ room ts _ (RI.ext HR.out HE4.out) (RT.ext HT.out HE4.out)).mono ?_; rw [hq]; rintro e w5 ⟨rfl, n5, hw5⟩; have hx5 : Ext w4 w5 := (by rw [hw5]; exact Ext.drewN _ _); have HX5 := hid hx5; have HE5 := hid (HE4.out.trans hx5); clear hw5 hx5)
        | (go_at_call 19; clear TK1; refine (lSameBins _ _ R _ (RB.ext HB4.out HX5.out) (RB.ext HB4s.out HX5.out)).mono ?_; rintro e w6 ⟨rfl, hE6⟩; have HE6 := hid (HE5.out.trans hE6); clear hE6))
      go_ret
      exact ⟨rfl, HE1.out.trans HE6.out⟩
    | true =>
      by_cases h7 : ts.length ≤ 7
      · have hok : leastOkB room ts = true := by unfold leastOkB; rw [hq, decide_eq_true h7]; rfl
        obtain ⟨q1, q2, q3, q4, q5⟩ := leastAll_ok hok
        rw [← HRR.out] at q1
        rw [← q1] at q2 q3 q4 q5
        have HCN := hid q5
        have HOKR := hid q2
        have HNE := hid q4
        obtain ⟨L, hL⟩ : ∃ L, L = R.flatten := ⟨_, rfl⟩
        have HL := hid hL
        have HPM : Hid (L.Perm ts) := hid (by rw [hL]; exact q3)
        have HND := hid ((tasksOk_iff _ _).1 hq).2.2.2
        have HLE : Hid (L.length = ts.length) := hid HPM.out.length_eq
        have HIR : Hid (∀ t ∈ R.flatten, IdR t.id) := hid (fun t ht => HID.out t (q3.mem_iff.1 ht))
        have HFL : Hid (R.flatten.length ≤ 4000000) := hid (by rw [q3.length_eq]; omega)
        have h7I : ¬ (7 : Int) < (ts.length : Int) := by omega
        clear q1 q2 q3 q4 q5 hL hok
        go_wp2_with (first
          | (go_at_call 10; refine (iLeastAll _ _ room ts _ HR.out HT.out HID.out HTB1.out).mono ?_; rw [← HRR.out]; rintro e w2 ⟨v2, rfl, hB2, hE2⟩; obtain ⟨A2, c2, hv2⟩ := bin_row hB2.read; subst hv2; have HB2 := hid hB2.read; have HE2 := hid hE2; clear hB2 hE2)
          | (go_at_call 7; refine (sLeastAll _ _ room ts _ (RI.ext HR.out HE2.out) (RT.ext HT.out HE2.out)).mono ?_; rw [← HRR.out]; rintro e w3 ⟨v3, rfl, hB3, hE3⟩; have HB3 := hid hB3; have HB2 := hid (RB.ext HB2.out hE3); have HE3 := hid (HE2.out.trans hE3); clear hB3 hE3)
          | (go_at_call 19; refine (lSameBins _ _ R _ HB2.out HB3.out).mono ?_; rintro e w4 ⟨rfl, hE4⟩; have HB4 := hid (RB.ext HB2.out hE4); have HE4 := hid (HE3.out.trans hE4); clear hE4)
          | (go_at_call 20; refine (sTasksValid _ _ room ts _ (RI.ext HR.out HE4.out) (RT.ext HT.out HE4.out)).mono ?_; rw [hq]; rintro e w5 ⟨rfl, n5, hw5⟩; have hx5 : Ext w4 w5 := (by rw [hw5]; exact Ext.drewN _ _); have HB5 := hid (RB.ext HB4.out hx5); have HE5 := hid (HE4.out.trans hx5); clear hw5 hx5)
          | (go_at_call 21; refine (iBinsTasks _ _ room R _ (RI.ext HR.out HE5.out) HB5.out HFL.out HIR.out HOKR.out).mono ?_; rw [← HL.out]; rintro e w6 ⟨v6, rfl, hT6, hE6⟩; obtain ⟨A6, c6, hv6, _⟩ := RT.get hT6; subst hv6; have HT6 := hid hT6; have HB6 := hid (RB.ext HB5.out hE6); have HE6 := hid (HE5.out.trans hE6); clear hT6 hE6))
        go_loopw [8] (fun i wr => ∃ k : Nat, k ≤ ts.length ∧ i = .int .i64 k ∧ Hid (Ext w6 wr)) (fun i _ => ts.length - (intOf i).toNat)
        case atStart => exact ⟨0, Nat.zero_le _, rfl, hid (Ext.refl _)⟩
        case round =>
          obtain ⟨k, hk, rfl, HE⟩ := hrel
          by_cases hlt : k < ts.length
          · obtain ⟨b, o, y, Ay, cy, rfl, e, c0, c1, hny⟩ := HGT.out k hlt
            have i2 : (k : Int) < (ts.length : Int) := by omega
            have i3 : (0 : Int) ≤ (k : Int) := by omega
            have c0r := (HE6.out.trans HE.out).cell c0
            have c1r := (HE6.out.trans HE.out).cell c1
            have HY := hid (once_id HND.out HPM.out (List.mem_of_getElem? e.out))
            have HNY := hid (RI.ext hny (HE6.out.trans HE.out))
            clear c0 c1 hny e
            go_wp2_with (go_at_call 22; refine (lHasTask _ L y Ay cy _ (RT.ext HT6.out HE.out) HNY.out HY.out.1 HY.out.2).mono ?_; rintro e w7 ⟨rfl, hE7⟩; have HE7 := hid (HE.out.trans hE7); clear hE7)
            go_roundw
            case rel => exact ⟨k + 1, by omega, by go_num, HE7⟩
            case measure => simp [intOf]; omega
          · have i2 : ¬ (k : Int) < (ts.length : Int) := by omega
            obtain ⟨A9, c9, hv9, _, _, hgb⟩ := RB.get (RB.ext HB6.out HE.out)
            injection hv9 with hv9 hv8 hv7
            subst hv9 hv7
            clear hv8
            have HGB := hid hgb
            have HB9 := hid (RB.ext HB6.out HE.out)
            have HT9 := hid (RT.ext HT6.out HE.out)
            have HE9 := hid (HE6.out.trans HE.out)
            clear hgb
            go_wp2
            obtain ⟨W9, hW9⟩ : ∃ W9, W9 = wr := ⟨_, rfl⟩
            rw [← hW9] at HGB HB9 HT9 HE9
            have HW9 := hid hW9
            clear hW9
            go_loopw [9] (fun i wr => ∃ k : Nat, k ≤ R.length ∧ i = .int .i64 k ∧ Hid (Ext W9 wr)) (fun i _ => R.length - (intOf i).toNat)
            case atStart => exact ⟨0, Nat.zero_le _, rfl, hid (by rw [HW9.out]; exact Ext.refl _)⟩
            case round =>
              obtain ⟨m, hm, rfl, HM⟩ := hrel
              by_cases hmt : m < R.length
              · obtain ⟨b, o, y, Ay, cy, rfl, ey, d0, _⟩ := HGB.out m hmt
                have j1 : (m : Int) < (R.length : Int) := by omega
                have j0 : (0 : Int) ≤ (m : Int) := by omega
                have d0r := HM.out.cell d0
                have hy0 : ((y.length : Int) == 0) = false := by
                  have := List.length_pos_iff.2 (HNE.out y (List.mem_of_getElem? ey.out))
                  rw [beq_eq_false_iff_ne]
                  omega
                clear d0 ey
                go_wp2
                go_roundw
                case rel => exact ⟨m + 1, by omega, by go_num, HM⟩
                case measure => simp [intOf]; omega
              · have j1 : ¬ (m : Int) < (R.length : Int) := by omega
                have hle : ((L.length : Int) == (ts.length : Int)) = true := by rw [HLE.out]; simp
                go_wp2_with (first
                  | (go_at_call 23; refine (iBinsValid _ _ room R _ (RI.ext HR.out (HE9.out.trans HM.out)) (RB.ext HB9.out HM.out) HFL.out HIR.out).mono ?_; rw [HOKR.out]; rintro e w8 ⟨rfl, hE8⟩; have HE8 := hid (HM.out.trans hE8); clear hE8)
                  | (go_at_call 24; refine (iLeastCount _ _ room ts _ (RI.ext HR.out (HE9.out.trans HE8.out)) (RT.ext HT.out (HE9.out.trans HE8.out)) HID.out (HTB1.out.ext (HE9.out.trans HE8.out))).mono ?_; rw [HCN.out]; rintro e wz ⟨rfl, hEz⟩; have HEz := hid (HE8.out.trans hEz); clear hEz))
                go_ret
                exact ⟨rfl, HE1.out.trans (HE9.out.trans HEz.out)⟩
      · have h7I : (7 : Int) < (ts.length : Int) := by omega
        go_wp2_with (first
          | (go_at_call 10; refine (iLeastAll _ _ room ts _ HR.out HT.out HID.out HTB1.out).mono ?_; rw [← HRR.out]; rintro e w2 ⟨v2, rfl, hB2, hE2⟩; have HB2 := hid hB2.read; have HE2 := hid hE2; clear hB2 hE2)
          | (go_at_call 7; refine (sLeastAll _ _ room ts _ (RI.ext HR.out HE2.out) (RT.ext HT.out HE2.out)).mono ?_; rw [← HRR.out]; rintro e w3 ⟨v3, rfl, hB3, hE3⟩; have HB3 := hid hB3; have HB2 := hid (RB.ext HB2.out hE3); have HE3 := hid (HE2.out.trans hE3); clear hB3 hE3)
          | (go_at_call 19; clear TK0; refine (lSameBins _ _ R _ HB2.out HB3.out).mono ?_; rintro e w4 ⟨rfl, hE4⟩; have HB4 := hid (RB.ext HB2.out hE4); have HB4s := hid (RB.ext HB3.out hE4); have HE4 := hid (HE3.out.trans hE4); have TK1 : Hid True := hid trivial; clear hE4)
          | (go_at_call 20; refine (sTasksValid _ _ room ts _ (RI.ext HR.out HE4.out) (RT.ext HT.out HE4.out)).mono ?_; rw [hq]; rintro e w5 ⟨rfl, n5, hw5⟩; have hx5 : Ext w4 w5 := (by rw [hw5]; exact Ext.drewN _ _); have HX5 := hid hx5; have HE5 := hid (HE4.out.trans hx5); clear hw5 hx5)
          | (go_at_call 19; clear TK1; refine (lSameBins _ _ R _ (RB.ext HB4.out HX5.out) (RB.ext HB4s.out HX5.out)).mono ?_; rintro e w6 ⟨rfl, hE6⟩; have HE6 := hid (HE5.out.trans hE6); clear hE6))
        go_ret
        exact ⟨rfl, HE1.out.trans HE6.out⟩
  · have i1 : (1048576 : Int) < (bs.length : Int) := by omega
    go_enter Tryd.func4, Tryd.ntmps4
    go_wp2
    go_ret
    exact ⟨rfl, Below.refl _ _⟩

end Go.Proofs.YtllchacophapoaaDoor
