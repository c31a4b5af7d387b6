/- The law FnApartAllStep. (Printed by genpz.py.) -/
import Derived.Test.YtoaabinpdjcimaaK28
import Derived.Test.YtoaabinpdjcimaaK29
import Derived.Test.YtoaabinpdjcimaaK23
import Derived.Test.YtoaabinpdjcimaaK11
namespace Go.Proofs.Ytoaabinpdjcimaa
open Go.RowKit
set_option maxRecDepth 4000

theorem binz_id {room : List Int} {bs : List (List TaskD)} (h : binsOk room bs = true) : ∀ t ∈ bs.flatten, IdR t.id := by
  intro t ht
  have := (tasksOk_mem (binsOk_tk h) ht).1
  simp only [inB, Bool.and_eq_true, decide_eq_true_eq] at this
  unfold IdR
  omega
theorem binz_fl {room : List Int} {bs : List (List TaskD)} (h : binsOk room bs = true) : bs.flatten.length ≤ 4000000 := (bins_rows h).2.1

set_option maxHeartbeats 8000000 in
theorem lawApartAllStep (v : Value) (bs : List Int) (w : World) (h : XBy w v bs) :
    Calls Try.prog 7 #[v] w (RetB w true) := by
  have HB := hid h
  obtain ⟨A, c, rfl, _⟩ := h
  by_cases h1 : bs.length ≤ 1048576
  · have i1 : ¬ (1048576 : Int) < (bs.length : Int) := by omega
    go_enter Try.func7, Try.ntmps7
    go_wp2_with (go_at_call 10; refine (dDrawApartAll _ bs _ HB.out (by omega)).mono ?_; rintro e w1 ⟨rv, tv, pv, room, ts, ps, rfl, hr, ht, hp, hl, hg, hpl, hE1⟩; have HR := hid hr; have HT := hid ht; have HP := hid hp; have HTL := hid hl; have HGT := hid hg; have HID : Hid (∀ t ∈ ts, IdR t.id) := hid (fun t ht => (hg t ht).2.2); have HPL := hid hpl; have HE1 := hid hE1; obtain ⟨Ar, cr, rfl, _⟩ := hr; obtain ⟨At, ct, rfl, _⟩ := ht; obtain ⟨Ap, cp, rfl, _⟩ := hp; clear hl hg hpl hE1)
    have TK0 : Hid True := hid trivial
    obtain ⟨R, hR⟩ : ∃ R, R = apartAllN room ts ps := ⟨_, rfl⟩
    have HRR := hid hR
    clear hR
    obtain ⟨_, _, hvT, hcT, hcT2, _⟩ := RT.get HT.out
    injection hvT with e1 _ e3
    subst e1 e3
    cases h2 : tasksOk room ts with
    | false =>
      go_wp2_with (first
        | (go_at_call 11; clear TK0; refine (iApartAll _ _ _ room ts ps _ HR.out HT.out HP.out HID.out).mono ?_; rw [← HRR.out]; rintro e w2 ⟨v2, rfl, hD2, hE2⟩; have hx2 := hD2.read; have HX2 := hid hx2; obtain ⟨A2, c2, rfl⟩ := hD2.form; have HE2 := hid hE2; clear hD2 hE2 hx2; have TK1 : Hid True := hid trivial)
        | (go_at_call 12; clear TK1; refine (sApartAll _ _ _ room ts ps _ (RI.ext HR.out HE2.out) (RT.ext HT.out HE2.out) (RP.ext HP.out HE2.out) (by have := HTL.out; omega)).mono ?_; rw [← HRR.out]; rintro e w3 ⟨v3, rfl, hB3, hE3⟩; have HX3 := hid hB3; have HX23 := hid (RB.ext HX2.out hE3); have HE3 := hid (HE2.out.trans hE3); clear hB3 hE3; have TK2 : Hid True := hid trivial)
        | (go_at_call 13; clear TK2; refine (lSameBins _ _ R _ HX23.out HX3.out).mono ?_; rintro e w4 ⟨rfl, hE4⟩; have HX4 := hid (RB.ext HX23.out hE4); have HY4 := hid (RB.ext HX3.out hE4); have HE4 := hid (HE3.out.trans hE4); clear hE4; have TK3 : Hid True := hid trivial)
        | (go_at_call 32; clear TK3; refine (sTasksValid _ _ room ts _ (RI.ext HR.out HE4.out) (RT.ext HT.out HE4.out)).mono ?_; rintro e w5 ⟨rfl, n5, hw5⟩; rw [h2]; have hE5 : Ext w4 w5 := (by rw [hw5]; exact Ext.drewN _ _); have HX5 := hid (RB.ext HX4.out hE5); have HY5 := hid (RB.ext HY4.out hE5); have HE5 := hid (HE4.out.trans hE5); clear hw5 hE5; have TK4 : Hid True := hid trivial)
        | (go_at_call 13; clear TK4; refine (lSameBins _ _ R _ HX5.out HY5.out).mono ?_; rintro e w6 ⟨rfl, hE6⟩; have HE6 := hid (HE5.out.trans hE6); clear hE6; have TK5 : Hid True := hid trivial))
      go_ret
      exact ⟨rfl, HE1.out.trans HE6.out⟩
    | true =>
      cases h3 : pairsOk ps with
      | false =>
        go_wp2_with (first
          | (go_at_call 11; clear TK0; refine (iApartAll _ _ _ room ts ps _ HR.out HT.out HP.out HID.out).mono ?_; rw [← HRR.out]; rintro e w2 ⟨v2, rfl, hD2, hE2⟩; have hx2 := hD2.read; have HX2 := hid hx2; obtain ⟨A2, c2, rfl⟩ := hD2.form; have HE2 := hid hE2; clear hD2 hE2 hx2; have TK1 : Hid True := hid trivial)
          | (go_at_call 12; clear TK1; refine (sApartAll _ _ _ room ts ps _ (RI.ext HR.out HE2.out) (RT.ext HT.out HE2.out) (RP.ext HP.out HE2.out) (by have := HTL.out; omega)).mono ?_; rw [← HRR.out]; rintro e w3 ⟨v3, rfl, hB3, hE3⟩; have HX3 := hid hB3; have HX23 := hid (RB.ext HX2.out hE3); have HE3 := hid (HE2.out.trans hE3); clear hB3 hE3; have TK2 : Hid True := hid trivial)
          | (go_at_call 13; clear TK2; refine (lSameBins _ _ R _ HX23.out HX3.out).mono ?_; rintro e w4 ⟨rfl, hE4⟩; have HX4 := hid (RB.ext HX23.out hE4); have HY4 := hid (RB.ext HX3.out hE4); have HE4 := hid (HE3.out.trans hE4); clear hE4; have TK3 : Hid True := hid trivial)
          | (go_at_call 32; clear TK3; refine (sTasksValid _ _ room ts _ (RI.ext HR.out HE4.out) (RT.ext HT.out HE4.out)).mono ?_; rintro e w5 ⟨rfl, n5, hw5⟩; rw [h2]; have hE5 : Ext w4 w5 := (by rw [hw5]; exact Ext.drewN _ _); have HX5 := hid (RB.ext HX4.out hE5); have HY5 := hid (RB.ext HY4.out hE5); have HE5 := hid (HE4.out.trans hE5); clear hw5 hE5; have TK4 : Hid True := hid trivial)
          | (go_at_call 33; clear TK4; refine (sPairsValid _ ps _ (RP.ext HP.out HE5.out)).mono ?_; rintro e w6 ⟨rfl, hE6⟩; rw [h3]; have HX6 := hid (RB.ext HX5.out hE6); have HY6 := hid (RB.ext HY5.out hE6); have HE6 := hid (HE5.out.trans hE6); clear hE6; have TK5 : Hid True := hid trivial)
          | (go_at_call 13; clear TK5; refine (lSameBins _ _ R _ HX6.out HY6.out).mono ?_; rintro e w7 ⟨rfl, hE7⟩; have HE7 := hid (HE6.out.trans hE7); clear hE7; have TK6 : Hid True := hid trivial))
        go_ret
        exact ⟨rfl, HE1.out.trans HE7.out⟩
      | true =>
        by_cases h0 : ts.length = 0
        · have hz : ((ts.length : Int) == 0) = true := by simp [h0]
          clear h0
          go_wp2_with (first
            | (go_at_call 11; clear TK0; refine (iApartAll _ _ _ room ts ps _ HR.out HT.out HP.out HID.out).mono ?_; rw [← HRR.out]; rintro e w2 ⟨v2, rfl, hD2, hE2⟩; have hx2 := hD2.read; have HX2 := hid hx2; obtain ⟨A2, c2, rfl⟩ := hD2.form; have HE2 := hid hE2; clear hD2 hE2 hx2; have TK1 : Hid True := hid trivial)
            | (go_at_call 12; clear TK1; refine (sApartAll _ _ _ room ts ps _ (RI.ext HR.out HE2.out) (RT.ext HT.out HE2.out) (RP.ext HP.out HE2.out) (by have := HTL.out; omega)).mono ?_; rw [← HRR.out]; rintro e w3 ⟨v3, rfl, hB3, hE3⟩; have HX3 := hid hB3; have HX23 := hid (RB.ext HX2.out hE3); have HE3 := hid (HE2.out.trans hE3); clear hB3 hE3; have TK2 : Hid True := hid trivial)
            | (go_at_call 13; clear TK2; refine (lSameBins _ _ R _ HX23.out HX3.out).mono ?_; rintro e w4 ⟨rfl, hE4⟩; have HX4 := hid (RB.ext HX23.out hE4); have HY4 := hid (RB.ext HX3.out hE4); have HE4 := hid (HE3.out.trans hE4); clear hE4; have TK3 : Hid True := hid trivial)
            | (go_at_call 32; clear TK3; refine (sTasksValid _ _ room ts _ (RI.ext HR.out HE4.out) (RT.ext HT.out HE4.out)).mono ?_; rintro e w5 ⟨rfl, n5, hw5⟩; rw [h2]; have hE5 : Ext w4 w5 := (by rw [hw5]; exact Ext.drewN _ _); have HX5 := hid (RB.ext HX4.out hE5); have HY5 := hid (RB.ext HY4.out hE5); have HE5 := hid (HE4.out.trans hE5); clear hw5 hE5; have TK4 : Hid True := hid trivial)
            | (go_at_call 33; clear TK4; refine (sPairsValid _ ps _ (RP.ext HP.out HE5.out)).mono ?_; rintro e w6 ⟨rfl, hE6⟩; rw [h3]; have HX6 := hid (RB.ext HX5.out hE6); have HY6 := hid (RB.ext HY5.out hE6); have HE6 := hid (HE5.out.trans hE6); clear hE6; have TK5 : Hid True := hid trivial)
            | (go_at_call 13; clear TK5; refine (lSameBins _ _ R _ HX6.out HY6.out).mono ?_; rintro e w7 ⟨rfl, hE7⟩; have HE7 := hid (HE6.out.trans hE7); clear hE7; have TK6 : Hid True := hid trivial))
          go_ret
          exact ⟨rfl, HE1.out.trans HE7.out⟩
        · have hz : ((ts.length : Int) == 0) = false := by simp; intro h; exact h0 (by rw [h]; rfl)
          obtain ⟨n, hn⟩ : ∃ n, n = ts.length - 1 := ⟨_, rfl⟩
          have hnl : n < ts.length := by omega
          obtain ⟨t, ht⟩ : ∃ t, ts[n]? = some t := ⟨_, List.getElem?_eq_getElem hnl⟩
          have hts : ts = ts.take n ++ [t] := by rw [← take_snoc ht, show n + 1 = ts.length by omega, List.take_length]
          have hstep := apart_step (room := room) (ts := ts.take n) (x := t) (ps := ps) (by rw [← hts]; exact h2) h3
          rw [← hts] at hstep
          obtain ⟨X, hX⟩ : ∃ X, X = apartAllN room (ts.take n) ps := ⟨_, rfl⟩
          obtain ⟨Z, hZ⟩ : ∃ Z, Z = apartAt room X ps t := ⟨_, rfl⟩
          rw [← hX, ← hZ, ← HRR.out] at hstep
          have HXX := hid hX
          have HZZ : Hid (apartAtN room X ps t = Z) := hid hstep.1
          have HRP := hid hstep.2
          have hch := chooses_apart room ps X t
          rw [show (fun bs x => apartAt room bs ps x) X t = Z from hZ.symm] at hch
          have HOKX : Hid (binsOk room X = true) := hid (by rw [hX]; exact (apartAllN_ok (tasks_sub (List.take_sublist n ts) h2) h3).1)
          have HXL : Hid (X.flatten.length ≤ 16) := hid (by rw [hX, (apartAllN_ok (tasks_sub (List.take_sublist n ts) h2) h3).2.1, List.length_take]; have := HTL.out; omega)
          have HTN := hid ht
          have hx14 : X.length ≤ 14 := by rw [hX]; have h9 := apartAll_len room (ts.take n) ps; have h10 := tasksOk_len h2; rw [List.length_take] at h9; omega
          have hwn : IntKind.i64.wrap ((ts.length : Int) - 1) = (n : Int) := by rw [IntWalk.i64_in _ (by have := HTL.out; omega)]; omega
          have in1 : (n : Int) < (ts.length : Int) := by omega
          have in0 : (0 : Int) ≤ (n : Int) := by omega
          have inc : n ≤ ct := by omega
          have incI : (n : Int) ≤ (ct : Int) := by omega
          have HIDX : Hid (∀ y ∈ X.flatten ++ [t], IdR y.id) := hid (fun y hy => by
            rcases List.mem_append.1 hy with hy | hy
            · exact binz_id HOKX.out y hy
            · rw [List.mem_singleton.1 hy]; exact HID.out t (List.mem_of_getElem? ht))
          obtain ⟨_, _, hvT, _, _, hgT⟩ := RT.get HT.out
          injection hvT with e1 _ e3
          subst e1 e3
          obtain ⟨tb, tq, t', Ant, cnt, rfl, et, ct0, ct1, hnt⟩ := hgT n hnl
          have htt : t = t' := by have h9 := et.out; rw [HTN.out] at h9; injection h9
          subst htt
          have KT : Hid (∀ w', Ext w1 w' → w'.cell? ⟨tb, tq + n * 2, none⟩ = some (.int .i64 t.id) ∧ w'.cell? ⟨tb, tq + n * 2 + 1, none⟩ = some (.slice Ant t.need.length cnt)) := hid fun w' hw => ⟨hw.cell ct0, hw.cell ct1⟩
          have HNT := hid hnt
          have hln : (ts.take n).length = n := by rw [List.length_take]; omega
          have HHD : Hid (RT w1 (.slice (some ⟨tb, tq, none⟩) n ct) (ts.take n)) := hid (RSl.head_ HT.out (by omega))
          have HIDT : Hid (∀ y ∈ ts.take n, IdR y.id) := hid (fun y hy => HID.out y (List.mem_of_mem_take hy))
          clear hn ht hts hstep hX hZ h0 hgT et ct0 ct1 hnt hln hnl
          by_cases hneg : Z < 0
          · have HRX : Hid (R = X ++ [[t]]) := hid (by rw [HRP.out, putL_new hneg])
            have HRL : Hid (R.length = X.length + 1) := hid (by rw [HRX.out]; simp)
            have hwl : IntKind.i64.wrap ((X.length : Int) + 1) = (X.length : Int) + 1 := IntWalk.i64_in _ (by omega)
            have heq : ((R.length : Int) == (X.length : Int) + 1) = true := by have := HRL.out; simp; omega
            have hxr : (X.length : Int) ≤ (R.length : Int) := by have := HRL.out; omega
            have hxr2 : X.length ≤ R.length := by omega
            clear hch
            go_wp2_with (first
              | (go_at_call 11; clear TK0; refine (iApartAll _ _ _ room ts ps _ HR.out HT.out HP.out HID.out).mono ?_; rw [← HRR.out]; rintro e w2 ⟨v2, rfl, hD2, hE2⟩; have hx2 := hD2.read; have HX2 := hid hx2; obtain ⟨A2, c2, rfl, hc2, _⟩ := hD2.read; have hc2b : X.length ≤ c2 := (by omega); have hc2i : (X.length : Int) ≤ (c2 : Int) := (by omega); have HE2 := hid hE2; clear hD2 hE2 hx2; have TK1 : Hid True := hid trivial)
              | (go_at_call 12; clear TK1; refine (sApartAll _ _ _ room ts ps _ (RI.ext HR.out HE2.out) (RT.ext HT.out HE2.out) (RP.ext HP.out HE2.out) (by have := HTL.out; omega)).mono ?_; rw [← HRR.out]; rintro e w3 ⟨v3, rfl, hB3, hE3⟩; have HX3 := hid hB3; have HX23 := hid (RB.ext HX2.out hE3); have HE3 := hid (HE2.out.trans hE3); clear hB3 hE3; have TK2 : Hid True := hid trivial)
              | (go_at_call 13; clear TK2; refine (lSameBins _ _ R _ HX23.out HX3.out).mono ?_; rintro e w4 ⟨rfl, hE4⟩; have HX4 := hid (RB.ext HX23.out hE4); have HY4 := hid (RB.ext HX3.out hE4); have HE4 := hid (HE3.out.trans hE4); clear hE4; have TK3 : Hid True := hid trivial)
              | (go_at_call 32; clear TK3; refine (sTasksValid _ _ room ts _ (RI.ext HR.out HE4.out) (RT.ext HT.out HE4.out)).mono ?_; rintro e w5 ⟨rfl, n5, hw5⟩; rw [h2]; have hE5 : Ext w4 w5 := (by rw [hw5]; exact Ext.drewN _ _); have HX5 := hid (RB.ext HX4.out hE5); have HY5 := hid (RB.ext HY4.out hE5); have HE5 := hid (HE4.out.trans hE5); clear hw5 hE5; have TK4 : Hid True := hid trivial)
              | (go_at_call 33; clear TK4; refine (sPairsValid _ ps _ (RP.ext HP.out HE5.out)).mono ?_; rintro e w6 ⟨rfl, hE6⟩; rw [h3]; have HX6 := hid (RB.ext HX5.out hE6); have HY6 := hid (RB.ext HY5.out hE6); have HE6 := hid (HE5.out.trans hE6); clear hE6; have TK5 : Hid True := hid trivial)
              | (go_at_call 11; clear TK5; refine (iApartAll _ _ _ room (ts.take n) ps _ (RI.ext HR.out HE6.out) (RT.ext HHD.out HE6.out) (RP.ext HP.out HE6.out) HIDT.out).mono ?_; rw [← HXX.out]; rintro e w7 ⟨v7, rfl, hD7, hE7⟩; have hx7 := hD7.read; have HB7 := hid hx7; obtain ⟨A7, c7, rfl⟩ := hD7.form; obtain ⟨q0, q1⟩ := KT.out _ (HE6.out.trans hE7); have HX7 := hid (RB.ext HX6.out hE7); have HE7 := hid (HE6.out.trans hE7); clear hD7 hE7 hx7; have TK6 : Hid True := hid trivial)
              | (go_at_call 16; clear TK6; refine (iApartAt _ _ _ _ room X ps t _ (RI.ext HR.out HE7.out) HB7.out (RP.ext HP.out HE7.out) ⟨_, rfl, RI.ext HNT.out HE7.out⟩ (by have := HXL.out; omega) HIDX.out).mono ?_; rw [HZZ.out]; rintro e w8 ⟨rfl, hE8⟩; have HB8 := hid (RB.ext HB7.out hE8); have HX8 := hid (RB.ext HX7.out hE8); have HE8 := hid (HE7.out.trans hE8); clear hE8 q0 q1; have TK7 : Hid True := hid trivial)
              | (go_at_call 13; clear TK7; refine (lSameBins _ _ X _ (by have h9 := RSl.head_ (k := X.length) HX8.out (by have := HRL.out; omega); have h10 : R.take X.length = X := (by rw [HRX.out]; simp); rw [h10] at h9; exact h9) HB8.out).mono ?_; rintro e w9 ⟨rfl, hE9⟩; have HE9 := hid (HE8.out.trans hE9); clear hE9; have TK8 : Hid True := hid trivial))
            go_ret
            exact ⟨rfl, HE1.out.trans HE9.out⟩
          · obtain ⟨k, d, hzk, hd, hfit⟩ : ∃ (k : Nat) (d : List TaskD), Z = (k : Int) ∧ X[k]? = some d ∧ l11fits room d t = true := by
              rcases hch with h | h
              · exact absurd h hneg
              · exact h
            have hkl : k < X.length := (List.getElem?_eq_some_iff.1 hd).1
            have HRX : Hid (R = X.set k (d ++ [t])) := hid (by rw [HRP.out, hzk, putL_at hd])
            have HDK := hid hd
            have HBND : Hid (d.length ≤ 2000000) := hid (by have h9 := (List.sublist_flatten_of_mem (List.mem_of_getElem? hd)).length_le; have := HXL.out; omega)
            have i1 : (k : Int) < (X.length : Int) := by omega
            have i0 : (0 : Int) ≤ (k : Int) := by omega
            have ik : ¬ (k : Int) < 0 := by omega
            subst hzk
            obtain ⟨i0_bin, hi0_bin, hz0_bin, hz1_bin, hz2_bin⟩ := info_parts info_bin
            obtain ⟨i0_task, hi0_task, hz0_task, hz1_task, hz2_task⟩ := info_parts info_task
            clear hneg hch hfit hd
            go_wp2_with (first
              | (go_at_call 11; clear TK0; refine (iApartAll _ _ _ room ts ps _ HR.out HT.out HP.out HID.out).mono ?_; rw [← HRR.out]; rintro e w2 ⟨v2, rfl, hD2, hE2⟩; have hx2 := hD2.read; have HX2 := hid hx2; obtain ⟨A2, c2, rfl⟩ := hD2.form; have HE2 := hid hE2; clear hD2 hE2 hx2; have TK1 : Hid True := hid trivial)
              | (go_at_call 12; clear TK1; refine (sApartAll _ _ _ room ts ps _ (RI.ext HR.out HE2.out) (RT.ext HT.out HE2.out) (RP.ext HP.out HE2.out) (by have := HTL.out; omega)).mono ?_; rw [← HRR.out]; rintro e w3 ⟨v3, rfl, hB3, hE3⟩; have HX3 := hid hB3; have HX23 := hid (RB.ext HX2.out hE3); have HE3 := hid (HE2.out.trans hE3); clear hB3 hE3; have TK2 : Hid True := hid trivial)
              | (go_at_call 13; clear TK2; refine (lSameBins _ _ R _ HX23.out HX3.out).mono ?_; rintro e w4 ⟨rfl, hE4⟩; have HX4 := hid (RB.ext HX23.out hE4); have HY4 := hid (RB.ext HX3.out hE4); have HE4 := hid (HE3.out.trans hE4); clear hE4; have TK3 : Hid True := hid trivial)
              | (go_at_call 32; clear TK3; refine (sTasksValid _ _ room ts _ (RI.ext HR.out HE4.out) (RT.ext HT.out HE4.out)).mono ?_; rintro e w5 ⟨rfl, n5, hw5⟩; rw [h2]; have hE5 : Ext w4 w5 := (by rw [hw5]; exact Ext.drewN _ _); have HX5 := hid (RB.ext HX4.out hE5); have HY5 := hid (RB.ext HY4.out hE5); have HE5 := hid (HE4.out.trans hE5); clear hw5 hE5; have TK4 : Hid True := hid trivial)
              | (go_at_call 33; clear TK4; refine (sPairsValid _ ps _ (RP.ext HP.out HE5.out)).mono ?_; rintro e w6 ⟨rfl, hE6⟩; rw [h3]; have HX6 := hid (RB.ext HX5.out hE6); have HY6 := hid (RB.ext HY5.out hE6); have HE6 := hid (HE5.out.trans hE6); clear hE6; have TK5 : Hid True := hid trivial)
              | (go_at_call 11; clear TK5; refine (iApartAll _ _ _ room (ts.take n) ps _ (RI.ext HR.out HE6.out) (RT.ext HHD.out HE6.out) (RP.ext HP.out HE6.out) HIDT.out).mono ?_; rw [← HXX.out]; rintro e w7 ⟨v7, rfl, hD7, hE7⟩; have hx7 := hD7.read; have HB7 := hid hx7; obtain ⟨A7, c7, rfl⟩ := hD7.form; obtain ⟨q0, q1⟩ := KT.out _ (HE6.out.trans hE7); have HX7 := hid (RB.ext HX6.out hE7); have HE7 := hid (HE6.out.trans hE7); clear hD7 hE7 hx7; have TK6 : Hid True := hid trivial)
              | (go_at_call 16; clear TK6; refine (iApartAt _ _ _ _ room X ps t _ (RI.ext HR.out HE7.out) HB7.out (RP.ext HP.out HE7.out) ⟨_, rfl, RI.ext HNT.out HE7.out⟩ (by have := HXL.out; omega) HIDX.out).mono ?_; rw [HZZ.out]; rintro e w8 ⟨rfl, hE8⟩; have HB8 := hid (RB.ext HB7.out hE8); have HX8 := hid (RB.ext HX7.out hE8); have HE8 := hid (HE7.out.trans hE8); clear hE8 q0 q1; have TK7 : Hid True := hid trivial)
              | (at_builtin; obtain ⟨W9, hW9⟩ : ∃ y, y = w8.alloc (.cells #[] 24) := ⟨_, rfl⟩; have hE9 : Ext w8 W9 := (by rw [hW9]; exact Ext.alloc _ _); have hM9 : OB W9 w8.heap.size (.slice (some ⟨w8.heap.size, 0, none⟩) 0 0) [] := (by rw [hW9]; exact Own.made #[] 0 (Nat.le_refl _) (by omega) rfl); have hz9 := hE9.size; rw [← hW9]; refine wpList_append_sl _ (by rfl) _ _ 28 (by rfl) EB.ok EB.flat (w8.heap.size) 24 EB.ne i0_bin _ 1 24 Try.underlying28 hi0_bin hz0_bin hz1_bin hz2_bin rfl (by omega) _ (by rfl) _ (hM9) _ (by rfl) _ (RB.ext HB8.out hE9) (by simp; omega) (by simp; omega) ?_ ?_; (focus (first | exact Nat.le_refl _ | (simp; done) | (simp; omega) | omega)); intro v10 w10 hO10 hg10 hat10 hs10; have HO10 : Hid (OB w10 w8.heap.size v10 X) := hid (by simpa using hO10); have hE10 : Ext w8 w10 := Below.grown hE9 hg10 hE9.size (fun q hq => (Own.lt hM9 q hq).1); have HB10 := hid (RB.ext HB8.out hE10); have HX10 := hid (RB.ext HX8.out hE10); have HE10 := hid (HE8.out.trans hE10); have HE810 := hid hE10; obtain ⟨g, cy, hv10, _⟩ := Own.row HO10.out (by omega); subst hv10; clear hO10 hg10 hat10 hs10 hE10; clear hM9 hE9 hz9 hW9))
            obtain ⟨_, _, hvb, _, _, hgx⟩ := RB.get HB10.out
            injection hvb with e1 _ e3
            subst e1 e3
            obtain ⟨xb, xo, d', Ad, cd, rfl, ed, cbd, hdr⟩ := hgx k hkl
            have hdd : d = d' := by have h9 := ed.out; rw [HDK.out] at h9; injection h9
            subst hdd
            have HDR := hid hdr
            have KS : Hid (∀ w', Ext w10 w' → w'.cell? ⟨xb, xo + k, none⟩ = some (.slice Ad d.length cd) ∧ w'.cell? ⟨tb, tq + n * 2, none⟩ = some (.int .i64 t.id) ∧ w'.cell? ⟨tb, tq + n * 2 + 1, none⟩ = some (.slice Ant t.need.length cnt)) := hid fun w' hw => ⟨hw.cell cbd, (KT.out _ (HE10.out.trans hw)).1, (KT.out _ (HE10.out.trans hw)).2⟩
            have HDr : Hid (Ext w10 w10.drew) := hid (Below.drew (Below.refl _ _))
            clear hgx cbd hdr ed
            refine WG.start (fun w' => w'.cell? ⟨xb, xo + k, none⟩ = some (.slice Ad d.length cd) ∧ w'.cell? ⟨tb, tq + n * 2, none⟩ = some (.int .i64 t.id) ∧ w'.cell? ⟨tb, tq + n * 2 + 1, none⟩ = some (.slice Ant t.need.length cnt)) [14,15] (by kernel_rfl) (by exact KS.out _ HDr.out) (fun hHeld => ?_)
            obtain ⟨pz, hpz⟩ : ∃ y, y = w10.drew := ⟨_, rfl⟩
            rw [← hpz] at hHeld HDr ⊢
            clear hpz
            have HX := HDr
            (refine WG.take (i := 0) (v := ?_) rfl (by kernel_rfl) (by kernel_rfl) (by kernel_rfl) (by kernel_rfl) (fun _ _ _ h => h) (Or.inl ⟨by rfl, ?_⟩) (by assumption) ?_; rotate_left; (intro w hSw; (try dsimp only at hSw); go_split_ands; go_simp; (try with_reducible rfl)); (try simp only [Act.put, List.setIfInBounds_toArray, List.set_cons_zero, List.set_cons_succ]))
            (refine WG.take (i := 1) (v := ?_) rfl (by kernel_rfl) (by kernel_rfl) (by kernel_rfl) (by kernel_rfl) (fun _ _ _ h => h) (Or.inl ⟨by rfl, ?_⟩) (by assumption) ?_; rotate_left; (intro w hSw; (try dsimp only at hSw); go_split_ands; go_simp; (try with_reducible rfl)); (try simp only [Act.put, List.setIfInBounds_toArray, List.set_cons_zero, List.set_cons_succ]))
            (refine WG.take (i := 3) (v := ?_) rfl (by kernel_rfl) (by kernel_rfl) (by kernel_rfl) (by kernel_rfl) (fun _ _ _ h => h) (Or.inl ⟨by rfl, ?_⟩) (by assumption) ?_; rotate_left; (intro w hSw; (try dsimp only at hSw); go_split_ands; go_simp; (try with_reducible rfl)); (try simp only [Act.put, List.setIfInBounds_toArray, List.set_cons_zero, List.set_cons_succ]))
            (refine WG.take (i := 4) (v := ?_) rfl (by kernel_rfl) (by kernel_rfl) (by kernel_rfl) (by kernel_rfl) (fun _ _ _ h => h) (Or.inl ⟨by rfl, ?_⟩) (by assumption) ?_; rotate_left; (intro w hSw; (try dsimp only at hSw); go_split_ands; go_simp; (try with_reducible rfl)); (try simp only [Act.put, List.setIfInBounds_toArray, List.set_cons_zero, List.set_cons_succ]))
            (refine WG.take (i := 5) (v := ?_) rfl (by kernel_rfl) (by kernel_rfl) (by kernel_rfl) (by kernel_rfl) (fun _ _ _ h => h) (Or.inl ⟨by rfl, ?_⟩) (by assumption) ?_; rotate_left; (intro w hSw; (try dsimp only at hSw); go_split_ands; go_simp; (try with_reducible rfl)); (try simp only [Act.put, List.setIfInBounds_toArray, List.set_cons_zero, List.set_cons_succ]))
            (refine WG.take (i := 6) (v := ?_) rfl (by kernel_rfl) (by kernel_rfl) (by kernel_rfl) (by kernel_rfl) (fun _ _ _ h => h) (Or.inl ⟨by rfl, ?_⟩) (by assumption) ?_; rotate_left; (intro w hSw; (try dsimp only at hSw); go_split_ands; go_simp; (try with_reducible rfl)); (try simp only [Act.put, List.setIfInBounds_toArray, List.set_cons_zero, List.set_cons_succ]))
            (refine WG.take (i := 8) (v := ?_) rfl (by kernel_rfl) (by kernel_rfl) (by kernel_rfl) (by kernel_rfl) (fun _ _ _ h => h) (Or.inl ⟨by rfl, ?_⟩) (by assumption) ?_; rotate_left; (intro w hSw; (try dsimp only at hSw); go_split_ands; go_simp; (try with_reducible rfl)); (try simp only [Act.put, List.setIfInBounds_toArray, List.set_cons_zero, List.set_cons_succ]))
            (refine WG.take (i := 9) (v := ?_) rfl (by kernel_rfl) (by kernel_rfl) (by kernel_rfl) (by kernel_rfl) (fun _ _ _ h => h) (Or.inl ⟨by rfl, ?_⟩) (by assumption) ?_; rotate_left; (intro w hSw; (try dsimp only at hSw); go_split_ands; go_simp; (try with_reducible rfl)); (try simp only [Act.put, List.setIfInBounds_toArray, List.set_cons_zero, List.set_cons_succ]))
            (refine WG.take (i := 10) (v := ?_) rfl (by kernel_rfl) (by kernel_rfl) (by kernel_rfl) (by kernel_rfl) (fun _ _ _ h => h) (Or.inl ⟨by rfl, ?_⟩) (by assumption) ?_; rotate_left; (intro w hSw; (try dsimp only at hSw); go_split_ands; go_simp; (try with_reducible rfl)); (try simp only [Act.put, List.setIfInBounds_toArray, List.set_cons_zero, List.set_cons_succ]))
            (refine WG.take (i := 11) (v := ?_) rfl (by kernel_rfl) (by kernel_rfl) (by kernel_rfl) (by kernel_rfl) (fun _ _ _ h => h) (Or.inl ⟨by rfl, ?_⟩) (by assumption) ?_; rotate_left; (intro w hSw; (try dsimp only at hSw); go_split_ands; go_simp; (try with_reducible rfl)); (try simp only [Act.put, List.setIfInBounds_toArray, List.set_cons_zero, List.set_cons_succ]))
            refine WG.two (i := 2) (j := 12) rfl rfl (by kernel_rfl) (fun K hK => ?_) (fun K hK => ?_)
            · go_simp
              refine hK.out _ _ (by exact KS.out _ (HX.out.trans (Ext.alloc _ _))) (fun hHeld => ?_)
              clear hK K
              (try simp only [Act.put, List.setIfInBounds_toArray, List.set_cons_zero, List.set_cons_succ])
              obtain ⟨p1, hp1⟩ : ∃ x, x = pz.alloc (.cells #[] 34) := ⟨_, rfl⟩
              obtain ⟨BE, hBE⟩ : ∃ x, x = pz.heap.size := ⟨_, rfl⟩
              have hE : Ext pz p1 := by rw [hp1]; exact Ext.alloc _ _
              have HM : Hid (OT p1 BE (.slice (some ⟨BE, 0, none⟩) 0 0) []) := hid (by rw [hp1]; exact Own.madeAt #[] 0 BE hBE.symm (Nat.le_refl _) (by omega) rfl)
              have HBE : Hid (w10.heap.size ≤ BE) := hid (by rw [hBE]; exact HX.out.size)
              rw [← hp1] at hHeld ⊢
              rw [← hBE]
              have HX := hid (HX.out.trans hE)
              have HQZ : Hid (BE ≤ p1.heap.size) := hid (by rw [hBE]; exact hE.size)
              clear hp1 hBE hE
              refine WG.two (i := 7) (j := 12) rfl rfl (by kernel_rfl) (fun K hK => ?_) (fun K hK => ?_)
              · have hbe : BE ≤ p1.heap.size := HQZ.out
                have HM0B : Hid (∀ q, (Value.slice (some ⟨BE, 0, none⟩) 0 0).ownBlock = some q → q = BE) := hid (fun q hq => by simpa [Value.ownBlock] using hq.symm)
                have hbnd := HBND.out
                refine step_append_sl _ (by rfl) _ _ 24 (by rfl) ET.ok ET.flat (BE) 34 ET.ne i0_task _ 2 32 Try.underlying24 hi0_task hz0_task hz1_task hz2_task rfl (by omega) _ (by rfl) _ (HM.out) _ (by rfl) _ (RT.ext HDR.out HX.out) (by simp; omega) (by simp; omega) ?_ ?_; (focus (first | exact Nat.le_refl _ | (simp; done) | (simp; omega) | omega)); intro v33 p2 hO hg hat hs; have HV : Hid (OT p2 BE v33 d) := hid (by simpa using hO); have HQZ := hid (Nat.le_trans HQZ.out hg.size); have HX2 : Hid (Ext w10 p2) := hid (Below.grown HX.out hg HX.out.size (fun q hq => Nat.le_trans HBE.out (Own.lt HM.out q hq).1)); clear hO hg hat hs hbe hbnd
                refine hK.out _ _ (by exact KS.out _ HX2.out) (fun hHeld => ?_)
                clear hK K
                (try simp only [Act.put, List.setIfInBounds_toArray, List.set_cons_zero, List.set_cons_succ])
                have HX := HX2
                clear HX2
                refine WG.one (i := 12) rfl (by kernel_rfl) (fun K hK => ?_)
                go_simp
                refine hK.out _ _ (by exact KS.out _ (HX.out.trans (Ext.alloc _ _))) (fun hHeld => ?_)
                clear hK K
                (try simp only [Act.put, List.setIfInBounds_toArray, List.set_cons_zero, List.set_cons_succ])
                obtain ⟨p3, hp3⟩ : ∃ yy, yy = p2.alloc (.cells #[.int .i64 t.id, .slice Ant t.need.length cnt] 34) := ⟨_, rfl⟩
                obtain ⟨BL, hBL⟩ : ∃ x, x = p2.heap.size := ⟨_, rfl⟩
                have hE : Ext p2 p3 := by rw [hp3]; exact Ext.alloc _ _
                have HL : Hid (p3.heap[BL]? = some (.cells #[.int .i64 t.id, .slice Ant t.need.length cnt] 34 (0, 0))) := hid (by rw [hp3, hBL]; exact heap_alloc_new _ _)
                rw [← hp3] at hHeld ⊢
                rw [← hBL]
                have HX := hid (HX.out.trans hE)
                have HQZ := hid (Nat.le_trans HQZ.out hE.size)
                have HV := hid (Own.ext ET.ok HV.out hE)
                clear hp3 hBL hE
                have hbe : BE ≤ p3.heap.size := HQZ.out
                have hbnd := HBND.out
                refine WG.one (i := 13) rfl (by kernel_rfl) (fun K hK => ?_)
                refine step_append_sl _ (by rfl) _ _ 24 (by rfl) ET.ok ET.flat (BE) 34 ET.ne i0_task _ 2 32 Try.underlying24 hi0_task hz0_task hz1_task hz2_task rfl (by omega) _ (by rfl) _ (HV.out) _ (by rfl) _ (RSl.laid (cs := [.int .i64 t.id, .slice Ant t.need.length cnt]) (x := t) HL.out rfl ⟨_, rfl, RI.ext HNT.out (HE10.out.trans HX.out)⟩) (by simp; omega) (by simp; omega) ?_ ?_; (focus (first | exact Nat.le_refl _ | (simp; done) | (simp; omega) | omega)); intro v12 w12 hO12 hg12 hat12 hs12; have HY12 := hid hO12; have HX12 : Hid (Ext w10 w12) := hid (Below.grown HX.out hg12 HX.out.size (fun q hq => Nat.le_trans HBE.out (Own.lt HV.out q hq).1)); clear hO12 hg12 hat12 hs12 hbe hbnd
                refine hK.out _ _ (by exact KS.out _ HX12.out) (fun hHeld => ?_)
                clear hK K
                (try simp only [Act.put, List.setIfInBounds_toArray, List.set_cons_zero, List.set_cons_succ])
                obtain ⟨A12, c12, hv12, _, _⟩ := HY12.out.form_app
                subst hv12
                have HOY := hid (Own.ext EB.ok HO10.out HX12.out)
                obtain ⟨csy, _, hey, hcy⟩ := Own.at_ HOY.out HDK.out
                obtain ⟨vy, hvy, _⟩ := hey
                subst hvy
                have cgy : w12.cell? ⟨g, k, none⟩ = some vy := by simpa using hcy 0 _ rfl
                have fgy : w12.frozen? ⟨g, k, none⟩ = false := HOY.out.frozen_ _
                clear hcy
                (refine WG.takeP (i := 14) (v := ?_) rfl (by kernel_rfl) (by kernel_rfl) (by kernel_rfl) (by kernel_rfl) (fun _ _ _ h => h) (Or.inl ⟨by rfl, ?_⟩) ?_; rotate_left; (intro w hSw; clear hSw; go_simp; (try with_reducible rfl)); (try simp only [Act.put, List.setIfInBounds_toArray, List.set_cons_zero, List.set_cons_succ]))
                refine WG.last (i := 15) rfl (by kernel_rfl) (by kernel_rfl) (fun K hK => ?_)
                go_simp
                refine hK.out _ _ ?_
                clear hK K
                (try simp only [Act.put, List.setIfInBounds_toArray, List.set_cons_zero, List.set_cons_succ])
                refine WG.done (by kernel_rfl) ?_
                have hset := (Own.set EB.ok EB.ne HOY.out (j := k) (i := 0) (u := .slice A12 (d.length + 1) c12) (x' := d ++ [t]) HDK.out (by omega) (fun w' hw cs hl he => by
                  obtain ⟨vz, hvz, _⟩ := he
                  rw [hvz]
                  exact ⟨_, rfl, RT.same HY12.out.read hw⟩)).1
                have hsame := (Own.set EB.ok EB.ne HOY.out (j := k) (i := 0) (u := .slice A12 (d.length + 1) c12) (x' := d ++ [t]) HDK.out (by omega) (fun w' hw cs hl he => by
                  obtain ⟨vz, hvz, _⟩ := he
                  rw [hvz]
                  exact ⟨_, rfl, RT.same HY12.out.read hw⟩)).2
                have HSET : Hid (RB (w12.setCell ⟨g, k, none⟩ (.slice A12 (d.length + 1) c12)) (.slice (some ⟨g, 0, none⟩) X.length cy) (X.set k (d ++ [t]))) := hid (by simpa using hset.read)
                have hgb : w8.heap.size ≤ g := (Own.lt HO10.out g rfl).1
                have HBS : Hid (Below w8.heap.size w8 (w12.setCell ⟨g, k, none⟩ (.slice A12 (d.length + 1) c12))) := hid (Below.setCell (Below.trans HE810.out (HX12.out.mono HE810.out.size)) hgb _)
                have HXS : Hid (RB (w12.setCell ⟨g, k, none⟩ (.slice A12 (d.length + 1) c12)) (.slice A2 R.length c2) R) := hid (RB.ext HX8.out HBS.out)
                clear hset hsame
                go_wp2_with (go_at_call 13; refine (lSameBins _ _ R _ HXS.out (by rw [HRX.out]; exact HSET.out)).mono ?_; rintro e w13 ⟨rfl, hE13⟩; have HE13 := hid hE13; clear hE13)
                go_ret
                exact ⟨rfl, HE1.out.trans (HE8.out.trans (Ext.trans HBS.out HE13.out))⟩

              · go_simp
                refine hK.out _ _ (by exact KS.out _ (HX.out.trans (Ext.alloc _ _))) (fun hHeld => ?_)
                clear hK K
                (try simp only [Act.put, List.setIfInBounds_toArray, List.set_cons_zero, List.set_cons_succ])
                obtain ⟨p2, hp2⟩ : ∃ yy, yy = p1.alloc (.cells #[.int .i64 t.id, .slice Ant t.need.length cnt] 34) := ⟨_, rfl⟩
                obtain ⟨BL, hBL⟩ : ∃ x, x = p1.heap.size := ⟨_, rfl⟩
                have hE : Ext p1 p2 := by rw [hp2]; exact Ext.alloc _ _
                have HL : Hid (p2.heap[BL]? = some (.cells #[.int .i64 t.id, .slice Ant t.need.length cnt] 34 (0, 0))) := hid (by rw [hp2, hBL]; exact heap_alloc_new _ _)
                have NEL : Hid (BE < BL) := hid (by rw [hBL]; exact (Own.lt HM.out BE rfl).2)
                rw [← hp2] at hHeld ⊢
                rw [← hBL]
                have HX := hid (HX.out.trans hE)
                have HQZ := hid (Nat.le_trans HQZ.out hE.size)
                have HM := hid (Own.ext ET.ok HM.out hE)
                clear hp2 hBL hE
                refine WG.one (i := 7) rfl (by kernel_rfl) (fun K hK => ?_)
                have hbe : BE ≤ p2.heap.size := HQZ.out
                have HM0B : Hid (∀ q, (Value.slice (some ⟨BE, 0, none⟩) 0 0).ownBlock = some q → q = BE) := hid (fun q hq => by simpa [Value.ownBlock] using hq.symm)
                have hbnd := HBND.out
                refine step_append_sl _ (by rfl) _ _ 24 (by rfl) ET.ok ET.flat (BE) 34 ET.ne i0_task _ 2 32 Try.underlying24 hi0_task hz0_task hz1_task hz2_task rfl (by omega) _ (by rfl) _ (HM.out) _ (by rfl) _ (RT.ext HDR.out HX.out) (by simp; omega) (by simp; omega) ?_ ?_; (focus (first | exact Nat.le_refl _ | (simp; done) | (simp; omega) | omega)); intro v33 p3 hO hg hat hs; have HV : Hid (OT p3 BE v33 d) := hid (by simpa using hO); have HQZ := hid (Nat.le_trans HQZ.out hg.size); have HX2 : Hid (Ext w10 p3) := hid (Below.grown HX.out hg HX.out.size (fun q hq => Nat.le_trans HBE.out (Own.lt HM.out q hq).1)); have HL := hid ((hg.block BL (obj_lt HL.out) (fun e => by have h1 := NEL.out; have h2 := HM0B.out BL e.symm; omega)).trans HL.out); clear hO hg hat hs hbe hbnd
                refine hK.out _ _ (by exact KS.out _ HX2.out) (fun hHeld => ?_)
                clear hK K
                (try simp only [Act.put, List.setIfInBounds_toArray, List.set_cons_zero, List.set_cons_succ])
                have HX := HX2
                clear HX2
                have hbe : BE ≤ p3.heap.size := HQZ.out
                have hbnd := HBND.out
                refine WG.one (i := 13) rfl (by kernel_rfl) (fun K hK => ?_)
                refine step_append_sl _ (by rfl) _ _ 24 (by rfl) ET.ok ET.flat (BE) 34 ET.ne i0_task _ 2 32 Try.underlying24 hi0_task hz0_task hz1_task hz2_task rfl (by omega) _ (by rfl) _ (HV.out) _ (by rfl) _ (RSl.laid (cs := [.int .i64 t.id, .slice Ant t.need.length cnt]) (x := t) HL.out rfl ⟨_, rfl, RI.ext HNT.out (HE10.out.trans HX.out)⟩) (by simp; omega) (by simp; omega) ?_ ?_; (focus (first | exact Nat.le_refl _ | (simp; done) | (simp; omega) | omega)); intro v12 w12 hO12 hg12 hat12 hs12; have HY12 := hid hO12; have HX12 : Hid (Ext w10 w12) := hid (Below.grown HX.out hg12 HX.out.size (fun q hq => Nat.le_trans HBE.out (Own.lt HV.out q hq).1)); clear hO12 hg12 hat12 hs12 hbe hbnd
                refine hK.out _ _ (by exact KS.out _ HX12.out) (fun hHeld => ?_)
                clear hK K
                (try simp only [Act.put, List.setIfInBounds_toArray, List.set_cons_zero, List.set_cons_succ])
                obtain ⟨A12, c12, hv12, _, _⟩ := HY12.out.form_app
                subst hv12
                have HOY := hid (Own.ext EB.ok HO10.out HX12.out)
                obtain ⟨csy, _, hey, hcy⟩ := Own.at_ HOY.out HDK.out
                obtain ⟨vy, hvy, _⟩ := hey
                subst hvy
                have cgy : w12.cell? ⟨g, k, none⟩ = some vy := by simpa using hcy 0 _ rfl
                have fgy : w12.frozen? ⟨g, k, none⟩ = false := HOY.out.frozen_ _
                clear hcy
                (refine WG.takeP (i := 14) (v := ?_) rfl (by kernel_rfl) (by kernel_rfl) (by kernel_rfl) (by kernel_rfl) (fun _ _ _ h => h) (Or.inl ⟨by rfl, ?_⟩) ?_; rotate_left; (intro w hSw; clear hSw; go_simp; (try with_reducible rfl)); (try simp only [Act.put, List.setIfInBounds_toArray, List.set_cons_zero, List.set_cons_succ]))
                refine WG.last (i := 15) rfl (by kernel_rfl) (by kernel_rfl) (fun K hK => ?_)
                go_simp
                refine hK.out _ _ ?_
                clear hK K
                (try simp only [Act.put, List.setIfInBounds_toArray, List.set_cons_zero, List.set_cons_succ])
                refine WG.done (by kernel_rfl) ?_
                have hset := (Own.set EB.ok EB.ne HOY.out (j := k) (i := 0) (u := .slice A12 (d.length + 1) c12) (x' := d ++ [t]) HDK.out (by omega) (fun w' hw cs hl he => by
                  obtain ⟨vz, hvz, _⟩ := he
                  rw [hvz]
                  exact ⟨_, rfl, RT.same HY12.out.read hw⟩)).1
                have hsame := (Own.set EB.ok EB.ne HOY.out (j := k) (i := 0) (u := .slice A12 (d.length + 1) c12) (x' := d ++ [t]) HDK.out (by omega) (fun w' hw cs hl he => by
                  obtain ⟨vz, hvz, _⟩ := he
                  rw [hvz]
                  exact ⟨_, rfl, RT.same HY12.out.read hw⟩)).2
                have HSET : Hid (RB (w12.setCell ⟨g, k, none⟩ (.slice A12 (d.length + 1) c12)) (.slice (some ⟨g, 0, none⟩) X.length cy) (X.set k (d ++ [t]))) := hid (by simpa using hset.read)
                have hgb : w8.heap.size ≤ g := (Own.lt HO10.out g rfl).1
                have HBS : Hid (Below w8.heap.size w8 (w12.setCell ⟨g, k, none⟩ (.slice A12 (d.length + 1) c12))) := hid (Below.setCell (Below.trans HE810.out (HX12.out.mono HE810.out.size)) hgb _)
                have HXS : Hid (RB (w12.setCell ⟨g, k, none⟩ (.slice A12 (d.length + 1) c12)) (.slice A2 R.length c2) R) := hid (RB.ext HX8.out HBS.out)
                clear hset hsame
                go_wp2_with (go_at_call 13; refine (lSameBins _ _ R _ HXS.out (by rw [HRX.out]; exact HSET.out)).mono ?_; rintro e w13 ⟨rfl, hE13⟩; have HE13 := hid hE13; clear hE13)
                go_ret
                exact ⟨rfl, HE1.out.trans (HE8.out.trans (Ext.trans HBS.out HE13.out))⟩

            · go_simp
              refine hK.out _ _ (by exact KS.out _ (HX.out.trans (Ext.alloc _ _))) (fun hHeld => ?_)
              clear hK K
              (try simp only [Act.put, List.setIfInBounds_toArray, List.set_cons_zero, List.set_cons_succ])
              obtain ⟨p1, hp1⟩ : ∃ yy, yy = pz.alloc (.cells #[.int .i64 t.id, .slice Ant t.need.length cnt] 34) := ⟨_, rfl⟩
              obtain ⟨BL, hBL⟩ : ∃ x, x = pz.heap.size := ⟨_, rfl⟩
              have hE : Ext pz p1 := by rw [hp1]; exact Ext.alloc _ _
              have HL : Hid (p1.heap[BL]? = some (.cells #[.int .i64 t.id, .slice Ant t.need.length cnt] 34 (0, 0))) := hid (by rw [hp1, hBL]; exact heap_alloc_new _ _)
              rw [← hp1] at hHeld ⊢
              rw [← hBL]
              have HX := hid (HX.out.trans hE)
              clear hp1 hBL hE
              refine WG.one (i := 2) rfl (by kernel_rfl) (fun K hK => ?_)
              go_simp
              refine hK.out _ _ (by exact KS.out _ (HX.out.trans (Ext.alloc _ _))) (fun hHeld => ?_)
              clear hK K
              (try simp only [Act.put, List.setIfInBounds_toArray, List.set_cons_zero, List.set_cons_succ])
              obtain ⟨p2, hp2⟩ : ∃ x, x = p1.alloc (.cells #[] 34) := ⟨_, rfl⟩
              obtain ⟨BE, hBE⟩ : ∃ x, x = p1.heap.size := ⟨_, rfl⟩
              have hE : Ext p1 p2 := by rw [hp2]; exact Ext.alloc _ _
              have HM : Hid (OT p2 BE (.slice (some ⟨BE, 0, none⟩) 0 0) []) := hid (by rw [hp2]; exact Own.madeAt #[] 0 BE hBE.symm (Nat.le_refl _) (by omega) rfl)
              have HBE : Hid (w10.heap.size ≤ BE) := hid (by rw [hBE]; exact HX.out.size)
              have NEL : Hid (BL < BE) := hid (by rw [hBE]; exact obj_lt HL.out)
              rw [← hp2] at hHeld ⊢
              rw [← hBE]
              have HX := hid (HX.out.trans hE)
              have HQZ : Hid (BE ≤ p2.heap.size) := hid (by rw [hBE]; exact hE.size)
              have HL := hid (hE.obj HL.out)
              clear hp2 hBE hE
              refine WG.one (i := 7) rfl (by kernel_rfl) (fun K hK => ?_)
              have hbe : BE ≤ p2.heap.size := HQZ.out
              have HM0B : Hid (∀ q, (Value.slice (some ⟨BE, 0, none⟩) 0 0).ownBlock = some q → q = BE) := hid (fun q hq => by simpa [Value.ownBlock] using hq.symm)
              have hbnd := HBND.out
              refine step_append_sl _ (by rfl) _ _ 24 (by rfl) ET.ok ET.flat (BE) 34 ET.ne i0_task _ 2 32 Try.underlying24 hi0_task hz0_task hz1_task hz2_task rfl (by omega) _ (by rfl) _ (HM.out) _ (by rfl) _ (RT.ext HDR.out HX.out) (by simp; omega) (by simp; omega) ?_ ?_; (focus (first | exact Nat.le_refl _ | (simp; done) | (simp; omega) | omega)); intro v33 p3 hO hg hat hs; have HV : Hid (OT p3 BE v33 d) := hid (by simpa using hO); have HQZ := hid (Nat.le_trans HQZ.out hg.size); have HX2 : Hid (Ext w10 p3) := hid (Below.grown HX.out hg HX.out.size (fun q hq => Nat.le_trans HBE.out (Own.lt HM.out q hq).1)); have HL := hid ((hg.block BL (obj_lt HL.out) (fun e => by have h1 := NEL.out; have h2 := HM0B.out BL e.symm; omega)).trans HL.out); clear hO hg hat hs hbe hbnd
              refine hK.out _ _ (by exact KS.out _ HX2.out) (fun hHeld => ?_)
              clear hK K
              (try simp only [Act.put, List.setIfInBounds_toArray, List.set_cons_zero, List.set_cons_succ])
              have HX := HX2
              clear HX2
              have hbe : BE ≤ p3.heap.size := HQZ.out
              have hbnd := HBND.out
              refine WG.one (i := 13) rfl (by kernel_rfl) (fun K hK => ?_)
              refine step_append_sl _ (by rfl) _ _ 24 (by rfl) ET.ok ET.flat (BE) 34 ET.ne i0_task _ 2 32 Try.underlying24 hi0_task hz0_task hz1_task hz2_task rfl (by omega) _ (by rfl) _ (HV.out) _ (by rfl) _ (RSl.laid (cs := [.int .i64 t.id, .slice Ant t.need.length cnt]) (x := t) HL.out rfl ⟨_, rfl, RI.ext HNT.out (HE10.out.trans HX.out)⟩) (by simp; omega) (by simp; omega) ?_ ?_; (focus (first | exact Nat.le_refl _ | (simp; done) | (simp; omega) | omega)); intro v12 w12 hO12 hg12 hat12 hs12; have HY12 := hid hO12; have HX12 : Hid (Ext w10 w12) := hid (Below.grown HX.out hg12 HX.out.size (fun q hq => Nat.le_trans HBE.out (Own.lt HV.out q hq).1)); clear hO12 hg12 hat12 hs12 hbe hbnd
              refine hK.out _ _ (by exact KS.out _ HX12.out) (fun hHeld => ?_)
              clear hK K
              (try simp only [Act.put, List.setIfInBounds_toArray, List.set_cons_zero, List.set_cons_succ])
              obtain ⟨A12, c12, hv12, _, _⟩ := HY12.out.form_app
              subst hv12
              have HOY := hid (Own.ext EB.ok HO10.out HX12.out)
              obtain ⟨csy, _, hey, hcy⟩ := Own.at_ HOY.out HDK.out
              obtain ⟨vy, hvy, _⟩ := hey
              subst hvy
              have cgy : w12.cell? ⟨g, k, none⟩ = some vy := by simpa using hcy 0 _ rfl
              have fgy : w12.frozen? ⟨g, k, none⟩ = false := HOY.out.frozen_ _
              clear hcy
              (refine WG.takeP (i := 14) (v := ?_) rfl (by kernel_rfl) (by kernel_rfl) (by kernel_rfl) (by kernel_rfl) (fun _ _ _ h => h) (Or.inl ⟨by rfl, ?_⟩) ?_; rotate_left; (intro w hSw; clear hSw; go_simp; (try with_reducible rfl)); (try simp only [Act.put, List.setIfInBounds_toArray, List.set_cons_zero, List.set_cons_succ]))
              refine WG.last (i := 15) rfl (by kernel_rfl) (by kernel_rfl) (fun K hK => ?_)
              go_simp
              refine hK.out _ _ ?_
              clear hK K
              (try simp only [Act.put, List.setIfInBounds_toArray, List.set_cons_zero, List.set_cons_succ])
              refine WG.done (by kernel_rfl) ?_
              have hset := (Own.set EB.ok EB.ne HOY.out (j := k) (i := 0) (u := .slice A12 (d.length + 1) c12) (x' := d ++ [t]) HDK.out (by omega) (fun w' hw cs hl he => by
                obtain ⟨vz, hvz, _⟩ := he
                rw [hvz]
                exact ⟨_, rfl, RT.same HY12.out.read hw⟩)).1
              have hsame := (Own.set EB.ok EB.ne HOY.out (j := k) (i := 0) (u := .slice A12 (d.length + 1) c12) (x' := d ++ [t]) HDK.out (by omega) (fun w' hw cs hl he => by
                obtain ⟨vz, hvz, _⟩ := he
                rw [hvz]
                exact ⟨_, rfl, RT.same HY12.out.read hw⟩)).2
              have HSET : Hid (RB (w12.setCell ⟨g, k, none⟩ (.slice A12 (d.length + 1) c12)) (.slice (some ⟨g, 0, none⟩) X.length cy) (X.set k (d ++ [t]))) := hid (by simpa using hset.read)
              have hgb : w8.heap.size ≤ g := (Own.lt HO10.out g rfl).1
              have HBS : Hid (Below w8.heap.size w8 (w12.setCell ⟨g, k, none⟩ (.slice A12 (d.length + 1) c12))) := hid (Below.setCell (Below.trans HE810.out (HX12.out.mono HE810.out.size)) hgb _)
              have HXS : Hid (RB (w12.setCell ⟨g, k, none⟩ (.slice A12 (d.length + 1) c12)) (.slice A2 R.length c2) R) := hid (RB.ext HX8.out HBS.out)
              clear hset hsame
              go_wp2_with (go_at_call 13; refine (lSameBins _ _ R _ HXS.out (by rw [HRX.out]; exact HSET.out)).mono ?_; rintro e w13 ⟨rfl, hE13⟩; have HE13 := hid hE13; clear hE13)
              go_ret
              exact ⟨rfl, HE1.out.trans (HE8.out.trans (Ext.trans HBS.out HE13.out))⟩
  · have i1 : (1048576 : Int) < (bs.length : Int) := by omega
    go_enter Try.func7, Try.ntmps7
    go_wp2
    go_ret
    exact ⟨rfl, Ext.refl _⟩

end Go.Proofs.Ytoaabinpdjcimaa
