/- The law FnExactLeastAll. (Printed by genoh10.py.) -/
import Derived.Test.YtllchacophapoaaDoorOh9b
import Derived.Test.YtllchacophapoaaDoorOe1b
namespace Go.Proofs.YtllchacophapoaaDoor
open Go.RowKit
set_option maxRecDepth 4000

theorem leastAllN_w (room : List Int) (ts : List TaskD) : wTaskSS (leastAllN room ts) ≤ 1000000 := by
  unfold leastAllN
  split
  · rename_i hq
    have h1 := leastOk_iff hq
    have h2 := least_spec (fit_of_ok h1.1)
    exact valida_w (h2.1.ok (by have := h2.2.2.1; omega) h1.1)
  · exact nil_w
set_option maxHeartbeats 4000000 in
theorem lawExactLeastAll (rv tv : Value) (room : List Int) (ts : List TaskD) (w : World) (hr : XI w rv room) (ht : XT w tv ts) (hids : ∀ t ∈ ts, IdR t.id) (htab : TabOk w) :
    Calls Tryd.prog 3 #[rv, tv] w (RetB w true) := by
  have hr0 := hr
  have ht0 := ht
  obtain ⟨Ar, cr, rfl, _⟩ := hr
  obtain ⟨At, ct, rfl, _⟩ := ht
  have HR := hid hr0
  have HT := hid ht0
  have HIDS := hid hids
  have HTAB := hid htab
  have TK0 : Hid True := hid trivial
  obtain ⟨R, hR⟩ : ∃ R, R = leastAllN room ts := ⟨_, rfl⟩
  have HRR := hid hR
  have HWR : Hid (wTaskSS R ≤ 1000000) := hid (by rw [hR]; exact leastAllN_w room ts)
  clear hr0 ht0 hids hR htab
  by_cases h1 : room.length ≤ 1048576
  · have i1 : ¬ (1048576 : Int) < (room.length : Int) := by omega
    go_enter Tryd.func3, Tryd.ntmps3
    go_wp2_with (first
      | (go_at_call 6; clear TK0; refine (lSzTasks _ ts 1048576 _ HT.out (by omega) (by omega)).mono ?_; rintro e w1 ⟨r, rfl, hE1, hr1, hr2, hr3⟩; have HE1 := hid hE1; have HR3 := hid hr3; clear hE1 hr3; have TK1 : Hid True := hid trivial)
      | (go_at_call 8; clear TK1; have HWB : Hid (wTasks ts ≤ 1048576) := hid (by have := HR3.out (by omega); omega); have HTB : Hid (ts.length ≤ 4000000 ∧ ∀ t ∈ ts, t.need.length ≤ 4000000) := hid (tasks_bd HWB.out); refine (lToInts _ room _ (XI.ext HR.out HE1.out) (by omega)).mono ?_; rintro e2 wa ⟨va, rfl, hOa, hEa⟩; have HOa := hid hOa.read; have HEa := hid (HE1.out.trans hEa); clear hOa hEa; have TK2 : Hid True := hid trivial)
      | (go_at_call 9; clear TK2; refine (lToTasksD _ ts _ (XT.ext HT.out HEa.out) HTB.out.1 HTB.out.2).mono ?_; rintro e3 wb ⟨vb, usb, rfl, hOb, hdb, _, hEb⟩; have HOb : Hid (RT wb vb ts) := hid (by rw [← hdb]; exact hOb.read); have HEab := hid hEb; have HEb := hid (HEa.out.trans hEb); clear hOb hEb hdb; have TK3 : Hid True := hid trivial)
      | (go_at_call 7; clear TK3; refine (sLeastAll _ _ room ts _ (RI.ext HOa.out HEab.out) HOb.out).mono ?_; rw [← HRR.out]; rintro e5 w2 ⟨v2, rfl, hX2, hE2⟩; have HX2 := hid hX2; have HE2 := hid (HEb.out.trans hE2); clear hX2 hE2; have TK4 : Hid True := hid trivial)
      | (go_at_call 8; clear TK4; refine (lToInts _ room _ (XI.ext HR.out HE2.out) (by omega)).mono ?_; rintro e w3 ⟨v3, rfl, hO3, hE3⟩; have HO3 := hid hO3; have HE3 := hid hE3; clear hO3 hE3; have TK5 : Hid True := hid trivial)
      | (go_at_call 9; clear TK5; refine (lToTasksD _ ts _ (XT.ext HT.out (HE2.out.trans HE3.out)) HTB.out.1 HTB.out.2).mono ?_; rintro e w4 ⟨v4, us4, rfl, hO4, hd4, hn4, hE4⟩; have HD4 : Hid (RT w4 v4 ts) := hid (by rw [← hd4]; exact hO4.read); have HC4 : Hid (cntQ us4 ≤ 1048576) := hid (by rw [cntQ_eq, hd4]; exact HWB.out); have HN4 := hid hn4; have HO4 := hid hO4; have HE4 := hid hE4; clear hO4 hE4 hd4 hn4; have TK6 : Hid True := hid trivial)
      | (go_at_call 10; clear TK6; refine (iLeastAll _ _ room ts _ (RI.ext HO3.out.read HE4.out) HD4.out HIDS.out (HTAB.out.ext (HE2.out.trans (HE3.out.trans HE4.out)))).mono ?_; rw [← HRR.out]; rintro e w6 ⟨v6, rfl, hO6, hE6⟩; have HO6 := hid hO6; have HE6 := hid hE6; clear hO6 hE6; have TK7 : Hid True := hid trivial)
      | (go_at_call 11; clear TK7; refine (lEqTaskSS _ _ R _ HO6.out.read (RB.ext HX2.out (HE3.out.trans (HE4.out.trans HE6.out)))).mono ?_; rintro e w7 ⟨rfl, hE7⟩; have HE7 := hid hE7; clear hE7; have TK8 : Hid True := hid trivial)
      | (go_at_call 8; clear TK8; refine (lToInts _ room _ (XI.ext HR.out (HE2.out.trans (HE3.out.trans (HE4.out.trans (HE6.out.trans HE7.out))))) (by omega)).mono ?_; rintro e w8 ⟨v8, rfl, hO8, hE8⟩; have HO8 := hid hO8; have HE8 := hid hE8; clear hO8 hE8; have TK9 : Hid True := hid trivial)
      | (go_at_call 12; clear TK9; refine (lEqInts _ _ room _ (RI.ext HO3.out.read (HE4.out.trans (HE6.out.trans (HE7.out.trans HE8.out)))) HO8.out.read).mono ?_; rintro e w9 ⟨rfl, hE9⟩; have HE9 := hid (HE8.out.trans hE9); clear hE9; have TK10 : Hid True := hid trivial)
      | (go_at_call 9; clear TK10; refine (lToTasksD _ ts _ (XT.ext HT.out ((HE2.out.trans (HE3.out.trans (HE4.out.trans (HE6.out.trans HE7.out)))).trans HE9.out)) HTB.out.1 HTB.out.2).mono ?_; rintro e w10 ⟨v10, us10, rfl, hO10, hd10, _, hE10⟩; have HO10 : Hid (RT w10 v10 ts) := hid (by rw [← hd10]; exact hO10.read); have HE10 := hid (HE9.out.trans hE10); clear hO10 hE10 hd10; have TK11 : Hid True := hid trivial)
      | (go_at_call 13; clear TK11; refine (lEqTasks _ _ ts _ (RT.ext HD4.out (HE6.out.trans (HE7.out.trans HE10.out))) HO10.out).mono ?_; rintro e w11 ⟨rfl, hE11⟩; have HE11 := hid (HE10.out.trans hE11); clear hE11; have TK12 : Hid True := hid trivial)
      | (go_at_call 14; clear TK12; have hx0 := Own.ext EI.ok HO3.out (HE4.out.trans (HE6.out.trans (HE7.out.trans HE11.out))); obtain ⟨A3, c3, hv3, _⟩ := hx0.form; subst hv3; refine (lMarkInts A3 room.length c3 c3 room 1 _ _ hx0 (by omega) (by omega) (by omega)).mono ?_; rintro e w12 ⟨rfl, _, hT12⟩; have HL12 : Hid (∀ q ∈ (Value.slice A3 room.length c3).ownBlock.toList, w2.heap.size ≤ q ∧ q < w3.heap.size) := hid (fun q hq => Own.lt HO3.out q (by simpa using hq)); have HT12 := hid hT12; clear hx0 hT12; have TK13 : Hid True := hid trivial)
      | (go_at_call 15; clear TK13; have H411 := hid (HE6.out.trans (HE7.out.trans HE11.out)); have hx1 : ODT w12 w3.heap.size v4 us4 := ODT.far (Own.ext (EDT.ok _) HO4.out H411.out) (fun q hq => HT12.out.block q (Nat.lt_of_lt_of_le (Own.lt HO4.out q hq).2 H411.out.size) (fun hm => absurd (HL12.out q hm).2 (Nat.not_lt.2 (Own.lt HO4.out q hq).1))) (fun q hq => HT12.out.block q (Nat.lt_of_lt_of_le (ODT.lt HO4.out q hq).2 H411.out.size) (fun hm => absurd (HL12.out q hm).2 (Nat.not_lt.2 (ODT.lt HO4.out q hq).1))); have hc4 : cntQ us4 ≤ 4000000 := Nat.le_trans HC4.out (by omega); obtain ⟨A4, c4, hv4, _⟩ := HO4.out.form; subst hv4; refine (lMarkTasks A4 us4.length c4 us4 (1 + (room.length : Int)) _ _ hx1 HN4.out hc4 (by omega) (by omega)).mono ?_; rintro e w13 ⟨rfl, _, hT13⟩; have HL13 : Hid (∀ q ∈ ((Value.slice A4 us4.length c4).ownBlock.toList ++ needBs us4), w3.heap.size ≤ q ∧ q < w4.heap.size) := hid (fun q hq => by rcases List.mem_append.1 hq with hq | hq; exact Own.lt HO4.out q (by simpa using hq); exact ODT.lt HO4.out q hq); have HT13 := hid hT13; obtain ⟨n4, hn4'⟩ : ∃ n4, n4 = cntQ us4 := ⟨_, rfl⟩; have HN4b : Hid (n4 ≤ 4000000) := hid (by omega); rw [← hn4']; have hk4 : ¬ 1 + (room.length : Int) + (n4 : Int) < 0 := (by omega); clear hx1 hT13 hn4' hc4; have TK14 : Hid True := hid trivial)
      | (go_at_call 11; clear TK14; have HG13 : Hid (DB w13 w4.heap.size v6 R) := hid (DB.fara (DB.ext HO6.out (HE7.out.trans HE11.out)) (fun q h1 h2 => ((HT13.out.block q (Nat.lt_of_lt_of_le h2 HT12.out.size) (fun hm => absurd (HL13.out q hm).2 (Nat.not_lt.2 h1))).trans (HT12.out.block q h2 (fun hm => absurd (HL12.out q hm).2 (Nat.not_lt.2 (Nat.le_trans HE4.out.size h1))))))); have HB213 : Hid (Ext w2 w13) := hid (Below.trans (HE3.out.trans (HE4.out.trans (HE6.out.trans (HE7.out.trans HE11.out)))) (Below.trans (HT12.out.below (fun q hq => (HL12.out q hq).1) (HE3.out.trans (HE4.out.trans (HE6.out.trans (HE7.out.trans HE11.out)))).size) (HT13.out.below (fun q hq => Nat.le_trans HE3.out.size (HL13.out q hq).1) (Nat.le_trans (HE3.out.trans (HE4.out.trans (HE6.out.trans (HE7.out.trans HE11.out)))).size HT12.out.size)))); refine (lEqTaskSS _ _ R _ HG13.out.read (RB.ext HX2.out HB213.out)).mono ?_; rintro e w14 ⟨rfl, hE14⟩; have HE14 := hid hE14; clear hE14; have TK15 : Hid True := hid trivial)
      | (go_at_call 16; clear TK15; obtain ⟨us6, ho6, hd6, ht6, hn6⟩ := HG13.out; have hx6 := Own.ext (EDB.ok _) ho6 HE14.out; have hc6 : cntB us6 ≤ 1000000 := (by have h3 := cntB_le us6; rw [hd6] at h3; have := HWR.out; omega); obtain ⟨A6, c6, hv6, _⟩ := ho6.form; subst hv6; refine (lMarkTaskSS A6 us6.length c6 us6 1 _ _ hx6 ht6 hn6 (by omega) (by omega) (by omega)).mono ?_; rintro e w15 ⟨rfl, hM15, hT15⟩; have HM15 := hid hM15; have HC6 := hid hc6; have HB15 : Hid (Below w4.heap.size w14 w15) := hid (hT15.below (fun q hq => by rcases List.mem_append.1 hq with hq | hq; exact (Own.lt hx6 q (by simpa using hq)).1; rcases List.mem_append.1 hq with hq | hq; exact (ODB.tlt hx6 q hq).1; exact (ODB.ilt hx6 q hq).1) (Nat.le_trans HE6.out.size (Nat.le_trans (HE7.out.trans HE11.out).size (Nat.le_trans HT12.out.size (Nat.le_trans HT13.out.size HE14.out.size))))); obtain ⟨n6, hn6'⟩ : ∃ n6, n6 = cntB us6 := ⟨_, rfl⟩; have HN6 := hid hn6'; rw [← hn6']; have hk6 : ¬ 1 + (n6 : Int) < 0 := (by omega); clear hx6 hM15 hT15 ho6 hd6 ht6 hn6 hc6 hn6'; have TK16 : Hid True := hid trivial)
      | (go_at_call 17; clear TK16; refine (lHeldTaskSS _ us6 1 _ HM15.out.read (Nat.le_trans HC6.out (by omega)) (by omega) (by omega)).mono ?_; rw [← HN6.out]; rintro e w16 ⟨rfl, hE16⟩; have HE16 := hid hE16; have HX16 : Hid (Ext w w16) := hid (HE2.out.trans (Below.trans (HB213.out.trans HE14.out) (Below.trans (HB15.out.mono (Nat.le_trans (HE3.out.trans HE4.out).size (Nat.le_refl _))) (hE16.mono (Nat.le_trans (HB213.out.trans HE14.out).size HB15.out.size))))); clear hE16; have TK17 : Hid True := hid trivial)
      | (go_at_call 8; clear TK17; refine (lToInts _ room _ (XI.ext HR.out HX16.out) (by omega)).mono ?_; rintro e2 wd ⟨vd, rfl, hOd, hEd⟩; have HOd := hid hOd.read; have HEDD := hid hEd; have HEd := hid (HX16.out.trans hEd); clear hOd hEd; have TK18 : Hid True := hid trivial)
      | (go_at_call 9; clear TK18; refine (lToTasksD _ ts _ (XT.ext HT.out HEd.out) HTB.out.1 HTB.out.2).mono ?_; rintro e3 we ⟨ve, use, rfl, hOe, hde, _, hEe⟩; have HOe : Hid (RT we ve ts) := hid (by rw [← hde]; exact hOe.read); have HEde := hid hEe; have HEe := hid (HEd.out.trans hEe); have HEEE := hid (HEDD.out.trans hEe); clear hOe hEe hde; have TK19 : Hid True := hid trivial)
      | (go_at_call 10; clear TK19; refine (iLeastAll _ _ room ts _ (RI.ext HOd.out HEde.out) HOe.out HIDS.out (HTAB.out.ext HEe.out)).mono ?_; rw [← HRR.out]; rintro e5 w17 ⟨v17, rfl, hX17, hE17⟩; have HZ17 := hid hX17.read; have HE17 := hid (HEEE.out.trans hE17); clear hX17 hE17; have HB216 : Hid (Ext w2 w16) := hid (Below.trans (HB213.out.trans HE14.out) (Below.trans (HB15.out.mono (HE3.out.trans HE4.out).size) (HE16.out.mono (Nat.le_trans (HB213.out.trans HE14.out).size HB15.out.size)))); have TK20 : Hid True := hid trivial)
      | (go_at_call 11; clear TK20; refine (lEqTaskSS _ _ R _ HZ17.out (RB.ext HX2.out (HB216.out.trans HE17.out))).mono ?_; rintro e w18 ⟨rfl, hE18⟩; have HE18 := hid (HE17.out.trans hE18); clear hE18; have TK21 : Hid True := hid trivial)
      | (go_at_call 17; clear TK21; refine (lHeldTaskSS _ us6 1 _ (RB.ext HM15.out.read (HE16.out.trans HE18.out)) (Nat.le_trans HC6.out (by omega)) (by omega) (by omega)).mono ?_; rw [← HN6.out]; rintro e w19 ⟨rfl, hE19⟩; have HE19 := hid (HE18.out.trans hE19); clear hE19; have TK22 : Hid True := hid trivial))
    · go_ret
      exact ⟨rfl, HE1.out⟩
    · go_ret
      exact ⟨rfl, HX16.out.trans HE19.out⟩
  · have i1 : (1048576 : Int) < (room.length : Int) := by omega
    go_enter Tryd.func3, Tryd.ntmps3
    go_wp2
    go_ret
    exact ⟨rfl, Below.refl _ _⟩

end Go.Proofs.YtllchacophapoaaDoor
