/- The law FnExactGatherPlan. -/
import Derived.Test.YtibpijjigopdjaaDoorE4b
import Derived.Test.YtibpijjigopdjaaDoorK20
import Derived.Test.YtibpijjigopdjaaDoorK17
namespace Go.Proofs.YtibpijjigopdjaaDoor
open Go.RowKit
set_option maxRecDepth 4000

theorem planLen_le (room : List Int) : ∀ (n : Nat) (bs : List (List TaskD)), (plan room n bs).length ≤ n
  | 0, _ => by simp [plan]
  | n + 1, bs => by
    rw [plan]
    split
    · simp
    · rename_i m _
      have := planLen_le room n (doMove bs m)
      simp
      omega
theorem gatherLen {room : List Int} {bs : List (List TaskD)} {most : Int} {P : List MoveD} (hP : P = gatherPlan room bs most) : P.length ≤ 20 := by
  subst hP
  unfold gatherPlan
  split
  · rename_i hc
    simp only [Bool.and_eq_true, inB, decide_eq_true_eq] at hc
    have := planLen_le room most.toNat bs
    omega
  · simp

theorem lHeldMoves (v : Value) (ms : List MoveD) (k : Int) (w : World) (h : RM w v ms) (hp : ∀ (j : Nat), j < ms.length → ms[j]? = some ⟨k + 2 * (j : Int), k + 2 * (j : Int) + 1⟩) (hl : ms.length ≤ 4000000) (hk0 : 0 ≤ k) (hk1 : k ≤ 1000000000) :
    Calls Tryd.prog 46 #[v, .int .i64 k] w (RetN w (k + 2 * (ms.length : Int))) := by
  obtain ⟨A, c, rfl, hc, hc', hg⟩ := RM.get h
  have HP := hid hp
  clear h hp
  go_enter Tryd.func46, Tryd.ntmps46
  go_wp2
  go_loopw [1, 5] (fun s i wr => ∃ (j : Nat) (kk : Int), j ≤ ms.length ∧ i = .int .i64 j ∧ s = .int .i64 kk ∧ Hid (kk = k + 2 * (j : Int)) ∧ 0 ≤ kk ∧ kk ≤ 1100000000 ∧ Ext w wr) (fun _ i _ => ms.length - (intOf i).toNat)
  case atStart => exact ⟨0, k, Nat.zero_le _, rfl, rfl, hid (by simp), hk0, by omega, Ext.refl _⟩
  case round =>
    obtain ⟨j, kk, hj, rfl, rfl, hkk, hkk0, hkk1, hE⟩ := hrel
    by_cases hjl : j < ms.length
    · obtain ⟨b, o, x, rfl, e, c1, c2⟩ := hg j hjl
      have hx : x = ⟨kk, kk + 1⟩ := by
        have h1 := e.out
        rw [HP.out j hjl, ← hkk.out] at h1
        injection h1 with h1
        exact h1.symm
      subst hx
      have ij : (j : Int) < (ms.length : Int) := by omega
      have i0 : (0 : Int) ≤ (j : Int) := by omega
      have c1r : wr.cell? ⟨b, o + j * 2, none⟩ = some (.int .i64 kk) := hE.cell c1
      have c2r : wr.cell? ⟨b, o + j * 2 + 1, none⟩ = some (.int .i64 (kk + 1)) := hE.cell c2
      have hne : (kk != kk) = false := by simp
      clear c1 c2 e
      go_wp2
      go_roundw
      case rel => exact ⟨j + 1, kk + 1 + 1, by omega, by go_num, by go_num, hid (by have := hkk.out; omega), by omega, by have := hkk.out; omega, hE⟩
      case measure => simp [intOf]; omega
    · go_wp2
      go_ret
      have hj' : j = ms.length := by omega
      exact ⟨ret_i (by rw [hkk.out, hj']), hE⟩

set_option maxHeartbeats 2000000 in
theorem lawExactGatherPlan (rv bv : Value) (room : List Int) (Bs : List (List TaskD)) (most : Int) (w : World) (hr : XI w rv room) (hb : XTT w bv Bs) (hids : ∀ t ∈ Bs.flatten, IdR t.id) (a : Addr) (hga : w.cell? ⟨0, 0, none⟩ = some (errV a)) :
    Calls Tryd.prog 14 #[rv, bv, .int .i64 most] w (RetB w true) := by
  have hr0 := hr
  have hb0' := hb
  obtain ⟨Ar, cr, rfl, _⟩ := hr
  obtain ⟨Ab, cb, rfl, _⟩ := hb
  have HR := hid hr0
  have HB := hid hb0'
  have HGA := hid hga
  have HBI := hid hids
  have TK0 : Hid True := hid trivial
  obtain ⟨P, hP⟩ : ∃ P, P = gatherPlan room Bs most := ⟨_, rfl⟩
  have HPP := hid hP
  have hpl := gatherLen hP
  clear hr0 hb0' hga hids hP
  by_cases h1 : room.length ≤ 1048576
  · have i1 : ¬ (1048576 : Int) < (room.length : Int) := by omega
    go_enter Tryd.func14, Tryd.ntmps14
    go_wp2_with (first
      | (go_at_call 31; clear TK0; refine (lSzTaskSS _ Bs 1048576 _ HB.out (by omega) (by omega)).mono ?_; rintro e w1 ⟨r, rfl, hE1, hr1, hr2, hr3⟩; have HE1 := hid hE1; have HR3 := hid hr3; clear hE1 hr3; have TK1 : Hid True := hid trivial)
      | (go_at_call 32; clear TK1; have HWB : Hid (wTaskSS Bs ≤ 1048576) := hid (by have := HR3.out (by omega); omega); have hwt := wTaskSS_bd (M := 1048576) (show wTaskSS Bs ≤ 1048576 by have := HR3.out (by omega); omega); have HBF : Hid (Bs.flatten.length ≤ 4000000) := hid (Nat.le_trans hwt.2.1 (by omega)); have HBD : Hid (Bs.length ≤ 4000000 ∧ ∀ b ∈ Bs, b.length ≤ 4000000 ∧ ∀ t ∈ b, t.need.length ≤ 4000000) := hid ⟨Nat.le_trans hwt.1 (by omega), fun b hb => ⟨Nat.le_trans (hwt.2.2 b hb).1 (by omega), fun t ht => Nat.le_trans ((hwt.2.2 b hb).2 t ht) (by omega)⟩⟩; clear hwt; refine (lToInts _ room _ (XI.ext HR.out HE1.out) (by omega)).mono ?_; rintro e2 wa ⟨va, rfl, hOa, hEa⟩; have HOa := hid hOa.read; have HEa := hid (HE1.out.trans hEa); clear hOa hEa; have TK2 : Hid True := hid trivial)
      | (go_at_call 33; clear TK2; refine (lToTaskSSD _ Bs _ (XTT.ext HB.out HEa.out) HBD.out.1 HBD.out.2).mono ?_; rintro e3 wb ⟨vb, rfl, hOb, hEb⟩; have HOb := hid hOb.read; have HEab := hid hEb; have HEb := hid (HEa.out.trans hEb); clear hOb hEb; have TK3 : Hid True := hid trivial)
      | (go_at_call 18; clear TK3; refine (sGatherPlan _ _ room Bs most _ (RI.ext HOa.out HEab.out) HOb.out HBF.out).mono ?_; rw [← HPP.out]; rintro e5 w2 ⟨v2, rfl, hX2, hE2⟩; have HX2 := hid hX2; have HE2 := hid (HEb.out.trans hE2); clear hX2 hE2; have TK4 : Hid True := hid trivial)
      | (go_at_call 32; clear TK4; refine (lToInts _ room _ (XI.ext HR.out HE2.out) (by omega)).mono ?_; rintro e w3 ⟨v3, rfl, hO3, hE3⟩; have HO3 := hid hO3; have HE3 := hid hE3; clear hO3 hE3; have TK5 : Hid True := hid trivial)
      | (go_at_call 33; clear TK5; refine (lToTaskSSD _ Bs _ (XTT.ext HB.out (HE2.out.trans HE3.out)) HBD.out.1 HBD.out.2).mono ?_; rintro e w4 ⟨v4, rfl, hO4, hE4⟩; have HO4 := hid hO4; have HE4 := hid hE4; clear hO4 hE4; have TK6 : Hid True := hid trivial)
      | (go_at_call 17; clear TK6; refine (iGatherPlan _ _ room Bs most a _ (RI.ext HO3.out.read HE4.out) HO4.out.read HBF.out HBI.out ((HE2.out.trans (HE3.out.trans HE4.out)).cell HGA.out)).mono ?_; rw [← HPP.out]; rintro e w6 ⟨v6, rfl, hO6, hE6⟩; have HO6 := hid hO6; have HE6 := hid hE6; clear hO6 hE6; have TK7 : Hid True := hid trivial)
      | (go_at_call 44; clear TK7; refine (lEqMoves _ _ P _ HO6.out.read (RM.ext HX2.out (HE3.out.trans (HE4.out.trans HE6.out)))).mono ?_; rintro e w7 ⟨rfl, hE7⟩; have HE7 := hid hE7; clear hE7; have TK8 : Hid True := hid trivial)
      | (go_at_call 32; clear TK8; refine (lToInts _ room _ (XI.ext HR.out (HE2.out.trans (HE3.out.trans (HE4.out.trans (HE6.out.trans HE7.out))))) (by omega)).mono ?_; rintro e w8 ⟨v8, rfl, hO8, hE8⟩; have HO8 := hid hO8; have HE8 := hid hE8; clear hO8 hE8; have TK9 : Hid True := hid trivial)
      | (go_at_call 36; clear TK9; refine (lEqInts _ _ room _ (RI.ext HO3.out.read (HE4.out.trans (HE6.out.trans (HE7.out.trans HE8.out)))) HO8.out.read).mono ?_; rintro e w9 ⟨rfl, hE9⟩; have HE9 := hid (HE8.out.trans hE9); clear hE9; have TK10 : Hid True := hid trivial)
      | (go_at_call 33; clear TK10; refine (lToTaskSSD _ Bs _ (XTT.ext HB.out ((HE2.out.trans (HE3.out.trans (HE4.out.trans (HE6.out.trans HE7.out)))).trans HE9.out)) HBD.out.1 HBD.out.2).mono ?_; rintro e w10 ⟨v10, rfl, hO10, hE10⟩; have HO10 := hid hO10; have HE10 := hid (HE9.out.trans hE10); clear hO10 hE10; have TK11 : Hid True := hid trivial)
      | (go_at_call 35; clear TK11; refine (lEqTaskSS _ _ Bs _ (RB.ext HO4.out.read (HE6.out.trans (HE7.out.trans HE10.out))) HO10.out.read).mono ?_; rintro e w11 ⟨rfl, hE11⟩; have HE11 := hid (HE10.out.trans hE11); clear hE11; have TK12 : Hid True := hid trivial)
      | (go_at_call 37; clear TK12; have hx0 := Own.ext EI.ok HO3.out (HE4.out.trans (HE6.out.trans (HE7.out.trans HE11.out))); obtain ⟨A3, c3, hv3, _⟩ := hx0.form; subst hv3; refine (lMarkInts A3 room.length c3 c3 room 1 _ _ hx0 (by omega) (by omega) (by omega)).mono ?_; rintro e w12 ⟨rfl, _, hT12⟩; have HL12 : Hid (∀ q ∈ (Value.slice A3 room.length c3).ownBlock.toList, w2.heap.size ≤ q ∧ q < w3.heap.size) := hid (fun q hq => Own.lt HO3.out q (by simpa using hq)); have HT12 := hid hT12; clear hx0 hT12; have TK13 : Hid True := hid trivial)
      | (go_at_call 38; clear TK13; have H411 := hid (HE6.out.trans (HE7.out.trans HE11.out)); obtain ⟨us4, ho4, hd4, ht4, hn4⟩ := HO4.out; have hx1 : ODB w12 w3.heap.size v4 us4 := ODB.far (Own.ext (EDB.ok _) ho4 H411.out) (fun q hq => HT12.out.block q (Nat.lt_of_lt_of_le (Own.lt ho4 q hq).2 H411.out.size) (fun hm => absurd (HL12.out q hm).2 (Nat.not_lt.2 (Own.lt ho4 q hq).1))) (fun q hq => HT12.out.block q (Nat.lt_of_lt_of_le (ODB.tlt ho4 q hq).2 H411.out.size) (fun hm => absurd (HL12.out q hm).2 (Nat.not_lt.2 (ODB.tlt ho4 q hq).1))) (fun q hq => HT12.out.block q (Nat.lt_of_lt_of_le (ODB.ilt ho4 q hq).2 H411.out.size) (fun hm => absurd (HL12.out q hm).2 (Nat.not_lt.2 (ODB.ilt ho4 q hq).1))); have hc4 : cntB us4 ≤ 4000000 := (by have h3 := cntB_le us4; rw [hd4] at h3; have := HWB.out; omega); obtain ⟨A4, c4, hv4, _⟩ := ho4.form; subst hv4; refine (lMarkTaskSS A4 us4.length c4 us4 (1 + (room.length : Int)) _ _ hx1 ht4 hn4 hc4 (by omega) (by omega)).mono ?_; rintro e w13 ⟨rfl, _, hT13⟩; have HL13 : Hid (∀ q ∈ ((Value.slice A4 us4.length c4).ownBlock.toList ++ (rowBs us4 ++ binNs us4)), w3.heap.size ≤ q ∧ q < w4.heap.size) := hid (fun q hq => by rcases List.mem_append.1 hq with hq | hq; exact Own.lt ho4 q (by simpa using hq); rcases List.mem_append.1 hq with hq | hq; exact ODB.tlt ho4 q hq; exact ODB.ilt ho4 q hq); have HT13 := hid hT13; obtain ⟨n4, hn4'⟩ : ∃ n4, n4 = cntB us4 := ⟨_, rfl⟩; rw [← hn4']; have hk4 : ¬ 1 + (room.length : Int) + (n4 : Int) < 0 := (by omega); clear hx1 hT13 hn4' ho4 hd4 ht4 hn4 hc4; have TK14 : Hid True := hid trivial)
      | (go_at_call 44; clear TK14; have HG13 : Hid (OM w13 w4.heap.size v6 P) := hid (Own.far (Own.ext EM.ok HO6.out (HE7.out.trans HE11.out)) (fun q hq => (HT13.out.block q (Nat.lt_of_lt_of_le (Nat.lt_of_lt_of_le (Own.lt HO6.out q hq).2 (HE7.out.trans HE11.out).size) HT12.out.size) (fun hm => absurd (HL13.out q hm).2 (Nat.not_lt.2 (Own.lt HO6.out q hq).1))).trans (HT12.out.block q (Nat.lt_of_lt_of_le (Own.lt HO6.out q hq).2 (HE7.out.trans HE11.out).size) (fun hm => absurd (HL12.out q hm).2 (Nat.not_lt.2 (Nat.le_trans HE4.out.size (Own.lt HO6.out q hq).1))))) (fun _ _ _ he => he)); have HB213 : Hid (Ext w2 w13) := hid (Below.trans (HE3.out.trans (HE4.out.trans (HE6.out.trans (HE7.out.trans HE11.out)))) (Below.trans (HT12.out.below (fun q hq => (HL12.out q hq).1) (HE3.out.trans (HE4.out.trans (HE6.out.trans (HE7.out.trans HE11.out)))).size) (HT13.out.below (fun q hq => Nat.le_trans HE3.out.size (HL13.out q hq).1) (Nat.le_trans (HE3.out.trans (HE4.out.trans (HE6.out.trans (HE7.out.trans HE11.out)))).size HT12.out.size)))); refine (lEqMoves _ _ P _ HG13.out.read (RM.ext HX2.out HB213.out)).mono ?_; rintro e w14 ⟨rfl, hE14⟩; have HE14 := hid hE14; clear hE14; have TK15 : Hid True := hid trivial)
      | (go_at_call 45; clear TK15; have hx6 : OM w14 w4.heap.size v6 P := Own.ext EM.ok HG13.out HE14.out; obtain ⟨A6, c6, hv6, _⟩ := hx6.form; subst hv6; refine (lMarkMoves A6 P.length c6 P 1 _ _ hx6 (by omega) (by omega) (by omega)).mono ?_; rintro e w15 ⟨rfl, ⟨ms, hM15, hP15⟩, hT15⟩; have HM15 := hid hM15; have HLN : Hid (P.length = ms.length) := hid (Own.form_eq hM15); have HP15 := hid hP15; have HB15 : Hid (Below w4.heap.size w14 w15) := hid (hT15.below (fun q hq => (Own.lt hx6 q (by simpa using hq)).1) (Nat.le_trans HE6.out.size (Nat.le_trans (HE7.out.trans HE11.out).size (Nat.le_trans HT12.out.size (Nat.le_trans HT13.out.size HE14.out.size))))); have hk6 : ¬ 1 + 2 * (P.length : Int) < 0 := (by omega); clear hx6 hM15 hT15 hP15; have TK16 : Hid True := hid trivial)
      | (go_at_call 46; clear TK16; refine (lHeldMoves _ ms 1 _ HM15.out.read (fun j hj => HP15.out j (by have := HLN.out; omega)) (by have := HLN.out; omega) (by omega) (by omega)).mono ?_; rw [← HLN.out]; rintro e w16 ⟨rfl, hE16⟩; have HE16 := hid hE16; have HX16 : Hid (Ext w w16) := hid (HE2.out.trans (Below.trans (HB213.out.trans HE14.out) (Below.trans (HB15.out.mono (Nat.le_trans (HE3.out.trans HE4.out).size (Nat.le_refl _))) (hE16.mono (Nat.le_trans (HB213.out.trans HE14.out).size HB15.out.size))))); clear hE16; have TK17 : Hid True := hid trivial)
      | (go_at_call 32; clear TK17; refine (lToInts _ room _ (XI.ext HR.out HX16.out) (by omega)).mono ?_; rintro e2 wd ⟨vd, rfl, hOd, hEd⟩; have HOd := hid hOd.read; have HEDD := hid hEd; have HEd := hid (HX16.out.trans hEd); clear hOd hEd; have TK18 : Hid True := hid trivial)
      | (go_at_call 33; clear TK18; refine (lToTaskSSD _ Bs _ (XTT.ext HB.out HEd.out) HBD.out.1 HBD.out.2).mono ?_; rintro e3 we ⟨ve, rfl, hOe, hEe⟩; have HOe := hid hOe.read; have HEde := hid hEe; have HEe := hid (HEd.out.trans hEe); have HEEE := hid (HEDD.out.trans hEe); clear hOe hEe; have TK19 : Hid True := hid trivial)
      | (go_at_call 17; clear TK19; refine (iGatherPlan _ _ room Bs most a _ (RI.ext HOd.out HEde.out) HOe.out HBF.out HBI.out (HEe.out.cell HGA.out)).mono ?_; rw [← HPP.out]; rintro e5 w17 ⟨v17, rfl, hX17, hE17⟩; have HZ17 := hid hX17.read; have HE17 := hid (HEEE.out.trans hE17); clear hX17 hE17; have HB216 : Hid (Ext w2 w16) := hid (Below.trans (HB213.out.trans HE14.out) (Below.trans (HB15.out.mono (HE3.out.trans HE4.out).size) (HE16.out.mono (Nat.le_trans (HB213.out.trans HE14.out).size HB15.out.size)))); have TK20 : Hid True := hid trivial)
      | (go_at_call 44; clear TK20; refine (lEqMoves _ _ P _ HZ17.out (RM.ext HX2.out (HB216.out.trans HE17.out))).mono ?_; rintro e w18 ⟨rfl, hE18⟩; have HE18 := hid (HE17.out.trans hE18); clear hE18; have TK21 : Hid True := hid trivial)
      | (go_at_call 46; clear TK21; refine (lHeldMoves _ ms 1 _ (RM.ext HM15.out.read (HE16.out.trans HE18.out)) (fun j hj => HP15.out j (by have := HLN.out; omega)) (by have := HLN.out; omega) (by omega) (by omega)).mono ?_; rw [← HLN.out]; rintro e w19 ⟨rfl, hE19⟩; have HE19 := hid (HE18.out.trans hE19); clear hE19; have TK22 : Hid True := hid trivial))
    · go_ret
      exact ⟨rfl, HE1.out⟩
    · go_ret
      exact ⟨rfl, HX16.out.trans HE19.out⟩
  · have i1 : (1048576 : Int) < (room.length : Int) := by omega
    go_enter Tryd.func14, Tryd.ntmps14
    go_wp2
    go_ret
    exact ⟨rfl, Below.refl _ _⟩

end Go.Proofs.YtibpijjigopdjaaDoor
