/- The law FnMoves. -/
import Derived.Test.YtibpijjigopdjaaDoorK14
namespace Go.Proofs.YtibpijjigopdjaaDoor
open Go.RowKit
set_option maxRecDepth 4000

theorem RSl.tail_ {α : Type} {e : TypeId} {size : Nat} {E : Enc α} {w : World} {A : Option Addr} {n c : Nat} {xs : List α} (h : RSl e size E w (.slice A n c) xs) {k : Nat} (hk : k ≤ xs.length) : RSl e size E w (.slice (if c = k then A else Option.map (fun x => x.add (k * size)) A) (xs.length - k) (c - k)) (xs.drop k) := by
  obtain ⟨A', c', hv, hc, hc', h⟩ := h
  injection hv with h1 h2 h3
  subst h1 h2 h3
  refine ⟨_, c - k, by rw [List.length_drop], by rw [List.length_drop]; omega, by omega, fun hn => ?_⟩
  rw [List.length_drop] at hn
  obtain ⟨b, o, cur, fr, hA, hb, h9⟩ := h (by omega)
  subst hA
  refine ⟨b, o + k * size, cur, fr, ?_, hb, fun j x hx => ?_⟩
  · rw [if_neg (by omega), Option.map_some, Addr.add_lit]
  · rw [List.getElem?_drop] at hx
    obtain ⟨cs, hl, he, hcc⟩ := h9 _ x hx
    refine ⟨cs, hl, he, fun i u hu => ?_⟩
    have := hcc i u hu
    rw [show o + k * size + (j * size + i) = o + ((k + j) * size + i) by rw [Nat.add_mul]; omega]
    exact this

theorem run_split {room : List Int} {bs : List (List TaskD)} {ms : List MoveD} {K : Nat} (hK : K ≤ ms.length) : movesRun room bs ms = if (movesRun room bs (ms.take K)).2 = K then ((movesRun room (movesRun room bs (ms.take K)).1 (ms.drop K)).1, K + (movesRun room (movesRun room bs (ms.take K)).1 (ms.drop K)).2) else movesRun room bs (ms.take K) := by
  have h := run_app (room := room) (ms.take K) (ms.drop K) bs
  rw [List.take_append_drop, List.length_take, Nat.min_eq_left hK] at h
  exact h

set_option maxHeartbeats 8000000 in
theorem lawMoves (v v' : Value) (bs bs2 : List Int) (w : World) (h : XBy w v bs) (h' : XBy w v' bs2) (a : Addr) (hga : w.cell? ⟨0, 0, none⟩ = some (errV a)) :
    Calls Tryd.prog 12 #[v, v'] w (RetB w true) := by
  have HB := hid h
  have HGA := hid hga
  obtain ⟨A, c, rfl, _⟩ := h
  obtain ⟨A2', c2'', rfl, _⟩ := h'
  clear hga
  by_cases h1 : bs.length ≤ 1048576
  · by_cases h2 : bs2.length ≤ 1048576
    · have i1 : ¬ (1048576 : Int) < (bs.length : Int) := by omega
      have i2 : ¬ (1048576 : Int) < (bs2.length : Int) := by omega
      go_enter Tryd.func12, Tryd.ntmps12
      go_wp2_with (go_at_call 42; refine (dDrawMovesDo _ bs _ HB.out (by omega)).mono ?_; rintro e w1 ⟨rv, nv, lv, room, Bs, ms, rfl, hr, hb, hs, hm, hml, hmi, hE1⟩; have HR := hid hr; have HN := hid hb; have HS := hid hs; have HM := hid hm; have HML := hid hml; have HMI := hid hmi; have HG := hid (hE1.cell HGA.out); have HE1 := hid hE1; obtain ⟨Ar, cr, rfl, _⟩ := hr; obtain ⟨An, cn, rfl, _⟩ := hb; obtain ⟨Am, cm, rfl, _⟩ := hm; clear hs hml hmi hE1)
      have TOK1 : Hid True := hid trivial
      obtain ⟨R, hR⟩ : ∃ R, R = movesDo room Bs ms := ⟨_, rfl⟩
      have HRR := hid hR
      clear hR
      by_cases hneg : R.2 < 0
      · obtain ⟨q, hq⟩ : ∃ q, q = R.2 := ⟨_, rfl⟩
        rw [← hq] at hneg
        go_wp2_with (first
          | (go_at_call 25; have _t := HE4; refine (lSameBins _ _ R.1 _ (RB.ext HX2.out (HE23.out.trans HE34.out)) (RB.ext HX3.out HE34.out)).mono ?_; rintro e w5 ⟨rfl, hE5⟩; have HE5 := hid (HE4.out.trans hE5); clear hE5)
          | (go_at_call 25; refine (lSameBins _ _ R.1 _ (RB.ext HX2.out HE23.out) HX3.out).mono ?_; rintro e w4 ⟨rfl, hE4⟩; have HE34 := hid hE4; have HE4 := hid (HE3.out.trans hE4); have TOK2 : Hid True := hid trivial; clear hE4)
          | (go_at_call 43; refine (sMovesDo _ _ _ room Bs ms _ (RI.ext HR.out HE2.out) (RB.ext HN.out HE2.out) (RM.ext HM.out HE2.out) (by have := HS.out.2.1; omega)).mono ?_; rw [← HRR.out]; rintro e w3 ⟨v3, rfl, hd3, hE3⟩; have HX3 := hid hd3; have HE23 := hid hE3; have HE3 := hid (HE2.out.trans hE3); clear hd3 hE3)
          | (go_at_call 30; clear TOK1; refine (iMovesDo _ _ _ room Bs ms a _ HR.out HN.out HM.out (by have := HS.out.2.1; omega) (fun t ht => (HS.out.2.2 t ht).2.2) HG.out).mono ?_; rw [← HRR.out]; rintro e w2 ⟨v2, rfl, hd2, hE2⟩; have hx2 := hd2.read; have HX2 := hid hx2; obtain ⟨A2, c2', rfl, _⟩ := hx2; have HE2 := hid hE2; clear hd2 hE2))
        go_ret
        exact ⟨rfl, HE1.out.trans HE5.out⟩
      · obtain ⟨hvB, hm20, hRe⟩ := movesDo_neg HRR.out hneg
        have HVB := hid hvB
        have hrv := run_valid (room := room) ms hvB
        obtain ⟨j, hj⟩ : ∃ j, j = (movesRun room Bs ms).2 := ⟨_, rfl⟩
        have hj2 : R.2 = (j : Int) := by rw [hRe, hj]
        have hjl : j ≤ ms.length := by rw [hj]; exact hrv.2.2
        have HRE := hid hRe
        have HJ := hid hj
        have HJ2 := hid hj2
        have i20 : ms.length ≤ 20 := hm20
        clear hneg hRe hrv hj hj2 hvB hm20
        obtain ⟨K, hK⟩ : ∃ K : Nat, K = bs2.length % (ms.length + 1) := ⟨_, rfl⟩
        have hKl : K ≤ ms.length := by rw [hK]; have := Nat.mod_lt bs2.length (show 0 < ms.length + 1 by omega); omega
        have hkm : (bs2.length : Int) % ((ms.length : Int) + 1) = (K : Int) := by rw [hK]; rfl
        have iK : (K : Int) ≤ (ms.length : Int) := by omega
        have HKL := hid hKl
        obtain ⟨Q, hQ⟩ : ∃ Q, Q = movesRun room Bs (ms.take K) := ⟨_, rfl⟩
        have hqv := run_valid (room := room) (ms.take K) HVB.out
        have hql : Q.2 ≤ K := by rw [hQ]; have := hqv.2.2; rw [List.length_take] at this; omega
        have HQD : Hid (movesDo room Bs (ms.take K) = (Q.1, (Q.2 : Int))) := hid (by rw [hQ]; unfold movesDo; rw [HVB.out, decide_eq_true (by rw [List.length_take]; omega)]; rfl)
        have HQV : Hid (binsOk room Q.1 = true) := hid (by rw [hQ]; exact hqv.1)
        have hsp := run_split (room := room) (bs := Bs) hKl
        rw [← hQ] at hsp
        clear hK hqv hQ
        obtain ⟨q, hq⟩ : ∃ q, q = Q.2 := ⟨_, rfl⟩
        rw [← hq] at hql hsp HQD
        have iq : (q : Int) ≤ (K : Int) := by omega
        have HQ2 := hid hq
        clear hq
        by_cases hlt : q < K
        · have hjq : j = q ∧ R.1 = Q.1 := by rw [if_neg (by omega)] at hsp; rw [HJ.out, HRE.out, hsp]; exact ⟨HQ2.out.symm, rfl⟩
          obtain ⟨hjq, hRQ⟩ := hjq
          subst hjq
          have HRQ := hid hRQ
          have iq2 : (j : Int) < (K : Int) := by omega
          clear hRQ hsp
          go_wp2_with (first
            | (go_at_call 25; clear TOK3; refine (lSameBins _ _ Q.1 _ HX5.out (by rw [← HRQ.out]; exact RB.ext HX2.out (HE23.out.trans (HE34.out.trans HE45.out)))).mono ?_; rintro e w6 ⟨rfl, hE6⟩; have HE6 := hid (HE5.out.trans hE6); clear hE6)
            | (go_at_call 30; clear TOK2; refine (iMovesDo _ _ _ room Bs (ms.take K) a _ (RI.ext HR.out HE4.out) (RB.ext HN.out HE4.out) (RM.ext (RSl.head_ HM.out HKL.out) HE4.out) (by have := HS.out.2.1; omega) (fun t ht => (HS.out.2.2 t ht).2.2) (HE4.out.cell HG.out)).mono ?_; unfold RetMND; rw [HQD.out]; rintro e w5 ⟨v5, rfl, hd5, hE5⟩; have hx5 := hd5.read; have HX5 := hid hx5; obtain ⟨A5, c5, rfl, _⟩ := hx5; have HE45 := hid hE5; have HE5 := hid (HE4.out.trans hE5); have TOK3 : Hid True := hid trivial; clear hd5 hE5)
            | (go_at_call 25; refine (lSameBins _ _ R.1 _ (RB.ext HX2.out HE23.out) HX3.out).mono ?_; rintro e w4 ⟨rfl, hE4⟩; have HE34 := hid hE4; have HE4 := hid (HE3.out.trans hE4); have TOK2 : Hid True := hid trivial; clear hE4)
            | (go_at_call 43; refine (sMovesDo _ _ _ room Bs ms _ (RI.ext HR.out HE2.out) (RB.ext HN.out HE2.out) (RM.ext HM.out HE2.out) (by have := HS.out.2.1; omega)).mono ?_; rw [← HRR.out]; unfold RetMN; rw [HJ2.out]; rintro e w3 ⟨v3, rfl, hd3, hE3⟩; have HX3 := hid hd3; have HE23 := hid hE3; have HE3 := hid (HE2.out.trans hE3); clear hd3 hE3)
            | (go_at_call 30; clear TOK1; refine (iMovesDo _ _ _ room Bs ms a _ HR.out HN.out HM.out (by have := HS.out.2.1; omega) (fun t ht => (HS.out.2.2 t ht).2.2) HG.out).mono ?_; rw [← HRR.out]; unfold RetMND; rw [HJ2.out]; rintro e w2 ⟨v2, rfl, hd2, hE2⟩; have hx2 := hd2.read; have HX2 := hid hx2; obtain ⟨A2, c2', rfl, _⟩ := hx2; have HE2 := hid hE2; clear hd2 hE2))
          all_goals (go_ret; exact ⟨rfl, HE1.out.trans HE6.out⟩)
        · have hqK : q = K := by omega
          subst hqK
          rw [if_pos rfl] at hsp
          obtain ⟨P, hP⟩ : ∃ P, P = movesRun room Q.1 (ms.drop q) := ⟨_, rfl⟩
          rw [← hP] at hsp
          have hpv := run_valid (room := room) (ms.drop q) HQV.out
          have hpl : P.2 ≤ 20 := by rw [hP]; have := hpv.2.2; rw [List.length_drop] at this; omega
          have HPD : Hid (movesDo room Q.1 (ms.drop q) = (P.1, (P.2 : Int))) := hid (by rw [hP]; unfold movesDo; rw [HQV.out, decide_eq_true (by rw [List.length_drop]; omega)]; rfl)
          have HRP : Hid (R.1 = P.1) := hid (by rw [HRE.out, hsp])
          obtain ⟨p, hp⟩ : ∃ p, p = P.2 := ⟨_, rfl⟩
          have hj3 : j = q + p := by rw [HJ.out, hsp, hp]
          rw [← hp] at hpl HPD
          have hjj : ((q : Int) + (p : Int) == (j : Int)) = true := by rw [hj3]; simp
          clear hsp hP hpv hp hj3
          have HJJ := hid hjj
          clear hjj iq
          go_wp2_with (first
            | (go_at_call 25; clear TOK4; refine (lSameBins _ _ P.1 _ HX6.out (by rw [← HRP.out]; exact RB.ext HX2.out (HE23.out.trans (HE34.out.trans (HE45.out.trans HE56.out))))).mono ?_; rintro e w7 ⟨rfl, hE7⟩; have HE7 := hid (HE6.out.trans hE7); clear hE7)
            | (go_at_call 30; clear TOK3; refine (iMovesDo _ _ _ room Q.1 (ms.drop q) a _ (RI.ext HR.out HE5.out) HX5.out (RM.ext (RSl.tail_ HM.out HKL.out) HE5.out) (bins_fl HQV.out) (bins_id HQV.out) (HE5.out.cell HG.out)).mono ?_; unfold RetMND; rw [HPD.out]; rintro e w6 ⟨v6, rfl, hd6, hE6⟩; have HX6 := hid hd6.read; have hjj := HJJ.out; have HE56 := hid hE6; have HE6 := hid (HE5.out.trans hE6); have TOK4 : Hid True := hid trivial; clear hd6 hE6)
            | (go_at_call 30; clear TOK2; refine (iMovesDo _ _ _ room Bs (ms.take q) a _ (RI.ext HR.out HE4.out) (RB.ext HN.out HE4.out) (RM.ext (RSl.head_ HM.out HKL.out) HE4.out) (by have := HS.out.2.1; omega) (fun t ht => (HS.out.2.2 t ht).2.2) (HE4.out.cell HG.out)).mono ?_; unfold RetMND; rw [HQD.out]; rintro e w5 ⟨v5, rfl, hd5, hE5⟩; have hx5 := hd5.read; have HX5 := hid hx5; obtain ⟨A5, c5, rfl, _⟩ := hx5; have HE45 := hid hE5; have HE5 := hid (HE4.out.trans hE5); have TOK3 : Hid True := hid trivial; clear hd5 hE5)
            | (go_at_call 25; refine (lSameBins _ _ R.1 _ (RB.ext HX2.out HE23.out) HX3.out).mono ?_; rintro e w4 ⟨rfl, hE4⟩; have HE34 := hid hE4; have HE4 := hid (HE3.out.trans hE4); have TOK2 : Hid True := hid trivial; clear hE4)
            | (go_at_call 43; refine (sMovesDo _ _ _ room Bs ms _ (RI.ext HR.out HE2.out) (RB.ext HN.out HE2.out) (RM.ext HM.out HE2.out) (by have := HS.out.2.1; omega)).mono ?_; rw [← HRR.out]; unfold RetMN; rw [HJ2.out]; rintro e w3 ⟨v3, rfl, hd3, hE3⟩; have HX3 := hid hd3; have HE23 := hid hE3; have HE3 := hid (HE2.out.trans hE3); clear hd3 hE3)
            | (go_at_call 30; clear TOK1; refine (iMovesDo _ _ _ room Bs ms a _ HR.out HN.out HM.out (by have := HS.out.2.1; omega) (fun t ht => (HS.out.2.2 t ht).2.2) HG.out).mono ?_; rw [← HRR.out]; unfold RetMND; rw [HJ2.out]; rintro e w2 ⟨v2, rfl, hd2, hE2⟩; have hx2 := hd2.read; have HX2 := hid hx2; obtain ⟨A2, c2', rfl, _⟩ := hx2; have HE2 := hid hE2; clear hd2 hE2))
          all_goals (go_ret; exact ⟨rfl, HE1.out.trans HE7.out⟩)
    · have i1 : ¬ (1048576 : Int) < (bs.length : Int) := by omega
      have i2 : (1048576 : Int) < (bs2.length : Int) := by omega
      go_enter Tryd.func12, Tryd.ntmps12
      go_wp2
      go_ret
      exact ⟨rfl, Ext.refl _⟩
  · have i1 : (1048576 : Int) < (bs.length : Int) := by omega
    go_enter Tryd.func12, Tryd.ntmps12
    go_wp2
    go_ret
    exact ⟨rfl, Ext.refl _⟩

end Go.Proofs.YtibpijjigopdjaaDoor
