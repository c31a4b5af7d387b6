/- The law FnPlanLess. -/
import Derived.Test.YtibpijjigopdjaaDoorK17
import Derived.Test.YtibpijjigopdjaaDoorK14
namespace Go.Proofs.YtibpijjigopdjaaDoor
open Go.RowKit
set_option maxRecDepth 4000

set_option maxHeartbeats 8000000 in
theorem lawPlanLess (v : Value) (bs : List Int) (w : World) (h : XBy w v bs) (a : Addr) (hga : w.cell? ⟨0, 0, none⟩ = some (errV a)) :
    Calls Tryd.prog 3 #[v] w (RetB w true) := by
  have HB := hid h
  have HGA := hid hga
  obtain ⟨A, c, rfl, _⟩ := h
  clear hga
  by_cases h1 : bs.length ≤ 1048576
  · have i1 : ¬ (1048576 : Int) < (bs.length : Int) := by omega
    go_enter Tryd.func3, Tryd.ntmps3
    go_wp2_with (go_at_call 16; refine (dDrawGatherPlan _ bs _ HB.out (by omega)).mono ?_; rintro e w1 ⟨rv, nv, room, Bs, most, rfl, hr, hb, hl, hfl, hgt, hmo, hE1⟩; have HR := hid hr; have HN := hid hb; have HS := hid (show SmallN Bs from ⟨hl, hfl, hgt⟩); have HMO := hid hmo; have HG := hid (hE1.cell HGA.out); have HE1 := hid hE1; obtain ⟨Ar, cr, rfl, _⟩ := hr; obtain ⟨An, cn, rfl, _⟩ := hb; clear hl hfl hgt hE1)
    obtain ⟨P, hP⟩ : ∃ P, P = gatherPlan room Bs most := ⟨_, rfl⟩
    have HPP := hid hP
    have TOK1 : Hid True := hid trivial
    clear hP
    cases hv : binsOk room Bs with
    | false =>
      go_wp2_with (first
        | (go_at_call 19; clear TOK3; refine (lSameMoves _ _ P _ (RM.ext HX2.out (HE23.out.trans (HE34.out.trans HE45.out))) (RM.ext HX3.out (HE34.out.trans HE45.out))).mono ?_; rintro e w6 ⟨rfl, hE6⟩; have HE6 := hid (HE5.out.trans hE6); clear hE6)
        | (go_at_call 20; refine (sBinsValid _ _ room Bs _ (RI.ext HR.out HE4.out) (RB.ext HN.out HE4.out) (by have := HS.out.2.1; omega)).mono ?_; rintro e w5 ⟨rfl, hE5⟩; rw [hv]; have HE45 := hid hE5; have HE5 := hid (HE4.out.trans hE5); have TOK3 : Hid True := hid trivial; clear hE5)
        | (go_at_call 19; refine (lSameMoves _ _ P _ (RM.ext HX2.out HE23.out) HX3.out).mono ?_; rintro e w4 ⟨rfl, hE4⟩; have HE34 := hid hE4; have HE4 := hid (HE3.out.trans hE4); have TOK2 : Hid True := hid trivial; clear hE4)
        | (go_at_call 18; refine (sGatherPlan _ _ room Bs most _ (RI.ext HR.out HE2.out) (RB.ext HN.out HE2.out) (by have := HS.out.2.1; omega)).mono ?_; rw [← HPP.out]; rintro e w3 ⟨v3, rfl, hx3, hE3⟩; have HX3 := hid hx3; have HE23 := hid hE3; have HE3 := hid (HE2.out.trans hE3); clear hx3 hE3)
        | (go_at_call 17; clear TOK1; refine (iGatherPlan _ _ room Bs most a _ HR.out HN.out (by have := HS.out.2.1; omega) (fun t ht => (HS.out.2.2 t ht).2.2) HG.out).mono ?_; rw [← HPP.out]; rintro e w2 ⟨v2, rfl, hO2, hE2⟩; have hx2 := hO2.read; have HX2 := hid hx2; obtain ⟨A2, c2', rfl, _⟩ := hx2; have HE2 := hid hE2; clear hO2 hE2))
      all_goals (go_ret; exact ⟨rfl, HE1.out.trans HE6.out⟩)
    | true =>
      by_cases h0 : most < 0
      · have hm0 : most < 0 := h0
        go_wp2_with (first
          | (go_at_call 19; clear TOK3; refine (lSameMoves _ _ P _ (RM.ext HX2.out (HE23.out.trans (HE34.out.trans HE45.out))) (RM.ext HX3.out (HE34.out.trans HE45.out))).mono ?_; rintro e w6 ⟨rfl, hE6⟩; have HE6 := hid (HE5.out.trans hE6); clear hE6)
          | (go_at_call 20; refine (sBinsValid _ _ room Bs _ (RI.ext HR.out HE4.out) (RB.ext HN.out HE4.out) (by have := HS.out.2.1; omega)).mono ?_; rintro e w5 ⟨rfl, hE5⟩; rw [hv]; have HE45 := hid hE5; have HE5 := hid (HE4.out.trans hE5); have TOK3 : Hid True := hid trivial; clear hE5)
          | (go_at_call 19; refine (lSameMoves _ _ P _ (RM.ext HX2.out HE23.out) HX3.out).mono ?_; rintro e w4 ⟨rfl, hE4⟩; have HE34 := hid hE4; have HE4 := hid (HE3.out.trans hE4); have TOK2 : Hid True := hid trivial; clear hE4)
          | (go_at_call 18; refine (sGatherPlan _ _ room Bs most _ (RI.ext HR.out HE2.out) (RB.ext HN.out HE2.out) (by have := HS.out.2.1; omega)).mono ?_; rw [← HPP.out]; rintro e w3 ⟨v3, rfl, hx3, hE3⟩; have HX3 := hid hx3; have HE23 := hid hE3; have HE3 := hid (HE2.out.trans hE3); clear hx3 hE3)
          | (go_at_call 17; clear TOK1; refine (iGatherPlan _ _ room Bs most a _ HR.out HN.out (by have := HS.out.2.1; omega) (fun t ht => (HS.out.2.2 t ht).2.2) HG.out).mono ?_; rw [← HPP.out]; rintro e w2 ⟨v2, rfl, hO2, hE2⟩; have hx2 := hO2.read; have HX2 := hid hx2; obtain ⟨A2, c2', rfl, _⟩ := hx2; have HE2 := hid hE2; clear hO2 hE2))
        all_goals (go_ret; exact ⟨rfl, HE1.out.trans HE6.out⟩)
      · by_cases h20 : 20 < most
        · have hm20 : 20 < most := h20
          have hm0 : ¬ most < 0 := h0
          go_wp2_with (first
            | (go_at_call 19; clear TOK3; refine (lSameMoves _ _ P _ (RM.ext HX2.out (HE23.out.trans (HE34.out.trans HE45.out))) (RM.ext HX3.out (HE34.out.trans HE45.out))).mono ?_; rintro e w6 ⟨rfl, hE6⟩; have HE6 := hid (HE5.out.trans hE6); clear hE6)
            | (go_at_call 20; refine (sBinsValid _ _ room Bs _ (RI.ext HR.out HE4.out) (RB.ext HN.out HE4.out) (by have := HS.out.2.1; omega)).mono ?_; rintro e w5 ⟨rfl, hE5⟩; rw [hv]; have HE45 := hid hE5; have HE5 := hid (HE4.out.trans hE5); have TOK3 : Hid True := hid trivial; clear hE5)
            | (go_at_call 19; refine (lSameMoves _ _ P _ (RM.ext HX2.out HE23.out) HX3.out).mono ?_; rintro e w4 ⟨rfl, hE4⟩; have HE34 := hid hE4; have HE4 := hid (HE3.out.trans hE4); have TOK2 : Hid True := hid trivial; clear hE4)
            | (go_at_call 18; refine (sGatherPlan _ _ room Bs most _ (RI.ext HR.out HE2.out) (RB.ext HN.out HE2.out) (by have := HS.out.2.1; omega)).mono ?_; rw [← HPP.out]; rintro e w3 ⟨v3, rfl, hx3, hE3⟩; have HX3 := hid hx3; have HE23 := hid hE3; have HE3 := hid (HE2.out.trans hE3); clear hx3 hE3)
            | (go_at_call 17; clear TOK1; refine (iGatherPlan _ _ room Bs most a _ HR.out HN.out (by have := HS.out.2.1; omega) (fun t ht => (HS.out.2.2 t ht).2.2) HG.out).mono ?_; rw [← HPP.out]; rintro e w2 ⟨v2, rfl, hO2, hE2⟩; have hx2 := hO2.read; have HX2 := hid hx2; obtain ⟨A2, c2', rfl, _⟩ := hx2; have HE2 := hid hE2; clear hO2 hE2))
          all_goals (go_ret; exact ⟨rfl, HE1.out.trans HE6.out⟩)
        · obtain ⟨n, rfl⟩ : ∃ n : Nat, most = (n : Int) := ⟨most.toNat, by omega⟩
          have hn20 : n ≤ 20 := by omega
          have hPn : P = plan room n Bs := by rw [HPP.out]; unfold gatherPlan; rw [hv, show inB (n : Int) 0 20 = true by simp [inB]; omega]; rfl
          have HPN := hid hPn
          have hpr := plan_run (room := room) n hv
          rw [← hPn] at hpr
          have HVB := hid hv
          obtain ⟨X, hX⟩ : ∃ X, X = (movesRun room Bs P).1 := ⟨_, rfl⟩
          have HXX := hid hX
          have hpl : P.length ≤ n := hpr.2.1
          have HMD : Hid (movesDo room Bs P = (X, (P.length : Int))) := hid (by unfold movesDo; rw [hv, decide_eq_true (show P.length ≤ 20 by omega), hX]; show ((movesRun room Bs P).1, ((movesRun room Bs P).2 : Int)) = _; rw [hpr.1])
          have hrv := run_valid (room := room) P hv
          have HVX : Hid (binsOk room X = true) := hid (by rw [hX]; exact hrv.1)
          have HXL : Hid (X.length = Bs.length) := hid (by rw [hX]; exact hrv.2.1)
          have HNX : Hid (P.length < n → nextMv room X = none) := hid (by rw [hX]; exact hpr.2.2)
          have ip : (P.length : Int) ≤ (n : Int) := by omega
          have in1 : ¬ (n : Int) < 0 := by omega
          have in2 : ¬ (20 : Int) < (n : Int) := by omega
          clear hPn hpr hX hrv h0 h20
          have HLS : Hid (∀ m ∈ P, m.to < whereL Bs m.id) := hid (by rw [HPN.out]; exact plan_less n HVB.out)
          go_wp2_with (first
            | (go_at_call 20; refine (sBinsValid _ _ room Bs _ (RI.ext HR.out HE4.out) (RB.ext HN.out HE4.out) (by have := HS.out.2.1; omega)).mono ?_; rintro e w5 ⟨rfl, hE5⟩; rw [hv]; have HE45 := hid hE5; have HE5 := hid (HE4.out.trans hE5); have TOK3 : Hid True := hid trivial; clear hE5)
            | (go_at_call 19; refine (lSameMoves _ _ P _ (RM.ext HX2.out HE23.out) HX3.out).mono ?_; rintro e w4 ⟨rfl, hE4⟩; have HE34 := hid hE4; have HE4 := hid (HE3.out.trans hE4); have TOK2 : Hid True := hid trivial; clear hE4)
            | (go_at_call 18; refine (sGatherPlan _ _ room Bs (n : Int) _ (RI.ext HR.out HE2.out) (RB.ext HN.out HE2.out) (by have := HS.out.2.1; omega)).mono ?_; rw [← HPP.out]; rintro e w3 ⟨v3, rfl, hx3, hE3⟩; have HX3 := hid hx3; have HE23 := hid hE3; have HE3 := hid (HE2.out.trans hE3); clear hx3 hE3)
            | (go_at_call 17; clear TOK1; refine (iGatherPlan _ _ room Bs (n : Int) a _ HR.out HN.out (by have := HS.out.2.1; omega) (fun t ht => (HS.out.2.2 t ht).2.2) HG.out).mono ?_; rw [← HPP.out]; rintro e w2 ⟨v2, rfl, hO2, hE2⟩; have hx2 := hO2.read; have HX2 := hid hx2; obtain ⟨A2, c2', rfl, _⟩ := hx2; have HE2 := hid hE2; clear hO2 hE2))
          go_loopw [8] (fun i wr => ∃ k : Nat, k ≤ P.length ∧ i = .int .i64 k ∧ Hid (Ext w5 wr)) (fun i _ => P.length - (intOf i).toNat)
          case atStart => exact ⟨0, Nat.zero_le _, rfl, hid (Ext.refl _)⟩
          case round =>
            obtain ⟨k, hk, rfl, HE⟩ := hrel
            by_cases hlt : k < P.length
            · obtain ⟨A', c', hv', _, _, hg⟩ := RM.get HX2.out
              injection hv' with e1 _ e3
              subst e1 e3
              obtain ⟨b, o, m, rfl, e, c1, c2⟩ := hg k hlt
              obtain ⟨mid, mto⟩ := m
              have hm := HLS.out _ (List.mem_of_getElem? e.out)
              obtain ⟨z, hz⟩ : ∃ z, z = whereL Bs mid := ⟨_, rfl⟩
              have hmz : ¬ z ≤ mto := by rw [hz]; simp only at hm; omega
              have HZ := hid hz
              have i1 : (k : Int) < (P.length : Int) := by omega
              have i0 : (0 : Int) ≤ (k : Int) := by omega
              have HB5 : Hid (Ext w2 wr) := hid (HE23.out.trans (HE34.out.trans (HE45.out.trans HE.out)))
              have KH : Hid (∀ w', Ext wr w' → w'.cell? ⟨b, o + k * 2, none⟩ = some (.int .i64 mid) ∧ w'.cell? ⟨b, o + k * 2 + 1, none⟩ = some (.int .i64 mto)) := hid fun w' hw => ⟨(HB5.out.trans hw).cell c1, (HB5.out.trans hw).cell c2⟩
              have HDr : Hid (Ext wr wr.drew) := hid (Below.drew (Below.refl _ _))
              clear hg c1 c2 hm hz
              go_wp2
              refine WG.start (fun w' => w'.cell? ⟨b, o + k * 2, none⟩ = some (.int .i64 mid) ∧ w'.cell? ⟨b, o + k * 2 + 1, none⟩ = some (.int .i64 mto)) [13] (by kernel_rfl) (by exact KH.out _ HDr.out) (fun hHeld => ?_)
              (refine WG.take (i := 0) (v := ?_) rfl (by kernel_rfl) (by kernel_rfl) (by kernel_rfl) (by kernel_rfl) (fun _ _ _ h => h) (Or.inl ⟨by rfl, ?_⟩) (by assumption) ?_; rotate_left; (intro w hSw; (try dsimp only at hSw); go_split_ands; go_simp; (try with_reducible rfl)); (try simp only [Act.put, List.setIfInBounds_toArray, List.set_cons_zero, List.set_cons_succ]))
              (refine WG.take (i := 1) (v := ?_) rfl (by kernel_rfl) (by kernel_rfl) (by kernel_rfl) (by kernel_rfl) (fun _ _ _ h => h) (Or.inl ⟨by rfl, ?_⟩) (by assumption) ?_; rotate_left; (intro w hSw; (try dsimp only at hSw); go_split_ands; go_simp; (try with_reducible rfl)); (try simp only [Act.put, List.setIfInBounds_toArray, List.set_cons_zero, List.set_cons_succ]))
              (refine WG.take (i := 2) (v := ?_) rfl (by kernel_rfl) (by kernel_rfl) (by kernel_rfl) (by kernel_rfl) (fun _ _ _ h => h) (Or.inl ⟨by rfl, ?_⟩) (by assumption) ?_; rotate_left; (intro w hSw; (try dsimp only at hSw); go_split_ands; go_simp; (try with_reducible rfl)); (try simp only [Act.put, List.setIfInBounds_toArray, List.set_cons_zero, List.set_cons_succ]))
              (refine WG.take (i := 3) (v := ?_) rfl (by kernel_rfl) (by kernel_rfl) (by kernel_rfl) (by kernel_rfl) (fun _ _ _ h => h) (Or.inl ⟨by rfl, ?_⟩) (by assumption) ?_; rotate_left; (intro w hSw; (try dsimp only at hSw); go_split_ands; go_simp; (try with_reducible rfl)); (try simp only [Act.put, List.setIfInBounds_toArray, List.set_cons_zero, List.set_cons_succ]))
              (refine WG.take (i := 4) (v := ?_) rfl (by kernel_rfl) (by kernel_rfl) (by kernel_rfl) (by kernel_rfl) (fun _ _ _ h => h) (Or.inl ⟨by rfl, ?_⟩) (by assumption) ?_; rotate_left; (intro w hSw; (try dsimp only at hSw); go_split_ands; go_simp; (try with_reducible rfl)); (try simp only [Act.put, List.setIfInBounds_toArray, List.set_cons_zero, List.set_cons_succ]))
              (refine WG.take (i := 5) (v := ?_) rfl (by kernel_rfl) (by kernel_rfl) (by kernel_rfl) (by kernel_rfl) (fun _ _ _ h => h) (Or.inl ⟨by rfl, ?_⟩) (by assumption) ?_; rotate_left; (intro w hSw; (try dsimp only at hSw); go_split_ands; go_simp; (try with_reducible rfl)); (try simp only [Act.put, List.setIfInBounds_toArray, List.set_cons_zero, List.set_cons_succ]))
              (refine WG.take (i := 6) (v := ?_) rfl (by kernel_rfl) (by kernel_rfl) (by kernel_rfl) (by kernel_rfl) (fun _ _ _ h => h) (Or.inl ⟨by rfl, ?_⟩) (by assumption) ?_; rotate_left; (intro w hSw; (try dsimp only at hSw); go_split_ands; go_simp; (try with_reducible rfl)); (try simp only [Act.put, List.setIfInBounds_toArray, List.set_cons_zero, List.set_cons_succ]))
              (refine WG.take (i := 7) (v := ?_) rfl (by kernel_rfl) (by kernel_rfl) (by kernel_rfl) (by kernel_rfl) (fun _ _ _ h => h) (Or.inl ⟨by rfl, ?_⟩) (by assumption) ?_; rotate_left; (intro w hSw; (try dsimp only at hSw); go_split_ands; go_simp; (try with_reducible rfl)); (try simp only [Act.put, List.setIfInBounds_toArray, List.set_cons_zero, List.set_cons_succ]))
              (refine WG.take (i := 8) (v := ?_) rfl (by kernel_rfl) (by kernel_rfl) (by kernel_rfl) (by kernel_rfl) (fun _ _ _ h => h) (Or.inl ⟨by rfl, ?_⟩) (by assumption) ?_; rotate_left; (intro w hSw; (try dsimp only at hSw); go_split_ands; go_simp; (try with_reducible rfl)); (try simp only [Act.put, List.setIfInBounds_toArray, List.set_cons_zero, List.set_cons_succ]))
              (refine WG.take (i := 9) (v := ?_) rfl (by kernel_rfl) (by kernel_rfl) (by kernel_rfl) (by kernel_rfl) (fun _ _ _ h => h) (Or.inl ⟨by rfl, ?_⟩) (by assumption) ?_; rotate_left; (intro w hSw; (try dsimp only at hSw); go_split_ands; go_simp; (try with_reducible rfl)); (try simp only [Act.put, List.setIfInBounds_toArray, List.set_cons_zero, List.set_cons_succ]))
              (refine WG.take (i := 10) (v := ?_) rfl (by kernel_rfl) (by kernel_rfl) (by kernel_rfl) (by kernel_rfl) (fun _ _ _ h => h) (Or.inl ⟨by rfl, ?_⟩) (by assumption) ?_; rotate_left; (intro w hSw; (try dsimp only at hSw); go_split_ands; go_simp; (try with_reducible rfl)); (try simp only [Act.put, List.setIfInBounds_toArray, List.set_cons_zero, List.set_cons_succ]))
              (refine WG.take (i := 11) (v := ?_) rfl (by kernel_rfl) (by kernel_rfl) (by kernel_rfl) (by kernel_rfl) (fun _ _ _ h => h) (Or.inl ⟨by rfl, ?_⟩) (by assumption) ?_; rotate_left; (intro w hSw; (try dsimp only at hSw); go_split_ands; go_simp; (try with_reducible rfl)); (try simp only [Act.put, List.setIfInBounds_toArray, List.set_cons_zero, List.set_cons_succ]))
              refine WG.one (i := 12) rfl (by kernel_rfl) (fun K hK => ?_)
              go_simp; refine (iBinsWhere _ _ room Bs mid _ (RI.ext HR.out (HE5.out.trans (HE.out.trans HDr.out))) (RB.ext HN.out (HE5.out.trans (HE.out.trans HDr.out))) (bins_fl HVB.out) (bins_id HVB.out) HVB.out).mono ?_; rw [← HZ.out]; rintro e7 w7 ⟨rfl, hE7⟩; have HE7 := hid (HDr.out.trans hE7); clear hE7; (try dsimp only)
              refine hK.out _ _ (by exact KH.out _ HE7.out) (fun hHeld => ?_)
              clear hK K
              (try simp only [Act.put, List.setIfInBounds_toArray, List.set_cons_zero, List.set_cons_succ])
              refine WG.last (i := 13) rfl (by kernel_rfl) (by kernel_rfl) (fun K hK => ?_)
              go_simp
              refine hK.out _ _ ?_
              clear hK K
              (try simp only [Act.put, List.setIfInBounds_toArray, List.set_cons_zero, List.set_cons_succ])
              refine WG.done (by kernel_rfl) ?_
              go_wp2
              go_roundw
              case rel => exact ⟨k + 1, by omega, by go_num, hid (HE.out.trans HE7.out)⟩
              case measure => simp [intOf]; omega
            · have i1 : ¬ (k : Int) < (P.length : Int) := by omega
              clear hlt
              go_wp2
              go_ret
              exact ⟨rfl, HE1.out.trans (HE5.out.trans HE.out)⟩
  · have i1 : (1048576 : Int) < (bs.length : Int) := by omega
    go_enter Tryd.func3, Tryd.ntmps3
    go_wp2
    go_ret
    exact ⟨rfl, Ext.refl _⟩

end Go.Proofs.YtibpijjigopdjaaDoor
