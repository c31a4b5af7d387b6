/- The law FnDownBest. -/
import Derived.Test.YtllchacophapoaaOg1b
namespace Go.Proofs.Ytllchacophapoaa
open Go.RowKit
set_option maxRecDepth 4000

theorem iBinsTasksN (rv v : Value) (room : List Int) (bs : List (List TaskD)) (w : World) (hR : RI w rv room) (h : RB w v bs) (hfl : bs.flatten.length ≤ 4000000) (hid' : ∀ t ∈ bs.flatten, IdR t.id) :
    Calls Try.prog 31 #[rv, v] w fun e w' => ∃ v, e = .returned v ∧ RT w' v (binsTasksN room bs) ∧ Ext w w' := by
  cases hv : binsOk room bs with
  | true =>
    have e : binsTasksN room bs = bs.flatten := by unfold binsTasksN; rw [hv]; rfl
    rw [e]
    exact iBinsTasks rv v room bs w hR h hfl hid' hv
  | false =>
    have e : binsTasksN room bs = [] := by unfold binsTasksN; rw [hv]; rfl
    rw [e]
    have HR := hid hR
    have HB := hid h
    have HI := hid hid'
    have HF := hid hfl
    obtain ⟨Ar, cr, rfl, _⟩ := RI.get hR
    obtain ⟨Ab, cb, rfl⟩ := bin_row h
    clear hR h hid' hfl e
    go_enter Try.func31, Try.ntmps31
    go_wp2_with (go_at_call 25; refine (iBinsValid _ _ room bs _ HR.out HB.out HF.out HI.out).mono ?_; rw [hv]; rintro e w1 ⟨rfl, hE1⟩; have HE1 := hid hE1; clear hE1)
    go_ret
    exact ⟨_, rfl, RSl.nil_ _ _ _ _ _ _ (by omega), HE1.out⟩
theorem downBest_sub {room : List Int} {ts : List TaskD} : (downBestN room ts).flatten.length ≤ ts.length ∧ ∀ t ∈ (downBestN room ts).flatten, t ∈ ts := by
  cases h : tasksOk room ts with
  | true =>
    obtain ⟨e1, h1⟩ := sortN_ok h
    have e : downBestN room ts = allBy (fun bs x => bestAt room bs x) (sortT ts) := by unfold downBestN bestAllN; rw [e1, h1]; rfl
    have hp := (allBy_perm (chooses_best room) (sortT ts).length (sortT ts) rfl).1
    rw [e]
    exact ⟨by rw [hp.length_eq, sortT_len]; exact Nat.le_refl _, fun t ht => (sortT_perm ts).mem_iff.1 (hp.mem_iff.1 ht)⟩
  | false =>
    have e3 : sortN room ts = [] := by unfold sortN; rw [h]; rfl
    have e5 : downBestN room ts = [] := by unfold downBestN; rw [e3, bestAllN_nil]
    rw [e5]
    exact ⟨Nat.zero_le _, fun t ht => by cases ht⟩

set_option maxHeartbeats 4000000 in
theorem lawDownBest (v : Value) (bs : List Int) (w : World) (h : XBy w v bs) :
    Calls Try.prog 7 #[v] w (RetB w true) := by
  have HB := hid h
  obtain ⟨A, c, rfl, _⟩ := h
  by_cases h1 : bs.length ≤ 1048576
  · have i1 : ¬ (1048576 : Int) < (bs.length : Int) := by omega
    have TK0 : Hid True := hid trivial
    go_enter Try.func7, Try.ntmps7
    go_wp2_with (first
      | (go_at_call 28; refine (dDrawDownBest _ bs _ HB.out (by omega)).mono ?_; rintro e w1 ⟨rv, tv, room, ts, rfl, hr, ht, hll, hg, hE1⟩; have hr0 := hr; have ht0 := ht; obtain ⟨Ar, cr, rfl, _⟩ := RI.get hr; obtain ⟨At, ct, rfl, _, _, hgt⟩ := RT.get ht; have HR := hid hr0; have HT := hid ht0; have HLL := hid hll; have HID : Hid (∀ t ∈ ts, IdR t.id) := hid (fun t ht => (hg t ht).2.2); have HE1 := hid hE1; obtain ⟨R, hR⟩ : ∃ R, R = downBestN room ts := ⟨_, rfl⟩; have HRR := hid hR; obtain ⟨S, hS⟩ : ∃ S, S = sortN room ts := ⟨_, rfl⟩; have HSS := hid hS; have HRS : Hid (bestAllN room S = R) := hid (by rw [hS, hR]; rfl); have HIDS : Hid (∀ t ∈ S, IdR t.id) := hid (by rw [hS]; exact sort_ids HID.out); have HFL : Hid (R.flatten.length ≤ 4000000) := hid (by rw [hR]; have := (downBest_sub (room := room) (ts := ts)).1; have := HLL.out; omega); have HIF : Hid (∀ t ∈ R.flatten, IdR t.id) := hid (by rw [hR]; exact fun t ht => HID.out t ((downBest_sub (room := room) (ts := ts)).2 t ht)); obtain ⟨L, hL⟩ : ∃ L, L = binsTasksN room R := ⟨_, rfl⟩; have HL := hid hL; have HLE : Hid (L.length = S.length) := hid (by rw [hL, hR, hS]; exact down_best_len room ts); have TK1 : Hid True := hid trivial; clear TK0 hr ht hr0 ht0 hll hg hE1 hgt hR hS hL)
      | (go_at_call 26; refine (iDownBest _ _ room ts _ HR.out HT.out HID.out).mono ?_; rw [← HRR.out]; rintro e w2 ⟨v2, rfl, hB2, hE2⟩; have HB2 := hid hB2.read; have HE2 := hid hE2; clear hB2 hE2)
      | (go_at_call 27; refine (sDownBest _ _ room ts _ (RI.ext HR.out HE2.out) (RT.ext HT.out HE2.out)).mono ?_; rw [← HRR.out]; rintro e w3 ⟨v3, rfl, hB3, hE3⟩; have HB3 := hid hB3; have HB2 := hid (RB.ext HB2.out hE3); have HE3 := hid (HE2.out.trans hE3); clear hB3 hE3)
      | (go_at_call 22; clear TK1; refine (lSameBins _ _ R _ HB2.out HB3.out).mono ?_; rintro e w4 ⟨rfl, hE4⟩; have HB4 := hid (RB.ext HB2.out hE4); have HE4 := hid (HE3.out.trans hE4); have TK2 : Hid True := hid trivial; clear hE4)
      | (go_at_call 30; clear TK2; refine (iTasksSort _ _ room ts _ (RI.ext HR.out HE4.out) (RT.ext HT.out HE4.out) HID.out).mono ?_; rw [← HSS.out]; rintro e w5 ⟨v5, rfl, hO5, hE5⟩; have HO5 := hid (OT.read hO5); have HB5 := hid (RB.ext HB4.out hE5); have HE5 := hid (HE4.out.trans hE5); have TK3 : Hid True := hid trivial; clear hO5 hE5)
      | (go_at_call 29; clear TK3; refine (iBestAll _ _ room S _ (RI.ext HR.out HE5.out) HO5.out HIDS.out).mono ?_; rw [HRS.out]; rintro e w6 ⟨v6, rfl, hB6, hE6⟩; have HB6 := hid hB6.read; have HB7 := hid (RB.ext HB5.out hE6); have HE6 := hid (HE5.out.trans hE6); have TK4 : Hid True := hid trivial; clear hB6 hE6)
      | (go_at_call 22; clear TK4; refine (lSameBins _ _ R _ HB6.out HB7.out).mono ?_; rintro e w7 ⟨rfl, hE7⟩; have HB8 := hid (RB.ext HB7.out hE7); have HE7 := hid (HE6.out.trans hE7); clear hE7)
      | (go_at_call 31; refine (iBinsTasksN _ _ room R _ (RI.ext HR.out HE7.out) HB8.out HFL.out HIF.out).mono ?_; rw [← HL.out]; rintro e w8 ⟨v8, rfl, hT8, hE8⟩; obtain ⟨A8, c8, rfl, _⟩ := RT.get hT8; have HE8 := hid (HE7.out.trans hE8); have TK5 : Hid True := hid trivial; clear hT8 hE8)
      | (go_at_call 30; clear TK5; refine (iTasksSort _ _ room ts _ (RI.ext HR.out HE8.out) (RT.ext HT.out HE8.out) HID.out).mono ?_; rw [← HSS.out]; rintro e w9 ⟨v9, rfl, hO9, hE9⟩; obtain ⟨A9, c9, hv9, _⟩ := Own.form hO9; subst hv9; have hle : ((L.length : Int) == (S.length : Int)) = true := (by rw [HLE.out]; simp); have HE9 := hid (HE8.out.trans hE9); clear hO9 hE9))
    go_ret
    exact ⟨ret_b (by first | rfl | assumption | simp [HLE.out]), HE1.out.trans HE9.out⟩
  · have i1 : (1048576 : Int) < (bs.length : Int) := by omega
    go_enter Try.func7, Try.ntmps7
    go_wp2
    go_ret
    exact ⟨rfl, Ext.refl _⟩

end Go.Proofs.Ytllchacophapoaa
