/- The law FnMove. -/
import Derived.Test.YtibpijjigopdjaaDoorK14
namespace Go.Proofs.YtibpijjigopdjaaDoor
open Go.RowKit
set_option maxRecDepth 4000

set_option maxHeartbeats 8000000 in
theorem lawMove (v : Value) (bs : List Int) (w : World) (h : XBy w v bs) (a : Addr) (hga : w.cell? ⟨0, 0, none⟩ = some (errV a)) :
    Calls Tryd.prog 5 #[v] w (RetB w true) := by
  have HB := hid h
  have HGA := hid hga
  obtain ⟨A, c, rfl, _⟩ := h
  clear hga
  by_cases h1 : bs.length ≤ 1048576
  · have i1 : ¬ (1048576 : Int) < (bs.length : Int) := by omega
    go_enter Tryd.func5, Tryd.ntmps5
    go_wp2_with (go_at_call 22; refine (dDrawMoveDo _ bs _ HB.out (by omega)).mono ?_; rintro e w1 ⟨rv, nv, room, Bs, mid, mto, rfl, hr, hb, hl, hfl, hgt, hmi, hmt, hE1⟩; have HR0 := hid hr; have HN0 := hid hb; have HS := hid (show SmallN Bs from ⟨hl, hfl, hgt⟩); have HMI := hid hmi; have HG0 := hid (hE1.cell HGA.out); have HE1 := hid hE1; obtain ⟨Ar, cr, rfl, _⟩ := hr; obtain ⟨An, cn, rfl, _⟩ := hb; obtain ⟨y0, y1, y0f, y1f, k1, k1f, hkk, _⟩ := box2 (heap_alloc_new w1 (.cells #[.int .i64 0, .int .i64 0] 32)) (.int .i64 mid) (.int .i64 mto); clear hl hfl hgt hmi hE1 hkk)
    obtain ⟨W, hW⟩ : ∃ W, W = w1.alloc (.cells #[.int .i64 mid, .int .i64 mto] 32) := ⟨_, rfl⟩
    have hEW : Ext w1 W := by rw [hW]; exact Ext.alloc _ _
    have hbx : W.heap[w1.heap.size]? = some (.cells #[.int .i64 mid, .int .i64 mto] 32 (0, 0)) := by rw [hW]; exact heap_alloc_new _ _
    have KB : Hid (∀ w', Ext W w' → w'.cell? ⟨w1.heap.size, 0, none⟩ = some (.int .i64 mid) ∧ w'.cell? ⟨w1.heap.size, 1, none⟩ = some (.int .i64 mto)) := hid fun w' hw => ⟨obj_cell (hw.obj hbx) (i := 0) rfl, obj_cell (hw.obj hbx) (i := 1) rfl⟩
    obtain ⟨hb0, hb1⟩ := KB.out _ (Ext.refl _)
    have HR := hid (RI.ext HR0.out hEW)
    have HN := hid (RB.ext HN0.out hEW)
    have HG := hid (hEW.cell HG0.out)
    have HEW := hid (HE1.out.trans hEW)
    rw [← hW]
    clear hW y0 y1 y0f y1f k1 k1f hEW hbx
    obtain ⟨R, hR⟩ : ∃ R, R = moveDo room Bs ⟨mid, mto⟩ := ⟨_, rfl⟩
    have HRR := hid hR
    have TOK1 : Hid True := hid trivial
    clear hR
    cases hok : R.2 with
    | false =>
      have HOK := hid hok
      go_wp2_with (first
        | (go_at_call 25; clear TOK2; refine (lSameBins _ _ R.1 _ (RB.ext HX2.out (HE23.out.trans HE34.out)) (RB.ext HX3.out HE34.out)).mono ?_; rintro e w5 ⟨rfl, hE5⟩; have HE5 := hid (HE4.out.trans hE5); clear hE5)
        | (go_at_call 25; refine (lSameBins _ _ R.1 _ (RB.ext HX2.out HE23.out) HX3.out).mono ?_; rintro e w4 ⟨rfl, hE4⟩; have HE34 := hid hE4; have HE4 := hid (HE3.out.trans hE4); have TOK2 : Hid True := hid trivial; obtain ⟨hb0, hb1⟩ := KB.out _ HE4.out; clear hE4)
        | (go_at_call 24; refine (sMoveDo _ _ room Bs mid mto _ (RI.ext HR.out HE2.out) (RB.ext HN.out HE2.out) (by have := HS.out.2.1; omega)).mono ?_; rw [← HRR.out]; unfold RetMB; rw [HOK.out]; rintro e w3 ⟨v3, rfl, hd3, hE3⟩; have HX3 := hid hd3; have HE23 := hid hE3; have HE3 := hid (HE2.out.trans hE3); obtain ⟨hb0, hb1⟩ := KB.out _ HE3.out; clear hd3 hE3)
        | (go_at_call 23; clear TOK1; refine (iMoveDo _ _ room Bs mid mto a _ HR.out HN.out (by have := HS.out.2.1; omega) (fun t ht => (HS.out.2.2 t ht).2.2) HG.out).mono ?_; rw [← HRR.out]; unfold RetMBD; rw [HOK.out]; rintro e w2 ⟨v2, rfl, hd2, hE2⟩; have hx2 := hd2.read; have HX2 := hid hx2; obtain ⟨A2, c2', rfl, _⟩ := hx2; have HE2 := hid hE2; obtain ⟨hb0, hb1⟩ := KB.out _ hE2; clear hd2 hE2))
      all_goals (go_ret; exact ⟨rfl, HEW.out.trans HE5.out⟩)
    | true =>
      have HOK := hid hok
      obtain ⟨hvB, hcB, hRe⟩ := moveDo_ok HRR.out hok
      have HVB := hid hvB
      have HCB := hid hcB
      have HRE := hid hRe
      obtain ⟨f, t, k, b, c0, x0, hmp⟩ := can_parts (bins_once hvB) hcB
      have HMP := hid hmp
      have HVR : Hid (binsOk room R.1 = true) := hid (by rw [hRe]; exact hmp.valid hvB)
      clear hok hvB hcB hRe hmp

      obtain ⟨L, hLf⟩ : ∃ L, L = Bs.flatten := ⟨_, rfl⟩
      have HLF := hid hLf
      have hB14 : L.length ≤ 14 := by rw [hLf]; exact (bins_small HVB.out).2.2.1
      clear hLf
      go_wp2_with (first
        | (go_at_call 27; refine (iBinsTasks _ _ room Bs _ (RI.ext HR.out HE4.out) (RB.ext HN.out HE4.out) (bins_fl HVB.out) (bins_id HVB.out) HVB.out).mono ?_; rintro e w5 ⟨v5, rfl, hd5, hE5⟩; rw [← HLF.out] at hd5; have HA5 := hid hd5; obtain ⟨A5, c5, rfl, _⟩ := hd5; have HE45 := hid hE5; have HE5 := hid (HE4.out.trans hE5); clear hE5 hb0 hb1)
        | (go_at_call 25; refine (lSameBins _ _ R.1 _ (RB.ext HX2.out HE23.out) HX3.out).mono ?_; rintro e w4 ⟨rfl, hE4⟩; have HE34 := hid hE4; have HE4 := hid (HE3.out.trans hE4); have TOK2 : Hid True := hid trivial; obtain ⟨hb0, hb1⟩ := KB.out _ HE4.out; clear hE4)
        | (go_at_call 24; refine (sMoveDo _ _ room Bs mid mto _ (RI.ext HR.out HE2.out) (RB.ext HN.out HE2.out) (by have := HS.out.2.1; omega)).mono ?_; rw [← HRR.out]; unfold RetMB; rw [HOK.out]; rintro e w3 ⟨v3, rfl, hd3, hE3⟩; have HX3 := hid hd3; have HE23 := hid hE3; have HE3 := hid (HE2.out.trans hE3); obtain ⟨hb0, hb1⟩ := KB.out _ HE3.out; clear hd3 hE3)
        | (go_at_call 23; clear TOK1; refine (iMoveDo _ _ room Bs mid mto a _ HR.out HN.out (by have := HS.out.2.1; omega) (fun t ht => (HS.out.2.2 t ht).2.2) HG.out).mono ?_; rw [← HRR.out]; unfold RetMBD; rw [HOK.out]; rintro e w2 ⟨v2, rfl, hd2, hE2⟩; have hx2 := hd2.read; have HX2 := hid hx2; obtain ⟨A2, c2', rfl, _⟩ := hx2; have HE2 := hid hE2; obtain ⟨hb0, hb1⟩ := KB.out _ hE2; clear hd2 hE2))
      go_loopw [11] (fun i wr => ∃ n : Nat, n ≤ L.length ∧ i = .int .i64 n ∧ Hid (Ext w5 wr)) (fun i _ => L.length - (intOf i).toNat)
      case atStart => exact ⟨0, Nat.zero_le _, rfl, hid (Ext.refl _)⟩
      case round =>
        obtain ⟨n, hn, rfl, HE⟩ := hrel
        by_cases hlt : n < L.length
        · obtain ⟨A5', c5', hv5, _, _, hg⟩ := RT.get HA5.out
          injection hv5 with e1 _ e3
          subst e1 e3
          obtain ⟨b1, o1, x, Ax, cx, rfl, e, c1, c2, _⟩ := hg n hlt
          have i1 : (n : Int) < (L.length : Int) := by omega
          have i0 : (0 : Int) ≤ (n : Int) := by omega
          have KH : Hid (∀ w', Ext wr w' → w'.cell? ⟨b1, o1 + n * 2, none⟩ = some (.int .i64 x.id) ∧ w'.cell? ⟨w1.heap.size, 0, none⟩ = some (.int .i64 mid) ∧ Ext wr w') :=
            hid fun w' hw => ⟨hw.cell (HE.out.cell c1), (KB.out _ (HE5.out.trans (HE.out.trans hw))).1, hw⟩
          clear c1 c2 hg
          have HX5 := hid (HE5.out.trans HE.out)
          have HDr : Hid (Ext wr wr.drew) := hid (Below.drew (Below.refl _ _))
          by_cases hx : x.id = mid
          · subst hx
            go_wp2
            refine WG.start (fun w' => w'.cell? ⟨b1, o1 + n * 2, none⟩ = some (.int .i64 x.id) ∧ w'.cell? ⟨w1.heap.size, 0, none⟩ = some (.int .i64 x.id) ∧ Ext wr w') [] (by kernel_rfl) (by exact KH.out _ HDr.out) (fun hHeld => ?_)
            (refine WG.take (i := 0) (v := ?_) rfl (by kernel_rfl) (by kernel_rfl) (by kernel_rfl) (by kernel_rfl) (fun _ _ _ h => h) (Or.inl ⟨by rfl, ?_⟩) (by assumption) ?_; rotate_left; (intro w hSw; (try dsimp only at hSw); go_split_ands; go_simp; (try with_reducible rfl)); (try simp only [Act.put, List.setIfInBounds_toArray, List.set_cons_zero, List.set_cons_succ]))
            (refine WG.take (i := 1) (v := ?_) rfl (by kernel_rfl) (by kernel_rfl) (by kernel_rfl) (by kernel_rfl) (fun _ _ _ h => h) (Or.inl ⟨by rfl, ?_⟩) (by assumption) ?_; rotate_left; (intro w hSw; (try dsimp only at hSw); go_split_ands; go_simp; (try with_reducible rfl)); (try simp only [Act.put, List.setIfInBounds_toArray, List.set_cons_zero, List.set_cons_succ]))
            (refine WG.take (i := 2) (v := ?_) rfl (by kernel_rfl) (by kernel_rfl) (by kernel_rfl) (by kernel_rfl) (fun _ _ _ h => h) (Or.inl ⟨by rfl, ?_⟩) (by assumption) ?_; rotate_left; (intro w hSw; (try dsimp only at hSw); go_split_ands; go_simp; (try with_reducible rfl)); (try simp only [Act.put, List.setIfInBounds_toArray, List.set_cons_zero, List.set_cons_succ]))
            (refine WG.take (i := 3) (v := ?_) rfl (by kernel_rfl) (by kernel_rfl) (by kernel_rfl) (by kernel_rfl) (fun _ _ _ h => h) (Or.inl ⟨by rfl, ?_⟩) (by assumption) ?_; rotate_left; (intro w hSw; (try dsimp only at hSw); go_split_ands; go_simp; (try with_reducible rfl)); (try simp only [Act.put, List.setIfInBounds_toArray, List.set_cons_zero, List.set_cons_succ]))
            (refine WG.take (i := 4) (v := ?_) rfl (by kernel_rfl) (by kernel_rfl) (by kernel_rfl) (by kernel_rfl) (fun _ _ _ h => h) (Or.inl ⟨by rfl, ?_⟩) (by assumption) ?_; rotate_left; (intro w hSw; (try dsimp only at hSw); go_split_ands; go_simp; (try with_reducible rfl)); (try simp only [Act.put, List.setIfInBounds_toArray, List.set_cons_zero, List.set_cons_succ]))
            (refine WG.take (i := 5) (v := ?_) rfl (by kernel_rfl) (by kernel_rfl) (by kernel_rfl) (by kernel_rfl) (fun _ _ _ h => h) (Or.inl ⟨by rfl, ?_⟩) (by assumption) ?_; rotate_left; (intro w hSw; (try dsimp only at hSw); go_split_ands; go_simp; (try with_reducible rfl)); (try simp only [Act.put, List.setIfInBounds_toArray, List.set_cons_zero, List.set_cons_succ]))
            (refine WG.take (i := 6) (v := ?_) rfl (by kernel_rfl) (by kernel_rfl) (by kernel_rfl) (by kernel_rfl) (fun _ _ _ h => h) (Or.inl ⟨by rfl, ?_⟩) (by assumption) ?_; rotate_left; (intro w hSw; (try dsimp only at hSw); go_split_ands; go_simp; (try with_reducible rfl)); (try simp only [Act.put, List.setIfInBounds_toArray, List.set_cons_zero, List.set_cons_succ]))
            (refine WG.take (i := 7) (v := ?_) rfl (by kernel_rfl) (by kernel_rfl) (by kernel_rfl) (by kernel_rfl) (fun _ _ _ h => h) (Or.inl ⟨by rfl, ?_⟩) (by assumption) ?_; rotate_left; (intro w hSw; (try dsimp only at hSw); go_split_ands; go_simp; (try with_reducible rfl)); (try simp only [Act.put, List.setIfInBounds_toArray, List.set_cons_zero, List.set_cons_succ]))
            (refine WG.take (i := 8) (v := ?_) rfl (by kernel_rfl) (by kernel_rfl) (by kernel_rfl) (by kernel_rfl) (fun _ _ _ h => h) (Or.inl ⟨by rfl, ?_⟩) (by assumption) ?_; rotate_left; (intro w hSw; (try dsimp only at hSw); go_split_ands; go_simp; (try with_reducible rfl)); (try simp only [Act.put, List.setIfInBounds_toArray, List.set_cons_zero, List.set_cons_succ]))
            (refine WG.take (i := 9) rfl (by kernel_rfl) (by kernel_rfl) (by kernel_rfl) (by kernel_rfl) (fun _ _ _ h => h) (Or.inr ⟨?_, rfl⟩) (by assumption) ?_; go_simp; (try simp only [Act.put, List.setIfInBounds_toArray, List.set_cons_zero, List.set_cons_succ]))
            (refine WG.take (i := 10) rfl (by kernel_rfl) (by kernel_rfl) (by kernel_rfl) (by kernel_rfl) (fun _ _ _ h => h) (Or.inr ⟨?_, rfl⟩) (by assumption) ?_; go_simp; (try simp only [Act.put, List.setIfInBounds_toArray, List.set_cons_zero, List.set_cons_succ]))
            (refine WG.take (i := 11) rfl (by kernel_rfl) (by kernel_rfl) (by kernel_rfl) (by kernel_rfl) (fun _ _ _ h => h) (Or.inr ⟨?_, rfl⟩) (by assumption) ?_; go_simp; (try simp only [Act.put, List.setIfInBounds_toArray, List.set_cons_zero, List.set_cons_succ]))
            (refine WG.take (i := 12) rfl (by kernel_rfl) (by kernel_rfl) (by kernel_rfl) (by kernel_rfl) (fun _ _ _ h => h) (Or.inr ⟨?_, rfl⟩) (by assumption) ?_; go_simp; (try simp only [Act.put, List.setIfInBounds_toArray, List.set_cons_zero, List.set_cons_succ]))
            (refine WG.take (i := 13) rfl (by kernel_rfl) (by kernel_rfl) (by kernel_rfl) (by kernel_rfl) (fun _ _ _ h => h) (Or.inr ⟨?_, rfl⟩) (by assumption) ?_; go_simp; (try simp only [Act.put, List.setIfInBounds_toArray, List.set_cons_zero, List.set_cons_succ]))
            (refine WG.take (i := 14) rfl (by kernel_rfl) (by kernel_rfl) (by kernel_rfl) (by kernel_rfl) (fun _ _ _ h => h) (Or.inr ⟨?_, rfl⟩) (by assumption) ?_; go_simp; (try simp only [Act.put, List.setIfInBounds_toArray, List.set_cons_zero, List.set_cons_succ]))
            (refine WG.take (i := 15) rfl (by kernel_rfl) (by kernel_rfl) (by kernel_rfl) (by kernel_rfl) (fun _ _ _ h => h) (Or.inr ⟨?_, rfl⟩) (by assumption) ?_; go_simp; (try simp only [Act.put, List.setIfInBounds_toArray, List.set_cons_zero, List.set_cons_succ]))
            (refine WG.take (i := 16) rfl (by kernel_rfl) (by kernel_rfl) (by kernel_rfl) (by kernel_rfl) (fun _ _ _ h => h) (Or.inr ⟨?_, rfl⟩) (by assumption) ?_; go_simp; (try simp only [Act.put, List.setIfInBounds_toArray, List.set_cons_zero, List.set_cons_succ]))
            (refine WG.take (i := 17) rfl (by kernel_rfl) (by kernel_rfl) (by kernel_rfl) (by kernel_rfl) (fun _ _ _ h => h) (Or.inr ⟨?_, rfl⟩) (by assumption) ?_; go_simp; (try simp only [Act.put, List.setIfInBounds_toArray, List.set_cons_zero, List.set_cons_succ]))
            (refine WG.take (i := 18) rfl (by kernel_rfl) (by kernel_rfl) (by kernel_rfl) (by kernel_rfl) (fun _ _ _ h => h) (Or.inr ⟨?_, rfl⟩) (by assumption) ?_; go_simp; (try simp only [Act.put, List.setIfInBounds_toArray, List.set_cons_zero, List.set_cons_succ]))
            (refine WG.take (i := 19) rfl (by kernel_rfl) (by kernel_rfl) (by kernel_rfl) (by kernel_rfl) (fun _ _ _ h => h) (Or.inr ⟨?_, rfl⟩) (by assumption) ?_; go_simp; (try simp only [Act.put, List.setIfInBounds_toArray, List.set_cons_zero, List.set_cons_succ]))
            (refine WG.take (i := 20) rfl (by kernel_rfl) (by kernel_rfl) (by kernel_rfl) (by kernel_rfl) (fun _ _ _ h => h) (Or.inr ⟨?_, rfl⟩) (by assumption) ?_; go_simp; (try simp only [Act.put, List.setIfInBounds_toArray, List.set_cons_zero, List.set_cons_succ]))
            (refine WG.take (i := 21) rfl (by kernel_rfl) (by kernel_rfl) (by kernel_rfl) (by kernel_rfl) (fun _ _ _ h => h) (Or.inr ⟨?_, rfl⟩) (by assumption) ?_; go_simp; (try simp only [Act.put, List.setIfInBounds_toArray, List.set_cons_zero, List.set_cons_succ]))
            (refine WG.take (i := 22) rfl (by kernel_rfl) (by kernel_rfl) (by kernel_rfl) (by kernel_rfl) (fun _ _ _ h => h) (Or.inr ⟨?_, rfl⟩) (by assumption) ?_; go_simp; (try simp only [Act.put, List.setIfInBounds_toArray, List.set_cons_zero, List.set_cons_succ]))
            (refine WG.take (i := 23) rfl (by kernel_rfl) (by kernel_rfl) (by kernel_rfl) (by kernel_rfl) (fun _ _ _ h => h) (Or.inr ⟨?_, rfl⟩) (by assumption) ?_; go_simp; (try simp only [Act.put, List.setIfInBounds_toArray, List.set_cons_zero, List.set_cons_succ]))
            (refine WG.take (i := 24) rfl (by kernel_rfl) (by kernel_rfl) (by kernel_rfl) (by kernel_rfl) (fun _ _ _ h => h) (Or.inr ⟨?_, rfl⟩) (by assumption) ?_; go_simp; (try simp only [Act.put, List.setIfInBounds_toArray, List.set_cons_zero, List.set_cons_succ]))
            (refine WG.take (i := 25) rfl (by kernel_rfl) (by kernel_rfl) (by kernel_rfl) (by kernel_rfl) (fun _ _ _ h => h) (Or.inr ⟨?_, rfl⟩) (by assumption) ?_; go_simp; (try simp only [Act.put, List.setIfInBounds_toArray, List.set_cons_zero, List.set_cons_succ]))
            (refine WG.take (i := 26) (v := ?_) rfl (by kernel_rfl) (by kernel_rfl) (by kernel_rfl) (by kernel_rfl) (fun _ _ _ h => h) (Or.inl ⟨by rfl, ?_⟩) (by assumption) ?_; rotate_left; (intro w hSw; (try dsimp only at hSw); go_split_ands; go_simp; (try with_reducible rfl)); (try simp only [Act.put, List.setIfInBounds_toArray, List.set_cons_zero, List.set_cons_succ]))
            refine WG.done (by kernel_rfl) ?_
            go_wp2
            go_roundw
            case rel => exact ⟨n + 1, by omega, by go_num, hid (HE.out.trans HDr.out)⟩
            case measure => simp [intOf]; omega
          · have hxb : (x.id != mid) = true := by simp [hx]
            have HXB := hid hxb
            have HWE : Hid (whereL R.1 x.id = whereL Bs x.id) := hid (by rw [HRE.out]; exact HMP.out.other (bins_once HVB.out) hx)
            clear hxb
            go_wp2
            refine WG.start (fun w' => w'.cell? ⟨b1, o1 + n * 2, none⟩ = some (.int .i64 x.id) ∧ w'.cell? ⟨w1.heap.size, 0, none⟩ = some (.int .i64 mid) ∧ Ext wr w') [24,25,26] (by kernel_rfl) (by exact KH.out _ HDr.out) (fun hHeld => ?_)
            (refine WG.take (i := 0) (v := ?_) rfl (by kernel_rfl) (by kernel_rfl) (by kernel_rfl) (by kernel_rfl) (fun _ _ _ h => h) (Or.inl ⟨by rfl, ?_⟩) (by assumption) ?_; rotate_left; (intro w hSw; (try dsimp only at hSw); go_split_ands; go_simp; (try with_reducible rfl)); (try simp only [Act.put, List.setIfInBounds_toArray, List.set_cons_zero, List.set_cons_succ]))
            (refine WG.take (i := 1) (v := ?_) rfl (by kernel_rfl) (by kernel_rfl) (by kernel_rfl) (by kernel_rfl) (fun _ _ _ h => h) (Or.inl ⟨by rfl, ?_⟩) (by assumption) ?_; rotate_left; (intro w hSw; (try dsimp only at hSw); go_split_ands; go_simp; (try with_reducible rfl)); (try simp only [Act.put, List.setIfInBounds_toArray, List.set_cons_zero, List.set_cons_succ]))
            (refine WG.take (i := 2) (v := ?_) rfl (by kernel_rfl) (by kernel_rfl) (by kernel_rfl) (by kernel_rfl) (fun _ _ _ h => h) (Or.inl ⟨by rfl, ?_⟩) (by assumption) ?_; rotate_left; (intro w hSw; (try dsimp only at hSw); go_split_ands; go_simp; (try with_reducible rfl)); (try simp only [Act.put, List.setIfInBounds_toArray, List.set_cons_zero, List.set_cons_succ]))
            (refine WG.take (i := 3) (v := ?_) rfl (by kernel_rfl) (by kernel_rfl) (by kernel_rfl) (by kernel_rfl) (fun _ _ _ h => h) (Or.inl ⟨by rfl, ?_⟩) (by assumption) ?_; rotate_left; (intro w hSw; (try dsimp only at hSw); go_split_ands; go_simp; (try with_reducible rfl)); (try simp only [Act.put, List.setIfInBounds_toArray, List.set_cons_zero, List.set_cons_succ]))
            (refine WG.take (i := 4) (v := ?_) rfl (by kernel_rfl) (by kernel_rfl) (by kernel_rfl) (by kernel_rfl) (fun _ _ _ h => h) (Or.inl ⟨by rfl, ?_⟩) (by assumption) ?_; rotate_left; (intro w hSw; (try dsimp only at hSw); go_split_ands; go_simp; (try with_reducible rfl)); (try simp only [Act.put, List.setIfInBounds_toArray, List.set_cons_zero, List.set_cons_succ]))
            (refine WG.take (i := 5) (v := ?_) rfl (by kernel_rfl) (by kernel_rfl) (by kernel_rfl) (by kernel_rfl) (fun _ _ _ h => h) (Or.inl ⟨by rfl, ?_⟩) (by assumption) ?_; rotate_left; (intro w hSw; (try dsimp only at hSw); go_split_ands; go_simp; (try with_reducible rfl)); (try simp only [Act.put, List.setIfInBounds_toArray, List.set_cons_zero, List.set_cons_succ]))
            (refine WG.take (i := 6) (v := ?_) rfl (by kernel_rfl) (by kernel_rfl) (by kernel_rfl) (by kernel_rfl) (fun _ _ _ h => h) (Or.inl ⟨by rfl, ?_⟩) (by assumption) ?_; rotate_left; (intro w hSw; (try dsimp only at hSw); go_split_ands; go_simp; (try with_reducible rfl)); (try simp only [Act.put, List.setIfInBounds_toArray, List.set_cons_zero, List.set_cons_succ]))
            (refine WG.take (i := 7) (v := ?_) rfl (by kernel_rfl) (by kernel_rfl) (by kernel_rfl) (by kernel_rfl) (fun _ _ _ h => h) (Or.inl ⟨by rfl, ?_⟩) (by assumption) ?_; rotate_left; (intro w hSw; (try dsimp only at hSw); go_split_ands; go_simp; (try with_reducible rfl)); (try simp only [Act.put, List.setIfInBounds_toArray, List.set_cons_zero, List.set_cons_succ]))
            rw [HXB.out]
            (refine WG.take (i := 8) (v := ?_) rfl (by kernel_rfl) (by kernel_rfl) (by kernel_rfl) (by kernel_rfl) (fun _ _ _ h => h) (Or.inl ⟨by rfl, ?_⟩) (by assumption) ?_; rotate_left; (intro w hSw; (try dsimp only at hSw); go_split_ands; go_simp; (try with_reducible rfl)); (try simp only [Act.put, List.setIfInBounds_toArray, List.set_cons_zero, List.set_cons_succ]))
            (refine WG.take (i := 9) (v := ?_) rfl (by kernel_rfl) (by kernel_rfl) (by kernel_rfl) (by kernel_rfl) (fun _ _ _ h => h) (Or.inl ⟨by rfl, ?_⟩) (by assumption) ?_; rotate_left; (intro w hSw; (try dsimp only at hSw); go_split_ands; go_simp; (try with_reducible rfl)); (try simp only [Act.put, List.setIfInBounds_toArray, List.set_cons_zero, List.set_cons_succ]))
            (refine WG.take (i := 10) (v := ?_) rfl (by kernel_rfl) (by kernel_rfl) (by kernel_rfl) (by kernel_rfl) (fun _ _ _ h => h) (Or.inl ⟨by rfl, ?_⟩) (by assumption) ?_; rotate_left; (intro w hSw; (try dsimp only at hSw); go_split_ands; go_simp; (try with_reducible rfl)); (try simp only [Act.put, List.setIfInBounds_toArray, List.set_cons_zero, List.set_cons_succ]))
            (refine WG.take (i := 11) (v := ?_) rfl (by kernel_rfl) (by kernel_rfl) (by kernel_rfl) (by kernel_rfl) (fun _ _ _ h => h) (Or.inl ⟨by rfl, ?_⟩) (by assumption) ?_; rotate_left; (intro w hSw; (try dsimp only at hSw); go_split_ands; go_simp; (try with_reducible rfl)); (try simp only [Act.put, List.setIfInBounds_toArray, List.set_cons_zero, List.set_cons_succ]))
            (refine WG.take (i := 12) (v := ?_) rfl (by kernel_rfl) (by kernel_rfl) (by kernel_rfl) (by kernel_rfl) (fun _ _ _ h => h) (Or.inl ⟨by rfl, ?_⟩) (by assumption) ?_; rotate_left; (intro w hSw; (try dsimp only at hSw); go_split_ands; go_simp; (try with_reducible rfl)); (try simp only [Act.put, List.setIfInBounds_toArray, List.set_cons_zero, List.set_cons_succ]))
            (refine WG.take (i := 13) (v := ?_) rfl (by kernel_rfl) (by kernel_rfl) (by kernel_rfl) (by kernel_rfl) (fun _ _ _ h => h) (Or.inl ⟨by rfl, ?_⟩) (by assumption) ?_; rotate_left; (intro w hSw; (try dsimp only at hSw); go_split_ands; go_simp; (try with_reducible rfl)); (try simp only [Act.put, List.setIfInBounds_toArray, List.set_cons_zero, List.set_cons_succ]))
            (refine WG.take (i := 14) (v := ?_) rfl (by kernel_rfl) (by kernel_rfl) (by kernel_rfl) (by kernel_rfl) (fun _ _ _ h => h) (Or.inl ⟨by rfl, ?_⟩) (by assumption) ?_; rotate_left; (intro w hSw; (try dsimp only at hSw); go_split_ands; go_simp; (try with_reducible rfl)); (try simp only [Act.put, List.setIfInBounds_toArray, List.set_cons_zero, List.set_cons_succ]))
            (refine WG.take (i := 15) (v := ?_) rfl (by kernel_rfl) (by kernel_rfl) (by kernel_rfl) (by kernel_rfl) (fun _ _ _ h => h) (Or.inl ⟨by rfl, ?_⟩) (by assumption) ?_; rotate_left; (intro w hSw; (try dsimp only at hSw); go_split_ands; go_simp; (try with_reducible rfl)); (try simp only [Act.put, List.setIfInBounds_toArray, List.set_cons_zero, List.set_cons_succ]))
            (refine WG.take (i := 17) (v := ?_) rfl (by kernel_rfl) (by kernel_rfl) (by kernel_rfl) (by kernel_rfl) (fun _ _ _ h => h) (Or.inl ⟨by rfl, ?_⟩) (by assumption) ?_; rotate_left; (intro w hSw; (try dsimp only at hSw); go_split_ands; go_simp; (try with_reducible rfl)); (try simp only [Act.put, List.setIfInBounds_toArray, List.set_cons_zero, List.set_cons_succ]))
            (refine WG.take (i := 18) (v := ?_) rfl (by kernel_rfl) (by kernel_rfl) (by kernel_rfl) (by kernel_rfl) (fun _ _ _ h => h) (Or.inl ⟨by rfl, ?_⟩) (by assumption) ?_; rotate_left; (intro w hSw; (try dsimp only at hSw); go_split_ands; go_simp; (try with_reducible rfl)); (try simp only [Act.put, List.setIfInBounds_toArray, List.set_cons_zero, List.set_cons_succ]))
            (refine WG.take (i := 19) (v := ?_) rfl (by kernel_rfl) (by kernel_rfl) (by kernel_rfl) (by kernel_rfl) (fun _ _ _ h => h) (Or.inl ⟨by rfl, ?_⟩) (by assumption) ?_; rotate_left; (intro w hSw; (try dsimp only at hSw); go_split_ands; go_simp; (try with_reducible rfl)); (try simp only [Act.put, List.setIfInBounds_toArray, List.set_cons_zero, List.set_cons_succ]))
            (refine WG.take (i := 20) (v := ?_) rfl (by kernel_rfl) (by kernel_rfl) (by kernel_rfl) (by kernel_rfl) (fun _ _ _ h => h) (Or.inl ⟨by rfl, ?_⟩) (by assumption) ?_; rotate_left; (intro w hSw; (try dsimp only at hSw); go_split_ands; go_simp; (try with_reducible rfl)); (try simp only [Act.put, List.setIfInBounds_toArray, List.set_cons_zero, List.set_cons_succ]))
            (refine WG.take (i := 21) (v := ?_) rfl (by kernel_rfl) (by kernel_rfl) (by kernel_rfl) (by kernel_rfl) (fun _ _ _ h => h) (Or.inl ⟨by rfl, ?_⟩) (by assumption) ?_; rotate_left; (intro w hSw; (try dsimp only at hSw); go_split_ands; go_simp; (try with_reducible rfl)); (try simp only [Act.put, List.setIfInBounds_toArray, List.set_cons_zero, List.set_cons_succ]))
            (refine WG.take (i := 22) (v := ?_) rfl (by kernel_rfl) (by kernel_rfl) (by kernel_rfl) (by kernel_rfl) (fun _ _ _ h => h) (Or.inl ⟨by rfl, ?_⟩) (by assumption) ?_; rotate_left; (intro w hSw; (try dsimp only at hSw); go_split_ands; go_simp; (try with_reducible rfl)); (try simp only [Act.put, List.setIfInBounds_toArray, List.set_cons_zero, List.set_cons_succ]))
            (refine WG.take (i := 23) (v := ?_) rfl (by kernel_rfl) (by kernel_rfl) (by kernel_rfl) (by kernel_rfl) (fun _ _ _ h => h) (Or.inl ⟨by rfl, ?_⟩) (by assumption) ?_; rotate_left; (intro w hSw; (try dsimp only at hSw); go_split_ands; go_simp; (try with_reducible rfl)); (try simp only [Act.put, List.setIfInBounds_toArray, List.set_cons_zero, List.set_cons_succ]))
            refine WG.one (i := 16) rfl (by kernel_rfl) (fun K hK => ?_)
            go_simp; refine (iBinsWhere _ _ room R.1 x.id _ (RI.ext HR.out (HX5.out.trans HDr.out)) (RB.ext HX2.out (HE23.out.trans (HE34.out.trans (HE45.out.trans (HE.out.trans HDr.out))))) (bins_fl HVR.out) (bins_id HVR.out) HVR.out).mono ?_; rintro e6 w6 ⟨rfl, hE6⟩; rw [HWE.out]; have HE6 := hid (HDr.out.trans hE6); clear hE6; (try dsimp only)
            refine hK.out _ _ (by exact KH.out _ HE6.out) (fun hHeld => ?_)
            clear hK K
            (try simp only [Act.put, List.setIfInBounds_toArray, List.set_cons_zero, List.set_cons_succ])
            refine WG.last (i := 24) rfl (by kernel_rfl) (by kernel_rfl) (fun K hK => ?_)
            go_simp; refine (iBinsWhere _ _ room Bs x.id _ (RI.ext HR.out (HX5.out.trans HE6.out)) (RB.ext HN.out (HX5.out.trans HE6.out)) (bins_fl HVB.out) (bins_id HVB.out) HVB.out).mono ?_; rintro e7 w7 ⟨rfl, hE7⟩; have HE7 := hid (HE6.out.trans hE7); clear hE7; (try dsimp only)
            refine hK.out _ _ ?_
            clear hK K
            (try simp only [Act.put, List.setIfInBounds_toArray, List.set_cons_zero, List.set_cons_succ])
            refine WG.last (i := 25) rfl (by kernel_rfl) (by kernel_rfl) (fun K hK => ?_)
            go_simp
            refine hK.out _ _ ?_
            clear hK K
            (try simp only [Act.put, List.setIfInBounds_toArray, List.set_cons_zero, List.set_cons_succ])
            refine WG.last (i := 26) rfl (by kernel_rfl) (by kernel_rfl) (fun K hK => ?_)
            go_simp
            refine hK.out _ _ ?_
            clear hK K
            (try simp only [Act.put, List.setIfInBounds_toArray, List.set_cons_zero, List.set_cons_succ])
            refine WG.done (by kernel_rfl) ?_
            go_wp2
            go_roundw
            case rel => exact ⟨n + 1, by omega, by go_num, hid (HE.out.trans HE7.out)⟩
            case measure => simp [intOf]; omega
        · have HX5 := hid (HE5.out.trans HE.out)
          have HWM : Hid (whereL R.1 mid = mto) := hid (by rw [HRE.out]; have h3 := HMP.out.where_ (bins_once HVB.out); have h4 := HMP.out.to; simp only at h3 h4; rw [h3, h4])
          have HFL : Hid (R.1.flatten.length = L.length) := hid (by rw [HRE.out, HLF.out]; exact HMP.out.perm.length_eq)
          have KH : Hid (∀ w', Ext wr w' → w'.cell? ⟨w1.heap.size, 0, none⟩ = some (.int .i64 mid) ∧ w'.cell? ⟨w1.heap.size, 1, none⟩ = some (.int .i64 mto) ∧ Ext wr w') :=
            hid fun w' hw => ⟨(KB.out _ (HX5.out.trans hw)).1, (KB.out _ (HX5.out.trans hw)).2, hw⟩
          have HOO : Hid (Ext w2 wr) := hid (HE23.out.trans (HE34.out.trans (HE45.out.trans HE.out)))
          have HXR := hid (RI.ext HR.out HX5.out)
          have HXO := hid (RB.ext HX2.out HOO.out)
          have i1 : ¬ (n : Int) < (L.length : Int) := by omega
          clear hlt
          go_wp2
          go_region_held3 (fun w' => w'.cell? ⟨w1.heap.size, 0, none⟩ = some (.int .i64 mid) ∧ w'.cell? ⟨w1.heap.size, 1, none⟩ = some (.int .i64 mto) ∧ Ext wr w')
            (first | exact KH.out _ (by assumption) | exact KH.out _ (Below.drew (Below.refl _ _)))
            (first
              | (go_at_call 28; refine (iBinsValid _ _ room R.1 _ (RI.ext HXR.out (by first | assumption | exact Below.drew (Below.refl _ _))) (RB.ext HXO.out (by first | assumption | exact Below.drew (Below.refl _ _))) (bins_fl HVR.out) (bins_id HVR.out)).mono ?_; rintro e w7 ⟨rfl, hE7⟩; rw [HVR.out]; have h07 : Ext wr w7 := Ext.trans (by first | assumption | exact Below.drew (Below.refl _ _)) hE7)
              | (go_at_call 21; refine (iBinsWhere _ _ room R.1 mid _ (RI.ext HXR.out (by assumption)) (RB.ext HXO.out (by assumption)) (bins_fl HVR.out) (bins_id HVR.out) HVR.out).mono ?_; rintro e w8 ⟨rfl, hE8⟩; rw [HWM.out]; have h08 : Ext wr w8 := Ext.trans (by assumption) hE8)
              | (go_at_call 27; refine (iBinsTasks _ _ room R.1 _ (RI.ext HXR.out (by assumption)) (RB.ext HXO.out (by assumption)) (bins_fl HVR.out) (bins_id HVR.out) HVR.out).mono ?_; rintro e w9 ⟨v9, rfl, hd9, hE9⟩; obtain ⟨A9, c9, rfl, _⟩ := hd9; rw [HFL.out]; have h09 : Ext wr w9 := Ext.trans (by assumption) hE9))
          go_wp2
          go_ret
          exact ⟨rfl, HEW.out.trans (HX5.out.trans (by assumption))⟩
  · have i1 : (1048576 : Int) < (bs.length : Int) := by omega
    go_enter Tryd.func5, Tryd.ntmps5
    go_wp2
    go_ret
    exact ⟨rfl, Ext.refl _⟩

end Go.Proofs.YtibpijjigopdjaaDoor
