/- The law FnMoveWhen. -/
import Derived.Test.YtibpijjigopdjaaDoorK14
import Derived.Test.YtibpijjigopdjaaDoorK22
import Derived.Test.YtibpijjigopdjaaDoorK11
namespace Go.Proofs.YtibpijjigopdjaaDoor
open Go.RowKit
set_option maxRecDepth 4000

set_option maxHeartbeats 8000000 in
theorem lawMoveWhen (v : Value) (bs : List Int) (w : World) (h : XBy w v bs) (a : Addr) (hga : w.cell? ⟨0, 0, none⟩ = some (errV a)) :
    Calls Tryd.prog 11 #[v] w (RetB w true) := by
  have HB := hid h
  have HGA := hid hga
  obtain ⟨A, c, rfl, _⟩ := h
  clear hga
  by_cases h1 : bs.length ≤ 1048576
  · have i1 : ¬ (1048576 : Int) < (bs.length : Int) := by omega
    go_enter Tryd.func11, Tryd.ntmps11
    go_wp2_with (go_at_call 22; refine (dDrawMoveDo _ bs _ HB.out (by omega)).mono ?_; rintro e w1 ⟨rv, nv, room, Bs, mid, mto, rfl, hr, hb, hl, hfl, hgt, hmi, hmt, hE1⟩; have HR0 := hid hr; have HN0 := hid hb; have HS := hid (show SmallN Bs from ⟨hl, hfl, hgt⟩); have HMI := hid hmi; have HG0 := hid (hE1.cell HGA.out); have HE1 := hid hE1; obtain ⟨Ar, cr, rfl, _⟩ := hr; obtain ⟨An, cn, rfl, _⟩ := hb; obtain ⟨y0, y1, y0f, y1f, k1, k1f, hkk, _⟩ := box2 (heap_alloc_new w1 (.cells #[.int .i64 0, .int .i64 0] 32)) (.int .i64 mid) (.int .i64 mto); clear hl hfl hgt hmi hE1 hkk)
    obtain ⟨W, hW⟩ : ∃ W, W = w1.alloc (.cells #[.int .i64 mid, .int .i64 mto] 32) := ⟨_, rfl⟩
    have hEW : Ext w1 W := by rw [hW]; exact Ext.alloc _ _
    have hbx : W.heap[w1.heap.size]? = some (.cells #[.int .i64 mid, .int .i64 mto] 32 (0, 0)) := by rw [hW]; exact heap_alloc_new _ _
    have KB : Hid (∀ w', Ext W w' → w'.cell? ⟨w1.heap.size, 0, none⟩ = some (.int .i64 mid) ∧ w'.cell? ⟨w1.heap.size, 1, none⟩ = some (.int .i64 mto)) := hid fun w' hw => ⟨obj_cell (hw.obj hbx) (i := 0) rfl, obj_cell (hw.obj hbx) (i := 1) rfl⟩
    obtain ⟨hb0, hb1⟩ := KB.out _ (Ext.refl _)
    have HR := hid (RI.ext HR0.out hEW)
    have HN := hid (RB.ext HN0.out hEW)
    have HG := hid (hEW.cell HG0.out)
    have HEW := hid (HE1.out.trans hEW)
    rw [← hW]
    clear hW y0 y1 y0f y1f k1 k1f hEW hbx
    obtain ⟨R, hR⟩ : ∃ R, R = moveDo room Bs ⟨mid, mto⟩ := ⟨_, rfl⟩
    have HRR := hid hR
    have TOK1 : Hid True := hid trivial
    clear hR
    cases hv : binsOk room Bs with
    | false =>
      have hok : R.2 = false := by rw [HRR.out]; unfold moveDo; rw [hv]; rfl
      have HOK := hid hok
      clear hok
      go_wp2_with (first
        | (go_at_call 25; clear TOK3; refine (lSameBins _ _ R.1 _ (RB.ext HX2.out (HE23.out.trans (HE34.out.trans HE45.out))) (RB.ext HX3.out (HE34.out.trans HE45.out))).mono ?_; rintro e w6 ⟨rfl, hE6⟩; have HE6 := hid (HE5.out.trans hE6); clear hE6)
        | (go_at_call 20; refine (sBinsValid _ _ room Bs _ (RI.ext HR.out HE4.out) (RB.ext HN.out HE4.out) (by have := HS.out.2.1; omega)).mono ?_; rintro e w5 ⟨rfl, hE5⟩; rw [hv]; have HE45 := hid hE5; have HE5 := hid (HE4.out.trans hE5); obtain ⟨hb0, hb1⟩ := KB.out _ HE5.out; have TOK3 : Hid True := hid trivial; clear hE5)
        | (go_at_call 25; refine (lSameBins _ _ R.1 _ (RB.ext HX2.out HE23.out) HX3.out).mono ?_; rintro e w4 ⟨rfl, hE4⟩; have HE34 := hid hE4; have HE4 := hid (HE3.out.trans hE4); have TOK2 : Hid True := hid trivial; obtain ⟨hb0, hb1⟩ := KB.out _ HE4.out; clear hE4)
        | (go_at_call 24; refine (sMoveDo _ _ room Bs mid mto _ (RI.ext HR.out HE2.out) (RB.ext HN.out HE2.out) (by have := HS.out.2.1; omega)).mono ?_; rw [← HRR.out]; unfold RetMB; rw [HOK.out]; rintro e w3 ⟨v3, rfl, hd3, hE3⟩; have HX3 := hid hd3; have HE23 := hid hE3; have HE3 := hid (HE2.out.trans hE3); obtain ⟨hb0, hb1⟩ := KB.out _ HE3.out; clear hd3 hE3)
        | (go_at_call 23; clear TOK1; refine (iMoveDo _ _ room Bs mid mto a _ HR.out HN.out (by have := HS.out.2.1; omega) (fun t ht => (HS.out.2.2 t ht).2.2) HG.out).mono ?_; rw [← HRR.out]; unfold RetMBD; rw [HOK.out]; rintro e w2 ⟨v2, rfl, hd2, hE2⟩; have hx2 := hd2.read; have HX2 := hid hx2; obtain ⟨A2, c2', rfl, _⟩ := hx2; have HE2 := hid hE2; obtain ⟨hb0, hb1⟩ := KB.out _ hE2; clear hd2 hE2))
      all_goals (go_ret; exact ⟨rfl, HEW.out.trans HE6.out⟩)
    | true =>
      cases hok : R.2 with
      | false =>
        have HOK := hid hok
        obtain ⟨ls, hls⟩ : ∃ ls, ls = movesOf room Bs := ⟨_, rfl⟩
        have HLS := hid hls
        have HANY : Hid ((ls.any fun q => q == (⟨mid, mto⟩ : MoveD)) = false) := hid (by
          rw [hls, ← hok, HRR.out]
          unfold moveDo
          rw [hv, Bool.true_and]
          cases hc : canMove room Bs ⟨mid, mto⟩ with
          | true =>
            rw [if_pos rfl, List.any_eq_true]
            exact ⟨_, (mem_moves hv _).2 hc, by simp⟩
          | false =>
            rw [if_neg (by simp), List.any_eq_false]
            intro q hq he
            have he := eq_of_beq he
            rw [he, mem_moves hv, hc] at hq
            cases hq)
        have hls200 : ls.length ≤ 200 := by rw [hls]; exact movesOf_len _ _
        clear hls hok
        go_wp2_with (first
          | (go_at_call 41; refine (iMovesOf _ _ room Bs _ (RI.ext HR.out HE5.out) (RB.ext HN.out HE5.out) (by have := HS.out.2.1; omega) (fun t ht => (HS.out.2.2 t ht).2.2)).mono ?_; rw [← HLS.out]; rintro e w6 ⟨v6, rfl, hO6, hE6⟩; have hx6 : RM w6 v6 ls := Own.read hO6; have HX6 := hid hx6; obtain ⟨A6, c6, rfl, _⟩ := hx6; have HE6 := hid (HE5.out.trans hE6); clear hO6 hE6 hb0 hb1)
          | (go_at_call 20; refine (sBinsValid _ _ room Bs _ (RI.ext HR.out HE4.out) (RB.ext HN.out HE4.out) (by have := HS.out.2.1; omega)).mono ?_; rintro e w5 ⟨rfl, hE5⟩; rw [hv]; have HE45 := hid hE5; have HE5 := hid (HE4.out.trans hE5); obtain ⟨hb0, hb1⟩ := KB.out _ HE5.out; have TOK3 : Hid True := hid trivial; clear hE5)
          | (go_at_call 25; refine (lSameBins _ _ R.1 _ (RB.ext HX2.out HE23.out) HX3.out).mono ?_; rintro e w4 ⟨rfl, hE4⟩; have HE34 := hid hE4; have HE4 := hid (HE3.out.trans hE4); have TOK2 : Hid True := hid trivial; obtain ⟨hb0, hb1⟩ := KB.out _ HE4.out; clear hE4)
          | (go_at_call 24; refine (sMoveDo _ _ room Bs mid mto _ (RI.ext HR.out HE2.out) (RB.ext HN.out HE2.out) (by have := HS.out.2.1; omega)).mono ?_; rw [← HRR.out]; unfold RetMB; rw [HOK.out]; rintro e w3 ⟨v3, rfl, hd3, hE3⟩; have HX3 := hid hd3; have HE23 := hid hE3; have HE3 := hid (HE2.out.trans hE3); obtain ⟨hb0, hb1⟩ := KB.out _ HE3.out; clear hd3 hE3)
          | (go_at_call 23; clear TOK1; refine (iMoveDo _ _ room Bs mid mto a _ HR.out HN.out (by have := HS.out.2.1; omega) (fun t ht => (HS.out.2.2 t ht).2.2) HG.out).mono ?_; rw [← HRR.out]; unfold RetMBD; rw [HOK.out]; rintro e w2 ⟨v2, rfl, hd2, hE2⟩; have hx2 := hd2.read; have HX2 := hid hx2; obtain ⟨A2, c2', rfl, _⟩ := hx2; have HE2 := hid hE2; obtain ⟨hb0, hb1⟩ := KB.out _ hE2; clear hd2 hE2))
        go_loopw [11, 12] (fun s i wr => ∃ (n : Nat) (b : Bool), n ≤ ls.length ∧ i = .int .i64 n ∧ s = .bool b ∧ Hid (b = (ls.take n).any fun q => q == (⟨mid, mto⟩ : MoveD)) ∧ Hid (Ext w6 wr)) (fun _ i _ => ls.length - (intOf i).toNat)
        case atStart => exact ⟨0, false, Nat.zero_le _, rfl, rfl, hid rfl, hid (Ext.refl _)⟩
        case round =>
          obtain ⟨n, b, hn, rfl, rfl, hbb, HE⟩ := hrel
          by_cases hlt : n < ls.length
          · obtain ⟨A6', c6', hv6, _, _, hg⟩ := RM.get HX6.out
            injection hv6 with e1 _ e3
            subst e1 e3
            obtain ⟨b1, o1, q, rfl, e, c1, c2⟩ := hg n hlt
            have i1 : (n : Int) < (ls.length : Int) := by omega
            have i0 : (0 : Int) ≤ (n : Int) := by omega
            have KH : Hid (∀ w', Ext wr w' → w'.cell? ⟨b1, o1 + n * 2, none⟩ = some (.int .i64 q.id) ∧ w'.cell? ⟨b1, o1 + n * 2 + 1, none⟩ = some (.int .i64 q.to) ∧ w'.cell? ⟨w1.heap.size, 0, none⟩ = some (.int .i64 mid) ∧ w'.cell? ⟨w1.heap.size, 1, none⟩ = some (.int .i64 mto) ∧ Ext wr w') :=
              hid fun w' hw => ⟨hw.cell (HE.out.cell c1), hw.cell (HE.out.cell c2), (KB.out _ (HE6.out.trans (HE.out.trans hw))).1, (KB.out _ (HE6.out.trans (HE.out.trans hw))).2, hw⟩
            have HDr : Hid (Ext wr wr.drew) := hid (Below.drew (Below.refl _ _))
            have HEQ := hid e.out
            clear c1 c2 hg
            cases b with
            | true =>
              go_wp2
              refine WG.start (fun w' => w'.cell? ⟨b1, o1 + n * 2, none⟩ = some (.int .i64 q.id) ∧ w'.cell? ⟨b1, o1 + n * 2 + 1, none⟩ = some (.int .i64 q.to) ∧ w'.cell? ⟨w1.heap.size, 0, none⟩ = some (.int .i64 mid) ∧ w'.cell? ⟨w1.heap.size, 1, none⟩ = some (.int .i64 mto) ∧ Ext wr w') [] (by kernel_rfl) (by exact KH.out _ HDr.out) (fun hHeld => ?_)
              (refine WG.take (i := 0) (v := ?_) rfl (by kernel_rfl) (by kernel_rfl) (by kernel_rfl) (by kernel_rfl) (fun _ _ _ h => h) (Or.inl ⟨by rfl, ?_⟩) (by assumption) ?_; rotate_left; (intro w hSw; (try dsimp only at hSw); go_split_ands; go_simp; (try with_reducible rfl)); (try simp only [Act.put, List.setIfInBounds_toArray, List.set_cons_zero, List.set_cons_succ]))
              (refine WG.take (i := 1) (v := ?_) rfl (by kernel_rfl) (by kernel_rfl) (by kernel_rfl) (by kernel_rfl) (fun _ _ _ h => h) (Or.inl ⟨by rfl, ?_⟩) (by assumption) ?_; rotate_left; (intro w hSw; (try dsimp only at hSw); go_split_ands; go_simp; (try with_reducible rfl)); (try simp only [Act.put, List.setIfInBounds_toArray, List.set_cons_zero, List.set_cons_succ]))
              (refine WG.take (i := 2) rfl (by kernel_rfl) (by kernel_rfl) (by kernel_rfl) (by kernel_rfl) (fun _ _ _ h => h) (Or.inr ⟨?_, rfl⟩) (by assumption) ?_; go_simp; (try simp only [Act.put, List.setIfInBounds_toArray, List.set_cons_zero, List.set_cons_succ]))
              (refine WG.take (i := 3) rfl (by kernel_rfl) (by kernel_rfl) (by kernel_rfl) (by kernel_rfl) (fun _ _ _ h => h) (Or.inr ⟨?_, rfl⟩) (by assumption) ?_; go_simp; (try simp only [Act.put, List.setIfInBounds_toArray, List.set_cons_zero, List.set_cons_succ]))
              (refine WG.take (i := 4) rfl (by kernel_rfl) (by kernel_rfl) (by kernel_rfl) (by kernel_rfl) (fun _ _ _ h => h) (Or.inr ⟨?_, rfl⟩) (by assumption) ?_; go_simp; (try simp only [Act.put, List.setIfInBounds_toArray, List.set_cons_zero, List.set_cons_succ]))
              (refine WG.take (i := 5) rfl (by kernel_rfl) (by kernel_rfl) (by kernel_rfl) (by kernel_rfl) (fun _ _ _ h => h) (Or.inr ⟨?_, rfl⟩) (by assumption) ?_; go_simp; (try simp only [Act.put, List.setIfInBounds_toArray, List.set_cons_zero, List.set_cons_succ]))
              (refine WG.take (i := 6) rfl (by kernel_rfl) (by kernel_rfl) (by kernel_rfl) (by kernel_rfl) (fun _ _ _ h => h) (Or.inr ⟨?_, rfl⟩) (by assumption) ?_; go_simp; (try simp only [Act.put, List.setIfInBounds_toArray, List.set_cons_zero, List.set_cons_succ]))
              (refine WG.take (i := 7) rfl (by kernel_rfl) (by kernel_rfl) (by kernel_rfl) (by kernel_rfl) (fun _ _ _ h => h) (Or.inr ⟨?_, rfl⟩) (by assumption) ?_; go_simp; (try simp only [Act.put, List.setIfInBounds_toArray, List.set_cons_zero, List.set_cons_succ]))
              (refine WG.take (i := 8) (v := ?_) rfl (by kernel_rfl) (by kernel_rfl) (by kernel_rfl) (by kernel_rfl) (fun _ _ _ h => h) (Or.inl ⟨by rfl, ?_⟩) (by assumption) ?_; rotate_left; (intro w hSw; (try dsimp only at hSw); go_split_ands; go_simp; (try with_reducible rfl)); (try simp only [Act.put, List.setIfInBounds_toArray, List.set_cons_zero, List.set_cons_succ]))
              (refine WG.take (i := 9) (v := ?_) rfl (by kernel_rfl) (by kernel_rfl) (by kernel_rfl) (by kernel_rfl) (fun _ _ _ h => h) (Or.inl ⟨by rfl, ?_⟩) (by assumption) ?_; rotate_left; (intro w hSw; (try dsimp only at hSw); go_split_ands; go_simp; (try with_reducible rfl)); (try simp only [Act.put, List.setIfInBounds_toArray, List.set_cons_zero, List.set_cons_succ]))
              refine WG.done (by kernel_rfl) ?_
              go_wp2
              go_roundw
              case rel => exact ⟨n + 1, true, by omega, by go_num, rfl, hid (by rw [take_snoc HEQ.out, List.any_append, ← hbb.out]; rfl), hid (HE.out.trans HDr.out)⟩
              case measure => simp [intOf]; omega
            | false =>
              by_cases hq : q = ⟨mid, mto⟩
              · have hq1 : (q == (⟨mid, mto⟩ : MoveD)) = true := by rw [hq]; simp
                have HQ1 := hid hq1
                subst hq
                clear hq1
                go_wp2
                refine WG.start (fun w' => w'.cell? ⟨b1, o1 + n * 2, none⟩ = some (.int .i64 mid) ∧ w'.cell? ⟨b1, o1 + n * 2 + 1, none⟩ = some (.int .i64 mto) ∧ w'.cell? ⟨w1.heap.size, 0, none⟩ = some (.int .i64 mid) ∧ w'.cell? ⟨w1.heap.size, 1, none⟩ = some (.int .i64 mto) ∧ Ext wr w') [9] (by kernel_rfl) (by exact KH.out _ HDr.out) (fun hHeld => ?_)
                (refine WG.take (i := 0) (v := ?_) rfl (by kernel_rfl) (by kernel_rfl) (by kernel_rfl) (by kernel_rfl) (fun _ _ _ h => h) (Or.inl ⟨by rfl, ?_⟩) (by assumption) ?_; rotate_left; (intro w hSw; (try dsimp only at hSw); go_split_ands; go_simp; (try with_reducible rfl)); (try simp only [Act.put, List.setIfInBounds_toArray, List.set_cons_zero, List.set_cons_succ]))
                (refine WG.take (i := 1) (v := ?_) rfl (by kernel_rfl) (by kernel_rfl) (by kernel_rfl) (by kernel_rfl) (fun _ _ _ h => h) (Or.inl ⟨by rfl, ?_⟩) (by assumption) ?_; rotate_left; (intro w hSw; (try dsimp only at hSw); go_split_ands; go_simp; (try with_reducible rfl)); (try simp only [Act.put, List.setIfInBounds_toArray, List.set_cons_zero, List.set_cons_succ]))
                (refine WG.take (i := 2) (v := ?_) rfl (by kernel_rfl) (by kernel_rfl) (by kernel_rfl) (by kernel_rfl) (fun _ _ _ h => h) (Or.inl ⟨by rfl, ?_⟩) (by assumption) ?_; rotate_left; (intro w hSw; (try dsimp only at hSw); go_split_ands; go_simp; (try with_reducible rfl)); (try simp only [Act.put, List.setIfInBounds_toArray, List.set_cons_zero, List.set_cons_succ]))
                (refine WG.take (i := 3) (v := ?_) rfl (by kernel_rfl) (by kernel_rfl) (by kernel_rfl) (by kernel_rfl) (fun _ _ _ h => h) (Or.inl ⟨by rfl, ?_⟩) (by assumption) ?_; rotate_left; (intro w hSw; (try dsimp only at hSw); go_split_ands; go_simp; (try with_reducible rfl)); (try simp only [Act.put, List.setIfInBounds_toArray, List.set_cons_zero, List.set_cons_succ]))
                (refine WG.take (i := 4) (v := ?_) rfl (by kernel_rfl) (by kernel_rfl) (by kernel_rfl) (by kernel_rfl) (fun _ _ _ h => h) (Or.inl ⟨by rfl, ?_⟩) (by assumption) ?_; rotate_left; (intro w hSw; (try dsimp only at hSw); go_split_ands; go_simp; (try with_reducible rfl)); (try simp only [Act.put, List.setIfInBounds_toArray, List.set_cons_zero, List.set_cons_succ]))
                (refine WG.take (i := 5) (v := ?_) rfl (by kernel_rfl) (by kernel_rfl) (by kernel_rfl) (by kernel_rfl) (fun _ _ _ h => h) (Or.inl ⟨by rfl, ?_⟩) (by assumption) ?_; rotate_left; (intro w hSw; (try dsimp only at hSw); go_split_ands; go_simp; (try with_reducible rfl)); (try simp only [Act.put, List.setIfInBounds_toArray, List.set_cons_zero, List.set_cons_succ]))
                (refine WG.take (i := 6) (v := ?_) rfl (by kernel_rfl) (by kernel_rfl) (by kernel_rfl) (by kernel_rfl) (fun _ _ _ h => h) (Or.inl ⟨by rfl, ?_⟩) (by assumption) ?_; rotate_left; (intro w hSw; (try dsimp only at hSw); go_split_ands; go_simp; (try with_reducible rfl)); (try simp only [Act.put, List.setIfInBounds_toArray, List.set_cons_zero, List.set_cons_succ]))
                (refine WG.take (i := 7) (v := ?_) rfl (by kernel_rfl) (by kernel_rfl) (by kernel_rfl) (by kernel_rfl) (fun _ _ _ h => h) (Or.inl ⟨by rfl, ?_⟩) (by assumption) ?_; rotate_left; (intro w hSw; (try dsimp only at hSw); go_split_ands; go_simp; (try with_reducible rfl)); (try simp only [Act.put, List.setIfInBounds_toArray, List.set_cons_zero, List.set_cons_succ]))
                (refine WG.take (i := 8) (v := ?_) rfl (by kernel_rfl) (by kernel_rfl) (by kernel_rfl) (by kernel_rfl) (fun _ _ _ h => h) (Or.inl ⟨by rfl, ?_⟩) (by assumption) ?_; rotate_left; (intro w hSw; (try dsimp only at hSw); go_split_ands; go_simp; (try with_reducible rfl)); (try simp only [Act.put, List.setIfInBounds_toArray, List.set_cons_zero, List.set_cons_succ]))
                refine WG.last (i := 9) rfl (by kernel_rfl) (by kernel_rfl) (fun K hK => ?_)
                go_simp
                refine hK.out _ _ ?_
                clear hK K
                (try simp only [Act.put, List.setIfInBounds_toArray, List.set_cons_zero, List.set_cons_succ])
                refine WG.done (by kernel_rfl) ?_
                go_wp2
                go_roundw
                case rel => exact ⟨n + 1, true, by omega, by go_num, rfl, hid (by rw [take_snoc HEQ.out, List.any_append, ← hbb.out]; simp), hid (HE.out.trans HDr.out)⟩
                case measure => simp [intOf]; omega
              · have hq1 : (q == (⟨mid, mto⟩ : MoveD)) = false := by simpa using hq
                have HQ1 := hid hq1
                by_cases hi : q.id = mid
                · have hto : ¬ q.to = mto := fun h2 => hq (by cases q; simp_all)
                  subst hi
                  clear hq1 hq
                  go_wp2
                  refine WG.start (fun w' => w'.cell? ⟨b1, o1 + n * 2, none⟩ = some (.int .i64 q.id) ∧ w'.cell? ⟨b1, o1 + n * 2 + 1, none⟩ = some (.int .i64 q.to) ∧ w'.cell? ⟨w1.heap.size, 0, none⟩ = some (.int .i64 q.id) ∧ w'.cell? ⟨w1.heap.size, 1, none⟩ = some (.int .i64 mto) ∧ Ext wr w') [9] (by kernel_rfl) (by exact KH.out _ HDr.out) (fun hHeld => ?_)
                  (refine WG.take (i := 0) (v := ?_) rfl (by kernel_rfl) (by kernel_rfl) (by kernel_rfl) (by kernel_rfl) (fun _ _ _ h => h) (Or.inl ⟨by rfl, ?_⟩) (by assumption) ?_; rotate_left; (intro w hSw; (try dsimp only at hSw); go_split_ands; go_simp; (try with_reducible rfl)); (try simp only [Act.put, List.setIfInBounds_toArray, List.set_cons_zero, List.set_cons_succ]))
                  (refine WG.take (i := 1) (v := ?_) rfl (by kernel_rfl) (by kernel_rfl) (by kernel_rfl) (by kernel_rfl) (fun _ _ _ h => h) (Or.inl ⟨by rfl, ?_⟩) (by assumption) ?_; rotate_left; (intro w hSw; (try dsimp only at hSw); go_split_ands; go_simp; (try with_reducible rfl)); (try simp only [Act.put, List.setIfInBounds_toArray, List.set_cons_zero, List.set_cons_succ]))
                  (refine WG.take (i := 2) (v := ?_) rfl (by kernel_rfl) (by kernel_rfl) (by kernel_rfl) (by kernel_rfl) (fun _ _ _ h => h) (Or.inl ⟨by rfl, ?_⟩) (by assumption) ?_; rotate_left; (intro w hSw; (try dsimp only at hSw); go_split_ands; go_simp; (try with_reducible rfl)); (try simp only [Act.put, List.setIfInBounds_toArray, List.set_cons_zero, List.set_cons_succ]))
                  (refine WG.take (i := 3) (v := ?_) rfl (by kernel_rfl) (by kernel_rfl) (by kernel_rfl) (by kernel_rfl) (fun _ _ _ h => h) (Or.inl ⟨by rfl, ?_⟩) (by assumption) ?_; rotate_left; (intro w hSw; (try dsimp only at hSw); go_split_ands; go_simp; (try with_reducible rfl)); (try simp only [Act.put, List.setIfInBounds_toArray, List.set_cons_zero, List.set_cons_succ]))
                  (refine WG.take (i := 4) (v := ?_) rfl (by kernel_rfl) (by kernel_rfl) (by kernel_rfl) (by kernel_rfl) (fun _ _ _ h => h) (Or.inl ⟨by rfl, ?_⟩) (by assumption) ?_; rotate_left; (intro w hSw; (try dsimp only at hSw); go_split_ands; go_simp; (try with_reducible rfl)); (try simp only [Act.put, List.setIfInBounds_toArray, List.set_cons_zero, List.set_cons_succ]))
                  (refine WG.take (i := 5) (v := ?_) rfl (by kernel_rfl) (by kernel_rfl) (by kernel_rfl) (by kernel_rfl) (fun _ _ _ h => h) (Or.inl ⟨by rfl, ?_⟩) (by assumption) ?_; rotate_left; (intro w hSw; (try dsimp only at hSw); go_split_ands; go_simp; (try with_reducible rfl)); (try simp only [Act.put, List.setIfInBounds_toArray, List.set_cons_zero, List.set_cons_succ]))
                  (refine WG.take (i := 6) (v := ?_) rfl (by kernel_rfl) (by kernel_rfl) (by kernel_rfl) (by kernel_rfl) (fun _ _ _ h => h) (Or.inl ⟨by rfl, ?_⟩) (by assumption) ?_; rotate_left; (intro w hSw; (try dsimp only at hSw); go_split_ands; go_simp; (try with_reducible rfl)); (try simp only [Act.put, List.setIfInBounds_toArray, List.set_cons_zero, List.set_cons_succ]))
                  (refine WG.take (i := 7) (v := ?_) rfl (by kernel_rfl) (by kernel_rfl) (by kernel_rfl) (by kernel_rfl) (fun _ _ _ h => h) (Or.inl ⟨by rfl, ?_⟩) (by assumption) ?_; rotate_left; (intro w hSw; (try dsimp only at hSw); go_split_ands; go_simp; (try with_reducible rfl)); (try simp only [Act.put, List.setIfInBounds_toArray, List.set_cons_zero, List.set_cons_succ]))
                  (refine WG.take (i := 8) (v := ?_) rfl (by kernel_rfl) (by kernel_rfl) (by kernel_rfl) (by kernel_rfl) (fun _ _ _ h => h) (Or.inl ⟨by rfl, ?_⟩) (by assumption) ?_; rotate_left; (intro w hSw; (try dsimp only at hSw); go_split_ands; go_simp; (try with_reducible rfl)); (try simp only [Act.put, List.setIfInBounds_toArray, List.set_cons_zero, List.set_cons_succ]))
                  refine WG.last (i := 9) rfl (by kernel_rfl) (by kernel_rfl) (fun K hK => ?_)
                  go_simp
                  refine hK.out _ _ ?_
                  clear hK K
                  (try simp only [Act.put, List.setIfInBounds_toArray, List.set_cons_zero, List.set_cons_succ])
                  refine WG.done (by kernel_rfl) ?_
                  go_wp2
                  go_roundw
                  case rel => exact ⟨n + 1, false, by omega, by go_num, rfl, hid (by rw [take_snoc HEQ.out, List.any_append, ← hbb.out]; simp [HQ1.out]), hid (HE.out.trans HDr.out)⟩
                  case measure => simp [intOf]; omega
                · clear hq1 hq
                  go_wp2
                  refine WG.start (fun w' => w'.cell? ⟨b1, o1 + n * 2, none⟩ = some (.int .i64 q.id) ∧ w'.cell? ⟨b1, o1 + n * 2 + 1, none⟩ = some (.int .i64 q.to) ∧ w'.cell? ⟨w1.heap.size, 0, none⟩ = some (.int .i64 mid) ∧ w'.cell? ⟨w1.heap.size, 1, none⟩ = some (.int .i64 mto) ∧ Ext wr w') [9] (by kernel_rfl) (by exact KH.out _ HDr.out) (fun hHeld => ?_)
                  (refine WG.take (i := 0) (v := ?_) rfl (by kernel_rfl) (by kernel_rfl) (by kernel_rfl) (by kernel_rfl) (fun _ _ _ h => h) (Or.inl ⟨by rfl, ?_⟩) (by assumption) ?_; rotate_left; (intro w hSw; (try dsimp only at hSw); go_split_ands; go_simp; (try with_reducible rfl)); (try simp only [Act.put, List.setIfInBounds_toArray, List.set_cons_zero, List.set_cons_succ]))
                  (refine WG.take (i := 1) (v := ?_) rfl (by kernel_rfl) (by kernel_rfl) (by kernel_rfl) (by kernel_rfl) (fun _ _ _ h => h) (Or.inl ⟨by rfl, ?_⟩) (by assumption) ?_; rotate_left; (intro w hSw; (try dsimp only at hSw); go_split_ands; go_simp; (try with_reducible rfl)); (try simp only [Act.put, List.setIfInBounds_toArray, List.set_cons_zero, List.set_cons_succ]))
                  (refine WG.take (i := 2) (v := ?_) rfl (by kernel_rfl) (by kernel_rfl) (by kernel_rfl) (by kernel_rfl) (fun _ _ _ h => h) (Or.inl ⟨by rfl, ?_⟩) (by assumption) ?_; rotate_left; (intro w hSw; (try dsimp only at hSw); go_split_ands; go_simp; (try with_reducible rfl)); (try simp only [Act.put, List.setIfInBounds_toArray, List.set_cons_zero, List.set_cons_succ]))
                  (refine WG.take (i := 3) (v := ?_) rfl (by kernel_rfl) (by kernel_rfl) (by kernel_rfl) (by kernel_rfl) (fun _ _ _ h => h) (Or.inl ⟨by rfl, ?_⟩) (by assumption) ?_; rotate_left; (intro w hSw; (try dsimp only at hSw); go_split_ands; go_simp; (try with_reducible rfl)); (try simp only [Act.put, List.setIfInBounds_toArray, List.set_cons_zero, List.set_cons_succ]))
                  (refine WG.take (i := 4) (v := ?_) rfl (by kernel_rfl) (by kernel_rfl) (by kernel_rfl) (by kernel_rfl) (fun _ _ _ h => h) (Or.inl ⟨by rfl, ?_⟩) (by assumption) ?_; rotate_left; (intro w hSw; (try dsimp only at hSw); go_split_ands; go_simp; (try with_reducible rfl)); (try simp only [Act.put, List.setIfInBounds_toArray, List.set_cons_zero, List.set_cons_succ]))
                  (refine WG.take (i := 5) (v := ?_) rfl (by kernel_rfl) (by kernel_rfl) (by kernel_rfl) (by kernel_rfl) (fun _ _ _ h => h) (Or.inl ⟨by rfl, ?_⟩) (by assumption) ?_; rotate_left; (intro w hSw; (try dsimp only at hSw); go_split_ands; go_simp; (try with_reducible rfl)); (try simp only [Act.put, List.setIfInBounds_toArray, List.set_cons_zero, List.set_cons_succ]))
                  (refine WG.take (i := 6) (v := ?_) rfl (by kernel_rfl) (by kernel_rfl) (by kernel_rfl) (by kernel_rfl) (fun _ _ _ h => h) (Or.inl ⟨by rfl, ?_⟩) (by assumption) ?_; rotate_left; (intro w hSw; (try dsimp only at hSw); go_split_ands; go_simp; (try with_reducible rfl)); (try simp only [Act.put, List.setIfInBounds_toArray, List.set_cons_zero, List.set_cons_succ]))
                  (refine WG.take (i := 7) (v := ?_) rfl (by kernel_rfl) (by kernel_rfl) (by kernel_rfl) (by kernel_rfl) (fun _ _ _ h => h) (Or.inl ⟨by rfl, ?_⟩) (by assumption) ?_; rotate_left; (intro w hSw; (try dsimp only at hSw); go_split_ands; go_simp; (try with_reducible rfl)); (try simp only [Act.put, List.setIfInBounds_toArray, List.set_cons_zero, List.set_cons_succ]))
                  (refine WG.take (i := 8) (v := ?_) rfl (by kernel_rfl) (by kernel_rfl) (by kernel_rfl) (by kernel_rfl) (fun _ _ _ h => h) (Or.inl ⟨by rfl, ?_⟩) (by assumption) ?_; rotate_left; (intro w hSw; (try dsimp only at hSw); go_split_ands; go_simp; (try with_reducible rfl)); (try simp only [Act.put, List.setIfInBounds_toArray, List.set_cons_zero, List.set_cons_succ]))
                  refine WG.last (i := 9) rfl (by kernel_rfl) (by kernel_rfl) (fun K hK => ?_)
                  go_simp
                  refine hK.out _ _ ?_
                  clear hK K
                  (try simp only [Act.put, List.setIfInBounds_toArray, List.set_cons_zero, List.set_cons_succ])
                  refine WG.done (by kernel_rfl) ?_
                  go_wp2
                  go_roundw
                  case rel => exact ⟨n + 1, false, by omega, by go_num, rfl, hid (by rw [take_snoc HEQ.out, List.any_append, ← hbb.out]; simp [HQ1.out]), hid (HE.out.trans HDr.out)⟩
                  case measure => simp [intOf]; omega
          · have i1 : ¬ (n : Int) < (ls.length : Int) := by omega
            have hnl : n = ls.length := by omega
            have hbv : b = false := by rw [hbb.out, hnl, List.take_length]; exact HANY.out
            subst hbv
            clear hlt hnl hbb
            go_wp2
            go_ret
            exact ⟨rfl, HEW.out.trans (HE6.out.trans HE.out)⟩

      | true =>
        have HOK := hid hok
        obtain ⟨ls, hls⟩ : ∃ ls, ls = movesOf room Bs := ⟨_, rfl⟩
        have HLS := hid hls
        have HANY : Hid ((ls.any fun q => q == (⟨mid, mto⟩ : MoveD)) = true) := hid (by
          rw [hls, ← hok, HRR.out]
          unfold moveDo
          rw [hv, Bool.true_and]
          cases hc : canMove room Bs ⟨mid, mto⟩ with
          | true =>
            rw [if_pos rfl, List.any_eq_true]
            exact ⟨_, (mem_moves hv _).2 hc, by simp⟩
          | false =>
            rw [if_neg (by simp), List.any_eq_false]
            intro q hq he
            have he := eq_of_beq he
            rw [he, mem_moves hv, hc] at hq
            cases hq)
        have hls200 : ls.length ≤ 200 := by rw [hls]; exact movesOf_len _ _
        clear hls hok
        go_wp2_with (first
          | (go_at_call 41; refine (iMovesOf _ _ room Bs _ (RI.ext HR.out HE5.out) (RB.ext HN.out HE5.out) (by have := HS.out.2.1; omega) (fun t ht => (HS.out.2.2 t ht).2.2)).mono ?_; rw [← HLS.out]; rintro e w6 ⟨v6, rfl, hO6, hE6⟩; have hx6 : RM w6 v6 ls := Own.read hO6; have HX6 := hid hx6; obtain ⟨A6, c6, rfl, _⟩ := hx6; have HE6 := hid (HE5.out.trans hE6); clear hO6 hE6 hb0 hb1)
          | (go_at_call 20; refine (sBinsValid _ _ room Bs _ (RI.ext HR.out HE4.out) (RB.ext HN.out HE4.out) (by have := HS.out.2.1; omega)).mono ?_; rintro e w5 ⟨rfl, hE5⟩; rw [hv]; have HE45 := hid hE5; have HE5 := hid (HE4.out.trans hE5); obtain ⟨hb0, hb1⟩ := KB.out _ HE5.out; have TOK3 : Hid True := hid trivial; clear hE5)
          | (go_at_call 25; refine (lSameBins _ _ R.1 _ (RB.ext HX2.out HE23.out) HX3.out).mono ?_; rintro e w4 ⟨rfl, hE4⟩; have HE34 := hid hE4; have HE4 := hid (HE3.out.trans hE4); have TOK2 : Hid True := hid trivial; obtain ⟨hb0, hb1⟩ := KB.out _ HE4.out; clear hE4)
          | (go_at_call 24; refine (sMoveDo _ _ room Bs mid mto _ (RI.ext HR.out HE2.out) (RB.ext HN.out HE2.out) (by have := HS.out.2.1; omega)).mono ?_; rw [← HRR.out]; unfold RetMB; rw [HOK.out]; rintro e w3 ⟨v3, rfl, hd3, hE3⟩; have HX3 := hid hd3; have HE23 := hid hE3; have HE3 := hid (HE2.out.trans hE3); obtain ⟨hb0, hb1⟩ := KB.out _ HE3.out; clear hd3 hE3)
          | (go_at_call 23; clear TOK1; refine (iMoveDo _ _ room Bs mid mto a _ HR.out HN.out (by have := HS.out.2.1; omega) (fun t ht => (HS.out.2.2 t ht).2.2) HG.out).mono ?_; rw [← HRR.out]; unfold RetMBD; rw [HOK.out]; rintro e w2 ⟨v2, rfl, hd2, hE2⟩; have hx2 := hd2.read; have HX2 := hid hx2; obtain ⟨A2, c2', rfl, _⟩ := hx2; have HE2 := hid hE2; obtain ⟨hb0, hb1⟩ := KB.out _ hE2; clear hd2 hE2))
        go_loopw [11, 12] (fun s i wr => ∃ (n : Nat) (b : Bool), n ≤ ls.length ∧ i = .int .i64 n ∧ s = .bool b ∧ Hid (b = (ls.take n).any fun q => q == (⟨mid, mto⟩ : MoveD)) ∧ Hid (Ext w6 wr)) (fun _ i _ => ls.length - (intOf i).toNat)
        case atStart => exact ⟨0, false, Nat.zero_le _, rfl, rfl, hid rfl, hid (Ext.refl _)⟩
        case round =>
          obtain ⟨n, b, hn, rfl, rfl, hbb, HE⟩ := hrel
          by_cases hlt : n < ls.length
          · obtain ⟨A6', c6', hv6, _, _, hg⟩ := RM.get HX6.out
            injection hv6 with e1 _ e3
            subst e1 e3
            obtain ⟨b1, o1, q, rfl, e, c1, c2⟩ := hg n hlt
            have i1 : (n : Int) < (ls.length : Int) := by omega
            have i0 : (0 : Int) ≤ (n : Int) := by omega
            have KH : Hid (∀ w', Ext wr w' → w'.cell? ⟨b1, o1 + n * 2, none⟩ = some (.int .i64 q.id) ∧ w'.cell? ⟨b1, o1 + n * 2 + 1, none⟩ = some (.int .i64 q.to) ∧ w'.cell? ⟨w1.heap.size, 0, none⟩ = some (.int .i64 mid) ∧ w'.cell? ⟨w1.heap.size, 1, none⟩ = some (.int .i64 mto) ∧ Ext wr w') :=
              hid fun w' hw => ⟨hw.cell (HE.out.cell c1), hw.cell (HE.out.cell c2), (KB.out _ (HE6.out.trans (HE.out.trans hw))).1, (KB.out _ (HE6.out.trans (HE.out.trans hw))).2, hw⟩
            have HDr : Hid (Ext wr wr.drew) := hid (Below.drew (Below.refl _ _))
            have HEQ := hid e.out
            clear c1 c2 hg
            cases b with
            | true =>
              go_wp2
              refine WG.start (fun w' => w'.cell? ⟨b1, o1 + n * 2, none⟩ = some (.int .i64 q.id) ∧ w'.cell? ⟨b1, o1 + n * 2 + 1, none⟩ = some (.int .i64 q.to) ∧ w'.cell? ⟨w1.heap.size, 0, none⟩ = some (.int .i64 mid) ∧ w'.cell? ⟨w1.heap.size, 1, none⟩ = some (.int .i64 mto) ∧ Ext wr w') [] (by kernel_rfl) (by exact KH.out _ HDr.out) (fun hHeld => ?_)
              (refine WG.take (i := 0) (v := ?_) rfl (by kernel_rfl) (by kernel_rfl) (by kernel_rfl) (by kernel_rfl) (fun _ _ _ h => h) (Or.inl ⟨by rfl, ?_⟩) (by assumption) ?_; rotate_left; (intro w hSw; (try dsimp only at hSw); go_split_ands; go_simp; (try with_reducible rfl)); (try simp only [Act.put, List.setIfInBounds_toArray, List.set_cons_zero, List.set_cons_succ]))
              (refine WG.take (i := 1) (v := ?_) rfl (by kernel_rfl) (by kernel_rfl) (by kernel_rfl) (by kernel_rfl) (fun _ _ _ h => h) (Or.inl ⟨by rfl, ?_⟩) (by assumption) ?_; rotate_left; (intro w hSw; (try dsimp only at hSw); go_split_ands; go_simp; (try with_reducible rfl)); (try simp only [Act.put, List.setIfInBounds_toArray, List.set_cons_zero, List.set_cons_succ]))
              (refine WG.take (i := 2) rfl (by kernel_rfl) (by kernel_rfl) (by kernel_rfl) (by kernel_rfl) (fun _ _ _ h => h) (Or.inr ⟨?_, rfl⟩) (by assumption) ?_; go_simp; (try simp only [Act.put, List.setIfInBounds_toArray, List.set_cons_zero, List.set_cons_succ]))
              (refine WG.take (i := 3) rfl (by kernel_rfl) (by kernel_rfl) (by kernel_rfl) (by kernel_rfl) (fun _ _ _ h => h) (Or.inr ⟨?_, rfl⟩) (by assumption) ?_; go_simp; (try simp only [Act.put, List.setIfInBounds_toArray, List.set_cons_zero, List.set_cons_succ]))
              (refine WG.take (i := 4) rfl (by kernel_rfl) (by kernel_rfl) (by kernel_rfl) (by kernel_rfl) (fun _ _ _ h => h) (Or.inr ⟨?_, rfl⟩) (by assumption) ?_; go_simp; (try simp only [Act.put, List.setIfInBounds_toArray, List.set_cons_zero, List.set_cons_succ]))
              (refine WG.take (i := 5) rfl (by kernel_rfl) (by kernel_rfl) (by kernel_rfl) (by kernel_rfl) (fun _ _ _ h => h) (Or.inr ⟨?_, rfl⟩) (by assumption) ?_; go_simp; (try simp only [Act.put, List.setIfInBounds_toArray, List.set_cons_zero, List.set_cons_succ]))
              (refine WG.take (i := 6) rfl (by kernel_rfl) (by kernel_rfl) (by kernel_rfl) (by kernel_rfl) (fun _ _ _ h => h) (Or.inr ⟨?_, rfl⟩) (by assumption) ?_; go_simp; (try simp only [Act.put, List.setIfInBounds_toArray, List.set_cons_zero, List.set_cons_succ]))
              (refine WG.take (i := 7) rfl (by kernel_rfl) (by kernel_rfl) (by kernel_rfl) (by kernel_rfl) (fun _ _ _ h => h) (Or.inr ⟨?_, rfl⟩) (by assumption) ?_; go_simp; (try simp only [Act.put, List.setIfInBounds_toArray, List.set_cons_zero, List.set_cons_succ]))
              (refine WG.take (i := 8) (v := ?_) rfl (by kernel_rfl) (by kernel_rfl) (by kernel_rfl) (by kernel_rfl) (fun _ _ _ h => h) (Or.inl ⟨by rfl, ?_⟩) (by assumption) ?_; rotate_left; (intro w hSw; (try dsimp only at hSw); go_split_ands; go_simp; (try with_reducible rfl)); (try simp only [Act.put, List.setIfInBounds_toArray, List.set_cons_zero, List.set_cons_succ]))
              (refine WG.take (i := 9) (v := ?_) rfl (by kernel_rfl) (by kernel_rfl) (by kernel_rfl) (by kernel_rfl) (fun _ _ _ h => h) (Or.inl ⟨by rfl, ?_⟩) (by assumption) ?_; rotate_left; (intro w hSw; (try dsimp only at hSw); go_split_ands; go_simp; (try with_reducible rfl)); (try simp only [Act.put, List.setIfInBounds_toArray, List.set_cons_zero, List.set_cons_succ]))
              refine WG.done (by kernel_rfl) ?_
              go_wp2
              go_roundw
              case rel => exact ⟨n + 1, true, by omega, by go_num, rfl, hid (by rw [take_snoc HEQ.out, List.any_append, ← hbb.out]; rfl), hid (HE.out.trans HDr.out)⟩
              case measure => simp [intOf]; omega
            | false =>
              by_cases hq : q = ⟨mid, mto⟩
              · have hq1 : (q == (⟨mid, mto⟩ : MoveD)) = true := by rw [hq]; simp
                have HQ1 := hid hq1
                subst hq
                clear hq1
                go_wp2
                refine WG.start (fun w' => w'.cell? ⟨b1, o1 + n * 2, none⟩ = some (.int .i64 mid) ∧ w'.cell? ⟨b1, o1 + n * 2 + 1, none⟩ = some (.int .i64 mto) ∧ w'.cell? ⟨w1.heap.size, 0, none⟩ = some (.int .i64 mid) ∧ w'.cell? ⟨w1.heap.size, 1, none⟩ = some (.int .i64 mto) ∧ Ext wr w') [9] (by kernel_rfl) (by exact KH.out _ HDr.out) (fun hHeld => ?_)
                (refine WG.take (i := 0) (v := ?_) rfl (by kernel_rfl) (by kernel_rfl) (by kernel_rfl) (by kernel_rfl) (fun _ _ _ h => h) (Or.inl ⟨by rfl, ?_⟩) (by assumption) ?_; rotate_left; (intro w hSw; (try dsimp only at hSw); go_split_ands; go_simp; (try with_reducible rfl)); (try simp only [Act.put, List.setIfInBounds_toArray, List.set_cons_zero, List.set_cons_succ]))
                (refine WG.take (i := 1) (v := ?_) rfl (by kernel_rfl) (by kernel_rfl) (by kernel_rfl) (by kernel_rfl) (fun _ _ _ h => h) (Or.inl ⟨by rfl, ?_⟩) (by assumption) ?_; rotate_left; (intro w hSw; (try dsimp only at hSw); go_split_ands; go_simp; (try with_reducible rfl)); (try simp only [Act.put, List.setIfInBounds_toArray, List.set_cons_zero, List.set_cons_succ]))
                (refine WG.take (i := 2) (v := ?_) rfl (by kernel_rfl) (by kernel_rfl) (by kernel_rfl) (by kernel_rfl) (fun _ _ _ h => h) (Or.inl ⟨by rfl, ?_⟩) (by assumption) ?_; rotate_left; (intro w hSw; (try dsimp only at hSw); go_split_ands; go_simp; (try with_reducible rfl)); (try simp only [Act.put, List.setIfInBounds_toArray, List.set_cons_zero, List.set_cons_succ]))
                (refine WG.take (i := 3) (v := ?_) rfl (by kernel_rfl) (by kernel_rfl) (by kernel_rfl) (by kernel_rfl) (fun _ _ _ h => h) (Or.inl ⟨by rfl, ?_⟩) (by assumption) ?_; rotate_left; (intro w hSw; (try dsimp only at hSw); go_split_ands; go_simp; (try with_reducible rfl)); (try simp only [Act.put, List.setIfInBounds_toArray, List.set_cons_zero, List.set_cons_succ]))
                (refine WG.take (i := 4) (v := ?_) rfl (by kernel_rfl) (by kernel_rfl) (by kernel_rfl) (by kernel_rfl) (fun _ _ _ h => h) (Or.inl ⟨by rfl, ?_⟩) (by assumption) ?_; rotate_left; (intro w hSw; (try dsimp only at hSw); go_split_ands; go_simp; (try with_reducible rfl)); (try simp only [Act.put, List.setIfInBounds_toArray, List.set_cons_zero, List.set_cons_succ]))
                (refine WG.take (i := 5) (v := ?_) rfl (by kernel_rfl) (by kernel_rfl) (by kernel_rfl) (by kernel_rfl) (fun _ _ _ h => h) (Or.inl ⟨by rfl, ?_⟩) (by assumption) ?_; rotate_left; (intro w hSw; (try dsimp only at hSw); go_split_ands; go_simp; (try with_reducible rfl)); (try simp only [Act.put, List.setIfInBounds_toArray, List.set_cons_zero, List.set_cons_succ]))
                (refine WG.take (i := 6) (v := ?_) rfl (by kernel_rfl) (by kernel_rfl) (by kernel_rfl) (by kernel_rfl) (fun _ _ _ h => h) (Or.inl ⟨by rfl, ?_⟩) (by assumption) ?_; rotate_left; (intro w hSw; (try dsimp only at hSw); go_split_ands; go_simp; (try with_reducible rfl)); (try simp only [Act.put, List.setIfInBounds_toArray, List.set_cons_zero, List.set_cons_succ]))
                (refine WG.take (i := 7) (v := ?_) rfl (by kernel_rfl) (by kernel_rfl) (by kernel_rfl) (by kernel_rfl) (fun _ _ _ h => h) (Or.inl ⟨by rfl, ?_⟩) (by assumption) ?_; rotate_left; (intro w hSw; (try dsimp only at hSw); go_split_ands; go_simp; (try with_reducible rfl)); (try simp only [Act.put, List.setIfInBounds_toArray, List.set_cons_zero, List.set_cons_succ]))
                (refine WG.take (i := 8) (v := ?_) rfl (by kernel_rfl) (by kernel_rfl) (by kernel_rfl) (by kernel_rfl) (fun _ _ _ h => h) (Or.inl ⟨by rfl, ?_⟩) (by assumption) ?_; rotate_left; (intro w hSw; (try dsimp only at hSw); go_split_ands; go_simp; (try with_reducible rfl)); (try simp only [Act.put, List.setIfInBounds_toArray, List.set_cons_zero, List.set_cons_succ]))
                refine WG.last (i := 9) rfl (by kernel_rfl) (by kernel_rfl) (fun K hK => ?_)
                go_simp
                refine hK.out _ _ ?_
                clear hK K
                (try simp only [Act.put, List.setIfInBounds_toArray, List.set_cons_zero, List.set_cons_succ])
                refine WG.done (by kernel_rfl) ?_
                go_wp2
                go_roundw
                case rel => exact ⟨n + 1, true, by omega, by go_num, rfl, hid (by rw [take_snoc HEQ.out, List.any_append, ← hbb.out]; simp), hid (HE.out.trans HDr.out)⟩
                case measure => simp [intOf]; omega
              · have hq1 : (q == (⟨mid, mto⟩ : MoveD)) = false := by simpa using hq
                have HQ1 := hid hq1
                by_cases hi : q.id = mid
                · have hto : ¬ q.to = mto := fun h2 => hq (by cases q; simp_all)
                  subst hi
                  clear hq1 hq
                  go_wp2
                  refine WG.start (fun w' => w'.cell? ⟨b1, o1 + n * 2, none⟩ = some (.int .i64 q.id) ∧ w'.cell? ⟨b1, o1 + n * 2 + 1, none⟩ = some (.int .i64 q.to) ∧ w'.cell? ⟨w1.heap.size, 0, none⟩ = some (.int .i64 q.id) ∧ w'.cell? ⟨w1.heap.size, 1, none⟩ = some (.int .i64 mto) ∧ Ext wr w') [9] (by kernel_rfl) (by exact KH.out _ HDr.out) (fun hHeld => ?_)
                  (refine WG.take (i := 0) (v := ?_) rfl (by kernel_rfl) (by kernel_rfl) (by kernel_rfl) (by kernel_rfl) (fun _ _ _ h => h) (Or.inl ⟨by rfl, ?_⟩) (by assumption) ?_; rotate_left; (intro w hSw; (try dsimp only at hSw); go_split_ands; go_simp; (try with_reducible rfl)); (try simp only [Act.put, List.setIfInBounds_toArray, List.set_cons_zero, List.set_cons_succ]))
                  (refine WG.take (i := 1) (v := ?_) rfl (by kernel_rfl) (by kernel_rfl) (by kernel_rfl) (by kernel_rfl) (fun _ _ _ h => h) (Or.inl ⟨by rfl, ?_⟩) (by assumption) ?_; rotate_left; (intro w hSw; (try dsimp only at hSw); go_split_ands; go_simp; (try with_reducible rfl)); (try simp only [Act.put, List.setIfInBounds_toArray, List.set_cons_zero, List.set_cons_succ]))
                  (refine WG.take (i := 2) (v := ?_) rfl (by kernel_rfl) (by kernel_rfl) (by kernel_rfl) (by kernel_rfl) (fun _ _ _ h => h) (Or.inl ⟨by rfl, ?_⟩) (by assumption) ?_; rotate_left; (intro w hSw; (try dsimp only at hSw); go_split_ands; go_simp; (try with_reducible rfl)); (try simp only [Act.put, List.setIfInBounds_toArray, List.set_cons_zero, List.set_cons_succ]))
                  (refine WG.take (i := 3) (v := ?_) rfl (by kernel_rfl) (by kernel_rfl) (by kernel_rfl) (by kernel_rfl) (fun _ _ _ h => h) (Or.inl ⟨by rfl, ?_⟩) (by assumption) ?_; rotate_left; (intro w hSw; (try dsimp only at hSw); go_split_ands; go_simp; (try with_reducible rfl)); (try simp only [Act.put, List.setIfInBounds_toArray, List.set_cons_zero, List.set_cons_succ]))
                  (refine WG.take (i := 4) (v := ?_) rfl (by kernel_rfl) (by kernel_rfl) (by kernel_rfl) (by kernel_rfl) (fun _ _ _ h => h) (Or.inl ⟨by rfl, ?_⟩) (by assumption) ?_; rotate_left; (intro w hSw; (try dsimp only at hSw); go_split_ands; go_simp; (try with_reducible rfl)); (try simp only [Act.put, List.setIfInBounds_toArray, List.set_cons_zero, List.set_cons_succ]))
                  (refine WG.take (i := 5) (v := ?_) rfl (by kernel_rfl) (by kernel_rfl) (by kernel_rfl) (by kernel_rfl) (fun _ _ _ h => h) (Or.inl ⟨by rfl, ?_⟩) (by assumption) ?_; rotate_left; (intro w hSw; (try dsimp only at hSw); go_split_ands; go_simp; (try with_reducible rfl)); (try simp only [Act.put, List.setIfInBounds_toArray, List.set_cons_zero, List.set_cons_succ]))
                  (refine WG.take (i := 6) (v := ?_) rfl (by kernel_rfl) (by kernel_rfl) (by kernel_rfl) (by kernel_rfl) (fun _ _ _ h => h) (Or.inl ⟨by rfl, ?_⟩) (by assumption) ?_; rotate_left; (intro w hSw; (try dsimp only at hSw); go_split_ands; go_simp; (try with_reducible rfl)); (try simp only [Act.put, List.setIfInBounds_toArray, List.set_cons_zero, List.set_cons_succ]))
                  (refine WG.take (i := 7) (v := ?_) rfl (by kernel_rfl) (by kernel_rfl) (by kernel_rfl) (by kernel_rfl) (fun _ _ _ h => h) (Or.inl ⟨by rfl, ?_⟩) (by assumption) ?_; rotate_left; (intro w hSw; (try dsimp only at hSw); go_split_ands; go_simp; (try with_reducible rfl)); (try simp only [Act.put, List.setIfInBounds_toArray, List.set_cons_zero, List.set_cons_succ]))
                  (refine WG.take (i := 8) (v := ?_) rfl (by kernel_rfl) (by kernel_rfl) (by kernel_rfl) (by kernel_rfl) (fun _ _ _ h => h) (Or.inl ⟨by rfl, ?_⟩) (by assumption) ?_; rotate_left; (intro w hSw; (try dsimp only at hSw); go_split_ands; go_simp; (try with_reducible rfl)); (try simp only [Act.put, List.setIfInBounds_toArray, List.set_cons_zero, List.set_cons_succ]))
                  refine WG.last (i := 9) rfl (by kernel_rfl) (by kernel_rfl) (fun K hK => ?_)
                  go_simp
                  refine hK.out _ _ ?_
                  clear hK K
                  (try simp only [Act.put, List.setIfInBounds_toArray, List.set_cons_zero, List.set_cons_succ])
                  refine WG.done (by kernel_rfl) ?_
                  go_wp2
                  go_roundw
                  case rel => exact ⟨n + 1, false, by omega, by go_num, rfl, hid (by rw [take_snoc HEQ.out, List.any_append, ← hbb.out]; simp [HQ1.out]), hid (HE.out.trans HDr.out)⟩
                  case measure => simp [intOf]; omega
                · clear hq1 hq
                  go_wp2
                  refine WG.start (fun w' => w'.cell? ⟨b1, o1 + n * 2, none⟩ = some (.int .i64 q.id) ∧ w'.cell? ⟨b1, o1 + n * 2 + 1, none⟩ = some (.int .i64 q.to) ∧ w'.cell? ⟨w1.heap.size, 0, none⟩ = some (.int .i64 mid) ∧ w'.cell? ⟨w1.heap.size, 1, none⟩ = some (.int .i64 mto) ∧ Ext wr w') [9] (by kernel_rfl) (by exact KH.out _ HDr.out) (fun hHeld => ?_)
                  (refine WG.take (i := 0) (v := ?_) rfl (by kernel_rfl) (by kernel_rfl) (by kernel_rfl) (by kernel_rfl) (fun _ _ _ h => h) (Or.inl ⟨by rfl, ?_⟩) (by assumption) ?_; rotate_left; (intro w hSw; (try dsimp only at hSw); go_split_ands; go_simp; (try with_reducible rfl)); (try simp only [Act.put, List.setIfInBounds_toArray, List.set_cons_zero, List.set_cons_succ]))
                  (refine WG.take (i := 1) (v := ?_) rfl (by kernel_rfl) (by kernel_rfl) (by kernel_rfl) (by kernel_rfl) (fun _ _ _ h => h) (Or.inl ⟨by rfl, ?_⟩) (by assumption) ?_; rotate_left; (intro w hSw; (try dsimp only at hSw); go_split_ands; go_simp; (try with_reducible rfl)); (try simp only [Act.put, List.setIfInBounds_toArray, List.set_cons_zero, List.set_cons_succ]))
                  (refine WG.take (i := 2) (v := ?_) rfl (by kernel_rfl) (by kernel_rfl) (by kernel_rfl) (by kernel_rfl) (fun _ _ _ h => h) (Or.inl ⟨by rfl, ?_⟩) (by assumption) ?_; rotate_left; (intro w hSw; (try dsimp only at hSw); go_split_ands; go_simp; (try with_reducible rfl)); (try simp only [Act.put, List.setIfInBounds_toArray, List.set_cons_zero, List.set_cons_succ]))
                  (refine WG.take (i := 3) (v := ?_) rfl (by kernel_rfl) (by kernel_rfl) (by kernel_rfl) (by kernel_rfl) (fun _ _ _ h => h) (Or.inl ⟨by rfl, ?_⟩) (by assumption) ?_; rotate_left; (intro w hSw; (try dsimp only at hSw); go_split_ands; go_simp; (try with_reducible rfl)); (try simp only [Act.put, List.setIfInBounds_toArray, List.set_cons_zero, List.set_cons_succ]))
                  (refine WG.take (i := 4) (v := ?_) rfl (by kernel_rfl) (by kernel_rfl) (by kernel_rfl) (by kernel_rfl) (fun _ _ _ h => h) (Or.inl ⟨by rfl, ?_⟩) (by assumption) ?_; rotate_left; (intro w hSw; (try dsimp only at hSw); go_split_ands; go_simp; (try with_reducible rfl)); (try simp only [Act.put, List.setIfInBounds_toArray, List.set_cons_zero, List.set_cons_succ]))
                  (refine WG.take (i := 5) (v := ?_) rfl (by kernel_rfl) (by kernel_rfl) (by kernel_rfl) (by kernel_rfl) (fun _ _ _ h => h) (Or.inl ⟨by rfl, ?_⟩) (by assumption) ?_; rotate_left; (intro w hSw; (try dsimp only at hSw); go_split_ands; go_simp; (try with_reducible rfl)); (try simp only [Act.put, List.setIfInBounds_toArray, List.set_cons_zero, List.set_cons_succ]))
                  (refine WG.take (i := 6) (v := ?_) rfl (by kernel_rfl) (by kernel_rfl) (by kernel_rfl) (by kernel_rfl) (fun _ _ _ h => h) (Or.inl ⟨by rfl, ?_⟩) (by assumption) ?_; rotate_left; (intro w hSw; (try dsimp only at hSw); go_split_ands; go_simp; (try with_reducible rfl)); (try simp only [Act.put, List.setIfInBounds_toArray, List.set_cons_zero, List.set_cons_succ]))
                  (refine WG.take (i := 7) (v := ?_) rfl (by kernel_rfl) (by kernel_rfl) (by kernel_rfl) (by kernel_rfl) (fun _ _ _ h => h) (Or.inl ⟨by rfl, ?_⟩) (by assumption) ?_; rotate_left; (intro w hSw; (try dsimp only at hSw); go_split_ands; go_simp; (try with_reducible rfl)); (try simp only [Act.put, List.setIfInBounds_toArray, List.set_cons_zero, List.set_cons_succ]))
                  (refine WG.take (i := 8) (v := ?_) rfl (by kernel_rfl) (by kernel_rfl) (by kernel_rfl) (by kernel_rfl) (fun _ _ _ h => h) (Or.inl ⟨by rfl, ?_⟩) (by assumption) ?_; rotate_left; (intro w hSw; (try dsimp only at hSw); go_split_ands; go_simp; (try with_reducible rfl)); (try simp only [Act.put, List.setIfInBounds_toArray, List.set_cons_zero, List.set_cons_succ]))
                  refine WG.last (i := 9) rfl (by kernel_rfl) (by kernel_rfl) (fun K hK => ?_)
                  go_simp
                  refine hK.out _ _ ?_
                  clear hK K
                  (try simp only [Act.put, List.setIfInBounds_toArray, List.set_cons_zero, List.set_cons_succ])
                  refine WG.done (by kernel_rfl) ?_
                  go_wp2
                  go_roundw
                  case rel => exact ⟨n + 1, false, by omega, by go_num, rfl, hid (by rw [take_snoc HEQ.out, List.any_append, ← hbb.out]; simp [HQ1.out]), hid (HE.out.trans HDr.out)⟩
                  case measure => simp [intOf]; omega
          · have i1 : ¬ (n : Int) < (ls.length : Int) := by omega
            have hnl : n = ls.length := by omega
            have hbv : b = true := by rw [hbb.out, hnl, List.take_length]; exact HANY.out
            subst hbv
            clear hlt hnl hbb
            go_wp2
            go_ret
            exact ⟨rfl, HEW.out.trans (HE6.out.trans HE.out)⟩
  · have i1 : (1048576 : Int) < (bs.length : Int) := by omega
    go_enter Tryd.func11, Tryd.ntmps11
    go_wp2
    go_ret
    exact ⟨rfl, Ext.refl _⟩

end Go.Proofs.YtibpijjigopdjaaDoor
