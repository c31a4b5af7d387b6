/- The law FnMoveLoad. -/
import Derived.Test.YtibpijjigopdjaaDoorK14
namespace Go.Proofs.YtibpijjigopdjaaDoor
open Go.RowKit
set_option maxRecDepth 4000

theorem RB.cell_ {w : World} {A : Option Addr} {n c : Nat} {bs : List (List TaskD)} (h : RB w (.slice A n c) bs) {k : Nat} {d : List TaskD} (hk : bs[k]? = some d) : ∃ b o Ad cd, A = some ⟨b, o, none⟩ ∧ w.cell? ⟨b, o + k, none⟩ = some (.slice Ad d.length cd) ∧ RT w (.slice Ad d.length cd) d := by
  obtain ⟨A', c', hv, _, _, hg⟩ := RB.get h
  injection hv with e1 _ e3
  subst e1 e3
  obtain ⟨b, o, x, Ad, cd, hA, e, c1, hr⟩ := hg k (List.getElem?_eq_some_iff.1 hk).1
  have hx : x = d := by have h3 := e.out; rw [hk] at h3; injection h3 with h3; exact h3.symm
  subst hx
  exact ⟨b, o, Ad, cd, hA, c1, hr⟩

set_option maxHeartbeats 8000000 in
theorem lawMoveLoad (v : Value) (bs : List Int) (w : World) (h : XBy w v bs) (a : Addr) (hga : w.cell? ⟨0, 0, none⟩ = some (errV a)) :
    Calls Tryd.prog 4 #[v] w (RetB w true) := by
  have HB := hid h
  have HGA := hid hga
  obtain ⟨A, c, rfl, _⟩ := h
  clear hga
  by_cases h1 : bs.length ≤ 1048576
  · have i1 : ¬ (1048576 : Int) < (bs.length : Int) := by omega
    go_enter Tryd.func4, Tryd.ntmps4
    go_wp2_with (go_at_call 22; refine (dDrawMoveDo _ bs _ HB.out (by omega)).mono ?_; rintro e w1 ⟨rv, nv, room, Bs, mid, mto, rfl, hr, hb, hl, hfl, hgt, hmi, hmt, hE1⟩; have HR0 := hid hr; have HN0 := hid hb; have HS := hid (show SmallN Bs from ⟨hl, hfl, hgt⟩); have HMI := hid hmi; have HG0 := hid (hE1.cell HGA.out); have HE1 := hid hE1; obtain ⟨Ar, cr, rfl, _⟩ := hr; obtain ⟨An, cn, rfl, _⟩ := hb; obtain ⟨y0, y1, y0f, y1f, k1, k1f, hkk, _⟩ := box2 (heap_alloc_new w1 (.cells #[.int .i64 0, .int .i64 0] 32)) (.int .i64 mid) (.int .i64 mto); clear hl hfl hgt hmi hE1 hkk)
    obtain ⟨W, hW⟩ : ∃ W, W = w1.alloc (.cells #[.int .i64 mid, .int .i64 mto] 32) := ⟨_, rfl⟩
    have hEW : Ext w1 W := by rw [hW]; exact Ext.alloc _ _
    have hbx : W.heap[w1.heap.size]? = some (.cells #[.int .i64 mid, .int .i64 mto] 32 (0, 0)) := by rw [hW]; exact heap_alloc_new _ _
    have KB : Hid (∀ w', Ext W w' → w'.cell? ⟨w1.heap.size, 0, none⟩ = some (.int .i64 mid) ∧ w'.cell? ⟨w1.heap.size, 1, none⟩ = some (.int .i64 mto)) := hid fun w' hw => ⟨obj_cell (hw.obj hbx) (i := 0) rfl, obj_cell (hw.obj hbx) (i := 1) rfl⟩
    obtain ⟨hb0, hb1⟩ := KB.out _ (Ext.refl _)
    have HR := hid (RI.ext HR0.out hEW)
    have HN := hid (RB.ext HN0.out hEW)
    have HG := hid (hEW.cell HG0.out)
    have HEW := hid (HE1.out.trans hEW)
    rw [← hW]
    clear hW y0 y1 y0f y1f k1 k1f hEW hbx
    obtain ⟨R, hR⟩ : ∃ R, R = moveDo room Bs ⟨mid, mto⟩ := ⟨_, rfl⟩
    have HRR := hid hR
    have TOK1 : Hid True := hid trivial
    clear hR
    cases hok : R.2 with
    | false =>
      have HOK := hid hok
      go_wp2_with (first
        | (go_at_call 25; clear TOK2; refine (lSameBins _ _ R.1 _ (RB.ext HX2.out (HE23.out.trans HE34.out)) (RB.ext HX3.out HE34.out)).mono ?_; rintro e w5 ⟨rfl, hE5⟩; have HE5 := hid (HE4.out.trans hE5); clear hE5)
        | (go_at_call 25; refine (lSameBins _ _ R.1 _ (RB.ext HX2.out HE23.out) HX3.out).mono ?_; rintro e w4 ⟨rfl, hE4⟩; have HE34 := hid hE4; have HE4 := hid (HE3.out.trans hE4); have TOK2 : Hid True := hid trivial; obtain ⟨hb0, hb1⟩ := KB.out _ HE4.out; clear hE4)
        | (go_at_call 24; refine (sMoveDo _ _ room Bs mid mto _ (RI.ext HR.out HE2.out) (RB.ext HN.out HE2.out) (by have := HS.out.2.1; omega)).mono ?_; rw [← HRR.out]; unfold RetMB; rw [HOK.out]; rintro e w3 ⟨v3, rfl, hd3, hE3⟩; have HX3 := hid hd3; have HE23 := hid hE3; have HE3 := hid (HE2.out.trans hE3); obtain ⟨hb0, hb1⟩ := KB.out _ HE3.out; clear hd3 hE3)
        | (go_at_call 23; clear TOK1; refine (iMoveDo _ _ room Bs mid mto a _ HR.out HN.out (by have := HS.out.2.1; omega) (fun t ht => (HS.out.2.2 t ht).2.2) HG.out).mono ?_; rw [← HRR.out]; unfold RetMBD; rw [HOK.out]; rintro e w2 ⟨v2, rfl, hd2, hE2⟩; have hx2 := hd2.read; have HX2 := hid hx2; obtain ⟨A2, c2', rfl, _⟩ := hx2; have HE2 := hid hE2; obtain ⟨hb0, hb1⟩ := KB.out _ hE2; clear hd2 hE2))
      all_goals (go_ret; exact ⟨rfl, HEW.out.trans HE5.out⟩)
    | true =>
      have HOK := hid hok
      obtain ⟨hvB, hcB, hRe⟩ := moveDo_ok HRR.out hok
      have HVB := hid hvB
      have HCB := hid hcB
      have HRE := hid hRe
      obtain ⟨f, t, k, b, c0, x0, hmp⟩ := can_parts (bins_once hvB) hcB
      have HMP := hid hmp
      have HVR : Hid (binsOk room R.1 = true) := hid (by rw [hRe]; exact hmp.valid hvB)
      clear hok hvB hcB hRe hmp

      have hto : mto = (t : Int) := HMP.out.to
      subst hto
      have hne := HMP.out.ne
      have hfl := (List.getElem?_eq_some_iff.1 HMP.out.hb).1
      have htl := (List.getElem?_eq_some_iff.1 HMP.out.hc).1
      have hRf : R.1[f]? = some (b.eraseIdx k) := by rw [HRE.out, HMP.out.eq, List.getElem?_set_ne hne, List.getElem?_set_self hfl]
      have hRt : R.1[t]? = some (c0 ++ [x0]) := by rw [HRE.out, HMP.out.eq, List.getElem?_set_self (by rw [List.length_set]; exact htl)]
      have hRn : ∀ n : Nat, n ≠ f → n ≠ t → R.1[n]? = Bs[n]? := fun n h1 h2 => by rw [HRE.out, HMP.out.eq, List.getElem?_set_ne (Ne.symm h2), List.getElem?_set_ne (Ne.symm h1)]
      have hRl : R.1.length = Bs.length := by rw [HRE.out]; exact HMP.out.len
      have hkb := (List.getElem?_eq_some_iff.1 HMP.out.hx).1
      obtain ⟨bl, hbl⟩ : ∃ bl, b.length = bl + 1 := ⟨b.length - 1, by omega⟩
      have hel : (b.eraseIdx k).length = bl := by rw [List.length_eraseIdx, if_pos hkb]; omega
      have HRF := hid hRf
      have HRT := hid hRt
      have HRN := hid hRn
      have HRL := hid hRl
      have HBL := hid hbl
      have HEL := hid hel
      have HNE := hid hne
      have HHB := hid HMP.out.hb
      have HHC := hid HMP.out.hc
      have hblm : bl ≤ 900 := by have := ((bins_small HVB.out).2.2.2 b (List.mem_of_getElem? HMP.out.hb)).2.1; omega
      have hcl : c0.length ≤ 900 := ((bins_small HVB.out).2.2.2 c0 (List.mem_of_getElem? HMP.out.hc)).2.1
      clear hRf hRt hRn hRl hkb hbl hel hne
      go_wp2_with (first
        | (go_at_call 21; refine (iBinsWhere _ _ room Bs mid _ (RI.ext HR.out HE4.out) (RB.ext HN.out HE4.out) (bins_fl HVB.out) (bins_id HVB.out) HVB.out).mono ?_; rw [HMP.out.wf]; rintro e w5 ⟨rfl, hE5⟩; have HE45 := hid hE5; have HE5 := hid (HE4.out.trans hE5); clear hE5 hb0 hb1)
        | (go_at_call 25; refine (lSameBins _ _ R.1 _ (RB.ext HX2.out HE23.out) HX3.out).mono ?_; rintro e w4 ⟨rfl, hE4⟩; have HE34 := hid hE4; have HE4 := hid (HE3.out.trans hE4); have TOK2 : Hid True := hid trivial; obtain ⟨hb0, hb1⟩ := KB.out _ HE4.out; clear hE4)
        | (go_at_call 24; refine (sMoveDo _ _ room Bs mid (t : Int) _ (RI.ext HR.out HE2.out) (RB.ext HN.out HE2.out) (by have := HS.out.2.1; omega)).mono ?_; rw [← HRR.out]; unfold RetMB; rw [HOK.out]; rintro e w3 ⟨v3, rfl, hd3, hE3⟩; have HX3 := hid hd3; have HE23 := hid hE3; have HE3 := hid (HE2.out.trans hE3); obtain ⟨hb0, hb1⟩ := KB.out _ HE3.out; clear hd3 hE3)
        | (go_at_call 23; clear TOK1; refine (iMoveDo _ _ room Bs mid (t : Int) a _ HR.out HN.out (by have := HS.out.2.1; omega) (fun t ht => (HS.out.2.2 t ht).2.2) HG.out).mono ?_; rw [← HRR.out]; unfold RetMBD; rw [HOK.out]; rintro e w2 ⟨v2, rfl, hd2, hE2⟩; have hx2 := hd2.read; have HX2 := hid hx2; obtain ⟨A2, c2', rfl, _⟩ := hx2; have HE2 := hid hE2; obtain ⟨hb0, hb1⟩ := KB.out _ hE2; clear hd2 hE2))
      go_loopw [11] (fun i wr => ∃ n : Nat, n ≤ Bs.length ∧ i = .int .i64 n ∧ Hid (Ext w5 wr)) (fun i _ => Bs.length - (intOf i).toNat)
      case atStart => exact ⟨0, Nat.zero_le _, rfl, hid (Ext.refl _)⟩
      case round =>
        obtain ⟨n, hn, rfl, HE⟩ := hrel
        have hBs14 : Bs.length ≤ 14 := (bins_small HVB.out).2.1
        have HOO : Hid (Ext w2 wr) := hid (HE23.out.trans (HE34.out.trans (HE45.out.trans HE.out)))
        have HBB : Hid (Ext W wr) := hid (HE5.out.trans HE.out)
        by_cases hlt : n < Bs.length
        · obtain ⟨d, hd⟩ : ∃ d, Bs[n]? = some d := ⟨_, List.getElem?_eq_getElem hlt⟩
          obtain ⟨er, her⟩ : ∃ er, R.1[n]? = some er := ⟨_, List.getElem?_eq_getElem (by rw [HRL.out]; exact hlt)⟩
          obtain ⟨b1, o1, Ad, cd, rfl, c1, hdn⟩ := RB.cell_ HN.out hd
          obtain ⟨b2, o2, Ae, ce, rfl, c2, hen⟩ := RB.cell_ HX2.out her
          have i1 : (n : Int) < (Bs.length : Int) := by omega
          have i2 : (n : Int) < (R.1.length : Int) := by rw [HRL.out]; omega
          have i0 : (0 : Int) ≤ (n : Int) := by omega
          have KH : Hid (∀ w', Ext wr w' → w'.cell? ⟨b1, o1 + n, none⟩ = some (.slice Ad d.length cd) ∧ w'.cell? ⟨b2, o2 + n, none⟩ = some (.slice Ae er.length ce) ∧ w'.cell? ⟨w1.heap.size, 1, none⟩ = some (.int .i64 (t : Int))) := hid fun w' hw => ⟨(HBB.out.trans hw).cell c1, (HOO.out.trans hw).cell c2, (KB.out _ (HBB.out.trans hw)).2⟩
          have HD := hid (RT.ext hdn HBB.out)
          have HEN := hid (RT.ext hen HOO.out)
          have HDQ := hid hd
          have HEQ := hid her
          have HDr : Hid (Ext wr wr.drew) := hid (Below.drew (Below.refl _ _))
          clear c1 c2 hdn hen hd her
          by_cases hnf : n = f
          · subst hnf
            go_wp2
            refine WG.start (fun w' => w'.cell? ⟨b1, o1 + n, none⟩ = some (.slice Ad d.length cd) ∧ w'.cell? ⟨b2, o2 + n, none⟩ = some (.slice Ae er.length ce) ∧ w'.cell? ⟨w1.heap.size, 1, none⟩ = some (.int .i64 (t : Int))) [] (by kernel_rfl) (by exact KH.out _ HDr.out) (fun hHeld => ?_)
            (refine WG.take (i := 0) (v := ?_) rfl (by kernel_rfl) (by kernel_rfl) (by kernel_rfl) (by kernel_rfl) (fun _ _ _ h => h) (Or.inl ⟨by rfl, ?_⟩) (by assumption) ?_; rotate_left; (intro w hSw; (try dsimp only at hSw); go_split_ands; go_simp; (try with_reducible rfl)); (try simp only [Act.put, List.setIfInBounds_toArray, List.set_cons_zero, List.set_cons_succ]))
            (refine WG.take (i := 1) (v := ?_) rfl (by kernel_rfl) (by kernel_rfl) (by kernel_rfl) (by kernel_rfl) (fun _ _ _ h => h) (Or.inl ⟨by rfl, ?_⟩) (by assumption) ?_; rotate_left; (intro w hSw; (try dsimp only at hSw); go_split_ands; go_simp; (try with_reducible rfl)); (try simp only [Act.put, List.setIfInBounds_toArray, List.set_cons_zero, List.set_cons_succ]))
            (refine WG.take (i := 2) (v := ?_) rfl (by kernel_rfl) (by kernel_rfl) (by kernel_rfl) (by kernel_rfl) (fun _ _ _ h => h) (Or.inl ⟨by rfl, ?_⟩) (by assumption) ?_; rotate_left; (intro w hSw; (try dsimp only at hSw); go_split_ands; go_simp; (try with_reducible rfl)); (try simp only [Act.put, List.setIfInBounds_toArray, List.set_cons_zero, List.set_cons_succ]))
            (refine WG.take (i := 3) (v := ?_) rfl (by kernel_rfl) (by kernel_rfl) (by kernel_rfl) (by kernel_rfl) (fun _ _ _ h => h) (Or.inl ⟨by rfl, ?_⟩) (by assumption) ?_; rotate_left; (intro w hSw; (try dsimp only at hSw); go_split_ands; go_simp; (try with_reducible rfl)); (try simp only [Act.put, List.setIfInBounds_toArray, List.set_cons_zero, List.set_cons_succ]))
            (refine WG.take (i := 4) rfl (by kernel_rfl) (by kernel_rfl) (by kernel_rfl) (by kernel_rfl) (fun _ _ _ h => h) (Or.inr ⟨?_, rfl⟩) (by assumption) ?_; go_simp; (try simp only [Act.put, List.setIfInBounds_toArray, List.set_cons_zero, List.set_cons_succ]))
            (refine WG.take (i := 5) rfl (by kernel_rfl) (by kernel_rfl) (by kernel_rfl) (by kernel_rfl) (fun _ _ _ h => h) (Or.inr ⟨?_, rfl⟩) (by assumption) ?_; go_simp; (try simp only [Act.put, List.setIfInBounds_toArray, List.set_cons_zero, List.set_cons_succ]))
            (refine WG.take (i := 6) rfl (by kernel_rfl) (by kernel_rfl) (by kernel_rfl) (by kernel_rfl) (fun _ _ _ h => h) (Or.inr ⟨?_, rfl⟩) (by assumption) ?_; go_simp; (try simp only [Act.put, List.setIfInBounds_toArray, List.set_cons_zero, List.set_cons_succ]))
            (refine WG.take (i := 7) rfl (by kernel_rfl) (by kernel_rfl) (by kernel_rfl) (by kernel_rfl) (fun _ _ _ h => h) (Or.inr ⟨?_, rfl⟩) (by assumption) ?_; go_simp; (try simp only [Act.put, List.setIfInBounds_toArray, List.set_cons_zero, List.set_cons_succ]))
            (refine WG.take (i := 8) (v := ?_) rfl (by kernel_rfl) (by kernel_rfl) (by kernel_rfl) (by kernel_rfl) (fun _ _ _ h => h) (Or.inl ⟨by rfl, ?_⟩) (by assumption) ?_; rotate_left; (intro w hSw; (try dsimp only at hSw); go_split_ands; go_simp; (try with_reducible rfl)); (try simp only [Act.put, List.setIfInBounds_toArray, List.set_cons_zero, List.set_cons_succ]))
            (refine WG.take (i := 9) (v := ?_) rfl (by kernel_rfl) (by kernel_rfl) (by kernel_rfl) (by kernel_rfl) (fun _ _ _ h => h) (Or.inl ⟨by rfl, ?_⟩) (by assumption) ?_; rotate_left; (intro w hSw; (try dsimp only at hSw); go_split_ands; go_simp; (try with_reducible rfl)); (try simp only [Act.put, List.setIfInBounds_toArray, List.set_cons_zero, List.set_cons_succ]))
            (refine WG.take (i := 10) rfl (by kernel_rfl) (by kernel_rfl) (by kernel_rfl) (by kernel_rfl) (fun _ _ _ h => h) (Or.inr ⟨?_, rfl⟩) (by assumption) ?_; go_simp; (try simp only [Act.put, List.setIfInBounds_toArray, List.set_cons_zero, List.set_cons_succ]))
            (refine WG.take (i := 11) rfl (by kernel_rfl) (by kernel_rfl) (by kernel_rfl) (by kernel_rfl) (fun _ _ _ h => h) (Or.inr ⟨?_, rfl⟩) (by assumption) ?_; go_simp; (try simp only [Act.put, List.setIfInBounds_toArray, List.set_cons_zero, List.set_cons_succ]))
            (refine WG.take (i := 12) rfl (by kernel_rfl) (by kernel_rfl) (by kernel_rfl) (by kernel_rfl) (fun _ _ _ h => h) (Or.inr ⟨?_, rfl⟩) (by assumption) ?_; go_simp; (try simp only [Act.put, List.setIfInBounds_toArray, List.set_cons_zero, List.set_cons_succ]))
            (refine WG.take (i := 13) rfl (by kernel_rfl) (by kernel_rfl) (by kernel_rfl) (by kernel_rfl) (fun _ _ _ h => h) (Or.inr ⟨?_, rfl⟩) (by assumption) ?_; go_simp; (try simp only [Act.put, List.setIfInBounds_toArray, List.set_cons_zero, List.set_cons_succ]))
            (refine WG.take (i := 14) rfl (by kernel_rfl) (by kernel_rfl) (by kernel_rfl) (by kernel_rfl) (fun _ _ _ h => h) (Or.inr ⟨?_, rfl⟩) (by assumption) ?_; go_simp; (try simp only [Act.put, List.setIfInBounds_toArray, List.set_cons_zero, List.set_cons_succ]))
            (refine WG.take (i := 15) rfl (by kernel_rfl) (by kernel_rfl) (by kernel_rfl) (by kernel_rfl) (fun _ _ _ h => h) (Or.inr ⟨?_, rfl⟩) (by assumption) ?_; go_simp; (try simp only [Act.put, List.setIfInBounds_toArray, List.set_cons_zero, List.set_cons_succ]))
            (refine WG.take (i := 16) rfl (by kernel_rfl) (by kernel_rfl) (by kernel_rfl) (by kernel_rfl) (fun _ _ _ h => h) (Or.inr ⟨?_, rfl⟩) (by assumption) ?_; go_simp; (try simp only [Act.put, List.setIfInBounds_toArray, List.set_cons_zero, List.set_cons_succ]))
            (refine WG.take (i := 17) rfl (by kernel_rfl) (by kernel_rfl) (by kernel_rfl) (by kernel_rfl) (fun _ _ _ h => h) (Or.inr ⟨?_, rfl⟩) (by assumption) ?_; go_simp; (try simp only [Act.put, List.setIfInBounds_toArray, List.set_cons_zero, List.set_cons_succ]))
            (refine WG.take (i := 18) rfl (by kernel_rfl) (by kernel_rfl) (by kernel_rfl) (by kernel_rfl) (fun _ _ _ h => h) (Or.inr ⟨?_, rfl⟩) (by assumption) ?_; go_simp; (try simp only [Act.put, List.setIfInBounds_toArray, List.set_cons_zero, List.set_cons_succ]))
            (refine WG.take (i := 19) rfl (by kernel_rfl) (by kernel_rfl) (by kernel_rfl) (by kernel_rfl) (fun _ _ _ h => h) (Or.inr ⟨?_, rfl⟩) (by assumption) ?_; go_simp; (try simp only [Act.put, List.setIfInBounds_toArray, List.set_cons_zero, List.set_cons_succ]))
            (refine WG.take (i := 20) (v := ?_) rfl (by kernel_rfl) (by kernel_rfl) (by kernel_rfl) (by kernel_rfl) (fun _ _ _ h => h) (Or.inl ⟨by rfl, ?_⟩) (by assumption) ?_; rotate_left; (intro w hSw; (try dsimp only at hSw); go_split_ands; go_simp; (try with_reducible rfl)); (try simp only [Act.put, List.setIfInBounds_toArray, List.set_cons_zero, List.set_cons_succ]))
            refine WG.done (by kernel_rfl) ?_
            go_wp2
            go_roundw
            case rel => exact ⟨n + 1, by omega, by go_num, hid (HE.out.trans HDr.out)⟩
            case measure => simp [intOf]; omega
          · have HB1 : Hid (((n : Int) != (f : Int)) = true) := hid (by simp; omega)
            by_cases hnt : n = t
            · subst hnt
              go_wp2
              refine WG.start (fun w' => w'.cell? ⟨b1, o1 + n, none⟩ = some (.slice Ad d.length cd) ∧ w'.cell? ⟨b2, o2 + n, none⟩ = some (.slice Ae er.length ce) ∧ w'.cell? ⟨w1.heap.size, 1, none⟩ = some (.int .i64 (n : Int))) [] (by kernel_rfl) (by exact KH.out _ HDr.out) (fun hHeld => ?_)
              (refine WG.take (i := 0) (v := ?_) rfl (by kernel_rfl) (by kernel_rfl) (by kernel_rfl) (by kernel_rfl) (fun _ _ _ h => h) (Or.inl ⟨by rfl, ?_⟩) (by assumption) ?_; rotate_left; (intro w hSw; (try dsimp only at hSw); go_split_ands; go_simp; (try with_reducible rfl)); (try simp only [Act.put, List.setIfInBounds_toArray, List.set_cons_zero, List.set_cons_succ]))
              (refine WG.take (i := 1) (v := ?_) rfl (by kernel_rfl) (by kernel_rfl) (by kernel_rfl) (by kernel_rfl) (fun _ _ _ h => h) (Or.inl ⟨by rfl, ?_⟩) (by assumption) ?_; rotate_left; (intro w hSw; (try dsimp only at hSw); go_split_ands; go_simp; (try with_reducible rfl)); (try simp only [Act.put, List.setIfInBounds_toArray, List.set_cons_zero, List.set_cons_succ]))
              (refine WG.take (i := 2) (v := ?_) rfl (by kernel_rfl) (by kernel_rfl) (by kernel_rfl) (by kernel_rfl) (fun _ _ _ h => h) (Or.inl ⟨by rfl, ?_⟩) (by assumption) ?_; rotate_left; (intro w hSw; (try dsimp only at hSw); go_split_ands; go_simp; (try with_reducible rfl)); (try simp only [Act.put, List.setIfInBounds_toArray, List.set_cons_zero, List.set_cons_succ]))
              rw [HB1.out]
              (refine WG.take (i := 3) (v := ?_) rfl (by kernel_rfl) (by kernel_rfl) (by kernel_rfl) (by kernel_rfl) (fun _ _ _ h => h) (Or.inl ⟨by rfl, ?_⟩) (by assumption) ?_; rotate_left; (intro w hSw; (try dsimp only at hSw); go_split_ands; go_simp; (try with_reducible rfl)); (try simp only [Act.put, List.setIfInBounds_toArray, List.set_cons_zero, List.set_cons_succ]))
              (refine WG.take (i := 4) (v := ?_) rfl (by kernel_rfl) (by kernel_rfl) (by kernel_rfl) (by kernel_rfl) (fun _ _ _ h => h) (Or.inl ⟨by rfl, ?_⟩) (by assumption) ?_; rotate_left; (intro w hSw; (try dsimp only at hSw); go_split_ands; go_simp; (try with_reducible rfl)); (try simp only [Act.put, List.setIfInBounds_toArray, List.set_cons_zero, List.set_cons_succ]))
              (refine WG.take (i := 5) (v := ?_) rfl (by kernel_rfl) (by kernel_rfl) (by kernel_rfl) (by kernel_rfl) (fun _ _ _ h => h) (Or.inl ⟨by rfl, ?_⟩) (by assumption) ?_; rotate_left; (intro w hSw; (try dsimp only at hSw); go_split_ands; go_simp; (try with_reducible rfl)); (try simp only [Act.put, List.setIfInBounds_toArray, List.set_cons_zero, List.set_cons_succ]))
              (refine WG.take (i := 6) (v := ?_) rfl (by kernel_rfl) (by kernel_rfl) (by kernel_rfl) (by kernel_rfl) (fun _ _ _ h => h) (Or.inl ⟨by rfl, ?_⟩) (by assumption) ?_; rotate_left; (intro w hSw; (try dsimp only at hSw); go_split_ands; go_simp; (try with_reducible rfl)); (try simp only [Act.put, List.setIfInBounds_toArray, List.set_cons_zero, List.set_cons_succ]))
              (refine WG.take (i := 7) (v := ?_) rfl (by kernel_rfl) (by kernel_rfl) (by kernel_rfl) (by kernel_rfl) (fun _ _ _ h => h) (Or.inl ⟨by rfl, ?_⟩) (by assumption) ?_; rotate_left; (intro w hSw; (try dsimp only at hSw); go_split_ands; go_simp; (try with_reducible rfl)); (try simp only [Act.put, List.setIfInBounds_toArray, List.set_cons_zero, List.set_cons_succ]))
              (refine WG.take (i := 8) (v := ?_) rfl (by kernel_rfl) (by kernel_rfl) (by kernel_rfl) (by kernel_rfl) (fun _ _ _ h => h) (Or.inl ⟨by rfl, ?_⟩) (by assumption) ?_; rotate_left; (intro w hSw; (try dsimp only at hSw); go_split_ands; go_simp; (try with_reducible rfl)); (try simp only [Act.put, List.setIfInBounds_toArray, List.set_cons_zero, List.set_cons_succ]))
              (refine WG.take (i := 9) (v := ?_) rfl (by kernel_rfl) (by kernel_rfl) (by kernel_rfl) (by kernel_rfl) (fun _ _ _ h => h) (Or.inl ⟨by rfl, ?_⟩) (by assumption) ?_; rotate_left; (intro w hSw; (try dsimp only at hSw); go_split_ands; go_simp; (try with_reducible rfl)); (try simp only [Act.put, List.setIfInBounds_toArray, List.set_cons_zero, List.set_cons_succ]))
              (refine WG.take (i := 10) rfl (by kernel_rfl) (by kernel_rfl) (by kernel_rfl) (by kernel_rfl) (fun _ _ _ h => h) (Or.inr ⟨?_, rfl⟩) (by assumption) ?_; go_simp; (try simp only [Act.put, List.setIfInBounds_toArray, List.set_cons_zero, List.set_cons_succ]))
              (refine WG.take (i := 11) rfl (by kernel_rfl) (by kernel_rfl) (by kernel_rfl) (by kernel_rfl) (fun _ _ _ h => h) (Or.inr ⟨?_, rfl⟩) (by assumption) ?_; go_simp; (try simp only [Act.put, List.setIfInBounds_toArray, List.set_cons_zero, List.set_cons_succ]))
              (refine WG.take (i := 12) rfl (by kernel_rfl) (by kernel_rfl) (by kernel_rfl) (by kernel_rfl) (fun _ _ _ h => h) (Or.inr ⟨?_, rfl⟩) (by assumption) ?_; go_simp; (try simp only [Act.put, List.setIfInBounds_toArray, List.set_cons_zero, List.set_cons_succ]))
              (refine WG.take (i := 13) rfl (by kernel_rfl) (by kernel_rfl) (by kernel_rfl) (by kernel_rfl) (fun _ _ _ h => h) (Or.inr ⟨?_, rfl⟩) (by assumption) ?_; go_simp; (try simp only [Act.put, List.setIfInBounds_toArray, List.set_cons_zero, List.set_cons_succ]))
              (refine WG.take (i := 14) rfl (by kernel_rfl) (by kernel_rfl) (by kernel_rfl) (by kernel_rfl) (fun _ _ _ h => h) (Or.inr ⟨?_, rfl⟩) (by assumption) ?_; go_simp; (try simp only [Act.put, List.setIfInBounds_toArray, List.set_cons_zero, List.set_cons_succ]))
              (refine WG.take (i := 15) rfl (by kernel_rfl) (by kernel_rfl) (by kernel_rfl) (by kernel_rfl) (fun _ _ _ h => h) (Or.inr ⟨?_, rfl⟩) (by assumption) ?_; go_simp; (try simp only [Act.put, List.setIfInBounds_toArray, List.set_cons_zero, List.set_cons_succ]))
              (refine WG.take (i := 16) rfl (by kernel_rfl) (by kernel_rfl) (by kernel_rfl) (by kernel_rfl) (fun _ _ _ h => h) (Or.inr ⟨?_, rfl⟩) (by assumption) ?_; go_simp; (try simp only [Act.put, List.setIfInBounds_toArray, List.set_cons_zero, List.set_cons_succ]))
              (refine WG.take (i := 17) rfl (by kernel_rfl) (by kernel_rfl) (by kernel_rfl) (by kernel_rfl) (fun _ _ _ h => h) (Or.inr ⟨?_, rfl⟩) (by assumption) ?_; go_simp; (try simp only [Act.put, List.setIfInBounds_toArray, List.set_cons_zero, List.set_cons_succ]))
              (refine WG.take (i := 18) rfl (by kernel_rfl) (by kernel_rfl) (by kernel_rfl) (by kernel_rfl) (fun _ _ _ h => h) (Or.inr ⟨?_, rfl⟩) (by assumption) ?_; go_simp; (try simp only [Act.put, List.setIfInBounds_toArray, List.set_cons_zero, List.set_cons_succ]))
              (refine WG.take (i := 19) rfl (by kernel_rfl) (by kernel_rfl) (by kernel_rfl) (by kernel_rfl) (fun _ _ _ h => h) (Or.inr ⟨?_, rfl⟩) (by assumption) ?_; go_simp; (try simp only [Act.put, List.setIfInBounds_toArray, List.set_cons_zero, List.set_cons_succ]))
              (refine WG.take (i := 20) (v := ?_) rfl (by kernel_rfl) (by kernel_rfl) (by kernel_rfl) (by kernel_rfl) (fun _ _ _ h => h) (Or.inl ⟨by rfl, ?_⟩) (by assumption) ?_; rotate_left; (intro w hSw; (try dsimp only at hSw); go_split_ands; go_simp; (try with_reducible rfl)); (try simp only [Act.put, List.setIfInBounds_toArray, List.set_cons_zero, List.set_cons_succ]))
              refine WG.done (by kernel_rfl) ?_
              go_wp2
              go_roundw
              case rel => exact ⟨n + 1, by omega, by go_num, hid (HE.out.trans HDr.out)⟩
              case measure => simp [intOf]; omega
            · have HB2 : Hid (((n : Int) != (t : Int)) = true) := hid (by simp; omega)
              have hde : er = d := by have h3 := HRN.out n hnf hnt; rw [HEQ.out, HDQ.out] at h3; injection h3
              subst hde
              clear hnf hnt
              go_wp2
              refine WG.start (fun w' => w'.cell? ⟨b1, o1 + n, none⟩ = some (.slice Ad er.length cd) ∧ w'.cell? ⟨b2, o2 + n, none⟩ = some (.slice Ae er.length ce) ∧ w'.cell? ⟨w1.heap.size, 1, none⟩ = some (.int .i64 (t : Int))) [18,19,20] (by kernel_rfl) (by exact KH.out _ HDr.out) (fun hHeld => ?_)
              (refine WG.take (i := 0) (v := ?_) rfl (by kernel_rfl) (by kernel_rfl) (by kernel_rfl) (by kernel_rfl) (fun _ _ _ h => h) (Or.inl ⟨by rfl, ?_⟩) (by assumption) ?_; rotate_left; (intro w hSw; (try dsimp only at hSw); go_split_ands; go_simp; (try with_reducible rfl)); (try simp only [Act.put, List.setIfInBounds_toArray, List.set_cons_zero, List.set_cons_succ]))
              (refine WG.take (i := 1) (v := ?_) rfl (by kernel_rfl) (by kernel_rfl) (by kernel_rfl) (by kernel_rfl) (fun _ _ _ h => h) (Or.inl ⟨by rfl, ?_⟩) (by assumption) ?_; rotate_left; (intro w hSw; (try dsimp only at hSw); go_split_ands; go_simp; (try with_reducible rfl)); (try simp only [Act.put, List.setIfInBounds_toArray, List.set_cons_zero, List.set_cons_succ]))
              (refine WG.take (i := 2) (v := ?_) rfl (by kernel_rfl) (by kernel_rfl) (by kernel_rfl) (by kernel_rfl) (fun _ _ _ h => h) (Or.inl ⟨by rfl, ?_⟩) (by assumption) ?_; rotate_left; (intro w hSw; (try dsimp only at hSw); go_split_ands; go_simp; (try with_reducible rfl)); (try simp only [Act.put, List.setIfInBounds_toArray, List.set_cons_zero, List.set_cons_succ]))
              rw [HB1.out]
              (refine WG.take (i := 3) (v := ?_) rfl (by kernel_rfl) (by kernel_rfl) (by kernel_rfl) (by kernel_rfl) (fun _ _ _ h => h) (Or.inl ⟨by rfl, ?_⟩) (by assumption) ?_; rotate_left; (intro w hSw; (try dsimp only at hSw); go_split_ands; go_simp; (try with_reducible rfl)); (try simp only [Act.put, List.setIfInBounds_toArray, List.set_cons_zero, List.set_cons_succ]))
              (refine WG.take (i := 4) (v := ?_) rfl (by kernel_rfl) (by kernel_rfl) (by kernel_rfl) (by kernel_rfl) (fun _ _ _ h => h) (Or.inl ⟨by rfl, ?_⟩) (by assumption) ?_; rotate_left; (intro w hSw; (try dsimp only at hSw); go_split_ands; go_simp; (try with_reducible rfl)); (try simp only [Act.put, List.setIfInBounds_toArray, List.set_cons_zero, List.set_cons_succ]))
              (refine WG.take (i := 5) (v := ?_) rfl (by kernel_rfl) (by kernel_rfl) (by kernel_rfl) (by kernel_rfl) (fun _ _ _ h => h) (Or.inl ⟨by rfl, ?_⟩) (by assumption) ?_; rotate_left; (intro w hSw; (try dsimp only at hSw); go_split_ands; go_simp; (try with_reducible rfl)); (try simp only [Act.put, List.setIfInBounds_toArray, List.set_cons_zero, List.set_cons_succ]))
              (refine WG.take (i := 6) (v := ?_) rfl (by kernel_rfl) (by kernel_rfl) (by kernel_rfl) (by kernel_rfl) (fun _ _ _ h => h) (Or.inl ⟨by rfl, ?_⟩) (by assumption) ?_; rotate_left; (intro w hSw; (try dsimp only at hSw); go_split_ands; go_simp; (try with_reducible rfl)); (try simp only [Act.put, List.setIfInBounds_toArray, List.set_cons_zero, List.set_cons_succ]))
              (refine WG.take (i := 7) (v := ?_) rfl (by kernel_rfl) (by kernel_rfl) (by kernel_rfl) (by kernel_rfl) (fun _ _ _ h => h) (Or.inl ⟨by rfl, ?_⟩) (by assumption) ?_; rotate_left; (intro w hSw; (try dsimp only at hSw); go_split_ands; go_simp; (try with_reducible rfl)); (try simp only [Act.put, List.setIfInBounds_toArray, List.set_cons_zero, List.set_cons_succ]))
              rw [HB2.out]
              (refine WG.take (i := 8) (v := ?_) rfl (by kernel_rfl) (by kernel_rfl) (by kernel_rfl) (by kernel_rfl) (fun _ _ _ h => h) (Or.inl ⟨by rfl, ?_⟩) (by assumption) ?_; rotate_left; (intro w hSw; (try dsimp only at hSw); go_split_ands; go_simp; (try with_reducible rfl)); (try simp only [Act.put, List.setIfInBounds_toArray, List.set_cons_zero, List.set_cons_succ]))
              (refine WG.take (i := 9) (v := ?_) rfl (by kernel_rfl) (by kernel_rfl) (by kernel_rfl) (by kernel_rfl) (fun _ _ _ h => h) (Or.inl ⟨by rfl, ?_⟩) (by assumption) ?_; rotate_left; (intro w hSw; (try dsimp only at hSw); go_split_ands; go_simp; (try with_reducible rfl)); (try simp only [Act.put, List.setIfInBounds_toArray, List.set_cons_zero, List.set_cons_succ]))
              (refine WG.take (i := 10) (v := ?_) rfl (by kernel_rfl) (by kernel_rfl) (by kernel_rfl) (by kernel_rfl) (fun _ _ _ h => h) (Or.inl ⟨by rfl, ?_⟩) (by assumption) ?_; rotate_left; (intro w hSw; (try dsimp only at hSw); go_split_ands; go_simp; (try with_reducible rfl)); (try simp only [Act.put, List.setIfInBounds_toArray, List.set_cons_zero, List.set_cons_succ]))
              (refine WG.take (i := 11) (v := ?_) rfl (by kernel_rfl) (by kernel_rfl) (by kernel_rfl) (by kernel_rfl) (fun _ _ _ h => h) (Or.inl ⟨by rfl, ?_⟩) (by assumption) ?_; rotate_left; (intro w hSw; (try dsimp only at hSw); go_split_ands; go_simp; (try with_reducible rfl)); (try simp only [Act.put, List.setIfInBounds_toArray, List.set_cons_zero, List.set_cons_succ]))
              (refine WG.take (i := 12) (v := ?_) rfl (by kernel_rfl) (by kernel_rfl) (by kernel_rfl) (by kernel_rfl) (fun _ _ _ h => h) (Or.inl ⟨by rfl, ?_⟩) (by assumption) ?_; rotate_left; (intro w hSw; (try dsimp only at hSw); go_split_ands; go_simp; (try with_reducible rfl)); (try simp only [Act.put, List.setIfInBounds_toArray, List.set_cons_zero, List.set_cons_succ]))
              (refine WG.take (i := 13) (v := ?_) rfl (by kernel_rfl) (by kernel_rfl) (by kernel_rfl) (by kernel_rfl) (fun _ _ _ h => h) (Or.inl ⟨by rfl, ?_⟩) (by assumption) ?_; rotate_left; (intro w hSw; (try dsimp only at hSw); go_split_ands; go_simp; (try with_reducible rfl)); (try simp only [Act.put, List.setIfInBounds_toArray, List.set_cons_zero, List.set_cons_succ]))
              (refine WG.take (i := 14) (v := ?_) rfl (by kernel_rfl) (by kernel_rfl) (by kernel_rfl) (by kernel_rfl) (fun _ _ _ h => h) (Or.inl ⟨by rfl, ?_⟩) (by assumption) ?_; rotate_left; (intro w hSw; (try dsimp only at hSw); go_split_ands; go_simp; (try with_reducible rfl)); (try simp only [Act.put, List.setIfInBounds_toArray, List.set_cons_zero, List.set_cons_succ]))
              (refine WG.take (i := 15) (v := ?_) rfl (by kernel_rfl) (by kernel_rfl) (by kernel_rfl) (by kernel_rfl) (fun _ _ _ h => h) (Or.inl ⟨by rfl, ?_⟩) (by assumption) ?_; rotate_left; (intro w hSw; (try dsimp only at hSw); go_split_ands; go_simp; (try with_reducible rfl)); (try simp only [Act.put, List.setIfInBounds_toArray, List.set_cons_zero, List.set_cons_succ]))
              (refine WG.take (i := 16) (v := ?_) rfl (by kernel_rfl) (by kernel_rfl) (by kernel_rfl) (by kernel_rfl) (fun _ _ _ h => h) (Or.inl ⟨by rfl, ?_⟩) (by assumption) ?_; rotate_left; (intro w hSw; (try dsimp only at hSw); go_split_ands; go_simp; (try with_reducible rfl)); (try simp only [Act.put, List.setIfInBounds_toArray, List.set_cons_zero, List.set_cons_succ]))
              (refine WG.take (i := 17) (v := ?_) rfl (by kernel_rfl) (by kernel_rfl) (by kernel_rfl) (by kernel_rfl) (fun _ _ _ h => h) (Or.inl ⟨by rfl, ?_⟩) (by assumption) ?_; rotate_left; (intro w hSw; (try dsimp only at hSw); go_split_ands; go_simp; (try with_reducible rfl)); (try simp only [Act.put, List.setIfInBounds_toArray, List.set_cons_zero, List.set_cons_succ]))
              refine WG.last (i := 18) rfl (by kernel_rfl) (by kernel_rfl) (fun K hK => ?_)
              go_simp; refine (lSameTasks _ _ er _ (RT.ext HEN.out HDr.out) (RT.ext HD.out HDr.out)).mono ?_; rintro e7 w7 ⟨rfl, hE7⟩; have HE7 := hid (HDr.out.trans hE7); clear hE7; (try dsimp only)
              refine hK.out _ _ ?_
              clear hK K
              (try simp only [Act.put, List.setIfInBounds_toArray, List.set_cons_zero, List.set_cons_succ])
              refine WG.last (i := 19) rfl (by kernel_rfl) (by kernel_rfl) (fun K hK => ?_)
              go_simp
              refine hK.out _ _ ?_
              clear hK K
              (try simp only [Act.put, List.setIfInBounds_toArray, List.set_cons_zero, List.set_cons_succ])
              refine WG.last (i := 20) rfl (by kernel_rfl) (by kernel_rfl) (fun K hK => ?_)
              go_simp
              refine hK.out _ _ ?_
              clear hK K
              (try simp only [Act.put, List.setIfInBounds_toArray, List.set_cons_zero, List.set_cons_succ])
              refine WG.done (by kernel_rfl) ?_
              go_wp2
              go_roundw
              case rel => exact ⟨n + 1, by omega, by go_num, hid (HE.out.trans HE7.out)⟩
              case measure => simp [intOf]; omega
        · have i1 : ¬ (n : Int) < (Bs.length : Int) := by omega
          obtain ⟨b1, o1, A11, c11, rfl, q11, _⟩ := RB.cell_ HN.out HHB.out
          obtain ⟨b1', o1', A12, c12, hA, q12, _⟩ := RB.cell_ HN.out HHC.out
          injection hA with hA
          injection hA with e1 e2 _
          subst e1 e2
          obtain ⟨b2, o2, A21, c21, rfl, q21, _⟩ := RB.cell_ HX2.out HRF.out
          obtain ⟨b2', o2', A22, c22, hA, q22, _⟩ := RB.cell_ HX2.out HRT.out
          injection hA with hA
          injection hA with e1 e2 _
          subst e1 e2
          rw [HBL.out] at q11
          rw [HEL.out] at q21
          rw [show (c0 ++ [x0]).length = c0.length + 1 by simp] at q22
          have KH : Hid (∀ w', Ext wr w' → w'.cell? ⟨b1, o1 + f, none⟩ = some (.slice A11 (bl + 1) c11) ∧ w'.cell? ⟨b1, o1 + t, none⟩ = some (.slice A12 c0.length c12) ∧ w'.cell? ⟨b2, o2 + f, none⟩ = some (.slice A21 bl c21) ∧ w'.cell? ⟨b2, o2 + t, none⟩ = some (.slice A22 (c0.length + 1) c22) ∧ w'.cell? ⟨w1.heap.size, 1, none⟩ = some (.int .i64 (t : Int)) ∧ Ext wr w') := hid fun w' hw => ⟨(HBB.out.trans hw).cell q11, (HBB.out.trans hw).cell q12, (HOO.out.trans hw).cell q21, (HOO.out.trans hw).cell q22, (KB.out _ (HBB.out.trans hw)).2, hw⟩
          have i2 : (f : Int) < (Bs.length : Int) := by omega
          have i3 : (t : Int) < (Bs.length : Int) := by omega
          have i4 : (f : Int) < (R.1.length : Int) := by rw [HRL.out]; omega
          have i5 : (t : Int) < (R.1.length : Int) := by rw [HRL.out]; omega
          have i6 : (0 : Int) ≤ (f : Int) := by omega
          have i7 : (0 : Int) ≤ (t : Int) := by omega
          have hwr1 : IntKind.i64.wrap ((c0.length : Int) + 1) = (c0.length : Int) + 1 := by rw [IntKind.wrap_i64]; omega
          have hwr2 : IntKind.i64.wrap (bl : Int) = (bl : Int) := by rw [IntKind.wrap_i64]; omega
          clear hlt q11 q12 q21 q22
          go_wp2
          go_region_held3 (fun w' => w'.cell? ⟨b1, o1 + f, none⟩ = some (.slice A11 (bl + 1) c11) ∧ w'.cell? ⟨b1, o1 + t, none⟩ = some (.slice A12 c0.length c12) ∧ w'.cell? ⟨b2, o2 + f, none⟩ = some (.slice A21 bl c21) ∧ w'.cell? ⟨b2, o2 + t, none⟩ = some (.slice A22 (c0.length + 1) c22) ∧ w'.cell? ⟨w1.heap.size, 1, none⟩ = some (.int .i64 (t : Int)) ∧ Ext wr w')
            (first | exact KH.out _ (by assumption) | exact KH.out _ (Below.drew (Below.refl _ _)))
            (fail)
          all_goals go_wp2
          all_goals (go_ret; exact ⟨rfl, HEW.out.trans (HBB.out.trans (by first | assumption | exact Below.drew (Below.refl _ _)))⟩)
  · have i1 : (1048576 : Int) < (bs.length : Int) := by omega
    go_enter Tryd.func4, Tryd.ntmps4
    go_wp2
    go_ret
    exact ⟨rfl, Ext.refl _⟩

end Go.Proofs.YtibpijjigopdjaaDoor
