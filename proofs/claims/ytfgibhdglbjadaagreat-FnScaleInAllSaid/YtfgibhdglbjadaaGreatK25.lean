/- A cluster, a need and a number are drawn, and empty nodes are opened. -/
import Derived.Test.YtfgibhdglbjadaaGreatK9
namespace Go.Proofs.YtfgibhdglbjadaaGreat
open Go.RowKit
set_option maxRecDepth 4000
set_option maxRecDepth 4000

theorem OCl.units_ {w : World} {base : Nat} {A A2 : Option Addr} {n c n2 c2 : Nat} {C : ClusD} (h : OCl w base (.agg #[.slice A n c, .slice A2 n2 c2]) C) (hp : 0 < C.units.length) : ∃ gu ps, A2 = some ⟨gu, 0, none⟩ ∧ n2 = ps.length ∧ RI w (.slice A n c) C.room ∧ OUV w base (.slice (some ⟨gu, 0, none⟩) n2 c2) ps ∧ ps.map (·.1) = C.units ∧ (blocksOf ps).Nodup ∧ base ≤ gu := by
  obtain ⟨rv', uv', ps, he, h1, h2, h3, h4⟩ := h
  injection he with he
  injection he with he
  injection he with e1 he
  injection he with e2 _
  subst e1 e2
  have hl : 0 < ps.length := by rw [← h3, List.length_map] at hp; exact hp
  obtain ⟨gu, c', hv, hgu⟩ := Own.row h2 hl
  injection hv with e1 e2 e3
  subst e1 e3
  exact ⟨gu, ps, rfl, e2, h1, h2, h3, h4, hgu⟩
def DrawnI (w : World) (e : Ending) (w' : World) : Prop := ∃ (cv nv : Value) (C : ClusD) (need : List Int) (many : Int), e = .returned (.tuple #[cv, nv, .int .i64 many]) ∧ OCl w' w.heap.size cv C ∧ OI w' w.heap.size nv need ∧ need.length = 3 ∧ (∀ x ∈ need, -1 ≤ x ∧ x ≤ 21) ∧ SmallC C ∧ (-1 ≤ many ∧ many ≤ 7) ∧ Ext w w'

set_option maxHeartbeats 8000000 in
theorem dDrawScaleIn (v : Value) (bs : List Int) (w : World) (h : XBy w v bs) (hl : bs.length ≤ 4000000) :
    Calls Tryz.prog 44 #[v] w (DrawnI w) := by
  have HW := hid (Ext.alloc w (.cells #[.slice none 0 0, .slice none 0 0] 26))
  have HB := hid (h.ext (Ext.alloc w (.cells #[.slice none 0 0, .slice none 0 0] 26)))
  have Z0 := hid (heap_alloc_new w (.cells #[.slice none 0 0, .slice none 0 0] 26))
  clear h
  go_enter Tryz.func44, Tryz.ntmps44
  go_wp2_with (first
    | (go_at_call 48; refine (dOpen _ bs _ HB.out hl).mono ?_; rintro e w1 ⟨rfl, ⟨bv, bs', hr1⟩, hE1⟩; have HR1 := hid hr1; have HE1 := hid (HW.out.trans hE1); have Z1 := hid (hE1.obj Z0.out); obtain ⟨b, hb⟩ : ∃ b, b = (w.alloc (.cells #[.slice none 0 0, .slice none 0 0] 26)).heap.size := ⟨_, rfl⟩; have hbw : w.heap.size < b := (by rw [hb]; simp); rw [← hb] at HR1 ⊢; clear hb hr1 hE1)
    | (go_at_call 49; refine (dCluster b bv bs' 0 _ HR1.out (by omega)).mono ?_; rintro e w2 ⟨cv, C0, rfl, hO2, hS2, hD2⟩; obtain ⟨Ar, cr, Au, cu, rfl⟩ := hO2.form; obtain ⟨nr, hnr⟩ : ∃ nr, nr = C0.room.length := ⟨_, rfl⟩; obtain ⟨nu, hnu⟩ : ∃ nu, nu = C0.units.length := ⟨_, rfl⟩; rw [← hnr, ← hnu] at hO2 ⊢; have hnu10 : nu ≤ 10 := (by have := hS2.units; omega); have HNR := hid hnr; have HNU := hid hnu; have HSC := hid hS2; have HO2 := hid hO2; have HD2 := hid hD2; obtain ⟨y0, y1, y0f, y1f, k1, k1f, hkk, _⟩ := box2 (heap_alloc_new w2 (.cells #[.slice none 0 0, .slice none 0 0] 26)) (.slice Ar nr cr) (.slice Au nu cu); clear hkk hO2 hS2 hD2 hnr hnu))
  obtain ⟨W3, hW3⟩ : ∃ W3, W3 = w2.alloc (.cells #[.slice Ar nr cr, .slice Au nu cu] 26) := ⟨_, rfl⟩
  have hE3 : Ext w2 W3 := by rw [hW3]; exact Ext.alloc _ _
  have hX3 : W3.heap[w2.heap.size]? = some (.cells #[.slice Ar nr cr, .slice Au nu cu] 26 (0, 0)) := by rw [hW3]; exact heap_alloc_new _ _
  rw [← hW3]
  clear hW3 y0 y1 y0f y1f k1 k1f
  have X3 := hid hX3
  have HO3 := hid (HO2.out.ext hE3)
  have HD3 := hid (HD2.out.ext hE3)
  obtain ⟨H, hH⟩ : ∃ H, H = w2.heap.size := ⟨_, rfl⟩
  have hHw : w1.heap.size ≤ H := by rw [hH]; exact HD2.out.1.size
  have HLO := hid HR1.out.low
  have hb1 : b < w1.heap.size := HLO.out.1
  rw [← hH] at X3 ⊢
  clear hX3 hE3 hH
  obtain ⟨cvv, hcvv⟩ : ∃ x, x = Value.agg #[.slice Ar nr cr, .slice Au nu cu] := ⟨_, rfl⟩
  rw [← hcvv]
  clear hcvv
  go_loopw [7] (fun i wr => ∃ (k : Nat) (C : ClusD), k ≤ nu ∧ i = .int .i64 k ∧ Hid (C.units.length = nu ∧ C.room.length = nr ∧ SmallC C ∧ OCl wr w1.heap.size (.agg #[.slice Ar nr cr, .slice Au nu cu]) C ∧ wr.heap[H]? = some (.cells #[.slice Ar nr cr, .slice Au nu cu] 26 (0, 0)) ∧ DrawR w1 b bv bs' 0 (200 + k) wr)) (fun i _ => nu - (intOf i).toNat)
  case atStart => exact ⟨0, C0, Nat.zero_le _, rfl, hid ⟨HNU.out.symm, HNR.out.symm, HSC.out, HO3.out, X3.out, HD3.out⟩⟩
  case round =>
    obtain ⟨k, C, hk, rfl, HH⟩ := hrel
    have cX0 := obj_cell HH.out.2.2.2.2.1 (i := 0) rfl
    have cX1 := obj_cell HH.out.2.2.2.2.1 (i := 1) rfl
    by_cases hlt : k < nu
    · have i1 : (k : Int) < (nu : Int) := by omega
      have i0 : (0 : Int) ≤ (k : Int) := by omega
      have hku : k < C.units.length := by have := HH.out.1; omega
      obtain ⟨gu, ps, rfl, _, hRR, hOU, hPS, hND, hgu⟩ := HH.out.2.2.2.1.units_ (by omega)
      obtain ⟨u, huk⟩ : ∃ u, C.units[k]? = some u := ⟨_, List.getElem?_eq_getElem hku⟩
      obtain ⟨tv, hpk⟩ := at_fst hPS huk
      obtain ⟨cx, fx⟩ := OUV.at_ hOU hpk
      obtain ⟨ct, _, htv, _⟩ := OUV.at1 hOU hpk
      obtain ⟨At, cct, rfl, _, _⟩ := htv.form
      have HUK := hid huk
      have HPK := hid hpk
      have HRR := hid hRR
      have HOU := hid hOU
      have HPS := hid hPS
      have HND := hid hND
      clear huk hpk hRR hOU hPS hND htv fx cx hku
      by_cases ht : u.tasks.length = 0
      · have ht0 : (u.tasks.length : Int) = 0 := by omega
        go_wp2_with (go_at_call 87; obtain ⟨hg, pp, hpp, hr⟩ := HH.out.2.2.2.2.2; refine (dPick b bv bs' pp _ _ hr (by omega) (by omega)).mono ?_; rintro e w7 ⟨x7, rfl, hx, hg7, hr7⟩; have hx7 := pick_lt hx (by decide); have hdr := hid (DrawR.more HH.out.2.2.2.2.2 hg7 hr7 hpp); have HX7 := hid (hg7.obj (k := H) HH.out.2.2.2.2.1 (by omega)); have HR7 := hid (RI.same HRR.out (hg7.same hr _ (by rintro t rfl; decide))); have HOU7 := hid (Own.same (EUV.ok _) HOU.out (hg7.same hr _ notRd3)); have HOC7 := hid (OCl.same HH.out.2.2.2.1 (hg7.same hr _ notRd3)); obtain ⟨cx, fx⟩ := OUV.at_ HOU7.out HPK.out; have cX0 := obj_cell HX7.out (i := 0) rfl; have cX1 := obj_cell HX7.out (i := 1) rfl; clear hg hpp hr hg7 hr7 hx)
        · go_roundw
          case rel =>
            have hset := OUV.set0 HOU7.out HPK.out true
            refine ⟨k + 1, ⟨C.room, C.units.set k ⟨true, u.tasks⟩⟩, by omega, by go_num, hid ⟨by show (C.units.set k _).length = nu; rw [List.length_set]; exact HH.out.1, HH.out.2.1, HH.out.2.2.1.set k (HH.out.2.2.1.tasks u (List.mem_of_getElem? HUK.out)), ?_, obj_far HX7.out (p := ⟨gu, k * 2, none⟩) ?_ _, ?_⟩⟩
            · exact ⟨_, _, ps.set k (⟨true, u.tasks⟩, .slice At u.tasks.length cct), rfl, RI.same HR7.out (hset.2.mono (by rintro t rfl; decide)), hset.1, by rw [List.map_set, HPS.out], by rw [blocksOf_set HPK.out]; exact HND.out⟩
            · show H ≠ gu
              intro e
              have h1 := (Own.obj HOU7.out)
              obtain ⟨cur, hc⟩ := h1
              rw [← e, HX7.out] at hc
              injection hc with hc
              injection hc with _ h2 _
              revert h2
              decide
            · exact DrawR.mono (hdr.out.stored hgu HLO.out.1 HLO.out.2 _) (by omega)
          case measure => simp [intOf]; omega
        · go_roundw
          case rel => exact ⟨k + 1, C, by omega, by go_num, hid ⟨HH.out.1, HH.out.2.1, HH.out.2.2.1, HOC7.out, HX7.out, DrawR.mono hdr.out (by omega)⟩⟩
          case measure => simp [intOf]; omega
      · have ht0 : ¬ (u.tasks.length : Int) = 0 := by omega
        go_wp2
        go_roundw
        case rel => exact ⟨k + 1, C, by omega, by go_num, hid ⟨HH.out.1, HH.out.2.1, HH.out.2.2.1, HH.out.2.2.2.1, HH.out.2.2.2.2.1, DrawR.mono HH.out.2.2.2.2.2 (by omega)⟩⟩
        case measure => simp [intOf]; omega
    · have hk' : k = nu := by omega
      have i1 : ¬ (k : Int) < (nu : Int) := by omega
      go_wp2_with (go_at_call 50; obtain ⟨hg3, p3, hp3, hr3⟩ := HH.out.2.2.2.2.2; refine (dNeed b bv bs' p3 _ hr3 (by omega)).mono ?_; rintro e w4 ⟨nv, need, rfl, hON, hNL, hNB, hD4⟩; have hzr : w.heap.size ≤ wr.heap.size := Nat.le_trans HE1.out.size hg3.size; have X4 := hid (hD4.1.obj (k := H) HH.out.2.2.2.2.1 (by omega)); have HO4 := hid (OCl.same HH.out.2.2.2.1 (hD4.1.same hr3 _ notRd3)); have HN4 := hid (hON.low (base' := w.heap.size) hzr); have HD4 := hid (DrawR.then hg3 hp3 hD4); have HNL := hid hNL; have HNB := hid hNB; obtain ⟨An, cn, rfl, _, _⟩ := hON.form; clear hg3 hp3 hr3 hON hNL hNB hD4)
      have HDW : Hid (Ext w4 w4.drew) := hid (Below.drew (Below.refl _ _))
      have KS4 := hid (And.intro (obj_cell (HDW.out.obj X4.out) (i := 0) rfl) (obj_cell (HDW.out.obj X4.out) (i := 1) rfl))
      refine WG.start (fun w' => w'.cell? ⟨H, 0, none⟩ = some (.slice Ar nr cr) ∧ w'.cell? ⟨H, 1, none⟩ = some (.slice Au nu cu)) [10] (by kernel_rfl) (by exact KS4.out) (fun hHeld => ?_)
      (refine WG.take (i := 0) (v := ?_) rfl (by kernel_rfl) (by kernel_rfl) (by kernel_rfl) (by kernel_rfl) (fun _ _ _ h => h) (Or.inl ⟨by rfl, ?_⟩) (by assumption) ?_; rotate_left; (intro w hSw; (try dsimp only at hSw); go_split_ands; go_simp; (try with_reducible rfl)); (try simp only [Act.put, List.setIfInBounds_toArray, List.set_cons_zero, List.set_cons_succ]))
      (refine WG.take (i := 1) (v := ?_) rfl (by kernel_rfl) (by kernel_rfl) (by kernel_rfl) (by kernel_rfl) (fun _ _ _ h => h) (Or.inl ⟨by rfl, ?_⟩) (by assumption) ?_; rotate_left; (intro w hSw; (try dsimp only at hSw); go_split_ands; go_simp; (try with_reducible rfl)); (try simp only [Act.put, List.setIfInBounds_toArray, List.set_cons_zero, List.set_cons_succ]))
      (refine WG.take (i := 2) (v := ?_) rfl (by kernel_rfl) (by kernel_rfl) (by kernel_rfl) (by kernel_rfl) (fun _ _ _ h => h) (Or.inl ⟨by rfl, ?_⟩) (by assumption) ?_; rotate_left; (intro w hSw; (try dsimp only at hSw); go_split_ands; go_simp; (try with_reducible rfl)); (try simp only [Act.put, List.setIfInBounds_toArray, List.set_cons_zero, List.set_cons_succ]))
      (refine WG.take (i := 4) (v := ?_) rfl (by kernel_rfl) (by kernel_rfl) (by kernel_rfl) (by kernel_rfl) (fun _ _ _ h => h) (Or.inl ⟨by rfl, ?_⟩) (by assumption) ?_; rotate_left; (intro w hSw; (try dsimp only at hSw); go_split_ands; go_simp; (try with_reducible rfl)); (try simp only [Act.put, List.setIfInBounds_toArray, List.set_cons_zero, List.set_cons_succ]))
      refine WG.one (i := 3) rfl (by kernel_rfl) (fun K hK => ?_)
      go_simp; obtain ⟨hg, pp, hpp, hr⟩ := HD4.out.ext HDW.out; refine (dPick b bv bs' pp _ _ hr (by omega) (by omega)).mono ?_; rintro e w5 ⟨x5, rfl, hx, hg5, hr5⟩; have hx5 := pick_lt hx (by decide); have X5 := hid (hg5.obj (k := H) (HDW.out.obj X4.out) (by omega)); have HO5 := hid (OCl.same (HO4.out.ext HDW.out) (hg5.same hr _ notRd3)); have HN5 := hid (Own.same EI.ok (Own.ext EI.ok HN4.out HDW.out) (hg5.same hr _ notRd)); have HD5 := hid (DrawR.more (HD4.out.ext HDW.out) hg5 hr5 hpp); clear hg hpp hr hg5 hr5 hx; (try dsimp only)
      refine hK.out _ _ (by exact (And.intro (obj_cell X5.out (i := 0) rfl) (obj_cell X5.out (i := 1) rfl))) (fun hHeld => ?_)
      clear hK K
      (try simp only [Act.put, List.setIfInBounds_toArray, List.set_cons_zero, List.set_cons_succ])
      refine WG.one (i := 5) rfl (by kernel_rfl) (fun K hK => ?_)
      go_simp; obtain ⟨hg, pp, hpp, hr⟩ := HD5.out; refine (dPick b bv bs' pp _ _ hr (by omega) (by omega)).mono ?_; rintro e w6 ⟨x6, rfl, hx, hg6, hr6⟩; have hx6 := pick_lt hx (by decide); have X6 := hid (hg6.obj (k := H) X5.out (by omega)); have HO6 := hid (OCl.same HO5.out (hg6.same hr _ notRd3)); have HN6 := hid (Own.same EI.ok HN5.out (hg6.same hr _ notRd)); have HD6 := hid (DrawR.more HD5.out hg6 hr6 hpp); clear hg hpp hr hg6 hr6 hx; (try dsimp only)
      refine hK.out _ _ (by exact (And.intro (obj_cell X6.out (i := 0) rfl) (obj_cell X6.out (i := 1) rfl))) (fun hHeld => ?_)
      clear hK K
      (try simp only [Act.put, List.setIfInBounds_toArray, List.set_cons_zero, List.set_cons_succ])
      obtain ⟨d, hd1, hd2, hdl⟩ : ∃ d : Nat, ((x6 : Int).tdiv 29 = (d : Int)) ∧ ((x6 : Int) / 29 = (d : Int)) ∧ d ≤ 1 := ⟨x6 / 29, by rw [Int.tdiv_eq_ediv_of_nonneg (by omega)]; simp, by simp, by omega⟩
      have g1 : IntKind.i64.wrap (d : Int) = (d : Int) := IntWalk.i64_in _ (by omega)
      have g2 : IntKind.i64.wrap ((x5 : Int) - (d : Int)) = (x5 : Int) - (d : Int) := IntWalk.i64_in _ (by omega)
      (refine WG.take (i := 6) (v := ?_) rfl (by kernel_rfl) (by kernel_rfl) (by kernel_rfl) (by kernel_rfl) (fun _ _ _ h => h) (Or.inl ⟨by rfl, ?_⟩) (by assumption) ?_; rotate_left; (intro w hSw; (try dsimp only at hSw); go_split_ands; go_simp; (try with_reducible rfl)); (try simp only [Act.put, List.setIfInBounds_toArray, List.set_cons_zero, List.set_cons_succ]))
      (refine WG.take (i := 7) (v := ?_) rfl (by kernel_rfl) (by kernel_rfl) (by kernel_rfl) (by kernel_rfl) (fun _ _ _ h => h) (Or.inl ⟨by rfl, ?_⟩) (by assumption) ?_; rotate_left; (intro w hSw; (try dsimp only at hSw); go_split_ands; go_simp; (try with_reducible rfl)); (try simp only [Act.put, List.setIfInBounds_toArray, List.set_cons_zero, List.set_cons_succ]))
      have HZ6 := hid (HD6.out.1.obj (k := w.heap.size) Z1.out (by omega))
      have HB6 : Hid (Ext w w6) := hid (Below.trans HE1.out (HD6.out.1.below (Nat.le_of_lt hbw) HE1.out.size))
      obtain ⟨y0, y1, y0f, y1f, k1, k1f, hkk, hsm⟩ := box2 HZ6.out (.slice Ar nr cr) (.slice Au nu cu)
      have r0 := obj_cell hkk (i := 0) rfl
      have r1 := obj_cell hkk (i := 1) rfl
      have HSM := hid hsm
      have XS := hid (obj_far (p := ⟨w.heap.size, 1, none⟩) (obj_far (p := ⟨w.heap.size, 0, none⟩) X6.out (by show H ≠ w.heap.size; omega) (.slice Ar nr cr)) (by show H ≠ w.heap.size; omega) (.slice Au nu cu))
      clear hkk hsm
      refine WG.one (i := 8) rfl (by kernel_rfl) (fun K hK => ?_)
      go_simp
      refine hK.out _ _ (by exact (And.intro (obj_cell XS.out (i := 0) rfl) (obj_cell XS.out (i := 1) rfl))) (fun hHeld => ?_)
      clear hK K
      (try simp only [Act.put, List.setIfInBounds_toArray, List.set_cons_zero, List.set_cons_succ])
      refine WG.one (i := 9) rfl (by kernel_rfl) (fun K hK => ?_)
      go_simp
      refine hK.out _ _ (by exact (And.intro (obj_cell XS.out (i := 0) rfl) (obj_cell XS.out (i := 1) rfl))) (fun hHeld => ?_)
      clear hK K
      (try simp only [Act.put, List.setIfInBounds_toArray, List.set_cons_zero, List.set_cons_succ])
      refine WG.last (i := 10) rfl (by kernel_rfl) (by kernel_rfl) (fun K hK => ?_)
      go_simp
      refine hK.out _ _ ?_
      clear hK K
      (try simp only [Act.put, List.setIfInBounds_toArray, List.set_cons_zero, List.set_cons_succ])
      refine WG.done (by kernel_rfl) ?_
      go_wp2
      refine bodyPost_ret (v := .tuple #[.agg #[.slice Ar nr cr, .slice Au nu cu], .slice An need.length cn, .int .i64 ((x5 : Int) - (d : Int))]) (by simp [results, Tryz.results44, go_sem, r0, r1, g1, g2]) rfl ?_
      exact ⟨_, _, C, need, _, rfl, (HO6.out.same (HSM.out _ notClu)).low HE1.out.size, Own.same EI.ok HN6.out (HSM.out _ notClu2), HNL.out, HNB.out, HH.out.2.2.1, by omega, Below.setCell (Below.setCell HB6.out (Nat.le_refl _) _) (Nat.le_refl _) _⟩

end Go.Proofs.YtfgibhdglbjadaaGreat
