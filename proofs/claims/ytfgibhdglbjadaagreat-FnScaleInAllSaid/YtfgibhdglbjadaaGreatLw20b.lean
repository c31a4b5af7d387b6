/- The law FnScaleIn. -/
import Derived.Test.YtfgibhdglbjadaaGreatK25
import Derived.Test.YtfgibhdglbjadaaGreatK24
import Derived.Test.YtfgibhdglbjadaaGreatK11
import Derived.Test.YtfgibhdglbjadaaGreatK12
namespace Go.Proofs.YtfgibhdglbjadaaGreat
open Go.RowKit
set_option maxRecDepth 4000

theorem inN_len2 (C : ClusD) (need : List Int) (want : Int) : (inN C need want).length ≤ 10 := by
  unfold inN
  split
  · rename_i h
    simp only [Bool.and_eq_true] at h
    have hw : 0 ≤ want := by have := h.2; simp [inB] at this; exact this.1
    have := (inSt_bd (us := C.units) (want := want) hw (spare_bd h.1.1 need) (full_bd h.1.1 need).1 C.units.length).2.2
    have := (clusOk_len h.1.1).2
    omega
  · simp
theorem RI.at2 {w : World} {A : Option Addr} {n c : Nat} {xs : List Int} (h : RI w (.slice A n c) xs) {b o : Nat} (hA : A = some ⟨b, o, none⟩) {j : Nat} {x : Int} (hj : xs[j]? = some x) : w.cell? ⟨b, o + j, none⟩ = some (.int .i64 x) := by
  obtain ⟨A', c', hv, _, _, hg⟩ := h.get
  injection hv with e1 _ _
  obtain ⟨b', o', y, hA', hy, hc⟩ := hg j (List.getElem?_eq_some_iff.1 hj).1
  rw [← e1, hA] at hA'
  injection hA' with hA'
  injection hA' with h1 h2 _
  subst h1 h2
  have := hy.out
  rw [hj] at this
  injection this with this
  subst this
  exact hc
theorem RI.some {w : World} {A : Option Addr} {n c : Nat} {xs : List Int} (h : RI w (.slice A n c) xs) (hp : 0 < xs.length) : ∃ b o, A = Option.some ⟨b, o, none⟩ := by
  obtain ⟨A', c', hv, _, _, hg⟩ := h.get
  injection hv with e1 _ _
  obtain ⟨b', o', y, hA', _⟩ := hg 0 hp
  exact ⟨b', o', by rw [e1, hA']⟩
theorem inN_cond {C : ClusD} {need : List Int} {want : Int} (h : inN C need want ≠ []) : (clusOk C && needOk need) = true ∧ inB want 0 999 = true := by
  unfold inN at h
  split at h
  · rename_i hc
    rw [Bool.and_eq_true] at hc
    exact hc
  · exact absurd rfl h
theorem closeAll_take (C : ClusD) {ys : List Int} {k : Nat} {i : Int} (h : ys[k]? = some i) : closeAll C (ys.take (k + 1)) = (openC (closeAll C (ys.take k)) i false).1 := by
  rw [take_snoc h, closeAll_snoc]

set_option maxHeartbeats 8000000 in
theorem lawScaleIn (v : Value) (bs : List Int) (w : World) (h : XBy w v bs) :
    Calls Tryz.prog 14 #[v] w (RetB w true) := by
  have HB := hid h
  obtain ⟨A, c, rfl, _⟩ := h
  by_cases h1 : bs.length ≤ 1048576
  · have i1 : ¬ (1048576 : Int) < (bs.length : Int) := by omega
    go_enter Tryz.func14, Tryz.ntmps14
    go_wp2_with (go_at_call 44; refine (dDrawScaleIn _ bs _ HB.out (by omega)).mono ?_; rintro e w1 ⟨cv, nv, C, need, many, rfl, hO, hN, hNL, hNB, hS, hMB, hE⟩; obtain ⟨Ar, cr, Au, cu, rfl⟩ := hO.form; have HN := hid hN.read; obtain ⟨An, cn, rfl, _, _⟩ := hN.form; have HC := hid hO.read; have HNL := hid hNL; have HS := hid hS; have HE := hid hE; obtain ⟨y0, y1, y0f, y1f, k1, k1f, hkk, _⟩ := box2 (heap_alloc_new w1 (.cells #[.slice none 0 0, .slice none 0 0] 26)) (.slice Ar C.room.length cr) (.slice Au C.units.length cu); clear hkk hO hN hNL hNB hS hE)
    obtain ⟨W, hW⟩ : ∃ W, W = w1.alloc (.cells #[.slice Ar C.room.length cr, .slice Au C.units.length cu] 26) := ⟨_, rfl⟩
    have hEW : Ext w1 W := by rw [hW]; exact Ext.alloc _ _
    have hbx : W.heap[w1.heap.size]? = some (.cells #[.slice Ar C.room.length cr, .slice Au C.units.length cu] 26 (0, 0)) := by rw [hW]; exact heap_alloc_new _ _
    have KB : Hid (∀ w', Ext W w' → w'.cell? ⟨w1.heap.size, 0, none⟩ = some (.slice Ar C.room.length cr) ∧ w'.cell? ⟨w1.heap.size, 1, none⟩ = some (.slice Au C.units.length cu)) := hid fun w' hw => ⟨obj_cell (hw.obj hbx) (i := 0) rfl, obj_cell (hw.obj hbx) (i := 1) rfl⟩
    have hb0 := obj_cell hbx (i := 0) rfl
    have hb1 := obj_cell hbx (i := 1) rfl
    have HEW := hid (HE.out.trans hEW)
    have HO1 := hid (HC.out.ext hEW)
    have HNW := hid (RI.ext HN.out hEW)
    rw [← hW]
    clear hW y0 y1 y0f y1f k1 k1f hEW hbx
    obtain ⟨ys, hys⟩ : ∃ ys, ys = inN C need many := ⟨_, rfl⟩
    have HYS := hid hys
    have hyl : ys.length ≤ 10 := by rw [hys]; exact inN_len2 C need many
    clear hys
    by_cases hy0 : ys.length = 0
    · obtain rfl : ys = [] := List.eq_nil_of_length_eq_zero hy0
      clear hy0 hyl
      go_wp2_with (first
        | (go_at_call 47; refine (lSameInts _ _ _ _ (RI.ext HO2.out (HE3.out.trans HE4.out)) (RI.ext HO3.out HE4.out)).mono ?_; rintro e w5 ⟨rfl, hE5⟩; have HE5 := hid hE5; obtain ⟨hb0, hb1⟩ := KB.out _ (HE2.out.trans (HE3.out.trans (HE4.out.trans HE5.out))); clear hE5)
        | (go_at_call 47; refine (lSameInts _ _ _ _ (RI.ext HO2.out HE3.out) (RI.ext HO3.out (Ext.refl _))).mono ?_; rintro e w4 ⟨rfl, hE4⟩; have HE4 := hid hE4; obtain ⟨hb0, hb1⟩ := KB.out _ (HE2.out.trans (HE3.out.trans HE4.out)); clear hE4)
        | (go_at_call 46; refine (sScaleIn _ _ C need many _ (HO1.out.ext HE2.out) (RI.ext HNW.out HE2.out) HS.out.len HS.out.flat).mono ?_; rw [← HYS.out]; rintro e w3 ⟨v3, rfl, hO3, hE3⟩; obtain ⟨A3, c3, rfl, _, _⟩ := hO3.form; have HO3 := hid hO3.read; have HE3 := hid hE3; obtain ⟨hb0, hb1⟩ := KB.out _ (HE2.out.trans hE3); clear hO3 hE3)
        | (go_at_call 45; refine (iScaleIn _ _ C need many _ HO1.out HNW.out HS.out.len HS.out.flat HS.out.ids).mono ?_; rw [← HYS.out]; rintro e w2 ⟨v2, rfl, hO2, hE2⟩; obtain ⟨A2, c2, rfl, _, _⟩ := hO2.form; have HO2 := hid hO2.read; have HE2 := hid hE2; obtain ⟨hb0, hb1⟩ := KB.out _ hE2; clear hO2 hE2))

      go_ret
      exact ⟨rfl, HEW.out.trans (HE2.out.trans (HE3.out.trans (HE4.out.trans HE5.out)))⟩
    · have hy1 : ¬ (ys.length : Int) = 0 := by omega
      have hy2 : ((ys.length : Int) == 0) = false := by simpa using hy1
      obtain ⟨hok, hin⟩ := inN_cond (C := C) (need := need) (want := many) (by rw [← HYS.out]; intro h; rw [h] at hy0; exact hy0 rfl)
      have hcl : clusOk C = true := by simp only [Bool.and_eq_true] at hok; exact hok.1
      have hnd : needOk need = true := by simp only [Bool.and_eq_true] at hok; exact hok.2
      obtain ⟨D, hD⟩ := inS hcl need many C.units.length (Nat.le_refl _)
      have hye : ys = (inSt C.units (timesL C.room need) many (spareL C need) C.units.length).2 := by rw [HYS.out]; exact inN_ok hok hin
      have HDN : Hid (∀ (n : Nat) (i : Int), ys[n]? = some i → (openC (closeAll C (ys.take n)) i false).2 = 0) := hid (by rw [hye]; exact hD.done)
      have HDW : Hid (∀ (n : Nat) (i j : Int), ys[n]? = some i → ys[n + 1]? = some j → j < i) := hid (by rw [hye]; exact hD.down)
      have HDE : Hid (closeAll C ys = D) := hid (by rw [hye]; exact hD.eq)
      have HDD := hid hD
      have HGE : Hid (many ≤ spareN (closeAll C ys) need) := hid (by rw [HDE.out, spareN_ok hD.ok hnd]; exact hD.last (by rw [← hye]; intro h; rw [h] at hy0; exact hy0 rfl))
      clear hD hye
      go_wp2_with (first
        | (go_at_call 47; refine (lSameInts _ _ _ _ (RI.ext HO2.out HE3.out) (RI.ext HO3.out (Ext.refl _))).mono ?_; rintro e w4 ⟨rfl, hE4⟩; have HE4 := hid hE4; obtain ⟨hb0, hb1⟩ := KB.out _ (HE2.out.trans (HE3.out.trans HE4.out)); clear hE4)
        | (go_at_call 46; refine (sScaleIn _ _ C need many _ (HO1.out.ext HE2.out) (RI.ext HNW.out HE2.out) HS.out.len HS.out.flat).mono ?_; rw [← HYS.out]; rintro e w3 ⟨v3, rfl, hO3, hE3⟩; obtain ⟨A3, c3, rfl, _, _⟩ := hO3.form; have HO3 := hid hO3.read; have HE3 := hid hE3; obtain ⟨hb0, hb1⟩ := KB.out _ (HE2.out.trans hE3); clear hO3 hE3)
        | (go_at_call 45; refine (iScaleIn _ _ C need many _ HO1.out HNW.out HS.out.len HS.out.flat HS.out.ids).mono ?_; rw [← HYS.out]; rintro e w2 ⟨v2, rfl, hO2, hE2⟩; obtain ⟨A2, c2, rfl, _, _⟩ := hO2.form; have HO2 := hid hO2.read; have HE2 := hid hE2; obtain ⟨hb0, hb1⟩ := KB.out _ hE2; clear hO2 hE2))

      have HQ2 := hid (HE3.out.trans HE4.out)
      have HQ4 := hid (HE2.out.trans HQ2.out)
      obtain ⟨gy, oy, rfl⟩ := RI.some HO2.out (by omega)
      obtain ⟨H8, hH8⟩ : ∃ H8, H8 = w4.heap.size := ⟨_, rfl⟩
      obtain ⟨W8, hW8⟩ : ∃ W8, W8 = w4.alloc (.cells #[.slice Ar C.room.length cr, .slice Au C.units.length cu] 26) := ⟨_, rfl⟩
      have hE8 : Ext w4 W8 := by rw [hW8]; exact Ext.alloc _ _
      have HB8 : Hid (W8.heap[H8]? = some (.cells #[.slice Ar C.room.length cr, .slice Au C.units.length cu] 26 (0, 0))) := hid (by rw [hW8, hH8]; exact heap_alloc_new _ _)
      have HE8 := hid hE8
      have HH8 : Hid (w4.heap.size ≤ H8) := hid (by rw [hH8]; exact Nat.le_refl _)
      rw [← hW8, ← hH8]
      clear hW8 hH8 hE8
      go_loopw [9] (fun i wr => ∃ (k : Nat) (Ax : Option Addr) (cx : Nat) (Bx : Option Addr) (dx : Nat) (X : ClusD), k ≤ ys.length ∧ i = .int .i64 k ∧ Hid (X = closeAll C (ys.take k) ∧ SmallC X ∧ ClusV wr (.agg #[.slice Ax X.room.length cx, .slice Bx X.units.length dx]) X ∧ wr.heap[H8]? = some (.cells #[.slice Ax X.room.length cx, .slice Bx X.units.length dx] 26 (0, 0)) ∧ Ext w4 wr)) (fun i _ => ys.length - (intOf i).toNat)
      case atStart => exact ⟨0, Ar, cr, Au, cu, C, Nat.zero_le _, rfl, hid ⟨rfl, HS.out, HO1.out.ext (HQ4.out.trans HE8.out), HB8.out, HE8.out⟩⟩
      case round =>
        obtain ⟨k, Ax, cx, Bx, dx, X, hk, rfl, HH⟩ := hrel
        obtain ⟨hXE, hSX, hXV, hBX, hEX⟩ := HH.out
        have HXE := hid hXE
        have HSX := hid hSX
        have HXV := hid hXV
        have HBX := hid hBX
        have HEX := hid hEX
        clear hXE hSX hXV hBX hEX HH
        by_cases hkl : k < ys.length
        · rcases Nat.eq_zero_or_pos k with hk0 | hk0
          · obtain ⟨i, hyk⟩ : ∃ i, ys[k]? = some i := ⟨_, List.getElem?_eq_getElem hkl⟩
            have HYK := hid hyk
            clear hyk
            obtain ⟨R, hR⟩ : ∃ R, R = openC X i false := ⟨_, rfl⟩
            have HRR := hid hR
            have HSR : Hid (SmallC R.1) := hid (by rw [hR]; exact (few_open X i false).small)
            have hR0 : (R.2 != 0) = false := by
              have h2 : R.2 = 0 := by rw [hR, HXE.out]; exact HDN.out _ _ HYK.out
              rw [h2]
              rfl
            clear hR
            have HYR := hid (RI.ext HO2.out (HQ2.out.trans HEX.out))
            have CI := hid (RI.at2 HYR.out rfl HYK.out)
            have ij0 : (0 : Int) ≤ (k : Int) := by omega
            have ijl : (k : Int) < (ys.length : Int) := by omega
            have HK0 := hid hk0
            clear hk0
            have KS : Hid (∀ w', Ext wr w' → w'.cell? ⟨H8, 0, none⟩ = some (.slice Ax X.room.length cx) ∧ w'.cell? ⟨H8, 1, none⟩ = some (.slice Bx X.units.length dx) ∧ w'.cell? ⟨gy, oy + k, none⟩ = some (.int .i64 i)) := hid fun w' hw => ⟨obj_cell (hw.obj HBX.out) (i := 0) rfl, obj_cell (hw.obj HBX.out) (i := 1) rfl, hw.cell CI.out⟩
            have HD : Hid (Ext wr wr.drew) := hid (Below.drew (Below.refl _ _))
            go_wp2
            refine WG.start (fun w' => w'.cell? ⟨H8, 0, none⟩ = some (.slice Ax X.room.length cx) ∧ w'.cell? ⟨H8, 1, none⟩ = some (.slice Bx X.units.length dx) ∧ w'.cell? ⟨gy, oy + k, none⟩ = some (.int .i64 i)) [11] (by kernel_rfl) (by exact KS.out _ HD.out) (fun hHeld => ?_)
            obtain ⟨pz, hpz⟩ : ∃ x, x = wr.drew := ⟨_, rfl⟩
            rw [← hpz] at hHeld ⊢
            have HX : Hid (Ext wr pz) := hid (by rw [hpz]; exact HD.out)
            clear hpz
            (refine WG.take (i := 0) (v := ?_) rfl (by kernel_rfl) (by kernel_rfl) (by kernel_rfl) (by kernel_rfl) (fun _ _ _ h => h) (Or.inl ⟨by rfl, ?_⟩) (by assumption) ?_; rotate_left; (intro w hSw; (try dsimp only at hSw); go_split_ands; go_simp; (try with_reducible rfl)); (try simp only [Act.put, List.setIfInBounds_toArray, List.set_cons_zero, List.set_cons_succ]))
            (refine WG.take (i := 1) (v := ?_) rfl (by kernel_rfl) (by kernel_rfl) (by kernel_rfl) (by kernel_rfl) (fun _ _ _ h => h) (Or.inl ⟨by rfl, ?_⟩) (by assumption) ?_; rotate_left; (intro w hSw; (try dsimp only at hSw); go_split_ands; go_simp; (try with_reducible rfl)); (try simp only [Act.put, List.setIfInBounds_toArray, List.set_cons_zero, List.set_cons_succ]))
            (refine WG.take (i := 2) (v := ?_) rfl (by kernel_rfl) (by kernel_rfl) (by kernel_rfl) (by kernel_rfl) (fun _ _ _ h => h) (Or.inl ⟨by rfl, ?_⟩) (by assumption) ?_; rotate_left; (intro w hSw; (try dsimp only at hSw); go_split_ands; go_simp; (try with_reducible rfl)); (try simp only [Act.put, List.setIfInBounds_toArray, List.set_cons_zero, List.set_cons_succ]))
            (refine WG.take (i := 3) (v := ?_) rfl (by kernel_rfl) (by kernel_rfl) (by kernel_rfl) (by kernel_rfl) (fun _ _ _ h => h) (Or.inl ⟨by rfl, ?_⟩) (by assumption) ?_; rotate_left; (intro w hSw; (try dsimp only at hSw); go_split_ands; go_simp; (try with_reducible rfl)); (try simp only [Act.put, List.setIfInBounds_toArray, List.set_cons_zero, List.set_cons_succ]))
            (refine WG.take (i := 4) (v := ?_) rfl (by kernel_rfl) (by kernel_rfl) (by kernel_rfl) (by kernel_rfl) (fun _ _ _ h => h) (Or.inl ⟨by rfl, ?_⟩) (by assumption) ?_; rotate_left; (intro w hSw; (try dsimp only at hSw); go_split_ands; go_simp; (try with_reducible rfl)); (try simp only [Act.put, List.setIfInBounds_toArray, List.set_cons_zero, List.set_cons_succ]))
            refine WG.two (i := 5) (j := 9) rfl rfl (by kernel_rfl) (fun K hK => ?_) (fun K hK => ?_)
            · go_simp
              refine (iClusterOpen _ X i false _ (HXV.out.ext HX.out) HSX.out.len HSX.out.flat HSX.out.ids).mono ?_
              rw [← HRR.out]
              rintro e p1 ⟨v5, rfl, hO5, hE⟩
              obtain ⟨A5, c5, B5, d5, rfl⟩ := hO5.form
              have HO5 := hid hO5
              clear hO5
              (try dsimp only)
              have HX := hid (HX.out.trans hE)
              refine hK.out _ _ (by exact KS.out _ HX.out) (fun hHeld => ?_)
              clear hK K hE
              (try simp only [Act.put, List.setIfInBounds_toArray, List.set_cons_zero, List.set_cons_succ])
              (refine WG.take (i := 6) (v := ?_) rfl (by kernel_rfl) (by kernel_rfl) (by kernel_rfl) (by kernel_rfl) (fun _ _ _ h => h) (Or.inl ⟨by rfl, ?_⟩) (by assumption) ?_; rotate_left; (intro w hSw; (try dsimp only at hSw); go_split_ands; go_simp; (try with_reducible rfl)); (try simp only [Act.put, List.setIfInBounds_toArray, List.set_cons_zero, List.set_cons_succ]))
              (refine WG.take (i := 7) (v := ?_) rfl (by kernel_rfl) (by kernel_rfl) (by kernel_rfl) (by kernel_rfl) (fun _ _ _ h => h) (Or.inl ⟨by rfl, ?_⟩) (by assumption) ?_; rotate_left; (intro w hSw; (try dsimp only at hSw); go_split_ands; go_simp; (try with_reducible rfl)); (try simp only [Act.put, List.setIfInBounds_toArray, List.set_cons_zero, List.set_cons_succ]))
              (refine WG.take (i := 8) (v := ?_) rfl (by kernel_rfl) (by kernel_rfl) (by kernel_rfl) (by kernel_rfl) (fun _ _ _ h => h) (Or.inl ⟨by rfl, ?_⟩) (by assumption) ?_; rotate_left; (intro w hSw; (try dsimp only at hSw); go_split_ands; go_simp; (try with_reducible rfl)); (try simp only [Act.put, List.setIfInBounds_toArray, List.set_cons_zero, List.set_cons_succ]))
              refine WG.one (i := 9) rfl (by kernel_rfl) (fun K hK => ?_)
              go_simp
              refine hK.out _ _ (by exact KS.out _ (HX.out.trans (Ext.alloc _ _))) (fun hHeld => ?_)
              clear hK K
              (try simp only [Act.put, List.setIfInBounds_toArray, List.set_cons_zero, List.set_cons_succ])
              obtain ⟨p2, hp2⟩ : ∃ x, x = p1.alloc (.cells #[.slice none 0 0, .slice none 0 0] 26) := ⟨_, rfl⟩
              obtain ⟨B10, hB10⟩ : ∃ x, x = p1.heap.size := ⟨_, rfl⟩
              have hE : Ext p1 p2 := by rw [hp2]; exact Ext.alloc _ _
              have HB10 : Hid (p2.heap[B10]? = some (.cells #[.slice none 0 0, .slice none 0 0] 26 (0, 0))) := hid (by rw [hp2, hB10]; exact heap_alloc_new _ _)
              have HL10 : Hid (wr.heap.size ≤ B10) := hid (by rw [hB10]; exact HX.out.size)
              rw [← hp2] at hHeld ⊢
              rw [← hB10]
              have HX := hid (HX.out.trans hE)
              have HO5 := hid (HO5.out.ext hE)
              clear hp2 hB10 hE
              obtain ⟨y0, y1, y0f, y1f, k1, k1f, hkk, hsm⟩ := box2 HB10.out (.slice A5 R.1.room.length c5) (.slice B5 R.1.units.length d5)
              have HEV : Hid (Ext wr ((p2.setCell ⟨B10, 0, none⟩ (.slice A5 R.1.room.length c5)).setCell ⟨B10, 1, none⟩ (.slice B5 R.1.units.length d5))) := hid (Below.setCell (Below.setCell HX.out HL10.out _) HL10.out _)
              have HOV := hid (OCl.same HO5.out (hsm _ notClu))
              refine WG.one (i := 10) rfl (by kernel_rfl) (fun K hK => ?_)
              go_simp
              refine hK.out _ _ (by exact KS.out _ HEV.out) (fun hHeld => ?_)
              clear hK K
              (try simp only [Act.put, List.setIfInBounds_toArray, List.set_cons_zero, List.set_cons_succ])
              refine WG.last (i := 11) rfl (by kernel_rfl) (by kernel_rfl) (fun K hK => ?_)
              go_simp
              refine hK.out _ _ ?_
              clear hK K
              (try simp only [Act.put, List.setIfInBounds_toArray, List.set_cons_zero, List.set_cons_succ])
              refine WG.done (by kernel_rfl) ?_
              obtain ⟨V, hV⟩ : ∃ V, V = (p2.setCell ⟨B10, 0, none⟩ (.slice A5 R.1.room.length c5)).setCell ⟨B10, 1, none⟩ (.slice B5 R.1.units.length d5) := ⟨_, rfl⟩
              rw [← hV] at HEV HOV hkk hHeld ⊢
              clear hV y0 y1 y0f y1f k1 k1f hsm hHeld
              have HBV := hid hkk
              clear hkk
              go_wp2
              have ijz : ¬ (0 : Int) < (k : Int) := by have := HK0.out; omega
              have hkz : ¬ 0 < k := by have := HK0.out; omega
              refine WG.start (fun w' => True) [] (by kernel_rfl) (by exact trivial) (fun hHeld => ?_)
              (refine WG.take (i := 0) (v := ?_) rfl (by kernel_rfl) (by kernel_rfl) (by kernel_rfl) (by kernel_rfl) (fun _ _ _ h => h) (Or.inl ⟨by rfl, ?_⟩) (by assumption) ?_; rotate_left; (intro w hSw; (try dsimp only at hSw); go_split_ands; go_simp; (try with_reducible rfl)); (try simp only [Act.put, List.setIfInBounds_toArray, List.set_cons_zero, List.set_cons_succ]))
              (refine WG.take (i := 1) (v := ?_) rfl (by kernel_rfl) (by kernel_rfl) (by kernel_rfl) (by kernel_rfl) (fun _ _ _ h => h) (Or.inl ⟨by rfl, ?_⟩) (by assumption) ?_; rotate_left; (intro w hSw; (try dsimp only at hSw); go_split_ands; go_simp; (try with_reducible rfl)); (try simp only [Act.put, List.setIfInBounds_toArray, List.set_cons_zero, List.set_cons_succ]))
              (refine WG.take (i := 2) (v := ?_) rfl (by kernel_rfl) (by kernel_rfl) (by kernel_rfl) (by kernel_rfl) (fun _ _ _ h => h) (Or.inl ⟨by rfl, ?_⟩) (by assumption) ?_; rotate_left; (intro w hSw; (try dsimp only at hSw); go_split_ands; go_simp; (try with_reducible rfl)); (try simp only [Act.put, List.setIfInBounds_toArray, List.set_cons_zero, List.set_cons_succ]))
              (refine WG.take (i := 3) (v := ?_) rfl (by kernel_rfl) (by kernel_rfl) (by kernel_rfl) (by kernel_rfl) (fun _ _ _ h => h) (Or.inl ⟨by rfl, ?_⟩) (by assumption) ?_; rotate_left; (intro w hSw; (try dsimp only at hSw); go_split_ands; go_simp; (try with_reducible rfl)); (try simp only [Act.put, List.setIfInBounds_toArray, List.set_cons_zero, List.set_cons_succ]))
              (refine WG.take (i := 4) (v := ?_) rfl (by kernel_rfl) (by kernel_rfl) (by kernel_rfl) (by kernel_rfl) (fun _ _ _ h => h) (Or.inl ⟨by rfl, ?_⟩) (by assumption) ?_; rotate_left; (intro w hSw; (try dsimp only at hSw); go_split_ands; go_simp; (try with_reducible rfl)); (try simp only [Act.put, List.setIfInBounds_toArray, List.set_cons_zero, List.set_cons_succ]))
              (refine WG.take (i := 5) (v := ?_) rfl (by kernel_rfl) (by kernel_rfl) (by kernel_rfl) (by kernel_rfl) (fun _ _ _ h => h) (Or.inl ⟨by rfl, ?_⟩) (by assumption) ?_; rotate_left; (intro w hSw; (try dsimp only at hSw); go_split_ands; go_simp; (try with_reducible rfl)); (try simp only [Act.put, List.setIfInBounds_toArray, List.set_cons_zero, List.set_cons_succ]))
              (refine WG.take (i := 6) rfl (by kernel_rfl) (by kernel_rfl) (by kernel_rfl) (by kernel_rfl) (fun _ _ _ h => h) (Or.inr ⟨?_, rfl⟩) (by assumption) ?_; go_simp; (try simp only [Act.put, List.setIfInBounds_toArray, List.set_cons_zero, List.set_cons_succ]))
              (refine WG.take (i := 7) rfl (by kernel_rfl) (by kernel_rfl) (by kernel_rfl) (by kernel_rfl) (fun _ _ _ h => h) (Or.inr ⟨?_, rfl⟩) (by assumption) ?_; go_simp; (try simp only [Act.put, List.setIfInBounds_toArray, List.set_cons_zero, List.set_cons_succ]))
              (refine WG.take (i := 8) rfl (by kernel_rfl) (by kernel_rfl) (by kernel_rfl) (by kernel_rfl) (fun _ _ _ h => h) (Or.inr ⟨?_, rfl⟩) (by assumption) ?_; go_simp; (try simp only [Act.put, List.setIfInBounds_toArray, List.set_cons_zero, List.set_cons_succ]))
              (refine WG.take (i := 9) rfl (by kernel_rfl) (by kernel_rfl) (by kernel_rfl) (by kernel_rfl) (fun _ _ _ h => h) (Or.inr ⟨?_, rfl⟩) (by assumption) ?_; go_simp; (try simp only [Act.put, List.setIfInBounds_toArray, List.set_cons_zero, List.set_cons_succ]))
              (refine WG.take (i := 10) rfl (by kernel_rfl) (by kernel_rfl) (by kernel_rfl) (by kernel_rfl) (fun _ _ _ h => h) (Or.inr ⟨?_, rfl⟩) (by assumption) ?_; go_simp; (try simp only [Act.put, List.setIfInBounds_toArray, List.set_cons_zero, List.set_cons_succ]))
              (refine WG.take (i := 11) rfl (by kernel_rfl) (by kernel_rfl) (by kernel_rfl) (by kernel_rfl) (fun _ _ _ h => h) (Or.inr ⟨?_, rfl⟩) (by assumption) ?_; go_simp; (try simp only [Act.put, List.setIfInBounds_toArray, List.set_cons_zero, List.set_cons_succ]))
              (refine WG.take (i := 12) rfl (by kernel_rfl) (by kernel_rfl) (by kernel_rfl) (by kernel_rfl) (fun _ _ _ h => h) (Or.inr ⟨?_, rfl⟩) (by assumption) ?_; go_simp; (try simp only [Act.put, List.setIfInBounds_toArray, List.set_cons_zero, List.set_cons_succ]))
              (refine WG.take (i := 13) rfl (by kernel_rfl) (by kernel_rfl) (by kernel_rfl) (by kernel_rfl) (fun _ _ _ h => h) (Or.inr ⟨?_, rfl⟩) (by assumption) ?_; go_simp; (try simp only [Act.put, List.setIfInBounds_toArray, List.set_cons_zero, List.set_cons_succ]))
              (refine WG.take (i := 14) rfl (by kernel_rfl) (by kernel_rfl) (by kernel_rfl) (by kernel_rfl) (fun _ _ _ h => h) (Or.inr ⟨?_, rfl⟩) (by assumption) ?_; go_simp; (try simp only [Act.put, List.setIfInBounds_toArray, List.set_cons_zero, List.set_cons_succ]))
              (refine WG.take (i := 15) rfl (by kernel_rfl) (by kernel_rfl) (by kernel_rfl) (by kernel_rfl) (fun _ _ _ h => h) (Or.inr ⟨?_, rfl⟩) (by assumption) ?_; go_simp; (try simp only [Act.put, List.setIfInBounds_toArray, List.set_cons_zero, List.set_cons_succ]))
              (refine WG.take (i := 16) (v := ?_) rfl (by kernel_rfl) (by kernel_rfl) (by kernel_rfl) (by kernel_rfl) (fun _ _ _ h => h) (Or.inl ⟨by rfl, ?_⟩) (by assumption) ?_; rotate_left; (intro w hSw; (try dsimp only at hSw); go_split_ands; go_simp; (try with_reducible rfl)); (try simp only [Act.put, List.setIfInBounds_toArray, List.set_cons_zero, List.set_cons_succ]))
              (refine WG.take (i := 17) (v := ?_) rfl (by kernel_rfl) (by kernel_rfl) (by kernel_rfl) (by kernel_rfl) (fun _ _ _ h => h) (Or.inl ⟨by rfl, ?_⟩) (by assumption) ?_; rotate_left; (intro w hSw; (try dsimp only at hSw); go_split_ands; go_simp; (try with_reducible rfl)); (try simp only [Act.put, List.setIfInBounds_toArray, List.set_cons_zero, List.set_cons_succ]))
              refine WG.done (by kernel_rfl) ?_
              clear ijz hkz
              obtain ⟨z0, z1, z0f, z1f, l1, l1f, hll, hsl⟩ := box2 (HEV.out.obj HBX.out) (.slice A5 R.1.room.length c5) (.slice B5 R.1.units.length d5)
              have t0 := obj_cell HBV.out (i := 0) rfl
              have t1 := obj_cell HBV.out (i := 1) rfl
              have HLL := hid hll
              have HSL := hid hsl
              clear hll hsl
              go_wp2
              go_roundw
              case rel => exact ⟨k + 1, A5, c5, B5, d5, R.1, by omega, by go_num, hid ⟨by rw [closeAll_take C HYK.out, ← HXE.out, HRR.out], HSR.out, (OCl.same HOV.out (HSL.out _ notClu)).read, HLL.out, (by first | exact Ext.trans (Below.setCell (p := ⟨H8, 1, none⟩) (Below.setCell (p := ⟨H8, 0, none⟩) (HEX.out.trans HEV.out) HH8.out _) HH8.out _) (Below.drew (Below.refl _ _)) | exact Below.setCell (p := ⟨H8, 1, none⟩) (Below.setCell (p := ⟨H8, 0, none⟩) (HEX.out.trans HEV.out) HH8.out _) HH8.out _)⟩⟩
              case measure => simp [intOf]; omega
            · go_simp
              refine hK.out _ _ (by exact KS.out _ (HX.out.trans (Ext.alloc _ _))) (fun hHeld => ?_)
              clear hK K
              (try simp only [Act.put, List.setIfInBounds_toArray, List.set_cons_zero, List.set_cons_succ])
              obtain ⟨p3, hp3⟩ : ∃ x, x = pz.alloc (.cells #[.slice none 0 0, .slice none 0 0] 26) := ⟨_, rfl⟩
              obtain ⟨B10, hB10⟩ : ∃ x, x = pz.heap.size := ⟨_, rfl⟩
              have hE : Ext pz p3 := by rw [hp3]; exact Ext.alloc _ _
              have HB10 : Hid (p3.heap[B10]? = some (.cells #[.slice none 0 0, .slice none 0 0] 26 (0, 0))) := hid (by rw [hp3, hB10]; exact heap_alloc_new _ _)
              have HL10 : Hid (wr.heap.size ≤ B10) := hid (by rw [hB10]; exact HX.out.size)
              rw [← hp3] at hHeld ⊢
              rw [← hB10]
              have HX := hid (HX.out.trans hE)
              clear hp3 hB10 hE
              refine WG.one (i := 5) rfl (by kernel_rfl) (fun K hK => ?_)
              go_simp
              refine (iClusterOpen _ X i false _ (HXV.out.ext HX.out) HSX.out.len HSX.out.flat HSX.out.ids).mono ?_
              rw [← HRR.out]
              rintro e p4 ⟨v5, rfl, hO5, hE⟩
              obtain ⟨A5, c5, B5, d5, rfl⟩ := hO5.form
              have HO5 := hid hO5
              clear hO5
              (try dsimp only)
              have HX := hid (HX.out.trans hE)
              have HB10 := hid (hE.obj HB10.out)
              refine hK.out _ _ (by exact KS.out _ HX.out) (fun hHeld => ?_)
              clear hK K hE
              (try simp only [Act.put, List.setIfInBounds_toArray, List.set_cons_zero, List.set_cons_succ])
              (refine WG.take (i := 6) (v := ?_) rfl (by kernel_rfl) (by kernel_rfl) (by kernel_rfl) (by kernel_rfl) (fun _ _ _ h => h) (Or.inl ⟨by rfl, ?_⟩) (by assumption) ?_; rotate_left; (intro w hSw; (try dsimp only at hSw); go_split_ands; go_simp; (try with_reducible rfl)); (try simp only [Act.put, List.setIfInBounds_toArray, List.set_cons_zero, List.set_cons_succ]))
              (refine WG.take (i := 7) (v := ?_) rfl (by kernel_rfl) (by kernel_rfl) (by kernel_rfl) (by kernel_rfl) (fun _ _ _ h => h) (Or.inl ⟨by rfl, ?_⟩) (by assumption) ?_; rotate_left; (intro w hSw; (try dsimp only at hSw); go_split_ands; go_simp; (try with_reducible rfl)); (try simp only [Act.put, List.setIfInBounds_toArray, List.set_cons_zero, List.set_cons_succ]))
              (refine WG.take (i := 8) (v := ?_) rfl (by kernel_rfl) (by kernel_rfl) (by kernel_rfl) (by kernel_rfl) (fun _ _ _ h => h) (Or.inl ⟨by rfl, ?_⟩) (by assumption) ?_; rotate_left; (intro w hSw; (try dsimp only at hSw); go_split_ands; go_simp; (try with_reducible rfl)); (try simp only [Act.put, List.setIfInBounds_toArray, List.set_cons_zero, List.set_cons_succ]))
              obtain ⟨y0, y1, y0f, y1f, k1, k1f, hkk, hsm⟩ := box2 HB10.out (.slice A5 R.1.room.length c5) (.slice B5 R.1.units.length d5)
              have HEV : Hid (Ext wr ((p4.setCell ⟨B10, 0, none⟩ (.slice A5 R.1.room.length c5)).setCell ⟨B10, 1, none⟩ (.slice B5 R.1.units.length d5))) := hid (Below.setCell (Below.setCell HX.out HL10.out _) HL10.out _)
              have HOV := hid (OCl.same HO5.out (hsm _ notClu))
              refine WG.one (i := 10) rfl (by kernel_rfl) (fun K hK => ?_)
              go_simp
              refine hK.out _ _ (by exact KS.out _ HEV.out) (fun hHeld => ?_)
              clear hK K
              (try simp only [Act.put, List.setIfInBounds_toArray, List.set_cons_zero, List.set_cons_succ])
              refine WG.last (i := 11) rfl (by kernel_rfl) (by kernel_rfl) (fun K hK => ?_)
              go_simp
              refine hK.out _ _ ?_
              clear hK K
              (try simp only [Act.put, List.setIfInBounds_toArray, List.set_cons_zero, List.set_cons_succ])
              refine WG.done (by kernel_rfl) ?_
              obtain ⟨V, hV⟩ : ∃ V, V = (p4.setCell ⟨B10, 0, none⟩ (.slice A5 R.1.room.length c5)).setCell ⟨B10, 1, none⟩ (.slice B5 R.1.units.length d5) := ⟨_, rfl⟩
              rw [← hV] at HEV HOV hkk hHeld ⊢
              clear hV y0 y1 y0f y1f k1 k1f hsm hHeld
              have HBV := hid hkk
              clear hkk
              go_wp2
              have ijz : ¬ (0 : Int) < (k : Int) := by have := HK0.out; omega
              have hkz : ¬ 0 < k := by have := HK0.out; omega
              refine WG.start (fun w' => True) [] (by kernel_rfl) (by exact trivial) (fun hHeld => ?_)
              (refine WG.take (i := 0) (v := ?_) rfl (by kernel_rfl) (by kernel_rfl) (by kernel_rfl) (by kernel_rfl) (fun _ _ _ h => h) (Or.inl ⟨by rfl, ?_⟩) (by assumption) ?_; rotate_left; (intro w hSw; (try dsimp only at hSw); go_split_ands; go_simp; (try with_reducible rfl)); (try simp only [Act.put, List.setIfInBounds_toArray, List.set_cons_zero, List.set_cons_succ]))
              (refine WG.take (i := 1) (v := ?_) rfl (by kernel_rfl) (by kernel_rfl) (by kernel_rfl) (by kernel_rfl) (fun _ _ _ h => h) (Or.inl ⟨by rfl, ?_⟩) (by assumption) ?_; rotate_left; (intro w hSw; (try dsimp only at hSw); go_split_ands; go_simp; (try with_reducible rfl)); (try simp only [Act.put, List.setIfInBounds_toArray, List.set_cons_zero, List.set_cons_succ]))
              (refine WG.take (i := 2) (v := ?_) rfl (by kernel_rfl) (by kernel_rfl) (by kernel_rfl) (by kernel_rfl) (fun _ _ _ h => h) (Or.inl ⟨by rfl, ?_⟩) (by assumption) ?_; rotate_left; (intro w hSw; (try dsimp only at hSw); go_split_ands; go_simp; (try with_reducible rfl)); (try simp only [Act.put, List.setIfInBounds_toArray, List.set_cons_zero, List.set_cons_succ]))
              (refine WG.take (i := 3) (v := ?_) rfl (by kernel_rfl) (by kernel_rfl) (by kernel_rfl) (by kernel_rfl) (fun _ _ _ h => h) (Or.inl ⟨by rfl, ?_⟩) (by assumption) ?_; rotate_left; (intro w hSw; (try dsimp only at hSw); go_split_ands; go_simp; (try with_reducible rfl)); (try simp only [Act.put, List.setIfInBounds_toArray, List.set_cons_zero, List.set_cons_succ]))
              (refine WG.take (i := 4) (v := ?_) rfl (by kernel_rfl) (by kernel_rfl) (by kernel_rfl) (by kernel_rfl) (fun _ _ _ h => h) (Or.inl ⟨by rfl, ?_⟩) (by assumption) ?_; rotate_left; (intro w hSw; (try dsimp only at hSw); go_split_ands; go_simp; (try with_reducible rfl)); (try simp only [Act.put, List.setIfInBounds_toArray, List.set_cons_zero, List.set_cons_succ]))
              (refine WG.take (i := 5) (v := ?_) rfl (by kernel_rfl) (by kernel_rfl) (by kernel_rfl) (by kernel_rfl) (fun _ _ _ h => h) (Or.inl ⟨by rfl, ?_⟩) (by assumption) ?_; rotate_left; (intro w hSw; (try dsimp only at hSw); go_split_ands; go_simp; (try with_reducible rfl)); (try simp only [Act.put, List.setIfInBounds_toArray, List.set_cons_zero, List.set_cons_succ]))
              (refine WG.take (i := 6) rfl (by kernel_rfl) (by kernel_rfl) (by kernel_rfl) (by kernel_rfl) (fun _ _ _ h => h) (Or.inr ⟨?_, rfl⟩) (by assumption) ?_; go_simp; (try simp only [Act.put, List.setIfInBounds_toArray, List.set_cons_zero, List.set_cons_succ]))
              (refine WG.take (i := 7) rfl (by kernel_rfl) (by kernel_rfl) (by kernel_rfl) (by kernel_rfl) (fun _ _ _ h => h) (Or.inr ⟨?_, rfl⟩) (by assumption) ?_; go_simp; (try simp only [Act.put, List.setIfInBounds_toArray, List.set_cons_zero, List.set_cons_succ]))
              (refine WG.take (i := 8) rfl (by kernel_rfl) (by kernel_rfl) (by kernel_rfl) (by kernel_rfl) (fun _ _ _ h => h) (Or.inr ⟨?_, rfl⟩) (by assumption) ?_; go_simp; (try simp only [Act.put, List.setIfInBounds_toArray, List.set_cons_zero, List.set_cons_succ]))
              (refine WG.take (i := 9) rfl (by kernel_rfl) (by kernel_rfl) (by kernel_rfl) (by kernel_rfl) (fun _ _ _ h => h) (Or.inr ⟨?_, rfl⟩) (by assumption) ?_; go_simp; (try simp only [Act.put, List.setIfInBounds_toArray, List.set_cons_zero, List.set_cons_succ]))
              (refine WG.take (i := 10) rfl (by kernel_rfl) (by kernel_rfl) (by kernel_rfl) (by kernel_rfl) (fun _ _ _ h => h) (Or.inr ⟨?_, rfl⟩) (by assumption) ?_; go_simp; (try simp only [Act.put, List.setIfInBounds_toArray, List.set_cons_zero, List.set_cons_succ]))
              (refine WG.take (i := 11) rfl (by kernel_rfl) (by kernel_rfl) (by kernel_rfl) (by kernel_rfl) (fun _ _ _ h => h) (Or.inr ⟨?_, rfl⟩) (by assumption) ?_; go_simp; (try simp only [Act.put, List.setIfInBounds_toArray, List.set_cons_zero, List.set_cons_succ]))
              (refine WG.take (i := 12) rfl (by kernel_rfl) (by kernel_rfl) (by kernel_rfl) (by kernel_rfl) (fun _ _ _ h => h) (Or.inr ⟨?_, rfl⟩) (by assumption) ?_; go_simp; (try simp only [Act.put, List.setIfInBounds_toArray, List.set_cons_zero, List.set_cons_succ]))
              (refine WG.take (i := 13) rfl (by kernel_rfl) (by kernel_rfl) (by kernel_rfl) (by kernel_rfl) (fun _ _ _ h => h) (Or.inr ⟨?_, rfl⟩) (by assumption) ?_; go_simp; (try simp only [Act.put, List.setIfInBounds_toArray, List.set_cons_zero, List.set_cons_succ]))
              (refine WG.take (i := 14) rfl (by kernel_rfl) (by kernel_rfl) (by kernel_rfl) (by kernel_rfl) (fun _ _ _ h => h) (Or.inr ⟨?_, rfl⟩) (by assumption) ?_; go_simp; (try simp only [Act.put, List.setIfInBounds_toArray, List.set_cons_zero, List.set_cons_succ]))
              (refine WG.take (i := 15) rfl (by kernel_rfl) (by kernel_rfl) (by kernel_rfl) (by kernel_rfl) (fun _ _ _ h => h) (Or.inr ⟨?_, rfl⟩) (by assumption) ?_; go_simp; (try simp only [Act.put, List.setIfInBounds_toArray, List.set_cons_zero, List.set_cons_succ]))
              (refine WG.take (i := 16) (v := ?_) rfl (by kernel_rfl) (by kernel_rfl) (by kernel_rfl) (by kernel_rfl) (fun _ _ _ h => h) (Or.inl ⟨by rfl, ?_⟩) (by assumption) ?_; rotate_left; (intro w hSw; (try dsimp only at hSw); go_split_ands; go_simp; (try with_reducible rfl)); (try simp only [Act.put, List.setIfInBounds_toArray, List.set_cons_zero, List.set_cons_succ]))
              (refine WG.take (i := 17) (v := ?_) rfl (by kernel_rfl) (by kernel_rfl) (by kernel_rfl) (by kernel_rfl) (fun _ _ _ h => h) (Or.inl ⟨by rfl, ?_⟩) (by assumption) ?_; rotate_left; (intro w hSw; (try dsimp only at hSw); go_split_ands; go_simp; (try with_reducible rfl)); (try simp only [Act.put, List.setIfInBounds_toArray, List.set_cons_zero, List.set_cons_succ]))
              refine WG.done (by kernel_rfl) ?_
              clear ijz hkz
              obtain ⟨z0, z1, z0f, z1f, l1, l1f, hll, hsl⟩ := box2 (HEV.out.obj HBX.out) (.slice A5 R.1.room.length c5) (.slice B5 R.1.units.length d5)
              have t0 := obj_cell HBV.out (i := 0) rfl
              have t1 := obj_cell HBV.out (i := 1) rfl
              have HLL := hid hll
              have HSL := hid hsl
              clear hll hsl
              go_wp2
              go_roundw
              case rel => exact ⟨k + 1, A5, c5, B5, d5, R.1, by omega, by go_num, hid ⟨by rw [closeAll_take C HYK.out, ← HXE.out, HRR.out], HSR.out, (OCl.same HOV.out (HSL.out _ notClu)).read, HLL.out, (by first | exact Ext.trans (Below.setCell (p := ⟨H8, 1, none⟩) (Below.setCell (p := ⟨H8, 0, none⟩) (HEX.out.trans HEV.out) HH8.out _) HH8.out _) (Below.drew (Below.refl _ _)) | exact Below.setCell (p := ⟨H8, 1, none⟩) (Below.setCell (p := ⟨H8, 0, none⟩) (HEX.out.trans HEV.out) HH8.out _) HH8.out _)⟩⟩
              case measure => simp [intOf]; omega
          · obtain ⟨i, hyk⟩ : ∃ i, ys[k]? = some i := ⟨_, List.getElem?_eq_getElem hkl⟩
            have HYK := hid hyk
            clear hyk
            obtain ⟨R, hR⟩ : ∃ R, R = openC X i false := ⟨_, rfl⟩
            have HRR := hid hR
            have HSR : Hid (SmallC R.1) := hid (by rw [hR]; exact (few_open X i false).small)
            have hR0 : (R.2 != 0) = false := by
              have h2 : R.2 = 0 := by rw [hR, HXE.out]; exact HDN.out _ _ HYK.out
              rw [h2]
              rfl
            clear hR
            have HYR := hid (RI.ext HO2.out (HQ2.out.trans HEX.out))
            have CI := hid (RI.at2 HYR.out rfl HYK.out)
            have ij0 : (0 : Int) ≤ (k : Int) := by omega
            have ijl : (k : Int) < (ys.length : Int) := by omega
            obtain ⟨j, hj⟩ : ∃ j, j = k - 1 := ⟨_, rfl⟩
            have hk1 : (k : Int) - 1 = (j : Int) := by omega
            have hk2 : IntKind.i64.wrap (j : Int) = (j : Int) := IntWalk.i64_in _ (by omega)
            obtain ⟨i0, hy0⟩ : ∃ i0, ys[j]? = some i0 := ⟨_, List.getElem?_eq_getElem (by omega)⟩
            have hlt : i < i0 := HDW.out j _ _ hy0 (by rw [show j + 1 = k by omega]; exact HYK.out)
            have hge : ¬ i0 ≤ i := by omega
            have CY := hid (And.intro CI.out (RI.at2 HYR.out rfl hy0))
            have ijz : (0 : Int) < (k : Int) := by omega
            have ij1 : (0 : Int) ≤ (j : Int) := by omega
            have ij2 : (j : Int) < (ys.length : Int) := by omega
            clear hy0 hj
            have KS : Hid (∀ w', Ext wr w' → w'.cell? ⟨H8, 0, none⟩ = some (.slice Ax X.room.length cx) ∧ w'.cell? ⟨H8, 1, none⟩ = some (.slice Bx X.units.length dx) ∧ w'.cell? ⟨gy, oy + k, none⟩ = some (.int .i64 i)) := hid fun w' hw => ⟨obj_cell (hw.obj HBX.out) (i := 0) rfl, obj_cell (hw.obj HBX.out) (i := 1) rfl, hw.cell CI.out⟩
            have HD : Hid (Ext wr wr.drew) := hid (Below.drew (Below.refl _ _))
            go_wp2
            refine WG.start (fun w' => w'.cell? ⟨H8, 0, none⟩ = some (.slice Ax X.room.length cx) ∧ w'.cell? ⟨H8, 1, none⟩ = some (.slice Bx X.units.length dx) ∧ w'.cell? ⟨gy, oy + k, none⟩ = some (.int .i64 i)) [11] (by kernel_rfl) (by exact KS.out _ HD.out) (fun hHeld => ?_)
            obtain ⟨pz, hpz⟩ : ∃ x, x = wr.drew := ⟨_, rfl⟩
            rw [← hpz] at hHeld ⊢
            have HX : Hid (Ext wr pz) := hid (by rw [hpz]; exact HD.out)
            clear hpz
            (refine WG.take (i := 0) (v := ?_) rfl (by kernel_rfl) (by kernel_rfl) (by kernel_rfl) (by kernel_rfl) (fun _ _ _ h => h) (Or.inl ⟨by rfl, ?_⟩) (by assumption) ?_; rotate_left; (intro w hSw; (try dsimp only at hSw); go_split_ands; go_simp; (try with_reducible rfl)); (try simp only [Act.put, List.setIfInBounds_toArray, List.set_cons_zero, List.set_cons_succ]))
            (refine WG.take (i := 1) (v := ?_) rfl (by kernel_rfl) (by kernel_rfl) (by kernel_rfl) (by kernel_rfl) (fun _ _ _ h => h) (Or.inl ⟨by rfl, ?_⟩) (by assumption) ?_; rotate_left; (intro w hSw; (try dsimp only at hSw); go_split_ands; go_simp; (try with_reducible rfl)); (try simp only [Act.put, List.setIfInBounds_toArray, List.set_cons_zero, List.set_cons_succ]))
            (refine WG.take (i := 2) (v := ?_) rfl (by kernel_rfl) (by kernel_rfl) (by kernel_rfl) (by kernel_rfl) (fun _ _ _ h => h) (Or.inl ⟨by rfl, ?_⟩) (by assumption) ?_; rotate_left; (intro w hSw; (try dsimp only at hSw); go_split_ands; go_simp; (try with_reducible rfl)); (try simp only [Act.put, List.setIfInBounds_toArray, List.set_cons_zero, List.set_cons_succ]))
            (refine WG.take (i := 3) (v := ?_) rfl (by kernel_rfl) (by kernel_rfl) (by kernel_rfl) (by kernel_rfl) (fun _ _ _ h => h) (Or.inl ⟨by rfl, ?_⟩) (by assumption) ?_; rotate_left; (intro w hSw; (try dsimp only at hSw); go_split_ands; go_simp; (try with_reducible rfl)); (try simp only [Act.put, List.setIfInBounds_toArray, List.set_cons_zero, List.set_cons_succ]))
            (refine WG.take (i := 4) (v := ?_) rfl (by kernel_rfl) (by kernel_rfl) (by kernel_rfl) (by kernel_rfl) (fun _ _ _ h => h) (Or.inl ⟨by rfl, ?_⟩) (by assumption) ?_; rotate_left; (intro w hSw; (try dsimp only at hSw); go_split_ands; go_simp; (try with_reducible rfl)); (try simp only [Act.put, List.setIfInBounds_toArray, List.set_cons_zero, List.set_cons_succ]))
            refine WG.two (i := 5) (j := 9) rfl rfl (by kernel_rfl) (fun K hK => ?_) (fun K hK => ?_)
            · go_simp
              refine (iClusterOpen _ X i false _ (HXV.out.ext HX.out) HSX.out.len HSX.out.flat HSX.out.ids).mono ?_
              rw [← HRR.out]
              rintro e p1 ⟨v5, rfl, hO5, hE⟩
              obtain ⟨A5, c5, B5, d5, rfl⟩ := hO5.form
              have HO5 := hid hO5
              clear hO5
              (try dsimp only)
              have HX := hid (HX.out.trans hE)
              refine hK.out _ _ (by exact KS.out _ HX.out) (fun hHeld => ?_)
              clear hK K hE
              (try simp only [Act.put, List.setIfInBounds_toArray, List.set_cons_zero, List.set_cons_succ])
              (refine WG.take (i := 6) (v := ?_) rfl (by kernel_rfl) (by kernel_rfl) (by kernel_rfl) (by kernel_rfl) (fun _ _ _ h => h) (Or.inl ⟨by rfl, ?_⟩) (by assumption) ?_; rotate_left; (intro w hSw; (try dsimp only at hSw); go_split_ands; go_simp; (try with_reducible rfl)); (try simp only [Act.put, List.setIfInBounds_toArray, List.set_cons_zero, List.set_cons_succ]))
              (refine WG.take (i := 7) (v := ?_) rfl (by kernel_rfl) (by kernel_rfl) (by kernel_rfl) (by kernel_rfl) (fun _ _ _ h => h) (Or.inl ⟨by rfl, ?_⟩) (by assumption) ?_; rotate_left; (intro w hSw; (try dsimp only at hSw); go_split_ands; go_simp; (try with_reducible rfl)); (try simp only [Act.put, List.setIfInBounds_toArray, List.set_cons_zero, List.set_cons_succ]))
              (refine WG.take (i := 8) (v := ?_) rfl (by kernel_rfl) (by kernel_rfl) (by kernel_rfl) (by kernel_rfl) (fun _ _ _ h => h) (Or.inl ⟨by rfl, ?_⟩) (by assumption) ?_; rotate_left; (intro w hSw; (try dsimp only at hSw); go_split_ands; go_simp; (try with_reducible rfl)); (try simp only [Act.put, List.setIfInBounds_toArray, List.set_cons_zero, List.set_cons_succ]))
              refine WG.one (i := 9) rfl (by kernel_rfl) (fun K hK => ?_)
              go_simp
              refine hK.out _ _ (by exact KS.out _ (HX.out.trans (Ext.alloc _ _))) (fun hHeld => ?_)
              clear hK K
              (try simp only [Act.put, List.setIfInBounds_toArray, List.set_cons_zero, List.set_cons_succ])
              obtain ⟨p2, hp2⟩ : ∃ x, x = p1.alloc (.cells #[.slice none 0 0, .slice none 0 0] 26) := ⟨_, rfl⟩
              obtain ⟨B10, hB10⟩ : ∃ x, x = p1.heap.size := ⟨_, rfl⟩
              have hE : Ext p1 p2 := by rw [hp2]; exact Ext.alloc _ _
              have HB10 : Hid (p2.heap[B10]? = some (.cells #[.slice none 0 0, .slice none 0 0] 26 (0, 0))) := hid (by rw [hp2, hB10]; exact heap_alloc_new _ _)
              have HL10 : Hid (wr.heap.size ≤ B10) := hid (by rw [hB10]; exact HX.out.size)
              rw [← hp2] at hHeld ⊢
              rw [← hB10]
              have HX := hid (HX.out.trans hE)
              have HO5 := hid (HO5.out.ext hE)
              clear hp2 hB10 hE
              obtain ⟨y0, y1, y0f, y1f, k1, k1f, hkk, hsm⟩ := box2 HB10.out (.slice A5 R.1.room.length c5) (.slice B5 R.1.units.length d5)
              have HEV : Hid (Ext wr ((p2.setCell ⟨B10, 0, none⟩ (.slice A5 R.1.room.length c5)).setCell ⟨B10, 1, none⟩ (.slice B5 R.1.units.length d5))) := hid (Below.setCell (Below.setCell HX.out HL10.out _) HL10.out _)
              have HOV := hid (OCl.same HO5.out (hsm _ notClu))
              refine WG.one (i := 10) rfl (by kernel_rfl) (fun K hK => ?_)
              go_simp
              refine hK.out _ _ (by exact KS.out _ HEV.out) (fun hHeld => ?_)
              clear hK K
              (try simp only [Act.put, List.setIfInBounds_toArray, List.set_cons_zero, List.set_cons_succ])
              refine WG.last (i := 11) rfl (by kernel_rfl) (by kernel_rfl) (fun K hK => ?_)
              go_simp
              refine hK.out _ _ ?_
              clear hK K
              (try simp only [Act.put, List.setIfInBounds_toArray, List.set_cons_zero, List.set_cons_succ])
              refine WG.done (by kernel_rfl) ?_
              obtain ⟨V, hV⟩ : ∃ V, V = (p2.setCell ⟨B10, 0, none⟩ (.slice A5 R.1.room.length c5)).setCell ⟨B10, 1, none⟩ (.slice B5 R.1.units.length d5) := ⟨_, rfl⟩
              rw [← hV] at HEV HOV hkk hHeld ⊢
              clear hV y0 y1 y0f y1f k1 k1f hsm hHeld
              have HBV := hid hkk
              clear hkk
              have KY : Hid (V.drew.cell? ⟨gy, oy + k, none⟩ = some (.int .i64 i) ∧ V.drew.cell? ⟨gy, oy + j, none⟩ = some (.int .i64 i0)) := hid ⟨(HEV.out.trans (Below.drew (Below.refl _ _))).cell CY.out.1, (HEV.out.trans (Below.drew (Below.refl _ _))).cell CY.out.2⟩
              go_wp2
              refine WG.start (fun w' => w'.cell? ⟨gy, oy + k, none⟩ = some (.int .i64 i) ∧ w'.cell? ⟨gy, oy + j, none⟩ = some (.int .i64 i0)) [] (by kernel_rfl) (by exact KY.out) (fun hHeld => ?_)
              (refine WG.take (i := 0) (v := ?_) rfl (by kernel_rfl) (by kernel_rfl) (by kernel_rfl) (by kernel_rfl) (fun _ _ _ h => h) (Or.inl ⟨by rfl, ?_⟩) (by assumption) ?_; rotate_left; (intro w hSw; (try dsimp only at hSw); go_split_ands; go_simp; (try with_reducible rfl)); (try simp only [Act.put, List.setIfInBounds_toArray, List.set_cons_zero, List.set_cons_succ]))
              (refine WG.take (i := 1) (v := ?_) rfl (by kernel_rfl) (by kernel_rfl) (by kernel_rfl) (by kernel_rfl) (fun _ _ _ h => h) (Or.inl ⟨by rfl, ?_⟩) (by assumption) ?_; rotate_left; (intro w hSw; (try dsimp only at hSw); go_split_ands; go_simp; (try with_reducible rfl)); (try simp only [Act.put, List.setIfInBounds_toArray, List.set_cons_zero, List.set_cons_succ]))
              (refine WG.take (i := 2) (v := ?_) rfl (by kernel_rfl) (by kernel_rfl) (by kernel_rfl) (by kernel_rfl) (fun _ _ _ h => h) (Or.inl ⟨by rfl, ?_⟩) (by assumption) ?_; rotate_left; (intro w hSw; (try dsimp only at hSw); go_split_ands; go_simp; (try with_reducible rfl)); (try simp only [Act.put, List.setIfInBounds_toArray, List.set_cons_zero, List.set_cons_succ]))
              (refine WG.take (i := 3) (v := ?_) rfl (by kernel_rfl) (by kernel_rfl) (by kernel_rfl) (by kernel_rfl) (fun _ _ _ h => h) (Or.inl ⟨by rfl, ?_⟩) (by assumption) ?_; rotate_left; (intro w hSw; (try dsimp only at hSw); go_split_ands; go_simp; (try with_reducible rfl)); (try simp only [Act.put, List.setIfInBounds_toArray, List.set_cons_zero, List.set_cons_succ]))
              (refine WG.take (i := 4) (v := ?_) rfl (by kernel_rfl) (by kernel_rfl) (by kernel_rfl) (by kernel_rfl) (fun _ _ _ h => h) (Or.inl ⟨by rfl, ?_⟩) (by assumption) ?_; rotate_left; (intro w hSw; (try dsimp only at hSw); go_split_ands; go_simp; (try with_reducible rfl)); (try simp only [Act.put, List.setIfInBounds_toArray, List.set_cons_zero, List.set_cons_succ]))
              (refine WG.take (i := 5) (v := ?_) rfl (by kernel_rfl) (by kernel_rfl) (by kernel_rfl) (by kernel_rfl) (fun _ _ _ h => h) (Or.inl ⟨by rfl, ?_⟩) (by assumption) ?_; rotate_left; (intro w hSw; (try dsimp only at hSw); go_split_ands; go_simp; (try with_reducible rfl)); (try simp only [Act.put, List.setIfInBounds_toArray, List.set_cons_zero, List.set_cons_succ]))
              (refine WG.take (i := 6) (v := ?_) rfl (by kernel_rfl) (by kernel_rfl) (by kernel_rfl) (by kernel_rfl) (fun _ _ _ h => h) (Or.inl ⟨by rfl, ?_⟩) (by assumption) ?_; rotate_left; (intro w hSw; (try dsimp only at hSw); go_split_ands; go_simp; (try with_reducible rfl)); (try simp only [Act.put, List.setIfInBounds_toArray, List.set_cons_zero, List.set_cons_succ]))
              (refine WG.take (i := 7) (v := ?_) rfl (by kernel_rfl) (by kernel_rfl) (by kernel_rfl) (by kernel_rfl) (fun _ _ _ h => h) (Or.inl ⟨by rfl, ?_⟩) (by assumption) ?_; rotate_left; (intro w hSw; (try dsimp only at hSw); go_split_ands; go_simp; (try with_reducible rfl)); (try simp only [Act.put, List.setIfInBounds_toArray, List.set_cons_zero, List.set_cons_succ]))
              (refine WG.take (i := 8) (v := ?_) rfl (by kernel_rfl) (by kernel_rfl) (by kernel_rfl) (by kernel_rfl) (fun _ _ _ h => h) (Or.inl ⟨by rfl, ?_⟩) (by assumption) ?_; rotate_left; (intro w hSw; (try dsimp only at hSw); go_split_ands; go_simp; (try with_reducible rfl)); (try simp only [Act.put, List.setIfInBounds_toArray, List.set_cons_zero, List.set_cons_succ]))
              (refine WG.take (i := 9) (v := ?_) rfl (by kernel_rfl) (by kernel_rfl) (by kernel_rfl) (by kernel_rfl) (fun _ _ _ h => h) (Or.inl ⟨by rfl, ?_⟩) (by assumption) ?_; rotate_left; (intro w hSw; (try dsimp only at hSw); go_split_ands; go_simp; (try with_reducible rfl)); (try simp only [Act.put, List.setIfInBounds_toArray, List.set_cons_zero, List.set_cons_succ]))
              (refine WG.take (i := 10) (v := ?_) rfl (by kernel_rfl) (by kernel_rfl) (by kernel_rfl) (by kernel_rfl) (fun _ _ _ h => h) (Or.inl ⟨by rfl, ?_⟩) (by assumption) ?_; rotate_left; (intro w hSw; (try dsimp only at hSw); go_split_ands; go_simp; (try with_reducible rfl)); (try simp only [Act.put, List.setIfInBounds_toArray, List.set_cons_zero, List.set_cons_succ]))
              (refine WG.take (i := 11) (v := ?_) rfl (by kernel_rfl) (by kernel_rfl) (by kernel_rfl) (by kernel_rfl) (fun _ _ _ h => h) (Or.inl ⟨by rfl, ?_⟩) (by assumption) ?_; rotate_left; (intro w hSw; (try dsimp only at hSw); go_split_ands; go_simp; (try with_reducible rfl)); (try simp only [Act.put, List.setIfInBounds_toArray, List.set_cons_zero, List.set_cons_succ]))
              (refine WG.take (i := 12) (v := ?_) rfl (by kernel_rfl) (by kernel_rfl) (by kernel_rfl) (by kernel_rfl) (fun _ _ _ h => h) (Or.inl ⟨by rfl, ?_⟩) (by assumption) ?_; rotate_left; (intro w hSw; (try dsimp only at hSw); go_split_ands; go_simp; (try with_reducible rfl)); (try simp only [Act.put, List.setIfInBounds_toArray, List.set_cons_zero, List.set_cons_succ]))
              (refine WG.take (i := 13) (v := ?_) rfl (by kernel_rfl) (by kernel_rfl) (by kernel_rfl) (by kernel_rfl) (fun _ _ _ h => h) (Or.inl ⟨by rfl, ?_⟩) (by assumption) ?_; rotate_left; (intro w hSw; (try dsimp only at hSw); go_split_ands; go_simp; (try with_reducible rfl)); (try simp only [Act.put, List.setIfInBounds_toArray, List.set_cons_zero, List.set_cons_succ]))
              (refine WG.take (i := 14) (v := ?_) rfl (by kernel_rfl) (by kernel_rfl) (by kernel_rfl) (by kernel_rfl) (fun _ _ _ h => h) (Or.inl ⟨by rfl, ?_⟩) (by assumption) ?_; rotate_left; (intro w hSw; (try dsimp only at hSw); go_split_ands; go_simp; (try with_reducible rfl)); (try simp only [Act.put, List.setIfInBounds_toArray, List.set_cons_zero, List.set_cons_succ]))
              (refine WG.take (i := 15) (v := ?_) rfl (by kernel_rfl) (by kernel_rfl) (by kernel_rfl) (by kernel_rfl) (fun _ _ _ h => h) (Or.inl ⟨by rfl, ?_⟩) (by assumption) ?_; rotate_left; (intro w hSw; (try dsimp only at hSw); go_split_ands; go_simp; (try with_reducible rfl)); (try simp only [Act.put, List.setIfInBounds_toArray, List.set_cons_zero, List.set_cons_succ]))
              (refine WG.take (i := 16) (v := ?_) rfl (by kernel_rfl) (by kernel_rfl) (by kernel_rfl) (by kernel_rfl) (fun _ _ _ h => h) (Or.inl ⟨by rfl, ?_⟩) (by assumption) ?_; rotate_left; (intro w hSw; (try dsimp only at hSw); go_split_ands; go_simp; (try with_reducible rfl)); (try simp only [Act.put, List.setIfInBounds_toArray, List.set_cons_zero, List.set_cons_succ]))
              (refine WG.take (i := 17) (v := ?_) rfl (by kernel_rfl) (by kernel_rfl) (by kernel_rfl) (by kernel_rfl) (fun _ _ _ h => h) (Or.inl ⟨by rfl, ?_⟩) (by assumption) ?_; rotate_left; (intro w hSw; (try dsimp only at hSw); go_split_ands; go_simp; (try with_reducible rfl)); (try simp only [Act.put, List.setIfInBounds_toArray, List.set_cons_zero, List.set_cons_succ]))
              refine WG.done (by kernel_rfl) ?_
              obtain ⟨z0, z1, z0f, z1f, l1, l1f, hll, hsl⟩ := box2 (HEV.out.obj HBX.out) (.slice A5 R.1.room.length c5) (.slice B5 R.1.units.length d5)
              have t0 := obj_cell HBV.out (i := 0) rfl
              have t1 := obj_cell HBV.out (i := 1) rfl
              have HLL := hid hll
              have HSL := hid hsl
              clear hll hsl
              go_wp2
              go_roundw
              case rel => exact ⟨k + 1, A5, c5, B5, d5, R.1, by omega, by go_num, hid ⟨by rw [closeAll_take C HYK.out, ← HXE.out, HRR.out], HSR.out, (OCl.same HOV.out (HSL.out _ notClu)).read, HLL.out, (by first | exact Ext.trans (Below.setCell (p := ⟨H8, 1, none⟩) (Below.setCell (p := ⟨H8, 0, none⟩) (HEX.out.trans HEV.out) HH8.out _) HH8.out _) (Below.drew (Below.refl _ _)) | exact Below.setCell (p := ⟨H8, 1, none⟩) (Below.setCell (p := ⟨H8, 0, none⟩) (HEX.out.trans HEV.out) HH8.out _) HH8.out _)⟩⟩
              case measure => simp [intOf]; omega
            · go_simp
              refine hK.out _ _ (by exact KS.out _ (HX.out.trans (Ext.alloc _ _))) (fun hHeld => ?_)
              clear hK K
              (try simp only [Act.put, List.setIfInBounds_toArray, List.set_cons_zero, List.set_cons_succ])
              obtain ⟨p3, hp3⟩ : ∃ x, x = pz.alloc (.cells #[.slice none 0 0, .slice none 0 0] 26) := ⟨_, rfl⟩
              obtain ⟨B10, hB10⟩ : ∃ x, x = pz.heap.size := ⟨_, rfl⟩
              have hE : Ext pz p3 := by rw [hp3]; exact Ext.alloc _ _
              have HB10 : Hid (p3.heap[B10]? = some (.cells #[.slice none 0 0, .slice none 0 0] 26 (0, 0))) := hid (by rw [hp3, hB10]; exact heap_alloc_new _ _)
              have HL10 : Hid (wr.heap.size ≤ B10) := hid (by rw [hB10]; exact HX.out.size)
              rw [← hp3] at hHeld ⊢
              rw [← hB10]
              have HX := hid (HX.out.trans hE)
              clear hp3 hB10 hE
              refine WG.one (i := 5) rfl (by kernel_rfl) (fun K hK => ?_)
              go_simp
              refine (iClusterOpen _ X i false _ (HXV.out.ext HX.out) HSX.out.len HSX.out.flat HSX.out.ids).mono ?_
              rw [← HRR.out]
              rintro e p4 ⟨v5, rfl, hO5, hE⟩
              obtain ⟨A5, c5, B5, d5, rfl⟩ := hO5.form
              have HO5 := hid hO5
              clear hO5
              (try dsimp only)
              have HX := hid (HX.out.trans hE)
              have HB10 := hid (hE.obj HB10.out)
              refine hK.out _ _ (by exact KS.out _ HX.out) (fun hHeld => ?_)
              clear hK K hE
              (try simp only [Act.put, List.setIfInBounds_toArray, List.set_cons_zero, List.set_cons_succ])
              (refine WG.take (i := 6) (v := ?_) rfl (by kernel_rfl) (by kernel_rfl) (by kernel_rfl) (by kernel_rfl) (fun _ _ _ h => h) (Or.inl ⟨by rfl, ?_⟩) (by assumption) ?_; rotate_left; (intro w hSw; (try dsimp only at hSw); go_split_ands; go_simp; (try with_reducible rfl)); (try simp only [Act.put, List.setIfInBounds_toArray, List.set_cons_zero, List.set_cons_succ]))
              (refine WG.take (i := 7) (v := ?_) rfl (by kernel_rfl) (by kernel_rfl) (by kernel_rfl) (by kernel_rfl) (fun _ _ _ h => h) (Or.inl ⟨by rfl, ?_⟩) (by assumption) ?_; rotate_left; (intro w hSw; (try dsimp only at hSw); go_split_ands; go_simp; (try with_reducible rfl)); (try simp only [Act.put, List.setIfInBounds_toArray, List.set_cons_zero, List.set_cons_succ]))
              (refine WG.take (i := 8) (v := ?_) rfl (by kernel_rfl) (by kernel_rfl) (by kernel_rfl) (by kernel_rfl) (fun _ _ _ h => h) (Or.inl ⟨by rfl, ?_⟩) (by assumption) ?_; rotate_left; (intro w hSw; (try dsimp only at hSw); go_split_ands; go_simp; (try with_reducible rfl)); (try simp only [Act.put, List.setIfInBounds_toArray, List.set_cons_zero, List.set_cons_succ]))
              obtain ⟨y0, y1, y0f, y1f, k1, k1f, hkk, hsm⟩ := box2 HB10.out (.slice A5 R.1.room.length c5) (.slice B5 R.1.units.length d5)
              have HEV : Hid (Ext wr ((p4.setCell ⟨B10, 0, none⟩ (.slice A5 R.1.room.length c5)).setCell ⟨B10, 1, none⟩ (.slice B5 R.1.units.length d5))) := hid (Below.setCell (Below.setCell HX.out HL10.out _) HL10.out _)
              have HOV := hid (OCl.same HO5.out (hsm _ notClu))
              refine WG.one (i := 10) rfl (by kernel_rfl) (fun K hK => ?_)
              go_simp
              refine hK.out _ _ (by exact KS.out _ HEV.out) (fun hHeld => ?_)
              clear hK K
              (try simp only [Act.put, List.setIfInBounds_toArray, List.set_cons_zero, List.set_cons_succ])
              refine WG.last (i := 11) rfl (by kernel_rfl) (by kernel_rfl) (fun K hK => ?_)
              go_simp
              refine hK.out _ _ ?_
              clear hK K
              (try simp only [Act.put, List.setIfInBounds_toArray, List.set_cons_zero, List.set_cons_succ])
              refine WG.done (by kernel_rfl) ?_
              obtain ⟨V, hV⟩ : ∃ V, V = (p4.setCell ⟨B10, 0, none⟩ (.slice A5 R.1.room.length c5)).setCell ⟨B10, 1, none⟩ (.slice B5 R.1.units.length d5) := ⟨_, rfl⟩
              rw [← hV] at HEV HOV hkk hHeld ⊢
              clear hV y0 y1 y0f y1f k1 k1f hsm hHeld
              have HBV := hid hkk
              clear hkk
              have KY : Hid (V.drew.cell? ⟨gy, oy + k, none⟩ = some (.int .i64 i) ∧ V.drew.cell? ⟨gy, oy + j, none⟩ = some (.int .i64 i0)) := hid ⟨(HEV.out.trans (Below.drew (Below.refl _ _))).cell CY.out.1, (HEV.out.trans (Below.drew (Below.refl _ _))).cell CY.out.2⟩
              go_wp2
              refine WG.start (fun w' => w'.cell? ⟨gy, oy + k, none⟩ = some (.int .i64 i) ∧ w'.cell? ⟨gy, oy + j, none⟩ = some (.int .i64 i0)) [] (by kernel_rfl) (by exact KY.out) (fun hHeld => ?_)
              (refine WG.take (i := 0) (v := ?_) rfl (by kernel_rfl) (by kernel_rfl) (by kernel_rfl) (by kernel_rfl) (fun _ _ _ h => h) (Or.inl ⟨by rfl, ?_⟩) (by assumption) ?_; rotate_left; (intro w hSw; (try dsimp only at hSw); go_split_ands; go_simp; (try with_reducible rfl)); (try simp only [Act.put, List.setIfInBounds_toArray, List.set_cons_zero, List.set_cons_succ]))
              (refine WG.take (i := 1) (v := ?_) rfl (by kernel_rfl) (by kernel_rfl) (by kernel_rfl) (by kernel_rfl) (fun _ _ _ h => h) (Or.inl ⟨by rfl, ?_⟩) (by assumption) ?_; rotate_left; (intro w hSw; (try dsimp only at hSw); go_split_ands; go_simp; (try with_reducible rfl)); (try simp only [Act.put, List.setIfInBounds_toArray, List.set_cons_zero, List.set_cons_succ]))
              (refine WG.take (i := 2) (v := ?_) rfl (by kernel_rfl) (by kernel_rfl) (by kernel_rfl) (by kernel_rfl) (fun _ _ _ h => h) (Or.inl ⟨by rfl, ?_⟩) (by assumption) ?_; rotate_left; (intro w hSw; (try dsimp only at hSw); go_split_ands; go_simp; (try with_reducible rfl)); (try simp only [Act.put, List.setIfInBounds_toArray, List.set_cons_zero, List.set_cons_succ]))
              (refine WG.take (i := 3) (v := ?_) rfl (by kernel_rfl) (by kernel_rfl) (by kernel_rfl) (by kernel_rfl) (fun _ _ _ h => h) (Or.inl ⟨by rfl, ?_⟩) (by assumption) ?_; rotate_left; (intro w hSw; (try dsimp only at hSw); go_split_ands; go_simp; (try with_reducible rfl)); (try simp only [Act.put, List.setIfInBounds_toArray, List.set_cons_zero, List.set_cons_succ]))
              (refine WG.take (i := 4) (v := ?_) rfl (by kernel_rfl) (by kernel_rfl) (by kernel_rfl) (by kernel_rfl) (fun _ _ _ h => h) (Or.inl ⟨by rfl, ?_⟩) (by assumption) ?_; rotate_left; (intro w hSw; (try dsimp only at hSw); go_split_ands; go_simp; (try with_reducible rfl)); (try simp only [Act.put, List.setIfInBounds_toArray, List.set_cons_zero, List.set_cons_succ]))
              (refine WG.take (i := 5) (v := ?_) rfl (by kernel_rfl) (by kernel_rfl) (by kernel_rfl) (by kernel_rfl) (fun _ _ _ h => h) (Or.inl ⟨by rfl, ?_⟩) (by assumption) ?_; rotate_left; (intro w hSw; (try dsimp only at hSw); go_split_ands; go_simp; (try with_reducible rfl)); (try simp only [Act.put, List.setIfInBounds_toArray, List.set_cons_zero, List.set_cons_succ]))
              (refine WG.take (i := 6) (v := ?_) rfl (by kernel_rfl) (by kernel_rfl) (by kernel_rfl) (by kernel_rfl) (fun _ _ _ h => h) (Or.inl ⟨by rfl, ?_⟩) (by assumption) ?_; rotate_left; (intro w hSw; (try dsimp only at hSw); go_split_ands; go_simp; (try with_reducible rfl)); (try simp only [Act.put, List.setIfInBounds_toArray, List.set_cons_zero, List.set_cons_succ]))
              (refine WG.take (i := 7) (v := ?_) rfl (by kernel_rfl) (by kernel_rfl) (by kernel_rfl) (by kernel_rfl) (fun _ _ _ h => h) (Or.inl ⟨by rfl, ?_⟩) (by assumption) ?_; rotate_left; (intro w hSw; (try dsimp only at hSw); go_split_ands; go_simp; (try with_reducible rfl)); (try simp only [Act.put, List.setIfInBounds_toArray, List.set_cons_zero, List.set_cons_succ]))
              (refine WG.take (i := 8) (v := ?_) rfl (by kernel_rfl) (by kernel_rfl) (by kernel_rfl) (by kernel_rfl) (fun _ _ _ h => h) (Or.inl ⟨by rfl, ?_⟩) (by assumption) ?_; rotate_left; (intro w hSw; (try dsimp only at hSw); go_split_ands; go_simp; (try with_reducible rfl)); (try simp only [Act.put, List.setIfInBounds_toArray, List.set_cons_zero, List.set_cons_succ]))
              (refine WG.take (i := 9) (v := ?_) rfl (by kernel_rfl) (by kernel_rfl) (by kernel_rfl) (by kernel_rfl) (fun _ _ _ h => h) (Or.inl ⟨by rfl, ?_⟩) (by assumption) ?_; rotate_left; (intro w hSw; (try dsimp only at hSw); go_split_ands; go_simp; (try with_reducible rfl)); (try simp only [Act.put, List.setIfInBounds_toArray, List.set_cons_zero, List.set_cons_succ]))
              (refine WG.take (i := 10) (v := ?_) rfl (by kernel_rfl) (by kernel_rfl) (by kernel_rfl) (by kernel_rfl) (fun _ _ _ h => h) (Or.inl ⟨by rfl, ?_⟩) (by assumption) ?_; rotate_left; (intro w hSw; (try dsimp only at hSw); go_split_ands; go_simp; (try with_reducible rfl)); (try simp only [Act.put, List.setIfInBounds_toArray, List.set_cons_zero, List.set_cons_succ]))
              (refine WG.take (i := 11) (v := ?_) rfl (by kernel_rfl) (by kernel_rfl) (by kernel_rfl) (by kernel_rfl) (fun _ _ _ h => h) (Or.inl ⟨by rfl, ?_⟩) (by assumption) ?_; rotate_left; (intro w hSw; (try dsimp only at hSw); go_split_ands; go_simp; (try with_reducible rfl)); (try simp only [Act.put, List.setIfInBounds_toArray, List.set_cons_zero, List.set_cons_succ]))
              (refine WG.take (i := 12) (v := ?_) rfl (by kernel_rfl) (by kernel_rfl) (by kernel_rfl) (by kernel_rfl) (fun _ _ _ h => h) (Or.inl ⟨by rfl, ?_⟩) (by assumption) ?_; rotate_left; (intro w hSw; (try dsimp only at hSw); go_split_ands; go_simp; (try with_reducible rfl)); (try simp only [Act.put, List.setIfInBounds_toArray, List.set_cons_zero, List.set_cons_succ]))
              (refine WG.take (i := 13) (v := ?_) rfl (by kernel_rfl) (by kernel_rfl) (by kernel_rfl) (by kernel_rfl) (fun _ _ _ h => h) (Or.inl ⟨by rfl, ?_⟩) (by assumption) ?_; rotate_left; (intro w hSw; (try dsimp only at hSw); go_split_ands; go_simp; (try with_reducible rfl)); (try simp only [Act.put, List.setIfInBounds_toArray, List.set_cons_zero, List.set_cons_succ]))
              (refine WG.take (i := 14) (v := ?_) rfl (by kernel_rfl) (by kernel_rfl) (by kernel_rfl) (by kernel_rfl) (fun _ _ _ h => h) (Or.inl ⟨by rfl, ?_⟩) (by assumption) ?_; rotate_left; (intro w hSw; (try dsimp only at hSw); go_split_ands; go_simp; (try with_reducible rfl)); (try simp only [Act.put, List.setIfInBounds_toArray, List.set_cons_zero, List.set_cons_succ]))
              (refine WG.take (i := 15) (v := ?_) rfl (by kernel_rfl) (by kernel_rfl) (by kernel_rfl) (by kernel_rfl) (fun _ _ _ h => h) (Or.inl ⟨by rfl, ?_⟩) (by assumption) ?_; rotate_left; (intro w hSw; (try dsimp only at hSw); go_split_ands; go_simp; (try with_reducible rfl)); (try simp only [Act.put, List.setIfInBounds_toArray, List.set_cons_zero, List.set_cons_succ]))
              (refine WG.take (i := 16) (v := ?_) rfl (by kernel_rfl) (by kernel_rfl) (by kernel_rfl) (by kernel_rfl) (fun _ _ _ h => h) (Or.inl ⟨by rfl, ?_⟩) (by assumption) ?_; rotate_left; (intro w hSw; (try dsimp only at hSw); go_split_ands; go_simp; (try with_reducible rfl)); (try simp only [Act.put, List.setIfInBounds_toArray, List.set_cons_zero, List.set_cons_succ]))
              (refine WG.take (i := 17) (v := ?_) rfl (by kernel_rfl) (by kernel_rfl) (by kernel_rfl) (by kernel_rfl) (fun _ _ _ h => h) (Or.inl ⟨by rfl, ?_⟩) (by assumption) ?_; rotate_left; (intro w hSw; (try dsimp only at hSw); go_split_ands; go_simp; (try with_reducible rfl)); (try simp only [Act.put, List.setIfInBounds_toArray, List.set_cons_zero, List.set_cons_succ]))
              refine WG.done (by kernel_rfl) ?_
              obtain ⟨z0, z1, z0f, z1f, l1, l1f, hll, hsl⟩ := box2 (HEV.out.obj HBX.out) (.slice A5 R.1.room.length c5) (.slice B5 R.1.units.length d5)
              have t0 := obj_cell HBV.out (i := 0) rfl
              have t1 := obj_cell HBV.out (i := 1) rfl
              have HLL := hid hll
              have HSL := hid hsl
              clear hll hsl
              go_wp2
              go_roundw
              case rel => exact ⟨k + 1, A5, c5, B5, d5, R.1, by omega, by go_num, hid ⟨by rw [closeAll_take C HYK.out, ← HXE.out, HRR.out], HSR.out, (OCl.same HOV.out (HSL.out _ notClu)).read, HLL.out, (by first | exact Ext.trans (Below.setCell (p := ⟨H8, 1, none⟩) (Below.setCell (p := ⟨H8, 0, none⟩) (HEX.out.trans HEV.out) HH8.out _) HH8.out _) (Below.drew (Below.refl _ _)) | exact Below.setCell (p := ⟨H8, 1, none⟩) (Below.setCell (p := ⟨H8, 0, none⟩) (HEX.out.trans HEV.out) HH8.out _) HH8.out _)⟩⟩
              case measure => simp [intOf]; omega
        · have hkl' : ¬ (k : Int) < (ys.length : Int) := by omega
          have HXE : Hid (X = closeAll C ys) := hid (by rw [HXE.out, show k = ys.length by omega, List.take_length])
          have b80 := obj_cell HBX.out (i := 0) rfl
          have b81 := obj_cell HBX.out (i := 1) rfl
          have hge : many ≤ spareN X need := by rw [HXE.out]; exact HGE.out
          go_wp2_with (go_at_call 17; refine (iSpareCount _ _ X need _ HXV.out (RI.ext HNW.out (HQ4.out.trans HEX.out)) HSX.out.len HSX.out.flat HSX.out.ids).mono ?_; rintro e w9 ⟨rfl, hE9⟩; have HE9 := hid hE9; clear hE9)
          go_ret
          exact ⟨rfl, HEW.out.trans (HQ4.out.trans (HEX.out.trans HE9.out))⟩
  · have i1 : (1048576 : Int) < (bs.length : Int) := by omega
    go_enter Tryz.func14, Tryz.ntmps14
    go_wp2
    go_ret
    exact ⟨rfl, Ext.refl _⟩

end Go.Proofs.YtfgibhdglbjadaaGreat
