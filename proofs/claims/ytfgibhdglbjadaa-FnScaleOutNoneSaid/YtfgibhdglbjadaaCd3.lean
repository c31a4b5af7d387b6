/- A cluster and a need are drawn, and a number of tasks. -/
import Derived.Test.YtfgibhdglbjadaaCd2
namespace Go.Proofs.Ytfgibhdglbjadaa
open Go.RowKit
set_option maxRecDepth 4000

theorem notClu2 : ∀ t, (t = 3 ∨ False) → t ≠ 26 := by rintro t (rfl | h) <;> first | decide | exact h.elim
theorem Own.low' {α : Type} {e : TypeId} {size : Nat} {E : Enc α} {w : World} {base base' : Nat} {v : Value} {xs : List α} (h : Own e size E w base v xs) (hb : base' ≤ base) : Own e size E w base' v xs := h.low hb
set_option maxHeartbeats 4000000 in
theorem dDrawSpare (v : Value) (bs : List Int) (w : World) (h : XBy w v bs) (hl : bs.length ≤ 4000000) :
    Calls Try.prog 18 #[v] w fun e w' => ∃ cv nv C need, e = .returned (.tuple #[cv, nv]) ∧ OCl w' w.heap.size cv C ∧ OI w' w.heap.size nv need ∧ need.length = 3 ∧ (∀ x ∈ need, -1 ≤ x ∧ x ≤ 21) ∧ SmallC C ∧ Ext w w' := by
  have HW := hid (Ext.alloc w (.cells #[.slice none 0 0, .slice none 0 0] 26))
  have HB := hid (h.ext (Ext.alloc w (.cells #[.slice none 0 0, .slice none 0 0] 26)))
  have Z0 := hid (heap_alloc_new w (.cells #[.slice none 0 0, .slice none 0 0] 26))
  clear h
  go_enter Try.func18, Try.ntmps18
  go_wp2_with (first
    | (go_at_call 52; refine (dOpen _ bs _ HB.out hl).mono ?_; rintro e w1 ⟨rfl, ⟨bv, bs', hr1⟩, hE1⟩; have HR1 := hid hr1; have HE1 := hid (HW.out.trans hE1); have Z1 := hid (hE1.obj Z0.out); obtain ⟨b, hb⟩ : ∃ b, b = (w.alloc (.cells #[.slice none 0 0, .slice none 0 0] 26)).heap.size := ⟨_, rfl⟩; have hbw : w.heap.size < b := (by rw [hb]; simp); rw [← hb] at HR1 ⊢; clear hb hr1 hE1)
    | (go_at_call 53; refine (dCluster b bv bs' 0 _ HR1.out (by omega)).mono ?_; rintro e w2 ⟨cv, C, rfl, hO2, hS2, hD2⟩; have HSC := hid hS2; obtain ⟨Ar, cr, Au, cu, rfl⟩ := hO2.form; have Z2 := hid (hD2.1.obj Z1.out (by omega)); have HB2 : Hid (Ext w w2) := hid (Below.trans HE1.out (hD2.1.below (Nat.le_of_lt hbw) HE1.out.size)); have HO2 := hid (hO2.low HE1.out.size); have HD2 := hid hD2; obtain ⟨y0, y1, y0f, y1f, k1, k1f, hkk, _⟩ := box2 (heap_alloc_new w2 (.cells #[.slice none 0 0, .slice none 0 0] 26)) (.slice Ar C.room.length cr) (.slice Au C.units.length cu); clear hkk hO2 hS2 hD2))
  obtain ⟨W3, hW3⟩ : ∃ W3, W3 = w2.alloc (.cells #[.slice Ar C.room.length cr, .slice Au C.units.length cu] 26) := ⟨_, rfl⟩
  have hE3 : Ext w2 W3 := by rw [hW3]; exact Ext.alloc _ _
  have hX3 : W3.heap[w2.heap.size]? = some (.cells #[.slice Ar C.room.length cr, .slice Au C.units.length cu] 26 (0, 0)) := by rw [hW3]; exact heap_alloc_new _ _
  rw [← hW3]
  clear hW3 y0 y1 y0f y1f k1 k1f
  have X3 := hid hX3
  have Z3 := hid (hE3.obj Z2.out)
  have HO3 := hid (HO2.out.ext hE3)
  have HB3 := hid (HB2.out.trans hE3)
  have HD3 := hid (HD2.out.ext hE3)
  obtain ⟨H, hH⟩ : ∃ H, H = w2.heap.size := ⟨_, rfl⟩
  have hHw : w.heap.size < H := by rw [hH]; exact obj_lt Z2.out
  have hHb : b < H := by rw [hH]; obtain ⟨_, _, _, hr⟩ := HD2.out; exact obj_lt hr.1
  rw [← hH] at X3 ⊢
  clear hX3 hE3 hH
  have KS3 := hid (And.intro (obj_cell X3.out (i := 0) rfl) (obj_cell X3.out (i := 1) rfl))
  refine WG.start (fun w' => w'.cell? ⟨H, 0, none⟩ = some (.slice Ar C.room.length cr) ∧ w'.cell? ⟨H, 1, none⟩ = some (.slice Au C.units.length cu)) [3,4] (by kernel_rfl) (by exact KS3.out) (fun hHeld => ?_)
  (refine WG.take (i := 0) (v := ?_) rfl (by kernel_rfl) (by kernel_rfl) (by kernel_rfl) (by kernel_rfl) (fun _ _ _ h => h) (Or.inl ⟨by rfl, ?_⟩) (by assumption) ?_; rotate_left; (intro w hSw; (try dsimp only at hSw); go_split_ands; go_simp; (try with_reducible rfl)); (try simp only [Act.put, List.setIfInBounds_toArray, List.set_cons_zero, List.set_cons_succ]))
  (refine WG.take (i := 1) (v := ?_) rfl (by kernel_rfl) (by kernel_rfl) (by kernel_rfl) (by kernel_rfl) (fun _ _ _ h => h) (Or.inl ⟨by rfl, ?_⟩) (by assumption) ?_; rotate_left; (intro w hSw; (try dsimp only at hSw); go_split_ands; go_simp; (try with_reducible rfl)); (try simp only [Act.put, List.setIfInBounds_toArray, List.set_cons_zero, List.set_cons_succ]))
  refine WG.one (i := 2) rfl (by kernel_rfl) (fun K hK => ?_)
  go_simp; obtain ⟨hg3, p3, hp3, hr3⟩ := HD3.out; have hr3 := hr3.ext (Below.drew (Below.refl _ _)); refine (dNeed b bv bs' p3 _ hr3 (by omega)).mono ?_; rintro e w4 ⟨nv, need, rfl, hON, hNL, hNB, hD4⟩; have X4 := hid (hD4.1.obj (k := H) X3.out (by omega)); have Z4 := hid (hD4.1.obj (k := w.heap.size) Z3.out (by omega)); have HO4 := hid (OCl.same (w := W3.drew) (HO3.out.ext (Below.drew (Below.refl _ _))) (hD4.1.same hr3 _ notRd3)); have HB4 : Hid (Ext w w4) := hid (Below.trans (HB3.out.trans (Below.drew (Below.refl _ _))) (hD4.1.below (Nat.le_of_lt hbw) HB3.out.size)); have HN4 := hid (hON.low (base' := w.heap.size) HB3.out.size); have HNL := hid hNL; have HNB := hid hNB; obtain ⟨An, cn, rfl, _, _⟩ := hON.form; clear hg3 hp3 hr3 hON hNL hNB hD4; (try dsimp only)
  refine hK.out _ _ (by exact (And.intro (obj_cell X4.out (i := 0) rfl) (obj_cell X4.out (i := 1) rfl))) (fun hHeld => ?_)
  clear hK K
  (try simp only [Act.put, List.setIfInBounds_toArray, List.set_cons_zero, List.set_cons_succ])
  obtain ⟨y0, y1, y0f, y1f, k1, k1f, hkk, hsm⟩ := box2 Z4.out (.slice Ar C.room.length cr) (.slice Au C.units.length cu)
  have r0 := obj_cell hkk (i := 0) rfl
  have r1 := obj_cell hkk (i := 1) rfl
  have HSM := hid hsm
  clear hkk hsm
  refine WG.last (i := 3) rfl (by kernel_rfl) (by kernel_rfl) (fun K hK => ?_)
  go_simp
  refine hK.out _ _ ?_
  clear hK K
  (try simp only [Act.put, List.setIfInBounds_toArray, List.set_cons_zero, List.set_cons_succ])
  refine WG.last (i := 4) rfl (by kernel_rfl) (by kernel_rfl) (fun K hK => ?_)
  go_simp
  refine hK.out _ _ ?_
  clear hK K
  (try simp only [Act.put, List.setIfInBounds_toArray, List.set_cons_zero, List.set_cons_succ])
  refine WG.done (by kernel_rfl) ?_
  go_wp2
  refine bodyPost_ret (v := .tuple #[.agg #[.slice Ar C.room.length cr, .slice Au C.units.length cu], .slice An need.length cn]) (by simp [results, Try.results18, go_sem, r0, r1]) rfl ?_
  exact ⟨_, _, _, _, rfl, HO4.out.same (HSM.out _ notClu), Own.same EI.ok HN4.out (HSM.out _ notClu2), HNL.out, HNB.out, HSC.out, Below.setCell (Below.setCell HB4.out (Nat.le_refl _) _) (Nat.le_refl _) _⟩

theorem want_at {x : Nat} (h : x < 3) : ∃ y : Int, ([-1, 999, 1000] : List Int)[x]? = some y ∧ -1 ≤ y ∧ y ≤ 1000 := by
  match x, h with
  | 0, _ => exact ⟨-1, rfl, by omega, by omega⟩
  | 1, _ => exact ⟨999, rfl, by omega, by omega⟩
  | 2, _ => exact ⟨1000, rfl, by omega, by omega⟩
set_option maxHeartbeats 8000000 in
theorem dDrawScaleOut (v : Value) (bs : List Int) (w : World) (h : XBy w v bs) (hl : bs.length ≤ 4000000) :
    Calls Try.prog 45 #[v] w fun e w' => ∃ (cv nv : Value) (C : ClusD) (need : List Int) (want : Int), e = .returned (.tuple #[cv, nv, .int .i64 want]) ∧ OCl w' w.heap.size cv C ∧ OI w' w.heap.size nv need ∧ need.length = 3 ∧ (∀ x ∈ need, -1 ≤ x ∧ x ≤ 21) ∧ SmallC C ∧ (-1 ≤ want ∧ want ≤ 1000) ∧ Ext w w' := by
  have HW := hid (Ext.alloc w (.cells #[.slice none 0 0, .slice none 0 0] 26))
  have HB := hid (h.ext (Ext.alloc w (.cells #[.slice none 0 0, .slice none 0 0] 26)))
  have Z0 := hid (heap_alloc_new w (.cells #[.slice none 0 0, .slice none 0 0] 26))
  clear h
  go_enter Try.func45, Try.ntmps45
  go_wp2_with (first
    | (go_at_call 52; refine (dOpen _ bs _ HB.out hl).mono ?_; rintro e w1 ⟨rfl, ⟨bv, bs', hr1⟩, hE1⟩; have HR1 := hid hr1; have HE1 := hid (HW.out.trans hE1); have Z1 := hid (hE1.obj Z0.out); obtain ⟨b, hb⟩ : ∃ b, b = (w.alloc (.cells #[.slice none 0 0, .slice none 0 0] 26)).heap.size := ⟨_, rfl⟩; have hbw : w.heap.size < b := (by rw [hb]; simp); rw [← hb] at HR1 ⊢; clear hb hr1 hE1)
    | (go_at_call 53; refine (dCluster b bv bs' 0 _ HR1.out (by omega)).mono ?_; rintro e w2 ⟨cv, C, rfl, hO2, hS2, hD2⟩; have HSC := hid hS2; obtain ⟨Ar, cr, Au, cu, rfl⟩ := hO2.form; have Z2 := hid (hD2.1.obj Z1.out (by omega)); have HB2 : Hid (Ext w w2) := hid (Below.trans HE1.out (hD2.1.below (Nat.le_of_lt hbw) HE1.out.size)); have HO2 := hid (hO2.low HE1.out.size); have HD2 := hid hD2; obtain ⟨y0, y1, y0f, y1f, k1, k1f, hkk, _⟩ := box2 (heap_alloc_new w2 (.cells #[.slice none 0 0, .slice none 0 0] 26)) (.slice Ar C.room.length cr) (.slice Au C.units.length cu); clear hkk hO2 hS2 hD2))
  obtain ⟨W3, hW3⟩ : ∃ W3, W3 = w2.alloc (.cells #[.slice Ar C.room.length cr, .slice Au C.units.length cu] 26) := ⟨_, rfl⟩
  have hE3 : Ext w2 W3 := by rw [hW3]; exact Ext.alloc _ _
  have hX3 : W3.heap[w2.heap.size]? = some (.cells #[.slice Ar C.room.length cr, .slice Au C.units.length cu] 26 (0, 0)) := by rw [hW3]; exact heap_alloc_new _ _
  rw [← hW3]
  clear hW3 y0 y1 y0f y1f k1 k1f
  have X3 := hid hX3
  have Z3 := hid (hE3.obj Z2.out)
  have HO3 := hid (HO2.out.ext hE3)
  have HB3 := hid (HB2.out.trans hE3)
  have HD3 := hid (HD2.out.ext hE3)
  obtain ⟨H, hH⟩ : ∃ H, H = w2.heap.size := ⟨_, rfl⟩
  have hHw : w.heap.size < H := by rw [hH]; exact obj_lt Z2.out
  have hHb : b < H := by rw [hH]; obtain ⟨_, _, _, hr⟩ := HD2.out; exact obj_lt hr.1
  rw [← hH] at X3 ⊢
  clear hX3 hE3 hH
  have cX0 := obj_cell X3.out (i := 0) rfl
  have cX1 := obj_cell X3.out (i := 1) rfl
  go_wp2_with (first
    | (go_at_call 54; obtain ⟨hg3, p3, hp3, hr3⟩ := HD3.out; refine (dNeed b bv bs' p3 _ hr3 (by omega)).mono ?_; rintro e w4 ⟨nv, need, rfl, hON, hNL, hNB, hD4⟩; have X4 := hid (hD4.1.obj (k := H) X3.out (by omega)); have Z4 := hid (hD4.1.obj (k := w.heap.size) Z3.out (by omega)); have HO4 := hid (OCl.same HO3.out (hD4.1.same hr3 _ notRd3)); have HB4 : Hid (Ext w w4) := hid (Below.trans HB3.out (hD4.1.below (Nat.le_of_lt hbw) HB3.out.size)); have HN4 := hid (hON.low (base' := w.heap.size) HB3.out.size); have HD4 := hid (DrawR.then hg3 hp3 hD4); have HNL := hid hNL; have HNB := hid hNB; obtain ⟨An, cn, rfl, _, _⟩ := hON.form; clear hg3 hp3 hr3 hON hNL hNB hD4)
    | (go_at_call 75; obtain ⟨hg4, p4, hp4, hr4⟩ := HD4.out; refine (dPick b bv bs' p4 _ _ hr4 (by omega) (by omega)).mono ?_; rintro e w5 ⟨x5, rfl, hx5, hg5, hr5⟩; have X5 := hid (hg5.obj (k := H) X4.out (by omega)); have Z5 := hid (hg5.obj (k := w.heap.size) Z4.out (by omega)); have HO5 := hid (OCl.same HO4.out (hg5.same hr4 _ notRd3)); have HB5 : Hid (Ext w w5) := hid (Below.trans HB4.out (hg5.below (Nat.le_of_lt hbw) HB4.out.size)); have HN5 := hid (Own.same EI.ok HN4.out (hg5.same hr4 _ notRd)); have HD5 := hid (HD4.out.more hg5 hr5 hp4); have hx5l := pick_lt hx5 (by decide); clear hg4 hp4 hr4 hg5 hr5 hx5))
  · have KS5 := hid (And.intro (obj_cell X5.out (i := 0) rfl) (obj_cell X5.out (i := 1) rfl))
    have hz5 := HB5.out.size
    refine WG.start (fun w' => w'.cell? ⟨H, 0, none⟩ = some (.slice Ar C.room.length cr) ∧ w'.cell? ⟨H, 1, none⟩ = some (.slice Au C.units.length cu)) [9] (by kernel_rfl) (by exact KS5.out) (fun hHeld => ?_)
    (refine WG.take (i := 0) (v := ?_) rfl (by kernel_rfl) (by kernel_rfl) (by kernel_rfl) (by kernel_rfl) (fun _ _ _ h => h) (Or.inl ⟨by rfl, ?_⟩) (by assumption) ?_; rotate_left; (intro w hSw; (try dsimp only at hSw); go_split_ands; go_simp; (try with_reducible rfl)); (try simp only [Act.put, List.setIfInBounds_toArray, List.set_cons_zero, List.set_cons_succ]))
    (refine WG.take (i := 1) (v := ?_) rfl (by kernel_rfl) (by kernel_rfl) (by kernel_rfl) (by kernel_rfl) (fun _ _ _ h => h) (Or.inl ⟨by rfl, ?_⟩) (by assumption) ?_; rotate_left; (intro w hSw; (try dsimp only at hSw); go_split_ands; go_simp; (try with_reducible rfl)); (try simp only [Act.put, List.setIfInBounds_toArray, List.set_cons_zero, List.set_cons_succ]))
    (refine WG.take (i := 3) (v := ?_) rfl (by kernel_rfl) (by kernel_rfl) (by kernel_rfl) (by kernel_rfl) (fun _ _ _ h => h) (Or.inl ⟨by rfl, ?_⟩) (by assumption) ?_; rotate_left; (intro w hSw; (try dsimp only at hSw); go_split_ands; go_simp; (try with_reducible rfl)); (try simp only [Act.put, List.setIfInBounds_toArray, List.set_cons_zero, List.set_cons_succ]))
    refine WG.two (i := 2) (j := 4) rfl rfl (by kernel_rfl) (fun K hK => ?_) (fun K hK => ?_)
    · go_simp
      refine hK.out _ _ (by exact (And.intro (obj_cell (Ext.obj (show Ext w5 (w5.drew.alloc (.cells #[.int .i64 (-1), .int .i64 999, .int .i64 1000] 3)) from (Ext.trans (b := w5.drew) (Below.drew (Below.refl _ _)) (Ext.alloc _ _))) X5.out) (i := 0) rfl) (obj_cell (Ext.obj (show Ext w5 (w5.drew.alloc (.cells #[.int .i64 (-1), .int .i64 999, .int .i64 1000] 3)) from (Ext.trans (b := w5.drew) (Below.drew (Below.refl _ _)) (Ext.alloc _ _))) X5.out) (i := 1) rfl))) (fun hHeld => ?_)
      clear hK K
      (try simp only [Act.put, List.setIfInBounds_toArray, List.set_cons_zero, List.set_cons_succ])
      have HRW : Hid (OI (w5.drew.alloc (.cells #[.int .i64 (-1), .int .i64 999, .int .i64 1000] 3)) w5.heap.size (.slice (some ⟨w5.heap.size, 0, none⟩) 3 3) [-1, 999, 1000]) := hid (OI.lit w5.drew [-1, 999, 1000] (by simp) w5.heap.size (Nat.le_refl _))
      refine WG.one (i := 4) rfl (by kernel_rfl) (fun K hK => ?_)
      go_simp; obtain ⟨hg, pp, hpp, hr⟩ := HD5.out; have hr := hr.ext (show Ext w5 (w5.drew.alloc (.cells #[.int .i64 (-1), .int .i64 999, .int .i64 1000] 3)) from (Ext.trans (b := w5.drew) (Below.drew (Below.refl _ _)) (Ext.alloc _ _))); have hz := (HB5.out.trans (show Ext w5 (w5.drew.alloc (.cells #[.int .i64 (-1), .int .i64 999, .int .i64 1000] 3)) from (Ext.trans (b := w5.drew) (Below.drew (Below.refl _ _)) (Ext.alloc _ _)))).size; refine (dPick b bv bs' pp _ _ hr (by omega) (by omega)).mono ?_; rintro e w6 ⟨x6, rfl, hx6, hg6, hr6⟩; have X6 := hid (hg6.obj (k := H) (Ext.obj (show Ext w5 (w5.drew.alloc (.cells #[.int .i64 (-1), .int .i64 999, .int .i64 1000] 3)) from (Ext.trans (b := w5.drew) (Below.drew (Below.refl _ _)) (Ext.alloc _ _))) X5.out) (by omega)); have Z6 := hid (hg6.obj (k := w.heap.size) (Ext.obj (show Ext w5 (w5.drew.alloc (.cells #[.int .i64 (-1), .int .i64 999, .int .i64 1000] 3)) from (Ext.trans (b := w5.drew) (Below.drew (Below.refl _ _)) (Ext.alloc _ _))) Z5.out) (by omega)); have HO6 := hid (OCl.same (HO5.out.ext (show Ext w5 (w5.drew.alloc (.cells #[.int .i64 (-1), .int .i64 999, .int .i64 1000] 3)) from (Ext.trans (b := w5.drew) (Below.drew (Below.refl _ _)) (Ext.alloc _ _)))) (hg6.same hr _ notRd3)); have HB6 : Hid (Ext w w6) := hid (Below.trans (HB5.out.trans (show Ext w5 (w5.drew.alloc (.cells #[.int .i64 (-1), .int .i64 999, .int .i64 1000] 3)) from (Ext.trans (b := w5.drew) (Below.drew (Below.refl _ _)) (Ext.alloc _ _)))) (hg6.below (Nat.le_of_lt hbw) hz)); have HN6 := hid (Own.same EI.ok (Own.ext EI.ok HN5.out (show Ext w5 (w5.drew.alloc (.cells #[.int .i64 (-1), .int .i64 999, .int .i64 1000] 3)) from (Ext.trans (b := w5.drew) (Below.drew (Below.refl _ _)) (Ext.alloc _ _)))) (hg6.same hr _ notRd)); have hx6l := pick_lt hx6 (by decide); have HRW6 := hid (Own.same EI.ok HRW.out (hg6.same hr _ notRd)); clear hg hpp hr hz hg6 hr6 hx6; (try dsimp only)
      refine hK.out _ _ (by exact (And.intro (obj_cell X6.out (i := 0) rfl) (obj_cell X6.out (i := 1) rfl))) (fun hHeld => ?_)
      clear hK K
      (try simp only [Act.put, List.setIfInBounds_toArray, List.set_cons_zero, List.set_cons_succ])
      obtain ⟨y6, hy6, hyb⟩ := want_at (x := x6) (by omega)
      obtain ⟨cb, _, _⟩ := OI.at_ HRW6.out hy6
      obtain ⟨rb, hrb⟩ : ∃ rb, rb = w5.heap.size := ⟨_, rfl⟩
      have hrw : w.heap.size < rb := by rw [hrb]; exact obj_lt Z5.out
      rw [← hrb] at cb ⊢
      clear hrb
      obtain ⟨w6x, hw6x⟩ : ∃ v, v = w6 := ⟨_, rfl⟩
      subst hw6x
      obtain ⟨y0, y1, y0f, y1f, k1, k1f, hkk, hsm⟩ := box2 Z6.out (.slice Ar C.room.length cr) (.slice Au C.units.length cu)
      have r0 := obj_cell hkk (i := 0) rfl
      have r1 := obj_cell hkk (i := 1) rfl
      have HSM := hid hsm
      have XS := hid (obj_far (p := ⟨w.heap.size, 1, none⟩) (obj_far (p := ⟨w.heap.size, 0, none⟩) X6.out (by show H ≠ w.heap.size; omega) (.slice Ar C.room.length cr)) (by show H ≠ w.heap.size; omega) (.slice Au C.units.length cu))
      clear hkk hsm
      have cz := (cell_far (b' := rb) (i := 1) (o := x6) (w6x.setCell ⟨w.heap.size, 0, none⟩ (.slice Ar C.room.length cr)) (b := w.heap.size) (by omega) (.slice Au C.units.length cu)).trans ((cell_far (b' := rb) (i := 0) (o := x6) w6x (b := w.heap.size) (by omega) (.slice Ar C.room.length cr)).trans cb)
      (refine WG.take (i := 5) (v := ?_) rfl (by kernel_rfl) (by kernel_rfl) (by kernel_rfl) (by kernel_rfl) (fun _ _ _ h => h) (Or.inl ⟨by rfl, ?_⟩) (by assumption) ?_; rotate_left; (intro w hSw; (try dsimp only at hSw); go_split_ands; go_simp; (try with_reducible rfl)); (try simp only [Act.put, List.setIfInBounds_toArray, List.set_cons_zero, List.set_cons_succ]))
      refine WG.two (i := 6) (j := 7) rfl rfl (by kernel_rfl) (fun K hK => ?_) (fun K hK => ?_)
      · go_simp
        refine hK.out _ _ (by exact (And.intro (obj_cell X6.out (i := 0) rfl) (obj_cell X6.out (i := 1) rfl))) (fun hHeld => ?_)
        clear hK K
        (try simp only [Act.put, List.setIfInBounds_toArray, List.set_cons_zero, List.set_cons_succ])
        refine WG.one (i := 7) rfl (by kernel_rfl) (fun K hK => ?_)
        go_simp
        refine hK.out _ _ (by exact (And.intro (obj_cell XS.out (i := 0) rfl) (obj_cell XS.out (i := 1) rfl))) (fun hHeld => ?_)
        clear hK K
        (try simp only [Act.put, List.setIfInBounds_toArray, List.set_cons_zero, List.set_cons_succ])
        refine WG.one (i := 8) rfl (by kernel_rfl) (fun K hK => ?_)
        go_simp
        refine hK.out _ _ (by exact (And.intro (obj_cell XS.out (i := 0) rfl) (obj_cell XS.out (i := 1) rfl))) (fun hHeld => ?_)
        clear hK K
        (try simp only [Act.put, List.setIfInBounds_toArray, List.set_cons_zero, List.set_cons_succ])
        refine WG.last (i := 9) rfl (by kernel_rfl) (by kernel_rfl) (fun K hK => ?_)
        go_simp
        refine hK.out _ _ ?_
        clear hK K
        (try simp only [Act.put, List.setIfInBounds_toArray, List.set_cons_zero, List.set_cons_succ])
        refine WG.done (by kernel_rfl) ?_
        go_wp2
        refine bodyPost_ret (v := .tuple #[.agg #[.slice Ar C.room.length cr, .slice Au C.units.length cu], .slice An need.length cn, .int .i64 y6]) (by simp [results, Try.results45, go_sem, r0, r1]) rfl ?_
        exact ⟨_, _, _, _, _, rfl, HO6.out.same (HSM.out _ notClu), Own.same EI.ok HN6.out (HSM.out _ notClu2), HNL.out, HNB.out, HSC.out, by omega, Below.setCell (Below.setCell HB6.out (Nat.le_refl _) _) (Nat.le_refl _) _⟩
      · go_simp
        refine hK.out _ _ (by exact (And.intro (obj_cell XS.out (i := 0) rfl) (obj_cell XS.out (i := 1) rfl))) (fun hHeld => ?_)
        clear hK K
        (try simp only [Act.put, List.setIfInBounds_toArray, List.set_cons_zero, List.set_cons_succ])
        (refine WG.take (i := 8) (v := ?_) rfl (by kernel_rfl) (by kernel_rfl) (by kernel_rfl) (by kernel_rfl) (fun _ _ _ h => h) (Or.inl ⟨by rfl, ?_⟩) (by assumption) ?_; rotate_left; (intro w hSw; (try dsimp only at hSw); go_split_ands; go_simp; (try with_reducible rfl)); (try simp only [Act.put, List.setIfInBounds_toArray, List.set_cons_zero, List.set_cons_succ]))
        refine WG.one (i := 6) rfl (by kernel_rfl) (fun K hK => ?_)
        go_simp
        refine hK.out _ _ (by exact (And.intro (obj_cell XS.out (i := 0) rfl) (obj_cell XS.out (i := 1) rfl))) (fun hHeld => ?_)
        clear hK K
        (try simp only [Act.put, List.setIfInBounds_toArray, List.set_cons_zero, List.set_cons_succ])
        refine WG.last (i := 9) rfl (by kernel_rfl) (by kernel_rfl) (fun K hK => ?_)
        go_simp
        refine hK.out _ _ ?_
        clear hK K
        (try simp only [Act.put, List.setIfInBounds_toArray, List.set_cons_zero, List.set_cons_succ])
        refine WG.done (by kernel_rfl) ?_
        go_wp2
        refine bodyPost_ret (v := .tuple #[.agg #[.slice Ar C.room.length cr, .slice Au C.units.length cu], .slice An need.length cn, .int .i64 y6]) (by simp [results, Try.results45, go_sem, r0, r1]) rfl ?_
        exact ⟨_, _, _, _, _, rfl, HO6.out.same (HSM.out _ notClu), Own.same EI.ok HN6.out (HSM.out _ notClu2), HNL.out, HNB.out, HSC.out, by omega, Below.setCell (Below.setCell HB6.out (Nat.le_refl _) _) (Nat.le_refl _) _⟩
    · go_simp
      obtain ⟨hg, pp, hpp, hr⟩ := HD5.out; have hr := hr.ext (show Ext w5 w5.drew from Below.drew (Below.refl _ _)); have hz := (HB5.out.trans (show Ext w5 w5.drew from Below.drew (Below.refl _ _))).size; refine (dPick b bv bs' pp _ _ hr (by omega) (by omega)).mono ?_; rintro e w6 ⟨x6, rfl, hx6, hg6, hr6⟩; have X6 := hid (hg6.obj (k := H) (Ext.obj (show Ext w5 w5.drew from Below.drew (Below.refl _ _)) X5.out) (by omega)); have Z6 := hid (hg6.obj (k := w.heap.size) (Ext.obj (show Ext w5 w5.drew from Below.drew (Below.refl _ _)) Z5.out) (by omega)); have HO6 := hid (OCl.same (HO5.out.ext (show Ext w5 w5.drew from Below.drew (Below.refl _ _))) (hg6.same hr _ notRd3)); have HB6 : Hid (Ext w w6) := hid (Below.trans (HB5.out.trans (show Ext w5 w5.drew from Below.drew (Below.refl _ _))) (hg6.below (Nat.le_of_lt hbw) hz)); have HN6 := hid (Own.same EI.ok (Own.ext EI.ok HN5.out (show Ext w5 w5.drew from Below.drew (Below.refl _ _))) (hg6.same hr _ notRd)); have hx6l := pick_lt hx6 (by decide)
      clear hg hpp hr hz hg6 hr6 hx6
      (try dsimp only)
      refine hK.out _ _ (by exact (And.intro (obj_cell X6.out (i := 0) rfl) (obj_cell X6.out (i := 1) rfl))) (fun hHeld => ?_)
      clear hK K
      (try simp only [Act.put, List.setIfInBounds_toArray, List.set_cons_zero, List.set_cons_succ])
      refine WG.two (i := 2) (j := 7) rfl rfl (by kernel_rfl) (fun K hK => ?_) (fun K hK => ?_)
      · go_simp
        refine hK.out _ _ (by exact (And.intro (obj_cell (Ext.obj (Ext.alloc w6 (.cells #[.int .i64 (-1), .int .i64 999, .int .i64 1000] 3)) X6.out) (i := 0) rfl) (obj_cell (Ext.obj (Ext.alloc w6 (.cells #[.int .i64 (-1), .int .i64 999, .int .i64 1000] 3)) X6.out) (i := 1) rfl))) (fun hHeld => ?_)
        clear hK K
        (try simp only [Act.put, List.setIfInBounds_toArray, List.set_cons_zero, List.set_cons_succ])
        obtain ⟨y6, hy6, hyb⟩ := want_at (x := x6) (by omega)
        obtain ⟨rb, hrb⟩ : ∃ rb, rb = w6.heap.size := ⟨_, rfl⟩
        have hrw : w.heap.size < rb := by rw [hrb]; exact obj_lt Z6.out
        obtain ⟨w6x, hw6x⟩ : ∃ v, v = w6.alloc (.cells #[.int .i64 (-1), .int .i64 999, .int .i64 1000] 3) := ⟨_, rfl⟩
        have HE6 : Ext w6 w6x := by rw [hw6x]; exact Ext.alloc _ _
        have hrow : OI w6x w6.heap.size (.slice (some ⟨w6.heap.size, 0, none⟩) 3 3) [-1, 999, 1000] := by rw [hw6x]; exact OI.lit w6 [-1, 999, 1000] (by simp) w6.heap.size (Nat.le_refl _)
        obtain ⟨cb, _, _⟩ := OI.at_ hrow hy6
        have X6 := hid (HE6.obj X6.out)
        have Z6 := hid (HE6.obj Z6.out)
        have HO6 := hid (HO6.out.ext HE6)
        have HB6 := hid (HB6.out.trans HE6)
        have HN6 := hid (Own.ext EI.ok HN6.out HE6)
        rw [← hrb] at cb
        rw [← hw6x, ← hrb]
        clear hw6x hrb HE6 hrow
        have hHeldx := (And.intro (obj_cell X6.out (i := 0) rfl) (obj_cell X6.out (i := 1) rfl))
        obtain ⟨y0, y1, y0f, y1f, k1, k1f, hkk, hsm⟩ := box2 Z6.out (.slice Ar C.room.length cr) (.slice Au C.units.length cu)
        have r0 := obj_cell hkk (i := 0) rfl
        have r1 := obj_cell hkk (i := 1) rfl
        have HSM := hid hsm
        have XS := hid (obj_far (p := ⟨w.heap.size, 1, none⟩) (obj_far (p := ⟨w.heap.size, 0, none⟩) X6.out (by show H ≠ w.heap.size; omega) (.slice Ar C.room.length cr)) (by show H ≠ w.heap.size; omega) (.slice Au C.units.length cu))
        clear hkk hsm
        have cz := (cell_far (b' := rb) (i := 1) (o := x6) (w6x.setCell ⟨w.heap.size, 0, none⟩ (.slice Ar C.room.length cr)) (b := w.heap.size) (by omega) (.slice Au C.units.length cu)).trans ((cell_far (b' := rb) (i := 0) (o := x6) w6x (b := w.heap.size) (by omega) (.slice Ar C.room.length cr)).trans cb)
        (refine WG.take (i := 5) (v := ?_) rfl (by kernel_rfl) (by kernel_rfl) (by kernel_rfl) (by kernel_rfl) (fun _ _ _ h => h) (Or.inl ⟨by rfl, ?_⟩) (by assumption) ?_; rotate_left; (intro w hSw; (try dsimp only at hSw); go_split_ands; go_simp; (try with_reducible rfl)); (try simp only [Act.put, List.setIfInBounds_toArray, List.set_cons_zero, List.set_cons_succ]))
        refine WG.two (i := 6) (j := 7) rfl rfl (by kernel_rfl) (fun K hK => ?_) (fun K hK => ?_)
        · go_simp
          refine hK.out _ _ (by exact (And.intro (obj_cell X6.out (i := 0) rfl) (obj_cell X6.out (i := 1) rfl))) (fun hHeld => ?_)
          clear hK K
          (try simp only [Act.put, List.setIfInBounds_toArray, List.set_cons_zero, List.set_cons_succ])
          refine WG.one (i := 7) rfl (by kernel_rfl) (fun K hK => ?_)
          go_simp
          refine hK.out _ _ (by exact (And.intro (obj_cell XS.out (i := 0) rfl) (obj_cell XS.out (i := 1) rfl))) (fun hHeld => ?_)
          clear hK K
          (try simp only [Act.put, List.setIfInBounds_toArray, List.set_cons_zero, List.set_cons_succ])
          refine WG.one (i := 8) rfl (by kernel_rfl) (fun K hK => ?_)
          go_simp
          refine hK.out _ _ (by exact (And.intro (obj_cell XS.out (i := 0) rfl) (obj_cell XS.out (i := 1) rfl))) (fun hHeld => ?_)
          clear hK K
          (try simp only [Act.put, List.setIfInBounds_toArray, List.set_cons_zero, List.set_cons_succ])
          refine WG.last (i := 9) rfl (by kernel_rfl) (by kernel_rfl) (fun K hK => ?_)
          go_simp
          refine hK.out _ _ ?_
          clear hK K
          (try simp only [Act.put, List.setIfInBounds_toArray, List.set_cons_zero, List.set_cons_succ])
          refine WG.done (by kernel_rfl) ?_
          go_wp2
          refine bodyPost_ret (v := .tuple #[.agg #[.slice Ar C.room.length cr, .slice Au C.units.length cu], .slice An need.length cn, .int .i64 y6]) (by simp [results, Try.results45, go_sem, r0, r1]) rfl ?_
          exact ⟨_, _, _, _, _, rfl, HO6.out.same (HSM.out _ notClu), Own.same EI.ok HN6.out (HSM.out _ notClu2), HNL.out, HNB.out, HSC.out, by omega, Below.setCell (Below.setCell HB6.out (Nat.le_refl _) _) (Nat.le_refl _) _⟩
        · go_simp
          refine hK.out _ _ (by exact (And.intro (obj_cell XS.out (i := 0) rfl) (obj_cell XS.out (i := 1) rfl))) (fun hHeld => ?_)
          clear hK K
          (try simp only [Act.put, List.setIfInBounds_toArray, List.set_cons_zero, List.set_cons_succ])
          (refine WG.take (i := 8) (v := ?_) rfl (by kernel_rfl) (by kernel_rfl) (by kernel_rfl) (by kernel_rfl) (fun _ _ _ h => h) (Or.inl ⟨by rfl, ?_⟩) (by assumption) ?_; rotate_left; (intro w hSw; (try dsimp only at hSw); go_split_ands; go_simp; (try with_reducible rfl)); (try simp only [Act.put, List.setIfInBounds_toArray, List.set_cons_zero, List.set_cons_succ]))
          refine WG.one (i := 6) rfl (by kernel_rfl) (fun K hK => ?_)
          go_simp
          refine hK.out _ _ (by exact (And.intro (obj_cell XS.out (i := 0) rfl) (obj_cell XS.out (i := 1) rfl))) (fun hHeld => ?_)
          clear hK K
          (try simp only [Act.put, List.setIfInBounds_toArray, List.set_cons_zero, List.set_cons_succ])
          refine WG.last (i := 9) rfl (by kernel_rfl) (by kernel_rfl) (fun K hK => ?_)
          go_simp
          refine hK.out _ _ ?_
          clear hK K
          (try simp only [Act.put, List.setIfInBounds_toArray, List.set_cons_zero, List.set_cons_succ])
          refine WG.done (by kernel_rfl) ?_
          go_wp2
          refine bodyPost_ret (v := .tuple #[.agg #[.slice Ar C.room.length cr, .slice Au C.units.length cu], .slice An need.length cn, .int .i64 y6]) (by simp [results, Try.results45, go_sem, r0, r1]) rfl ?_
          exact ⟨_, _, _, _, _, rfl, HO6.out.same (HSM.out _ notClu), Own.same EI.ok HN6.out (HSM.out _ notClu2), HNL.out, HNB.out, HSC.out, by omega, Below.setCell (Below.setCell HB6.out (Nat.le_refl _) _) (Nat.le_refl _) _⟩
      · obtain ⟨y0, y1, y0f, y1f, k1, k1f, hkk, hsm⟩ := box2 Z6.out (.slice Ar C.room.length cr) (.slice Au C.units.length cu)
        have r0 := obj_cell hkk (i := 0) rfl
        have r1 := obj_cell hkk (i := 1) rfl
        have HSM := hid hsm
        have XS := hid (obj_far (p := ⟨w.heap.size, 1, none⟩) (obj_far (p := ⟨w.heap.size, 0, none⟩) X6.out (by show H ≠ w.heap.size; omega) (.slice Ar C.room.length cr)) (by show H ≠ w.heap.size; omega) (.slice Au C.units.length cu))
        clear hkk hsm
        go_simp
        refine hK.out _ _ (by exact (And.intro (obj_cell XS.out (i := 0) rfl) (obj_cell XS.out (i := 1) rfl))) (fun hHeld => ?_)
        clear hK K
        (try simp only [Act.put, List.setIfInBounds_toArray, List.set_cons_zero, List.set_cons_succ])
        (refine WG.take (i := 8) (v := ?_) rfl (by kernel_rfl) (by kernel_rfl) (by kernel_rfl) (by kernel_rfl) (fun _ _ _ h => h) (Or.inl ⟨by rfl, ?_⟩) (by assumption) ?_; rotate_left; (intro w hSw; (try dsimp only at hSw); go_split_ands; go_simp; (try with_reducible rfl)); (try simp only [Act.put, List.setIfInBounds_toArray, List.set_cons_zero, List.set_cons_succ]))
        obtain ⟨V1, hV1⟩ : ∃ V1, V1 = (w6.setCell ⟨w.heap.size, 0, none⟩ (.slice Ar C.room.length cr)).setCell ⟨w.heap.size, 1, none⟩ (.slice Au C.units.length cu) := ⟨_, rfl⟩
        rw [← hV1] at hHeld r0 r1 XS ⊢
        have HOV := hid (HO6.out.same (HSM.out _ notClu))
        have HNV := hid (Own.same EI.ok HN6.out (HSM.out _ notClu2))
        have HBV : Hid (Ext w ((w6.setCell ⟨w.heap.size, 0, none⟩ (.slice Ar C.room.length cr)).setCell ⟨w.heap.size, 1, none⟩ (.slice Au C.units.length cu))) := hid (Below.setCell (Below.setCell HB6.out (Nat.le_refl _) _) (Nat.le_refl _) _)
        rw [← hV1] at HOV HNV HBV
        clear hV1 y0 y1 y0f y1f k1 k1f
        have hd := Ext.alloc V1 (.cells #[.int .i64 (-1), .int .i64 999, .int .i64 1000] 3)
        refine WG.one (i := 2) rfl (by kernel_rfl) (fun K hK => ?_)
        go_simp
        refine hK.out _ _ (by exact (And.intro (obj_cell (Ext.obj (Ext.alloc V1 (.cells #[.int .i64 (-1), .int .i64 999, .int .i64 1000] 3)) XS.out) (i := 0) rfl) (obj_cell (Ext.obj (Ext.alloc V1 (.cells #[.int .i64 (-1), .int .i64 999, .int .i64 1000] 3)) XS.out) (i := 1) rfl))) (fun hHeld => ?_)
        clear hK K
        (try simp only [Act.put, List.setIfInBounds_toArray, List.set_cons_zero, List.set_cons_succ])
        obtain ⟨y6, hy6, hyb⟩ := want_at (x := x6) (by omega)
        have hrow : OI (V1.alloc (.cells #[.int .i64 (-1), .int .i64 999, .int .i64 1000] 3)) V1.heap.size (.slice (some ⟨V1.heap.size, 0, none⟩) 3 3) [-1, 999, 1000] := OI.lit V1 [-1, 999, 1000] (by simp) V1.heap.size (Nat.le_refl _)
        obtain ⟨cb, _, _⟩ := OI.at_ hrow hy6
        have r0 := hd.cell r0
        have r1 := hd.cell r1
        (refine WG.take (i := 5) (v := ?_) rfl (by kernel_rfl) (by kernel_rfl) (by kernel_rfl) (by kernel_rfl) (fun _ _ _ h => h) (Or.inl ⟨by rfl, ?_⟩) (by assumption) ?_; rotate_left; (intro w hSw; (try dsimp only at hSw); go_split_ands; go_simp; (try with_reducible rfl)); (try simp only [Act.put, List.setIfInBounds_toArray, List.set_cons_zero, List.set_cons_succ]))
        refine WG.one (i := 6) rfl (by kernel_rfl) (fun K hK => ?_)
        go_simp
        refine hK.out _ _ (by exact (And.intro (obj_cell (Ext.obj (Ext.alloc V1 (.cells #[.int .i64 (-1), .int .i64 999, .int .i64 1000] 3)) XS.out) (i := 0) rfl) (obj_cell (Ext.obj (Ext.alloc V1 (.cells #[.int .i64 (-1), .int .i64 999, .int .i64 1000] 3)) XS.out) (i := 1) rfl))) (fun hHeld => ?_)
        clear hK K
        (try simp only [Act.put, List.setIfInBounds_toArray, List.set_cons_zero, List.set_cons_succ])
        refine WG.last (i := 9) rfl (by kernel_rfl) (by kernel_rfl) (fun K hK => ?_)
        go_simp
        refine hK.out _ _ ?_
        clear hK K
        (try simp only [Act.put, List.setIfInBounds_toArray, List.set_cons_zero, List.set_cons_succ])
        refine WG.done (by kernel_rfl) ?_
        go_wp2
        refine bodyPost_ret (v := .tuple #[.agg #[.slice Ar C.room.length cr, .slice Au C.units.length cu], .slice An need.length cn, .int .i64 y6]) (by simp [results, Try.results45, go_sem, r0, r1]) rfl ?_
        exact ⟨_, _, _, _, _, rfl, HOV.out.ext hd, Own.ext EI.ok HNV.out hd, HNL.out, HNB.out, HSC.out, by omega, HBV.out.trans hd⟩
  · have KS5 := hid (And.intro (obj_cell X5.out (i := 0) rfl) (obj_cell X5.out (i := 1) rfl))
    refine WG.start (fun w' => w'.cell? ⟨H, 0, none⟩ = some (.slice Ar C.room.length cr) ∧ w'.cell? ⟨H, 1, none⟩ = some (.slice Au C.units.length cu)) [5,6] (by kernel_rfl) (by exact KS5.out) (fun hHeld => ?_)
    (refine WG.take (i := 0) (v := ?_) rfl (by kernel_rfl) (by kernel_rfl) (by kernel_rfl) (by kernel_rfl) (fun _ _ _ h => h) (Or.inl ⟨by rfl, ?_⟩) (by assumption) ?_; rotate_left; (intro w hSw; (try dsimp only at hSw); go_split_ands; go_simp; (try with_reducible rfl)); (try simp only [Act.put, List.setIfInBounds_toArray, List.set_cons_zero, List.set_cons_succ]))
    (refine WG.take (i := 1) (v := ?_) rfl (by kernel_rfl) (by kernel_rfl) (by kernel_rfl) (by kernel_rfl) (fun _ _ _ h => h) (Or.inl ⟨by rfl, ?_⟩) (by assumption) ?_; rotate_left; (intro w hSw; (try dsimp only at hSw); go_split_ands; go_simp; (try with_reducible rfl)); (try simp only [Act.put, List.setIfInBounds_toArray, List.set_cons_zero, List.set_cons_succ]))
    (refine WG.take (i := 2) (v := ?_) rfl (by kernel_rfl) (by kernel_rfl) (by kernel_rfl) (by kernel_rfl) (fun _ _ _ h => h) (Or.inl ⟨by rfl, ?_⟩) (by assumption) ?_; rotate_left; (intro w hSw; (try dsimp only at hSw); go_split_ands; go_simp; (try with_reducible rfl)); (try simp only [Act.put, List.setIfInBounds_toArray, List.set_cons_zero, List.set_cons_succ]))
    refine WG.one (i := 3) rfl (by kernel_rfl) (fun K hK => ?_)
    go_simp; obtain ⟨hg, pp, hpp, hr⟩ := HD5.out; have hr := hr.ext (show Ext w5 w5.drew from Below.drew (Below.refl _ _)); have hz := (HB5.out.trans (show Ext w5 w5.drew from Below.drew (Below.refl _ _))).size; refine (dPick b bv bs' pp _ _ hr (by omega) (by omega)).mono ?_; rintro e w6 ⟨x6, rfl, hx6, hg6, hr6⟩; have X6 := hid (hg6.obj (k := H) (Ext.obj (show Ext w5 w5.drew from Below.drew (Below.refl _ _)) X5.out) (by omega)); have Z6 := hid (hg6.obj (k := w.heap.size) (Ext.obj (show Ext w5 w5.drew from Below.drew (Below.refl _ _)) Z5.out) (by omega)); have HO6 := hid (OCl.same (HO5.out.ext (show Ext w5 w5.drew from Below.drew (Below.refl _ _))) (hg6.same hr _ notRd3)); have HB6 : Hid (Ext w w6) := hid (Below.trans (HB5.out.trans (show Ext w5 w5.drew from Below.drew (Below.refl _ _))) (hg6.below (Nat.le_of_lt hbw) hz)); have HN6 := hid (Own.same EI.ok (Own.ext EI.ok HN5.out (show Ext w5 w5.drew from Below.drew (Below.refl _ _))) (hg6.same hr _ notRd)); have hx6l := pick_lt hx6 (by decide); clear hg hpp hr hz hg6 hr6 hx6; (try dsimp only)
    refine hK.out _ _ (by exact (And.intro (obj_cell X6.out (i := 0) rfl) (obj_cell X6.out (i := 1) rfl))) (fun hHeld => ?_)
    clear hK K
    (try simp only [Act.put, List.setIfInBounds_toArray, List.set_cons_zero, List.set_cons_succ])
    obtain ⟨y0, y1, y0f, y1f, k1, k1f, hkk, hsm⟩ := box2 Z6.out (.slice Ar C.room.length cr) (.slice Au C.units.length cu)
    have r0 := obj_cell hkk (i := 0) rfl
    have r1 := obj_cell hkk (i := 1) rfl
    have HSM := hid hsm
    have XS := hid (obj_far (p := ⟨w.heap.size, 1, none⟩) (obj_far (p := ⟨w.heap.size, 0, none⟩) X6.out (by show H ≠ w.heap.size; omega) (.slice Ar C.room.length cr)) (by show H ≠ w.heap.size; omega) (.slice Au C.units.length cu))
    clear hkk hsm
    refine WG.one (i := 4) rfl (by kernel_rfl) (fun K hK => ?_)
    go_simp
    refine hK.out _ _ (by exact (And.intro (obj_cell XS.out (i := 0) rfl) (obj_cell XS.out (i := 1) rfl))) (fun hHeld => ?_)
    clear hK K
    (try simp only [Act.put, List.setIfInBounds_toArray, List.set_cons_zero, List.set_cons_succ])
    refine WG.last (i := 5) rfl (by kernel_rfl) (by kernel_rfl) (fun K hK => ?_)
    go_simp
    refine hK.out _ _ ?_
    clear hK K
    (try simp only [Act.put, List.setIfInBounds_toArray, List.set_cons_zero, List.set_cons_succ])
    refine WG.last (i := 6) rfl (by kernel_rfl) (by kernel_rfl) (fun K hK => ?_)
    go_simp
    refine hK.out _ _ ?_
    clear hK K
    (try simp only [Act.put, List.setIfInBounds_toArray, List.set_cons_zero, List.set_cons_succ])
    refine WG.done (by kernel_rfl) ?_
    go_wp2
    refine bodyPost_ret (v := .tuple #[.agg #[.slice Ar C.room.length cr, .slice Au C.units.length cu], .slice An need.length cn, .int .i64 (x6 : Int)]) (by simp [results, Try.results45, go_sem, r0, r1]) rfl ?_
    exact ⟨_, _, _, _, _, rfl, HO6.out.same (HSM.out _ notClu), Own.same EI.ok HN6.out (HSM.out _ notClu2), HNL.out, HNB.out, HSC.out, by omega, Below.setCell (Below.setCell HB6.out (Nat.le_refl _) _) (Nat.le_refl _) _⟩

end Go.Proofs.Ytfgibhdglbjadaa
