/- A cluster and a need are drawn, and a number of tasks. -/
import Derived.Test.YtfgibhdglbjadaaCd2
namespace Go.Proofs.Ytfgibhdglbjadaa
open Go.RowKit
set_option maxRecDepth 4000

theorem notClu2 : ∀ t, (t = 3 ∨ False) → t ≠ 26 := by rintro t (rfl | h) <;> first | decide | exact h.elim
theorem Own.low' {α : Type} {e : TypeId} {size : Nat} {E : Enc α} {w : World} {base base' : Nat} {v : Value} {xs : List α} (h : Own e size E w base v xs) (hb : base' ≤ base) : Own e size E w base' v xs := h.low hb
set_option maxHeartbeats 4000000 in
theorem dDrawSpare (v : Value) (bs : List Int) (w : World) (h : XBy w v bs) (hl : bs.length ≤ 4000000) :
    Calls Try.prog 18 #[v] w fun e w' => ∃ cv nv C need, e = .returned (.tuple #[cv, nv]) ∧ OCl w' w.heap.size cv C ∧ OI w' w.heap.size nv need ∧ need.length = 3 ∧ (∀ x ∈ need, -1 ≤ x ∧ x ≤ 21) ∧ SmallC C ∧ Ext w w' := by
  have HW := hid (Ext.alloc w (.cells #[.slice none 0 0, .slice none 0 0] 26))
  have HB := hid (h.ext (Ext.alloc w (.cells #[.slice none 0 0, .slice none 0 0] 26)))
  have Z0 := hid (heap_alloc_new w (.cells #[.slice none 0 0, .slice none 0 0] 26))
  clear h
  go_enter Try.func18, Try.ntmps18
  go_wp2_with (first
    | (go_at_call 52; refine (dOpen _ bs _ HB.out hl).mono ?_; rintro e w1 ⟨rfl, ⟨bv, bs', hr1⟩, hE1⟩; have HR1 := hid hr1; have HE1 := hid (HW.out.trans hE1); have Z1 := hid (hE1.obj Z0.out); obtain ⟨b, hb⟩ : ∃ b, b = (w.alloc (.cells #[.slice none 0 0, .slice none 0 0] 26)).heap.size := ⟨_, rfl⟩; have hbw : w.heap.size < b := (by rw [hb]; simp); rw [← hb] at HR1 ⊢; clear hb hr1 hE1)
    | (go_at_call 53; refine (dCluster b bv bs' 0 _ HR1.out (by omega)).mono ?_; rintro e w2 ⟨cv, C, rfl, hO2, hS2, hD2⟩; have HSC := hid hS2; obtain ⟨Ar, cr, Au, cu, rfl⟩ := hO2.form; have Z2 := hid (hD2.1.obj Z1.out (by omega)); have HB2 : Hid (Ext w w2) := hid (Below.trans HE1.out (hD2.1.below (Nat.le_of_lt hbw) HE1.out.size)); have HO2 := hid (hO2.low HE1.out.size); have HD2 := hid hD2; obtain ⟨y0, y1, y0f, y1f, k1, k1f, hkk, _⟩ := box2 (heap_alloc_new w2 (.cells #[.slice none 0 0, .slice none 0 0] 26)) (.slice Ar C.room.length cr) (.slice Au C.units.length cu); clear hkk hO2 hS2 hD2))
  obtain ⟨W3, hW3⟩ : ∃ W3, W3 = w2.alloc (.cells #[.slice Ar C.room.length cr, .slice Au C.units.length cu] 26) := ⟨_, rfl⟩
  have hE3 : Ext w2 W3 := by rw [hW3]; exact Ext.alloc _ _
  have hX3 : W3.heap[w2.heap.size]? = some (.cells #[.slice Ar C.room.length cr, .slice Au C.units.length cu] 26 (0, 0)) := by rw [hW3]; exact heap_alloc_new _ _
  rw [← hW3]
  clear hW3 y0 y1 y0f y1f k1 k1f
  have X3 := hid hX3
  have Z3 := hid (hE3.obj Z2.out)
  have HO3 := hid (HO2.out.ext hE3)
  have HB3 := hid (HB2.out.trans hE3)
  have HD3 := hid (HD2.out.ext hE3)
  obtain ⟨H, hH⟩ : ∃ H, H = w2.heap.size := ⟨_, rfl⟩
  have hHw : w.heap.size < H := by rw [hH]; exact obj_lt Z2.out
  have hHb : b < H := by rw [hH]; obtain ⟨_, _, _, hr⟩ := HD2.out; exact obj_lt hr.1
  rw [← hH] at X3 ⊢
  clear hX3 hE3 hH
  have KS3 := hid (And.intro (obj_cell X3.out (i := 0) rfl) (obj_cell X3.out (i := 1) rfl))
  refine WG.start (fun w' => w'.cell? ⟨H, 0, none⟩ = some (.slice Ar C.room.length cr) ∧ w'.cell? ⟨H, 1, none⟩ = some (.slice Au C.units.length cu)) [3,4] (by kernel_rfl) (by exact KS3.out) (fun hHeld => ?_)
  (refine WG.take (i := 0) (v := ?_) rfl (by kernel_rfl) (by kernel_rfl) (by kernel_rfl) (by kernel_rfl) (fun _ _ _ h => h) (Or.inl ⟨by rfl, ?_⟩) (by assumption) ?_; rotate_left; (intro w hSw; (try dsimp only at hSw); go_split_ands; go_simp; (try with_reducible rfl)); (try simp only [Act.put, List.setIfInBounds_toArray, List.set_cons_zero, List.set_cons_succ]))
  (refine WG.take (i := 1) (v := ?_) rfl (by kernel_rfl) (by kernel_rfl) (by kernel_rfl) (by kernel_rfl) (fun _ _ _ h => h) (Or.inl ⟨by rfl, ?_⟩) (by assumption) ?_; rotate_left; (intro w hSw; (try dsimp only at hSw); go_split_ands; go_simp; (try with_reducible rfl)); (try simp only [Act.put, List.setIfInBounds_toArray, List.set_cons_zero, List.set_cons_succ]))
  refine WG.one (i := 2) rfl (by kernel_rfl) (fun K hK => ?_)
  go_simp; obtain ⟨hg3, p3, hp3, hr3⟩ := HD3.out; have hr3 := hr3.ext (Below.drew (Below.refl _ _)); refine (dNeed b bv bs' p3 _ hr3 (by omega)).mono ?_; rintro e w4 ⟨nv, need, rfl, hON, hNL, hNB, hD4⟩; have X4 := hid (hD4.1.obj (k := H) X3.out (by omega)); have Z4 := hid (hD4.1.obj (k := w.heap.size) Z3.out (by omega)); have HO4 := hid (OCl.same (w := W3.drew) (HO3.out.ext (Below.drew (Below.refl _ _))) (hD4.1.same hr3 _ notRd3)); have HB4 : Hid (Ext w w4) := hid (Below.trans (HB3.out.trans (Below.drew (Below.refl _ _))) (hD4.1.below (Nat.le_of_lt hbw) HB3.out.size)); have HN4 := hid (hON.low (base' := w.heap.size) HB3.out.size); have HNL := hid hNL; have HNB := hid hNB; obtain ⟨An, cn, rfl, _, _⟩ := hON.form; clear hg3 hp3 hr3 hON hNL hNB hD4; (try dsimp only)
  refine hK.out _ _ (by exact (And.intro (obj_cell X4.out (i := 0) rfl) (obj_cell X4.out (i := 1) rfl))) (fun hHeld => ?_)
  clear hK K
  (try simp only [Act.put, List.setIfInBounds_toArray, List.set_cons_zero, List.set_cons_succ])
  obtain ⟨y0, y1, y0f, y1f, k1, k1f, hkk, hsm⟩ := box2 Z4.out (.slice Ar C.room.length cr) (.slice Au C.units.length cu)
  have r0 := obj_cell hkk (i := 0) rfl
  have r1 := obj_cell hkk (i := 1) rfl
  have HSM := hid hsm
  clear hkk hsm
  refine WG.last (i := 3) rfl (by kernel_rfl) (by kernel_rfl) (fun K hK => ?_)
  go_simp
  refine hK.out _ _ ?_
  clear hK K
  (try simp only [Act.put, List.setIfInBounds_toArray, List.set_cons_zero, List.set_cons_succ])
  refine WG.last (i := 4) rfl (by kernel_rfl) (by kernel_rfl) (fun K hK => ?_)
  go_simp
  refine hK.out _ _ ?_
  clear hK K
  (try simp only [Act.put, List.setIfInBounds_toArray, List.set_cons_zero, List.set_cons_succ])
  refine WG.done (by kernel_rfl) ?_
  go_wp2
  refine bodyPost_ret (v := .tuple #[.agg #[.slice Ar C.room.length cr, .slice Au C.units.length cu], .slice An need.length cn]) (by simp [results, Try.results18, go_sem, r0, r1]) rfl ?_
  exact ⟨_, _, _, _, rfl, HO4.out.same (HSM.out _ notClu), Own.same EI.ok HN4.out (HSM.out _ notClu2), HNL.out, HNB.out, HSC.out, Below.setCell (Below.setCell HB4.out (Nat.le_refl _) _) (Nat.le_refl _) _⟩

end Go.Proofs.Ytfgibhdglbjadaa
