/- The law FnExactUsageShare: the program's UsageShare is the reference's. -/
import Derived.Test.YtcfpilkhjpegcaaWv0b
import Derived.Test.YtcfpilkhjpegcaaK65
import Derived.Test.YtcfpilkhjpegcaaK68
import Derived.Test.YtcfpilkhjpegcaaK21
namespace Go.Proofs.Ytcfpilkhjpegcaa
open Go Go.Conc Go.ConcN Go.RowKit

noncomputable def bodyEs : Code := (Try.f4.body).getD .skip
noncomputable def es0 : Code := codeAt bodyEs [0]
noncomputable def es1 : Code := codeAt bodyEs [1, 0]
noncomputable def es2 : Code := codeAt bodyEs [1, 1, 0]
noncomputable def es3 : Code := codeAt bodyEs [1, 1, 1, 0]
noncomputable def es5 : Code := codeAt bodyEs [1, 1, 1, 1, 0]
noncomputable def es6 : Code := codeAt bodyEs [1, 1, 1, 1, 1, 0]
noncomputable def esR : Code := codeAt bodyEs [1, 1, 1, 1, 1, 1, 1]
noncomputable def esO : Array Oper := opsOf (codeAt bodyEs [1, 1, 1, 1, 1, 1, 0])
theorem bodyEs_eq : bodyEs = .seq es0 (.seq es1 (.seq es2 (.seq es3 (.seq es5 (.seq es6 (.seq (.region 7 esO false) esR)))))) := by kernel_rfl
theorem frameEs (v0 v1 : Value) : Frame.enter Try.prog 4 #[v0, v1] .normal = (base 4).at ⟨#[v0, v1, undef, undef, undef, undef, undef, undef, undef, undef, undef, undef, undef, undef, undef, undef, undef, undef, undef, undef, undef, undef, undef, undef, undef, undef, undef, undef, undef, undef, undef], []⟩ [.code bodyEs] := by
  rw [enter_at _ Try.func4 (c := bodyEs) rfl]
  rw [show (Try.f4).ntmps = 31 by kernel_rfl]
  simp [Array.replicate]

set_option maxRecDepth 100000 in
set_option maxHeartbeats 8000000 in
theorem lawUsageShare (cv : Value) (C : ClusD) (dim : Int) (w : World) (h : ClusX w cv C) (hid' : ∀ t ∈ (C.units.map (·.tasks)).flatten, IdR t.id) : GoodRun (G (Frame.enter Try.prog 4 #[cv, .int .i64 dim] .normal) []) w (LawPost w) := by
  refine Wn.begin ?_
  have HC := hid h
  obtain ⟨Ar, cr, Au, cu, rfl⟩ := h.form
  have HI := hid hid'
  clear h hid'
  rw [frameEs, bodyEs_eq]
  refine Wn.seqK ⟨_, Try.func4⟩ (by kernel_rfl) (by kernel_rfl) (fun w1 hS1 hz1 => ?_)
  simp only [es0, bodyEs, codeAt, Try.f4, Option.getD_some]
  have HS1 := hid hS1
  clear hS1
  go_wp2
  refine EndK.on ?_
  obtain ⟨W, hW⟩ : ∃ W, W = w1.alloc (.cells #[.slice Ar C.room.length cr, .slice Au C.units.length cu] 34) := ⟨_, rfl⟩
  have hB : W.heap[w.heap.size]? = some (.cells #[.slice Ar C.room.length cr, .slice Au C.units.length cu] 34 (0, 0)) := by rw [hW, ← hz1]; exact heap_alloc_new _ _
  have hSW : Sup w W := HS1.out.trans (by rw [hW]; exact Sup.of (Ext.alloc _ _))
  rw [← hW]
  clear hW hz1 HS1
  dsimp only
  refine Wn.seqK ⟨_, Try.func4⟩ (by kernel_rfl) (by kernel_rfl) (fun w2 hS2 hz2 => ?_)
  have HB2 := hid (hS2.obj hB)
  have HS2 := hid (hSW.trans hS2)
  clear hS2 hz2 hB hSW
  simp only [es1, bodyEs, codeAt, Try.f4, Option.getD_some]
  go_wp2
  refine EndK.on ?_
  dsimp only
  refine Wn.seqK ⟨_, Try.func4⟩ (by kernel_rfl) (by kernel_rfl) (fun w3 hS3 hz3 => ?_)
  have HB3 := hid (hS3.obj HB2.out)
  have HS3 := hid (HS2.out.trans hS3)
  clear hS3 hz3 HB2 HS2
  have hb0 := obj_cell HB3.out (i := 0) rfl
  have hb1 := obj_cell HB3.out (i := 1) rfl
  simp only [es2, bodyEs, codeAt, Try.f4, Option.getD_some]
  go_wp2_with (go_at_call 14; refine (lSzClus _ C 1048576 _ (HC.out.sup HS3.out) (by omega) (by omega)).mono ?_; rintro e w4 ⟨r, rfl, hE4, hr1, hr2, hr3⟩; have HE4 := hid hE4; have HR3 := hid hr3; clear hE4 hr3)
  refine EndK.on ?_
  dsimp only
  have hS4 := HS3.out.trans (Sup.of HE4.out)
  have hB4 := HE4.out.obj HB3.out
  clear hb0 hb1 HB3 HS3 HE4
  refine Wn.seqK ⟨_, Try.func4⟩ (by kernel_rfl) (by kernel_rfl) (fun w5 hS5 hz5 => ?_)
  have HB5 := hid (hS5.obj hB4)
  have HS5 := hid (hS4.trans hS5)
  clear hS5 hz5 hS4 hB4
  simp only [es3, bodyEs, codeAt, Try.f4, Option.getD_some]
  by_cases hrn : r < 0
  · go_wp2
    refine EndK.out fun todo => ?_
    exact Wn.doneK Try.func4 rfl (by kernel_rfl) rfl HS5.out (fun b hb => hb.elim)
  go_wp2
  refine EndK.on ?_
  dsimp only
  have HM := hid (wClus_bd (C := C) (M := 1048576) (by have := HR3.out (by omega); omega))
  clear HR3 hr1 hr2 hrn
  have hM1 : Hid (C.room.length ≤ 4000000 ∧ C.units.length ≤ 4000000 ∧ (C.units.map (·.tasks)).flatten.length ≤ 4000000 ∧ ∀ u ∈ C.units, u.tasks.length ≤ 4000000 ∧ ∀ t ∈ u.tasks, t.need.length ≤ 4000000) :=
    hid ⟨Nat.le_trans HM.out.1 (by omega), Nat.le_trans HM.out.2.1 (by omega), Nat.le_trans HM.out.2.2.1 (by omega), fun u hu => ⟨Nat.le_trans (HM.out.2.2.2 u hu).1 (by omega), fun t ht => Nat.le_trans ((HM.out.2.2.2 u hu).2 t ht) (by omega)⟩⟩
  clear HM
  obtain ⟨z, hzz⟩ : ∃ z, z = shareN C dim := ⟨_, rfl⟩
  have HZ := hid hzz
  clear hzz
  refine Wn.seqK ⟨_, Try.func4⟩ (by kernel_rfl) (by kernel_rfl) (fun w6 hS6 hz6 => ?_)
  have HB6 := hid (hS6.obj HB5.out)
  have HS6 := hid (HS5.out.trans hS6)
  clear hS6 hz6 HB5 HS5
  have hb0 := obj_cell HB6.out (i := 0) rfl
  have hb1 := obj_cell HB6.out (i := 1) rfl
  simp only [es5, bodyEs, codeAt, Try.f4, Option.getD_some]
  go_wp2_with (first
    | (go_at_call 15; refine (lToCluster _ C _ (HC.out.sup HS6.out) hM1.out.1 hM1.out.2.1 hM1.out.2.2.2).mono ?_; rintro e w7 ⟨v7, rfl, hO7, hE7⟩; have HO7 := hid hO7.read; have HE7 := hid hE7; clear hO7 hE7)
    | (go_at_call 11; refine (sUsageShare _ C dim _ HO7.out hM1.out.2.1 hM1.out.2.2.1).mono ?_; rw [← HZ.out]; rintro e w8 ⟨rfl, hE8⟩; have HE8 := hid (HE7.out.trans hE8); clear hE8))
  refine EndK.on ?_
  dsimp only
  have hS8 := HS6.out.trans (Sup.of HE8.out)
  have hB8 := HE8.out.obj HB6.out
  clear hb0 hb1 HB6 HS6 HE7 HE8 HO7
  refine Wn.seqK ⟨_, Try.func4⟩ (by kernel_rfl) (by kernel_rfl) (fun w9 hS9 hz9 => ?_)
  have HB9 := hid (hS9.obj hB8)
  have HS9 := hid (hS8.trans hS9)
  clear hS9 hz9 hS8 hB8
  have hb0 := obj_cell HB9.out (i := 0) rfl
  have hb1 := obj_cell HB9.out (i := 1) rfl
  simp only [es6, bodyEs, codeAt, Try.f4, Option.getD_some]
  go_wp2_with (go_at_call 15; refine (lToCluster _ C _ (HC.out.sup HS9.out) hM1.out.1 hM1.out.2.1 hM1.out.2.2.2).mono ?_; rintro e wa ⟨va, rfl, hOa, hEa⟩; have HOa := hid hOa.read; obtain ⟨A5, c5, B5, d5, rfl⟩ := HOa.out.form; have HEa := hid hEa; clear hOa hEa)
  refine EndK.on ?_
  obtain ⟨X, hX⟩ : ∃ X, X = wa.alloc (.cells #[.slice A5 C.room.length c5, .slice B5 C.units.length d5] 26) := ⟨_, rfl⟩
  have hXB : X.heap[wa.heap.size]? = some (.cells #[.slice A5 C.room.length c5, .slice B5 C.units.length d5] 26 (0, 0)) := by rw [hX]; exact heap_alloc_new _ _
  have hEX : Ext wa X := by rw [hX]; exact Ext.alloc _ _
  rw [← hX]
  dsimp only
  have HSX := hid (HS9.out.trans (Sup.of (HEa.out.trans hEX)))
  have HBX := hid ((HEa.out.trans hEX).obj HB9.out)
  have HOX := hid (HOa.out.ext hEX)
  have HXB := hid hXB
  clear hb0 hb1 HB9 HS9 HEa HOa hX hXB hEX
  generalize wa.heap.size = Hx at *
  refine Wn.silent rfl (fun u => stepG_seq) ?_
  refine Wn.silent rfl (fun u => stepG_region) ?_
  rw [show List.range esO.size = [0, 1, 2, 3] by kernel_rfl]
  simp only [esO, opsOf, codeAt, bodyEs, Try.f4, Option.getD_some]
  refine Wn.opK rfl rfl rfl (fun w10 hS10 hz10 => ?_)
  have HS10 := hid (HSX.out.trans hS10)
  have HB10 := hid (hS10.obj HBX.out)
  have HX10 := hid (hS10.obj HXB.out)
  have HO10 := hid (HOX.out.sup hS10)
  have hb0 := obj_cell HX10.out (i := 0) rfl
  have hb1 := obj_cell HX10.out (i := 1) rfl
  clear hS10 hz10 HSX HBX HOX HXB
  refine ⟨.value (.agg #[.slice A5 C.room.length c5, .slice B5 C.units.length d5]), w10, ?_, fun v hv => ?_⟩
  · go_simp
  obtain rfl : v = .agg #[.slice A5 C.room.length c5, .slice B5 C.units.length d5] := by
    rcases hv with h | ⟨h, _⟩
    · injection h with h; exact h.symm
    · cases h
  clear hv hb0 hb1
  simp only [Act.put, List.setIfInBounds_toArray, List.getElem_toArray, List.getElem_cons_zero, List.set_cons_succ, List.set_cons_zero]
  refine Wn.opK rfl rfl rfl (fun w10b hS10b hz10b => ?_)
  have HS10b := hid (HS10.out.trans hS10b)
  have HB10b := hid (hS10b.obj HB10.out)
  have HX10b := hid (hS10b.obj HX10.out)
  have HO10b := hid (HO10.out.sup hS10b)
  clear hS10b hz10b HS10 HB10 HX10 HO10
  refine ⟨.value (.int .i64 dim), w10b, ?_, fun v hv => ?_⟩
  · go_simp
  obtain rfl : v = .int .i64 dim := by
    rcases hv with h | ⟨h, _⟩
    · injection h with h; exact h.symm
    · cases h
  clear hv
  have HS10 := HS10b
  have HB10 := HB10b
  have HX10 := HX10b
  have HO10 := HO10b
  clear HS10b HB10b HX10b HO10b
  simp only [Act.put, List.setIfInBounds_toArray, List.getElem_toArray, List.getElem_cons_zero, List.getElem_cons_succ, List.set_cons_succ, List.set_cons_zero]
  refine Wn.enter rfl rfl rfl Try.func10 (by kernel_rfl) (by kernel_rfl) ?_
  simp only [List.map_toArray, List.map_cons, List.map_nil, Act.eval, Array.getD_eq_getD_getElem?, List.getElem?_toArray, List.getElem?_cons_succ, List.getElem?_cons_zero, Option.getD_some]
  refine usageShareWn HO10.out hM1.out.2.1 hM1.out.2.2.1 HI.out (fun b hb => hb.elim) ?_
  rw [← HZ.out]
  intro w11 D' hS11 hD11 hM11
  have HS11 := hid (HS10.out.trans hS11)
  have HB11 := hid (hS11.obj HB10.out)
  have HX11 := hid (hS11.obj HX10.out)
  have HO11 := hid (HO10.out.sup hS11)
  have HDD : Hid (∀ b, D' b → w.heap.size ≤ b) := hid fun b hb => (hM11 b hb).elim (fun h => h.elim) (fun h => Nat.le_trans HS10.out.size h)
  clear hS11 hD11 hM11 HS10 HB10 HX10 HO10
  rw [finish_at rfl rfl]
  simp only [List.setIfInBounds_toArray, List.set_cons_succ, List.set_cons_zero]
  refine Wn.listK 3 ⟨_, Try.func4⟩ (by kernel_rfl) (by kernel_rfl) (by kernel_rfl) (fun w12 hS12 hz12 => ?_)
  have HS12 := hid hS12
  clear hS12 hz12
  simp only [List.drop_succ_cons, List.drop_zero]
  go_wp2
  refine EndK.on ?_
  dsimp only
  refine Wn.codeK ⟨_, Try.func4⟩ (by kernel_rfl) (by kernel_rfl) (fun w13 hS13 hz13 => ?_)
  have hS3 := HS12.out.trans hS13
  have HS13 := hid (HS11.out.trans hS3)
  have HB13 := hid (hS3.obj HB11.out)
  have HX13 := hid (hS3.obj HX11.out)
  have HO13 := hid (HO11.out.sup hS3)
  clear hS13 hz13 hS3 HS12 HS11 HB11 HX11 HO11
  simp only [esR, bodyEs, codeAt, Try.f4, Option.getD_some]
  have KX : Hid (∀ w', Ext w13 w' → w'.cell? ⟨Hx, 0, none⟩ = some (.slice A5 C.room.length c5) ∧ w'.cell? ⟨Hx, 1, none⟩ = some (.slice B5 C.units.length d5) ∧ w'.cell? ⟨w.heap.size, 0, none⟩ = some (.slice Ar C.room.length cr) ∧ w'.cell? ⟨w.heap.size, 1, none⟩ = some (.slice Au C.units.length cu) ∧ Ext w13 w') :=
    hid fun w' hw => ⟨obj_cell (hw.obj HX13.out) (i := 0) rfl, obj_cell (hw.obj HX13.out) (i := 1) rfl, obj_cell (hw.obj HB13.out) (i := 0) rfl, obj_cell (hw.obj HB13.out) (i := 1) rfl, hw⟩
  have hD0 : Ext w13 w13.drew := Below.drew (Below.refl _ _)
  go_wp2
  go_region_held3 (fun w' => w'.cell? ⟨Hx, 0, none⟩ = some (.slice A5 C.room.length c5) ∧ w'.cell? ⟨Hx, 1, none⟩ = some (.slice B5 C.units.length d5) ∧ w'.cell? ⟨w.heap.size, 0, none⟩ = some (.slice Ar C.room.length cr) ∧ w'.cell? ⟨w.heap.size, 1, none⟩ = some (.slice Au C.units.length cu) ∧ Ext w13 w')
    (first | exact KX.out _ (by assumption))
    (first
      | (go_at_call 15; refine (lToCluster _ C _ (HC.out.sup (HS13.out.trans (Sup.of (by assumption)))) hM1.out.1 hM1.out.2.1 hM1.out.2.2.2).mono ?_; rintro e w14 ⟨v14, rfl, hO14, hE14⟩; have HO14 := hid hO14.read; have h14 : Ext w13 w14 := Ext.trans (by assumption) hE14; clear hO14 hE14)
      | (go_at_call 16; refine (lEqClus _ _ C _ (HO13.out.ext (by assumption)) HO14.out).mono ?_; rintro e w15 ⟨rfl, hE15⟩; have h15 : Ext w13 w15 := Ext.trans (by assumption) hE15))
  go_wp2
  refine EndK.out fun todo => ?_
  exact Wn.doneK Try.func4 rfl (by kernel_rfl) rfl (HS13.out.trans (Sup.of h15)) HDD.out
end Go.Proofs.Ytcfpilkhjpegcaa
