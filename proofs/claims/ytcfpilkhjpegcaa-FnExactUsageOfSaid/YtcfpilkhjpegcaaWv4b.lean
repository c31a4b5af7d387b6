/- The law FnExactUsageOf: the program's UsageOf is the reference's. -/
import Derived.Test.YtcfpilkhjpegcaaWv0b
import Derived.Test.YtcfpilkhjpegcaaK68
import Derived.Test.YtcfpilkhjpegcaaK65
import Derived.Test.YtcfpilkhjpegcaaK21
import Derived.Test.YtcfpilkhjpegcaaK22
import Derived.Test.YtcfpilkhjpegcaaK23
namespace Go.Proofs.Ytcfpilkhjpegcaa
open Go Go.Conc Go.ConcN Go.RowKit

theorem Sup.ext2 {w w' : World} (h : Sup w w') {d : Nat} : Ext (w.re w'.tape d) w' := ⟨h.os, rfl, h.output, h.size, h.block⟩
theorem Sup.touch {L : List Nat} {a b c : World} (h : Sup a b) (k : Touch L b c) (hl : ∀ b ∈ L, a.heap.size ≤ b) : Sup a c :=
  ⟨k.os.trans h.os, k.output.trans h.output, Nat.le_trans h.size k.size, fun i hi => (k.block i (Nat.lt_of_lt_of_le hi h.size) (fun hm => by have := hl i hm; omega)).trans (h.block i hi)⟩
theorem Dead.touch {L : List Nat} {D : Nat → Prop} {b c : World} (h : Dead D b) (k : Touch L b c) (hl : ∀ b ∈ L, D b → False) : Dead D c := fun x hx => by
  obtain ⟨ty, fr, e⟩ := h x hx
  exact ⟨ty, fr, (k.block x (obj_lt e) (fun hm => hl x hm hx)).trans e⟩
noncomputable def bodyEu : Code := (Try.f6.body).getD .skip
noncomputable def eux0 : Code := codeAt bodyEu [0]
noncomputable def eux1 : Code := codeAt bodyEu [1, 0]
noncomputable def eux2 : Code := codeAt bodyEu [1, 1, 0]
noncomputable def eux3 : Code := codeAt bodyEu [1, 1, 1, 0]
noncomputable def eux5 : Code := codeAt bodyEu [1, 1, 1, 1, 0]
noncomputable def eux6 : Code := codeAt bodyEu [1, 1, 1, 1, 1, 0]
noncomputable def eux8 : Code := codeAt bodyEu [1, 1, 1, 1, 1, 1, 1, 0]
noncomputable def eux10 : Code := codeAt bodyEu [1, 1, 1, 1, 1, 1, 1, 1, 0]
noncomputable def eux12 : Code := codeAt bodyEu [1, 1, 1, 1, 1, 1, 1, 1, 1, 0]
noncomputable def eux13 : Code := codeAt bodyEu [1, 1, 1, 1, 1, 1, 1, 1, 1, 1, 0]
noncomputable def eux14 : Code := codeAt bodyEu [1, 1, 1, 1, 1, 1, 1, 1, 1, 1, 1, 0]
noncomputable def eux16 : Code := codeAt bodyEu [1, 1, 1, 1, 1, 1, 1, 1, 1, 1, 1, 1, 0]
noncomputable def eux17 : Code := codeAt bodyEu [1, 1, 1, 1, 1, 1, 1, 1, 1, 1, 1, 1, 1, 0]
noncomputable def eux18 : Code := codeAt bodyEu [1, 1, 1, 1, 1, 1, 1, 1, 1, 1, 1, 1, 1, 1, 0]
noncomputable def eux19 : Code := codeAt bodyEu [1, 1, 1, 1, 1, 1, 1, 1, 1, 1, 1, 1, 1, 1, 1, 0]
noncomputable def eux20 : Code := codeAt bodyEu [1, 1, 1, 1, 1, 1, 1, 1, 1, 1, 1, 1, 1, 1, 1, 1, 0]
noncomputable def eux22 : Code := codeAt bodyEu [1, 1, 1, 1, 1, 1, 1, 1, 1, 1, 1, 1, 1, 1, 1, 1, 1, 0]
noncomputable def euR : Code := codeAt bodyEu [1, 1, 1, 1, 1, 1, 1, 1, 1, 1, 1, 1, 1, 1, 1, 1, 1, 1, 1]
noncomputable def euO : Array Oper := opsOf (codeAt bodyEu [1, 1, 1, 1, 1, 1, 0])
noncomputable def euQ : Array Oper := opsOf (codeAt bodyEu [1, 1, 1, 1, 1, 1, 1, 1, 1, 1, 1, 1, 1, 1, 1, 1, 1, 1, 0])
theorem bodyEu_eq : bodyEu = .seq eux0 (.seq eux1 (.seq eux2 (.seq eux3 (.seq eux5 (.seq eux6 (.seq (.region 7 euO false) (.seq eux8 (.seq eux10 (.seq eux12 (.seq eux13 (.seq eux14 (.seq eux16 (.seq eux17 (.seq eux18 (.seq eux19 (.seq eux20 (.seq eux22 (.seq (.region 24 euQ false) euR)))))))))))))))))) := by kernel_rfl
theorem frameEu (v0 : Value) : Frame.enter Try.prog 6 #[v0] .normal = (base 6).at ⟨#[v0, undef, undef, undef, undef, undef, undef, undef, undef, undef, undef, undef, undef, undef, undef, undef, undef, undef, undef, undef, undef, undef, undef, undef, undef, undef, undef, undef, undef, undef, undef, undef, undef, undef, undef, undef, undef, undef, undef, undef, undef, undef, undef, undef, undef, undef, undef, undef, undef, undef, undef, undef, undef, undef, undef, undef, undef, undef, undef, undef, undef, undef, undef, undef, undef, undef, undef, undef, undef], []⟩ [.code bodyEu] := by
  rw [enter_at _ Try.func6 (c := bodyEu) rfl]
  rw [show (Try.f6).ntmps = 69 by kernel_rfl]
  simp [Array.replicate]
set_option maxRecDepth 100000 in
set_option maxHeartbeats 16000000 in
theorem lawUsageOf (cv : Value) (C : ClusD) (w : World) (h : ClusX w cv C) (hid' : ∀ t ∈ (C.units.map (·.tasks)).flatten, IdR t.id) : GoodRun (G (Frame.enter Try.prog 6 #[cv] .normal) []) w (LawPost w) := by
  refine Wn.begin ?_
  have HC := hid h
  obtain ⟨Ar, cr, Au, cu, rfl⟩ := h.form
  have HI := hid hid'
  clear h hid'
  have HS : Hid (Sup w w) := hid (Sup.refl w)
  rw [frameEu, bodyEu_eq]
  refine Wn.seqK ⟨_, Try.func6⟩ (by kernel_rfl) (by kernel_rfl) (fun w1 hS1 hz1 => ?_)
  simp only [eux0, bodyEu, codeAt, Try.f6, Option.getD_some]
  replace HS := hid (HS.out.trans hS1)
  clear hS1
  go_wp2
  refine EndK.on ?_
  obtain ⟨W, hW⟩ : ∃ W, W = w1.alloc (.cells #[.slice Ar C.room.length cr, .slice Au C.units.length cu] 34) := ⟨_, rfl⟩
  have HB : Hid (W.heap[w.heap.size]? = some (.cells #[.slice Ar C.room.length cr, .slice Au C.units.length cu] 34 (0, 0))) := hid (by rw [hW, ← hz1]; exact heap_alloc_new _ _)
  replace HS : Hid (Sup w W) := hid (HS.out.trans (by rw [hW]; exact Sup.of (Ext.alloc _ _)))
  rw [← hW]
  clear hW hz1
  dsimp only
  refine Wn.seqK ⟨_, Try.func6⟩ (by kernel_rfl) (by kernel_rfl) (fun w22 hS22 hz22 => ?_)
  replace HS := hid (HS.out.trans hS22)
  replace HB := hid (hS22.obj HB.out)
  clear hS22 hz22
  simp only [eux1, bodyEu, codeAt, Try.f6, Option.getD_some]
  go_wp2
  refine EndK.on ?_
  dsimp only
  refine Wn.seqK ⟨_, Try.func6⟩ (by kernel_rfl) (by kernel_rfl) (fun w23 hS23 hz23 => ?_)
  replace HS := hid (HS.out.trans hS23)
  replace HB := hid (hS23.obj HB.out)
  clear hS23 hz23
  have hb0 := obj_cell HB.out (i := 0) rfl
  have hb1 := obj_cell HB.out (i := 1) rfl
  simp only [eux2, bodyEu, codeAt, Try.f6, Option.getD_some]
  go_wp2_with (first
    | (go_at_call 14; refine (lSzClus _ C 1048576 _ (HC.out.sup HS.out) (by omega) (by omega)).mono ?_; rintro e w4 ⟨r, rfl, hE4, hr1, hr2, hr3⟩; have hE4 := hid hE4; have HR3 := hid hr3; clear hr3))
  refine EndK.on ?_
  dsimp only
  clear hb0 hb1
  have hE4 := Sup.of hE4.out
  replace HS := hid (HS.out.trans hE4)
  replace HB := hid (hE4.obj HB.out)
  clear hE4
  refine Wn.seqK ⟨_, Try.func6⟩ (by kernel_rfl) (by kernel_rfl) (fun w24 hS24 hz24 => ?_)
  replace HS := hid (HS.out.trans hS24)
  replace HB := hid (hS24.obj HB.out)
  clear hS24 hz24
  simp only [eux3, bodyEu, codeAt, Try.f6, Option.getD_some]
  by_cases hrn : r < 0
  · go_wp2
    refine EndK.out fun todo => ?_
    exact Wn.doneK Try.func6 rfl (by kernel_rfl) rfl HS.out (fun b hb => hb.elim)
  go_wp2
  refine EndK.on ?_
  dsimp only
  have HM := hid (wClus_bd (C := C) (M := 1048576) (by have := HR3.out (by omega); omega))
  have HWC : Hid (wClus C ≤ 1048576) := hid (by have := HR3.out (by omega); omega)
  clear HR3 hr1 hr2 hrn
  have hM1 : Hid (C.room.length ≤ 4000000 ∧ C.units.length ≤ 4000000 ∧ (C.units.map (·.tasks)).flatten.length ≤ 4000000 ∧ ∀ u ∈ C.units, u.tasks.length ≤ 4000000 ∧ ∀ t ∈ u.tasks, t.need.length ≤ 4000000) :=
    hid ⟨Nat.le_trans HM.out.1 (by omega), Nat.le_trans HM.out.2.1 (by omega), Nat.le_trans HM.out.2.2.1 (by omega), fun u hu => ⟨Nat.le_trans (HM.out.2.2.2 u hu).1 (by omega), fun t ht => Nat.le_trans ((HM.out.2.2.2 u hu).2 t ht) (by omega)⟩⟩
  clear HM
  obtain ⟨us, hus⟩ : ∃ us, us = usageOf C := ⟨_, rfl⟩
  have hul : us.length ≤ 3 := by
    rw [hus]
    unfold usageOf
    split
    · rw [usageL_len]; omega
    · simp
  have HUS := hid hus
  have HUL := hid hul
  clear hus hul
  refine Wn.seqK ⟨_, Try.func6⟩ (by kernel_rfl) (by kernel_rfl) (fun w25 hS25 hz25 => ?_)
  replace HS := hid (HS.out.trans hS25)
  replace HB := hid (hS25.obj HB.out)
  clear hS25 hz25
  have hb0 := obj_cell HB.out (i := 0) rfl
  have hb1 := obj_cell HB.out (i := 1) rfl
  simp only [eux5, bodyEu, codeAt, Try.f6, Option.getD_some]
  go_wp2_with (first
    | (go_at_call 15; refine (lToCluster _ C _ (HC.out.sup HS.out) hM1.out.1 hM1.out.2.1 hM1.out.2.2.2).mono ?_; rintro e w7 ⟨v7, rfl, hO7, hE7⟩; have HO7 := hid hO7.read; have HE7 := hid hE7; clear hO7 hE7)
    | (go_at_call 18; refine (sUsageOf _ C _ HO7.out hM1.out.2.1 hM1.out.2.2.1).mono ?_; rw [← HUS.out]; rintro e w8 ⟨v8, rfl, hR8, hE8⟩; have HR8 := hid hR8; have HE8 := hid (HE7.out.trans hE8); clear hR8 hE8))
  refine EndK.on ?_
  dsimp only
  clear hb0 hb1
  have hE8 := Sup.of HE8.out
  replace HS := hid (HS.out.trans hE8)
  replace HB := hid (hE8.obj HB.out)
  clear hE8 HE7 HE8 HO7
  have HB8 := HB
  have HSw8 := HS
  have HS8 : Hid (Sup w8 w8) := hid (Sup.refl w8)
  clear HS HB
  refine Wn.seqK ⟨_, Try.func6⟩ (by kernel_rfl) (by kernel_rfl) (fun w26 hS26 hz26 => ?_)
  replace HS8 := hid (HS8.out.trans hS26)
  clear hS26 hz26
  have hb0 := obj_cell (HS8.out.obj HB8.out) (i := 0) rfl
  have hb1 := obj_cell (HS8.out.obj HB8.out) (i := 1) rfl
  simp only [eux6, bodyEu, codeAt, Try.f6, Option.getD_some]
  go_wp2_with (first
    | (go_at_call 15; refine (lToClusterD _ C _ (HC.out.sup (HSw8.out.trans HS8.out)) hM1.out.1 hM1.out.2.1 hM1.out.2.2.2).mono ?_; rintro e wa ⟨va, rfl, hDa, hEa⟩; obtain ⟨A5, c5, B5, d5, hva⟩ := hDa.form; subst hva; have HDa := hid hDa; have HEa := hid hEa; clear hDa hEa))
  refine EndK.on ?_
  dsimp only
  clear hb0 hb1
  obtain ⟨X, hX⟩ : ∃ X, X = wa.alloc (.cells #[.slice A5 C.room.length c5, .slice B5 C.units.length d5] 26) := ⟨_, rfl⟩
  have HX : Hid (X.heap[wa.heap.size]? = some (.cells #[.slice A5 C.room.length c5, .slice B5 C.units.length d5] 26 (0, 0))) := hid (by rw [hX]; exact heap_alloc_new _ _)
  have HSA : Hid (Sup wa X) := hid (by rw [hX]; exact Sup.of (Ext.alloc _ _))
  rw [← hX]
  have hb5 : w8.heap.size ≤ w26.heap.size := HS8.out.size
  have h5a : w26.heap.size ≤ wa.heap.size := HEa.out.size
  replace HS8 := hid (HS8.out.trans ((Sup.of HEa.out).trans HSA.out))
  have HO : Hid (ClusV X (.agg #[.slice A5 C.room.length c5, .slice B5 C.units.length d5]) C) := hid (HDa.out.read.sup HSA.out)
  clear hX HEa
  generalize w26.heap.size = b5 at *
  refine Wn.silent rfl (fun u => stepG_seq) ?_
  refine Wn.silent rfl (fun u => stepG_region) ?_
  rw [show List.range euO.size = [0, 1, 2] by kernel_rfl]
  simp only [euO, opsOf, codeAt, bodyEu, Try.f6, Option.getD_some]
  refine Wn.opK rfl rfl rfl (fun w27 hS27 hz27 => ?_)
  replace HS8 := hid (HS8.out.trans hS27)
  replace HSA := hid (HSA.out.trans hS27)
  replace HX := hid (hS27.obj HX.out)
  replace HO := hid (HO.out.sup hS27)
  clear hS27 hz27
  have hb0 := obj_cell HX.out (i := 0) rfl
  have hb1 := obj_cell HX.out (i := 1) rfl
  refine ⟨.value (.agg #[.slice A5 C.room.length c5, .slice B5 C.units.length d5]), w27, ?_, fun v hv => ?_⟩
  · go_simp
  obtain rfl : v = .agg #[.slice A5 C.room.length c5, .slice B5 C.units.length d5] := by
    rcases hv with h | ⟨h, _⟩
    · injection h with h; exact h.symm
    · cases h
  clear hv hb0 hb1
  simp only [Act.put, List.setIfInBounds_toArray, List.getElem_toArray, List.getElem_cons_zero, List.set_cons_succ, List.set_cons_zero]
  refine Wn.enter rfl rfl rfl Try.func13 (by kernel_rfl) (by kernel_rfl) ?_
  simp only [List.map_toArray, List.map_cons, List.map_nil, Act.eval, Array.getD_eq_getD_getElem?, List.getElem?_toArray, List.getElem?_cons_succ, List.getElem?_cons_zero, Option.getD_some]
  refine usageOfWn HO.out hM1.out.2.1 hM1.out.2.2.1 HI.out (fun b hb => hb.elim) ?_
  rw [← HUS.out]
  intro w11 D1 v11 hS11 hD11 hM11 hO11 hob
  have h7 : wa.heap.size ≤ w27.heap.size := HSA.out.size
  have hD7 : ∀ b, D1 b → w27.heap.size ≤ b := fun b hb => (hM11 b hb).elim (fun h => h.elim) id
  replace HS8 := hid (HS8.out.trans hS11)
  replace HSA := hid (HSA.out.trans hS11)
  replace HX := hid (hS11.obj HX.out)
  replace HO := hid (HO.out.sup hS11)
  have HD := hid hD11
  have HG := hid hO11
  obtain ⟨A7, c7, rfl, _⟩ := hO11.form
  have HOB := hid hob
  clear hob
  clear hS11 hD11 hM11 hO11
  generalize w27.heap.size = b7 at *
  have HDb := hid hD7
  have HB7 : Hid (w8.heap.size ≤ b7) := hid (by omega)
  clear hD7
  rw [finish_at rfl rfl]
  simp only [List.setIfInBounds_toArray, List.set_cons_succ, List.set_cons_zero]
  refine Wn.listK 2 ⟨_, Try.func6⟩ (by kernel_rfl) (by kernel_rfl) (by kernel_rfl) (fun w28 hS28 hz28 => ?_)
  replace HS8 := hid (HS8.out.trans hS28)
  replace HSA := hid (HSA.out.trans hS28)
  replace HX := hid (hS28.obj HX.out)
  replace HO := hid (HO.out.sup hS28)
  replace HD := hid (HD.out.sup hS28)
  replace HG := hid (HG.out.sup hS28)
  clear hS28 hz28
  simp only [List.drop_succ_cons, List.drop_zero]
  go_wp2
  refine EndK.on ?_
  dsimp only
  refine Wn.seqK ⟨_, Try.func6⟩ (by kernel_rfl) (by kernel_rfl) (fun w29 hS29 hz29 => ?_)
  replace HS8 := hid (HS8.out.trans hS29)
  replace HSA := hid (HSA.out.trans hS29)
  replace HX := hid (hS29.obj HX.out)
  replace HO := hid (HO.out.sup hS29)
  replace HD := hid (HD.out.sup hS29)
  replace HG := hid (HG.out.sup hS29)
  clear hS29 hz29
  simp only [eux8, bodyEu, codeAt, Try.f6, Option.getD_some]
  go_wp2_with (first
    | (go_at_call 21; refine (lEqInts _ _ us _ HG.out.read (HR8.out.sup HS8.out)).mono ?_; rintro e wx ⟨rfl, hEx⟩; have hEx := hid hEx))
  refine EndK.on ?_
  dsimp only
  have hEx := Sup.of hEx.out
  replace HS8 := hid (HS8.out.trans hEx)
  replace HSA := hid (HSA.out.trans hEx)
  replace HX := hid (hEx.obj HX.out)
  replace HO := hid (HO.out.sup hEx)
  replace HD := hid (HD.out.sup hEx)
  replace HG := hid (HG.out.sup hEx)
  clear hEx
  refine Wn.seqK ⟨_, Try.func6⟩ (by kernel_rfl) (by kernel_rfl) (fun w30 hS30 hz30 => ?_)
  replace HS8 := hid (HS8.out.trans hS30)
  replace HSA := hid (HSA.out.trans hS30)
  replace HX := hid (hS30.obj HX.out)
  replace HO := hid (HO.out.sup hS30)
  replace HD := hid (HD.out.sup hS30)
  replace HG := hid (HG.out.sup hS30)
  clear hS30 hz30
  simp only [eux10, bodyEu, codeAt, Try.f6, Option.getD_some]
  have KX : Hid (∀ w', Ext w30 w' → w'.cell? ⟨wa.heap.size, 0, none⟩ = some (.slice A5 C.room.length c5) ∧ w'.cell? ⟨wa.heap.size, 1, none⟩ = some (.slice B5 C.units.length d5) ∧ w'.cell? ⟨w.heap.size, 0, none⟩ = some (.slice Ar C.room.length cr) ∧ w'.cell? ⟨w.heap.size, 1, none⟩ = some (.slice Au C.units.length cu) ∧ Ext w30 w') := hid fun w' hw => ⟨obj_cell (hw.obj HX.out) (i := 0) rfl, obj_cell (hw.obj HX.out) (i := 1) rfl, obj_cell (hw.obj (HS8.out.obj HB8.out)) (i := 0) rfl, obj_cell (hw.obj (HS8.out.obj HB8.out)) (i := 1) rfl, hw⟩
  have hD0 : Ext w30 w30.drew := Below.drew (Below.refl _ _)
  go_wp2
  go_region_held3 (fun w' => w'.cell? ⟨wa.heap.size, 0, none⟩ = some (.slice A5 C.room.length c5) ∧ w'.cell? ⟨wa.heap.size, 1, none⟩ = some (.slice B5 C.units.length d5) ∧ w'.cell? ⟨w.heap.size, 0, none⟩ = some (.slice Ar C.room.length cr) ∧ w'.cell? ⟨w.heap.size, 1, none⟩ = some (.slice Au C.units.length cu) ∧ Ext w30 w')
    (first | exact KX.out _ (by assumption))
    (first
      | (go_at_call 15; refine (lToCluster _ C _ (HC.out.sup (HSw8.out.trans (HS8.out.trans (Sup.of (by assumption))))) hM1.out.1 hM1.out.2.1 hM1.out.2.2.2).mono ?_; rintro e w14 ⟨v14, rfl, hO14, hE14⟩; have HO14 := hid hO14.read; have h14 : Ext w30 w14 := Ext.trans (by assumption) hE14; clear hO14 hE14)
      | (go_at_call 16; refine (lEqClus _ _ C _ (HO.out.ext (by assumption)) HO14.out).mono ?_; rintro e w15 ⟨rfl, hE15⟩; have h15 : Ext w30 w15 := Ext.trans (by assumption) hE15))
  have hEx := hid (Sup.of h15)
  clear hD0 h14 h15 hE15 HO14 KX
  go_wp2
  refine EndK.on ?_
  dsimp only
  have hEx := hEx.out
  replace HS8 := hid (HS8.out.trans hEx)
  replace HSA := hid (HSA.out.trans hEx)
  replace HX := hid (hEx.obj HX.out)
  replace HO := hid (HO.out.sup hEx)
  replace HD := hid (HD.out.sup hEx)
  replace HG := hid (HG.out.sup hEx)
  clear hEx
  refine Wn.seqK ⟨_, Try.func6⟩ (by kernel_rfl) (by kernel_rfl) (fun w31 hS31 hz31 => ?_)
  replace HS8 := hid (HS8.out.trans hS31)
  replace HSA := hid (HSA.out.trans hS31)
  replace HX := hid (hS31.obj HX.out)
  replace HO := hid (HO.out.sup hS31)
  replace HD := hid (HD.out.sup hS31)
  replace HG := hid (HG.out.sup hS31)
  clear hS31 hz31
  simp only [eux12, bodyEu, codeAt, Try.f6, Option.getD_some]
  go_wp2
  refine EndK.on ?_
  dsimp only
  refine Wn.seqK ⟨_, Try.func6⟩ (by kernel_rfl) (by kernel_rfl) (fun w32 hS32 hz32 => ?_)
  replace HS8 := hid (HS8.out.trans hS32)
  replace HSA := hid (HSA.out.trans hS32)
  replace HX := hid (hS32.obj HX.out)
  replace HO := hid (HO.out.sup hS32)
  replace HD := hid (HD.out.sup hS32)
  replace HG := hid (HG.out.sup hS32)
  clear hS32 hz32
  have hb0 := obj_cell HX.out (i := 0) rfl
  have hb1 := obj_cell HX.out (i := 1) rfl
  obtain ⟨kk, hkk⟩ : ∃ kk : Int, kk = 1 + (wClus C : Int) := ⟨_, rfl⟩
  have hkk0 : ¬ kk < 0 := by omega
  have HKK := hid hkk
  clear hkk
  simp only [eux13, bodyEu, codeAt, Try.f6, Option.getD_some]
  go_wp2_with (first
    | (go_at_call 22; refine (lMarkClusterD _ C 1 (wa.re w32.tape 0) w32 b5 (by exact HDa.out) HSA.out.ext2 (Nat.le_trans HWC.out (by omega)) (by omega) (by omega)).mono ?_; rintro e wm ⟨L, rfl, _, hL, hN, hT⟩; rw [← HKK.out]; have HL := hid hL; have HT := hid hT; clear hL hN hT))
  refine EndK.on ?_
  dsimp only
  clear hb0 hb1
  replace HS8 := hid (HS8.out.touch HT.out (fun b hb => Nat.le_trans hb5 (HL.out b hb).1))
  replace HD : Hid (Dead D1 wm) := hid (HD.out.touch HT.out (fun b hb hd => by have := (HL.out b hb).2; have h2 := HDb.out b hd; have h3 : (wa.re w32.tape 0).heap.size = wa.heap.size := rfl; omega))
  replace HG : Hid (OI wm b7 (.slice A7 us.length c7) us) := hid (Own.far HG.out (fun g hg => HT.out.block g (Own.lt HG.out g hg).2 (fun hm => by have a1 := (HL.out g hm).2; have a2 := (Own.lt HG.out g hg).1; have h3 : (wa.re w32.tape 0).heap.size = wa.heap.size := rfl; omega)) (fun _ _ _ he => he))
  clear HSA HX HO HT HL
  refine Wn.seqK ⟨_, Try.func6⟩ (by kernel_rfl) (by kernel_rfl) (fun w33 hS33 hz33 => ?_)
  replace HS8 := hid (HS8.out.trans hS33)
  replace HD := hid (HD.out.sup hS33)
  replace HG := hid (HG.out.sup hS33)
  clear hS33 hz33
  simp only [eux14, bodyEu, codeAt, Try.f6, Option.getD_some]
  go_wp2_with (first
    | (go_at_call 21; refine (lEqInts _ _ us _ HG.out.read (HR8.out.sup HS8.out)).mono ?_; rintro e wx ⟨rfl, hEx⟩; have hEx := hid hEx))
  refine EndK.on ?_
  dsimp only
  have hEx := Sup.of hEx.out
  replace HS8 := hid (HS8.out.trans hEx)
  replace HD := hid (HD.out.sup hEx)
  replace HG := hid (HG.out.sup hEx)
  clear hEx
  refine Wn.seqK ⟨_, Try.func6⟩ (by kernel_rfl) (by kernel_rfl) (fun w34 hS34 hz34 => ?_)
  replace HS8 := hid (HS8.out.trans hS34)
  replace HD := hid (HD.out.sup hS34)
  replace HG := hid (HG.out.sup hS34)
  clear hS34 hz34
  simp only [eux16, bodyEu, codeAt, Try.f6, Option.getD_some]
  go_wp2
  refine EndK.on ?_
  dsimp only
  refine Wn.seqK ⟨_, Try.func6⟩ (by kernel_rfl) (by kernel_rfl) (fun w35 hS35 hz35 => ?_)
  replace HS8 := hid (HS8.out.trans hS35)
  replace HD := hid (HD.out.sup hS35)
  replace HG := hid (HG.out.sup hS35)
  clear hS35 hz35
  simp only [eux17, bodyEu, codeAt, Try.f6, Option.getD_some]
  go_wp2_with (first
    | (go_at_call 23; refine (lMarkInts A7 us.length c7 c7 us 1 _ b7 HG.out (by have := HUL.out; omega) (by omega) (by omega)).mono ?_; rintro e wm ⟨rfl, hOm, hT⟩; have HOm := hid hOm; have HT := hid hT; clear hOm hT))
  refine EndK.on ?_
  dsimp only
  replace HS8 := hid (HS8.out.touch HT.out (fun b hb => by have a2 := (Own.lt HG.out b (by simpa using hb)).1; have a3 := HB7.out; omega))
  replace HD : Hid (Dead D1 wm) := hid (HD.out.touch HT.out (fun b hb hd => HOB.out b (by simpa using hb) hd))
  clear HG HT
  have HG : Hid (RI wm (.slice A7 us.length c7) (marks 1 us.length)) := hid HOm.out.read
  clear HOm
  refine Wn.seqK ⟨_, Try.func6⟩ (by kernel_rfl) (by kernel_rfl) (fun w36 hS36 hz36 => ?_)
  replace HS8 := hid (HS8.out.trans hS36)
  replace HD := hid (HD.out.sup hS36)
  replace HG := hid (RI.sup HG.out hS36)
  clear hS36 hz36
  simp only [eux18, bodyEu, codeAt, Try.f6, Option.getD_some]
  go_wp2
  refine EndK.on ?_
  dsimp only
  refine Wn.seqK ⟨_, Try.func6⟩ (by kernel_rfl) (by kernel_rfl) (fun w37 hS37 hz37 => ?_)
  replace HS8 := hid (HS8.out.trans hS37)
  replace HD := hid (HD.out.sup hS37)
  replace HG := hid (RI.sup HG.out hS37)
  clear hS37 hz37
  simp only [eux19, bodyEu, codeAt, Try.f6, Option.getD_some]
  go_wp2_with (first
    | (go_at_call 24; refine (lHeldInts _ us.length 1 _ HG.out (by have := HUL.out; omega) (by omega) (by omega)).mono ?_; rintro e wx ⟨rfl, hEx⟩; have hEx := hid hEx))
  refine EndK.on ?_
  dsimp only
  have hEx := Sup.of hEx.out
  replace HS8 := hid (HS8.out.trans hEx)
  replace HD := hid (HD.out.sup hEx)
  replace HG := hid (RI.sup HG.out hEx)
  clear hEx
  have hm0 : ¬ (1 + (us.length : Int)) < 0 := by omega
  refine Wn.seqK ⟨_, Try.func6⟩ (by kernel_rfl) (by kernel_rfl) (fun w38 hS38 hz38 => ?_)
  replace HS8 := hid (HS8.out.trans hS38)
  replace HD := hid (HD.out.sup hS38)
  replace HG := hid (RI.sup HG.out hS38)
  clear hS38 hz38
  simp only [eux20, bodyEu, codeAt, Try.f6, Option.getD_some]
  go_wp2
  refine EndK.on ?_
  dsimp only
  refine Wn.seqK ⟨_, Try.func6⟩ (by kernel_rfl) (by kernel_rfl) (fun w39 hS39 hz39 => ?_)
  replace HS8 := hid (HS8.out.trans hS39)
  replace HD := hid (HD.out.sup hS39)
  replace HG := hid (RI.sup HG.out hS39)
  clear hS39 hz39
  simp only [eux22, bodyEu, codeAt, Try.f6, Option.getD_some]
  go_wp2
  refine EndK.on ?_
  dsimp only
  refine Wn.silent rfl (fun u => stepG_seq) ?_
  refine Wn.silent rfl (fun u => stepG_region) ?_
  rw [show List.range euQ.size = [0, 1, 2, 3] by kernel_rfl]
  simp only [euQ, opsOf, codeAt, bodyEu, Try.f6, Option.getD_some]
  refine Wn.opK rfl rfl rfl (fun w40 hS40 hz40 => ?_)
  replace HS8 := hid (HS8.out.trans hS40)
  replace HD := hid (HD.out.sup hS40)
  replace HG := hid (RI.sup HG.out hS40)
  clear hS40 hz40
  have hb0 := obj_cell (HS8.out.obj HB8.out) (i := 0) rfl
  have hb1 := obj_cell (HS8.out.obj HB8.out) (i := 1) rfl
  refine ⟨.value (.agg #[.slice Ar C.room.length cr, .slice Au C.units.length cu]), w40, ?_, fun v hv => ?_⟩
  · go_simp
  obtain rfl : v = .agg #[.slice Ar C.room.length cr, .slice Au C.units.length cu] := by
    rcases hv with h | ⟨h, _⟩
    · injection h with h; exact h.symm
    · cases h
  clear hv hb0 hb1
  simp only [Act.put, List.setIfInBounds_toArray, List.getElem_toArray, List.getElem_cons_zero, List.set_cons_succ, List.set_cons_zero]
  refine Wn.enter rfl rfl rfl Try.func15 (by kernel_rfl) (by kernel_rfl) ?_
  simp only [List.map_toArray, List.map_cons, List.map_nil, Act.eval, Array.getD_eq_getD_getElem?, List.getElem?_toArray, List.getElem?_cons_succ, List.getElem?_cons_zero, Option.getD_some]
  refine Wn.callK (by kernel_rfl) (by kernel_rfl) (fun wt hSt hzt => ?_)
  replace HS8 := hid (HS8.out.trans hSt)
  replace HD := hid (HD.out.sup hSt)
  replace HG := hid (RI.sup HG.out hSt)
  clear hSt hzt
  refine (lToCluster _ C _ (HC.out.sup (HSw8.out.trans HS8.out)) hM1.out.1 hM1.out.2.1 hM1.out.2.2.2).mono ?_
  rintro e wf ⟨vf, rfl, hOf, hEf⟩
  have HOf := hid hOf.read
  have hEf := Sup.of hEf
  replace HS8 := hid (HS8.out.trans hEf)
  replace HD := hid (HD.out.sup hEf)
  replace HG := hid (RI.sup HG.out hEf)
  clear hEf hOf
  refine ⟨vf, rfl, ?_⟩
  rw [finish_at rfl rfl]
  simp only [List.setIfInBounds_toArray, List.set_cons_succ, List.set_cons_zero]
  refine Wn.enter rfl rfl rfl Try.func13 (by kernel_rfl) (by kernel_rfl) ?_
  simp only [List.map_toArray, List.map_cons, List.map_nil, Act.eval, Array.getD_eq_getD_getElem?, List.getElem?_toArray, List.getElem?_cons_succ, List.getElem?_cons_zero, Option.getD_some]
  refine usageOfWn HOf.out hM1.out.2.1 hM1.out.2.2.1 HI.out HD.out ?_
  rw [← HUS.out]
  intro wh D2 vh hSh hDh hMh hOh _
  have HDb2 : Hid (∀ b, D2 b → w.heap.size ≤ b) := hid fun b hb => (hMh b hb).elim (fun h => by have h1 := HDb.out b h; have h2 := HB7.out; have h3 := HSw8.out.size; omega) (fun h => by have h2 := HS8.out.size; have h3 := HSw8.out.size; omega)
  clear HD
  have HHr : Hid (RI wh vh us) := hid hOh.read
  replace HS8 := hid (HS8.out.trans hSh)
  replace HG := hid (RI.sup HG.out hSh)
  clear hSh hDh hMh hOh HOf
  rw [finish_at rfl rfl]
  simp only [List.setIfInBounds_toArray, List.set_cons_succ, List.set_cons_zero]
  refine Wn.listK 3 ⟨_, Try.func6⟩ (by kernel_rfl) (by kernel_rfl) (by kernel_rfl) (fun w41 hS41 hz41 => ?_)
  replace HS8 := hid (HS8.out.trans hS41)
  replace HG := hid (RI.sup HG.out hS41)
  replace HHr := hid (RI.sup HHr.out hS41)
  clear hS41 hz41
  simp only [List.drop_succ_cons, List.drop_zero]
  go_wp2
  refine EndK.on ?_
  dsimp only
  refine Wn.codeK ⟨_, Try.func6⟩ (by kernel_rfl) (by kernel_rfl) (fun w42 hS42 hz42 => ?_)
  replace HS8 := hid (HS8.out.trans hS42)
  replace HG := hid (RI.sup HG.out hS42)
  replace HHr := hid (RI.sup HHr.out hS42)
  clear hS42 hz42
  simp only [euR, bodyEu, codeAt, Try.f6, Option.getD_some]
  go_wp2_with (first
    | (go_at_call 21; refine (lEqInts _ _ us _ HHr.out (HR8.out.sup HS8.out)).mono ?_; rintro e wx ⟨rfl, hEx⟩; have HEx := hid hEx; clear hEx)
    | (go_at_call 24; refine (lHeldInts _ us.length 1 _ (HG.out.ext HEx.out) (by have := HUL.out; omega) (by omega) (by omega)).mono ?_; rintro e wy ⟨rfl, hEy⟩; have HEy := hid (HEx.out.trans hEy); clear hEy))
  refine EndK.out fun todo => ?_
  exact Wn.doneK Try.func6 rfl (by kernel_rfl) rfl (HSw8.out.trans (HS8.out.trans (Sup.of HEy.out))) HDb2.out
end Go.Proofs.Ytcfpilkhjpegcaa
