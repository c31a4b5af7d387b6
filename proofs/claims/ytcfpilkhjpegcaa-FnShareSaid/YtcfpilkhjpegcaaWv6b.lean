/- The law FnShare: a share is at most everything. -/
import Derived.Test.YtcfpilkhjpegcaaWv0b
import Derived.Test.YtcfpilkhjpegcaaK68
import Derived.Test.YtcfpilkhjpegcaaK65
import Derived.Test.YtcfpilkhjpegcaaK69
import Derived.Test.YtcfpilkhjpegcaaK14
namespace Go.Proofs.Ytcfpilkhjpegcaa
open Go Go.Conc Go.ConcN Go.RowKit

theorem XBy.sup {w w' : World} {v : Value} {bs : List Int} (h : XBy w v bs) (hs : Sup w w') : XBy w' v bs := by
  have := XBy.ext h hs.ext
  exact this
/-- the first count: of the open nodes -/
theorem counts_first {C : ClusD} (h : clusOk C = true) {w : World} {base : Nat} {v : Value} (hO : OI w base v (countsC C)) : ∃ g c, v = .slice (some ⟨g, 0, none⟩) 3 c ∧ w.cell? ⟨g, 0, none⟩ = some (.int .i64 (openN C : Int)) := by
  unfold countsC at hO
  rw [if_pos h] at hO
  obtain ⟨g, c, rfl, _⟩ := Own.row hO (by simp)
  exact ⟨g, c, rfl, (OI.at_ hO (j := 0) rfl).1⟩
noncomputable def bodyFs : Code := (Try.f3.body).getD .skip
noncomputable def fs0 : Code := codeAt bodyFs [0]
noncomputable def fs1 : Code := codeAt bodyFs [1, 0]
noncomputable def fs3 : Code := codeAt bodyFs [1, 1, 0]
noncomputable def fs5 : Code := codeAt bodyFs [1, 1, 1, 1, 0]
noncomputable def fs6 : Code := codeAt bodyFs [1, 1, 1, 1, 1, 0]
noncomputable def fs8 : Code := codeAt bodyFs [1, 1, 1, 1, 1, 1, 0]
noncomputable def fsR : Code := codeAt bodyFs [1, 1, 1, 1, 1, 1, 1, 1]
noncomputable def fsO : Array Oper := opsOf (codeAt bodyFs [1, 1, 1, 0])
noncomputable def fsQ : Array Oper := opsOf (codeAt bodyFs [1, 1, 1, 1, 1, 1, 1, 0])
theorem bodyFs_eq : bodyFs = .seq fs0 (.seq fs1 (.seq fs3 (.seq (.region 4 fsO false) (.seq fs5 (.seq fs6 (.seq fs8 (.seq (.region 9 fsQ false) fsR))))))) := by kernel_rfl
theorem frameFs (v0 : Value) : Frame.enter Try.prog 3 #[v0] .normal = (base 3).at ⟨#[v0, undef, undef, undef, undef, undef, undef, undef, undef, undef, undef, undef, undef, undef, undef, undef, undef, undef, undef, undef, undef, undef, undef, undef, undef, undef, undef, undef, undef, undef, undef, undef, undef, undef, undef, undef, undef, undef, undef, undef, undef, undef, undef, undef, undef, undef, undef, undef, undef, undef, undef, undef, undef, undef, undef, undef, undef, undef, undef, undef, undef, undef, undef, undef, undef, undef, undef, undef, undef, undef, undef, undef, undef, undef, undef, undef, undef, undef, undef], []⟩ [.code bodyFs] := by
  rw [enter_at _ Try.func3 (c := bodyFs) rfl]
  rw [show (Try.f3).ntmps = 79 by kernel_rfl]
  simp [Array.replicate]
set_option maxRecDepth 100000 in
set_option maxHeartbeats 16000000 in
theorem lawShare (v : Value) (bs : List Int) (w : World) (h : XBy w v bs) : GoodRun (G (Frame.enter Try.prog 3 #[v] .normal) []) w (LawPost w) := by
  refine Wn.begin ?_
  have HB := hid h
  obtain ⟨A, c, rfl, _⟩ := h
  have HS : Hid (Sup w w) := hid (Sup.refl w)
  rw [frameFs, bodyFs_eq]
  refine Wn.seqK ⟨_, Try.func3⟩ (by kernel_rfl) (by kernel_rfl) (fun w31 hS31 hz31 => ?_)
  replace HS := hid (HS.out.trans hS31)
  clear hS31 hz31
  simp only [fs0, bodyFs, codeAt, Try.f3, Option.getD_some]
  go_wp2
  refine EndK.on ?_
  dsimp only
  refine Wn.seqK ⟨_, Try.func3⟩ (by kernel_rfl) (by kernel_rfl) (fun w32 hS32 hz32 => ?_)
  replace HS := hid (HS.out.trans hS32)
  clear hS32 hz32
  simp only [fs1, bodyFs, codeAt, Try.f3, Option.getD_some]
  by_cases hlen : 1048576 < bs.length
  · have i1 : (1048576 : Int) < (bs.length : Int) := by omega
    go_wp2
    refine EndK.out fun todo => ?_
    exact Wn.doneK Try.func3 rfl (by kernel_rfl) rfl HS.out (fun b hb => hb.elim)
  have i1 : ¬ (1048576 : Int) < (bs.length : Int) := by omega
  go_wp2
  refine EndK.on ?_
  dsimp only
  refine Wn.seqK ⟨_, Try.func3⟩ (by kernel_rfl) (by kernel_rfl) (fun w33 hS33 hz33 => ?_)
  replace HS := hid (HS.out.trans hS33)
  clear hS33 hz33
  simp only [fs3, bodyFs, codeAt, Try.f3, Option.getD_some]
  go_wp2_with (go_at_call 9; refine (dDrawUsageShare _ bs _ (HB.out.sup HS.out) (by omega)).mono ?_; rintro e w4 ⟨cv, C, dim, rfl, hO, hS, hE⟩; obtain ⟨Ar, cr, Au, cu, rfl⟩ := hO.form; have HC4 := hid hO.read; have HSC := hid hS; have HE4 := hid hE; obtain ⟨y0, y1, y0f, y1f, k1, k1f, hkk, _⟩ := box2 (heap_alloc_new w4 (.cells #[.slice none 0 0, .slice none 0 0] 26)) (.slice Ar C.room.length cr) (.slice Au C.units.length cu); clear hkk hO hS hE)
  refine EndK.on ?_
  obtain ⟨X, hX⟩ : ∃ X, X = w4.alloc (.cells #[.slice Ar C.room.length cr, .slice Au C.units.length cu] 26) := ⟨_, rfl⟩
  have HX : Hid (X.heap[w4.heap.size]? = some (.cells #[.slice Ar C.room.length cr, .slice Au C.units.length cu] 26 (0, 0))) := hid (by rw [hX]; exact heap_alloc_new _ _)
  have hE4 : Ext w4 X := by rw [hX]; exact Ext.alloc _ _
  rw [← hX]
  dsimp only
  replace HS := hid (HS.out.trans (Sup.of (HE4.out.trans hE4)))
  have HC := hid (HC4.out.ext hE4)
  clear hX hE4 HC4 HE4 y0 y1 y0f y1f k1 k1f
  generalize w4.heap.size = Hx at *
  obtain ⟨out, hout⟩ : ∃ out, out = shareN C dim := ⟨_, rfl⟩
  have HOUT := hid hout
  clear hout
  refine Wn.silent rfl (fun u => stepG_seq) ?_
  refine Wn.silent rfl (fun u => stepG_region) ?_
  rw [show List.range fsO.size = [0, 1, 2, 3] by kernel_rfl]
  simp only [fsO, opsOf, codeAt, bodyFs, Try.f3, Option.getD_some]
  refine Wn.opK rfl rfl rfl (fun w34 hS34 hz34 => ?_)
  replace HS := hid (HS.out.trans hS34)
  replace HX := hid (hS34.obj HX.out)
  replace HC := hid (HC.out.sup hS34)
  clear hS34 hz34
  have hb0 := obj_cell HX.out (i := 0) rfl
  have hb1 := obj_cell HX.out (i := 1) rfl
  refine ⟨.value (.agg #[.slice Ar C.room.length cr, .slice Au C.units.length cu]), w34, ?_, fun v hv => ?_⟩
  · go_simp
  obtain rfl : v = .agg #[.slice Ar C.room.length cr, .slice Au C.units.length cu] := by
    rcases hv with h | ⟨h, _⟩
    · injection h with h; exact h.symm
    · cases h
  clear hv hb0 hb1
  simp only [Act.put, List.setIfInBounds_toArray, List.getElem_toArray, List.getElem_cons_zero, List.set_cons_succ, List.set_cons_zero]
  refine Wn.opK rfl rfl rfl (fun w35 hS35 hz35 => ?_)
  replace HS := hid (HS.out.trans hS35)
  replace HX := hid (hS35.obj HX.out)
  replace HC := hid (HC.out.sup hS35)
  clear hS35 hz35
  refine ⟨.value (.int .i64 dim), w35, ?_, fun v hv => ?_⟩
  · go_simp
  obtain rfl : v = .int .i64 dim := by
    rcases hv with h | ⟨h, _⟩
    · injection h with h; exact h.symm
    · cases h
  clear hv
  simp only [Act.put, List.setIfInBounds_toArray, List.getElem_toArray, List.getElem_cons_zero, List.getElem_cons_succ, List.set_cons_succ, List.set_cons_zero]
  refine Wn.enter rfl rfl rfl Try.func10 (by kernel_rfl) (by kernel_rfl) ?_
  simp only [List.map_toArray, List.map_cons, List.map_nil, Act.eval, Array.getD_eq_getD_getElem?, List.getElem?_toArray, List.getElem?_cons_succ, List.getElem?_cons_zero, Option.getD_some]
  refine usageShareWn HC.out HSC.out.len HSC.out.flat HSC.out.ids (fun b hb => hb.elim) ?_
  rw [← HOUT.out]
  intro w6 D1 hS6 hD6 hM6
  have HDb : Hid (∀ b, D1 b → w.heap.size ≤ b) := hid fun b hb => (hM6 b hb).elim (fun h => h.elim) (fun h => Nat.le_trans HS.out.size h)
  have HD := hid hD6
  replace HS := hid (HS.out.trans hS6)
  replace HX := hid (hS6.obj HX.out)
  replace HC := hid (HC.out.sup hS6)
  clear hS6 hD6 hM6
  rw [finish_at rfl rfl]
  simp only [List.setIfInBounds_toArray, List.set_cons_succ, List.set_cons_zero]
  refine Wn.listK 3 ⟨_, Try.func3⟩ (by kernel_rfl) (by kernel_rfl) (by kernel_rfl) (fun w36 hS36 hz36 => ?_)
  replace HS := hid (HS.out.trans hS36)
  replace HX := hid (hS36.obj HX.out)
  replace HC := hid (HC.out.sup hS36)
  replace HD := hid (HD.out.sup hS36)
  clear hS36 hz36
  simp only [List.drop_succ_cons, List.drop_zero]
  go_wp2
  refine EndK.on ?_
  dsimp only
  refine Wn.seqK ⟨_, Try.func3⟩ (by kernel_rfl) (by kernel_rfl) (fun w37 hS37 hz37 => ?_)
  replace HS := hid (HS.out.trans hS37)
  replace HX := hid (hS37.obj HX.out)
  replace HC := hid (HC.out.sup hS37)
  replace HD := hid (HD.out.sup hS37)
  clear hS37 hz37
  simp only [fs5, bodyFs, codeAt, Try.f3, Option.getD_some]
  have hb0 := obj_cell HX.out (i := 0) rfl
  have hb1 := obj_cell HX.out (i := 1) rfl
  go_wp2_with (go_at_call 11; refine (sUsageShare _ C dim _ HC.out HSC.out.len HSC.out.flat).mono ?_; rw [← HOUT.out]; rintro e wx ⟨rfl, hEx⟩; have hEx := hid hEx)
  refine EndK.on ?_
  dsimp only
  clear hb0 hb1
  have hEx := Sup.of hEx.out
  replace HS := hid (HS.out.trans hEx)
  replace HX := hid (hEx.obj HX.out)
  replace HC := hid (HC.out.sup hEx)
  replace HD := hid (HD.out.sup hEx)
  clear hEx
  refine Wn.seqK ⟨_, Try.func3⟩ (by kernel_rfl) (by kernel_rfl) (fun w38 hS38 hz38 => ?_)
  replace HS := hid (HS.out.trans hS38)
  replace HX := hid (hS38.obj HX.out)
  replace HC := hid (HC.out.sup hS38)
  replace HD := hid (HD.out.sup hS38)
  clear hS38 hz38
  simp only [fs6, bodyFs, codeAt, Try.f3, Option.getD_some]
  by_cases hneg : out < 0
  · go_wp2
    refine EndK.out fun todo => ?_
    exact Wn.doneK Try.func3 rfl (by kernel_rfl) (by simp) HS.out HDb.out
  go_wp2
  refine EndK.on ?_
  dsimp only
  have hok : clusOk C = true := by
    cases hv : clusOk C with
    | true => rfl
    | false =>
      exfalso
      have e := HOUT.out
      unfold shareN at e
      rw [hv] at e
      simp at e
      omega
  have hdi : inB dim 0 2 = true := by
    cases hv : inB dim 0 2 with
    | true => rfl
    | false =>
      exfalso
      have e := HOUT.out
      unfold shareN at e
      rw [hok, hv] at e
      simp at e
      omega
  obtain ⟨d, rfl⟩ : ∃ d : Nat, dim = d := ⟨dim.toNat, by simp [inB] at hdi; omega⟩
  have hd : d < 3 := by simp [inB] at hdi; omega
  obtain ⟨n, hn⟩ : ∃ n : Int, n = (openN C : Int) * C.room.getD d 0 := ⟨_, rfl⟩
  obtain ⟨u, hu⟩ : ∃ u : Int, u = (usageL C).getD d 0 := ⟨_, rfl⟩
  have hlaw := share_law hok hd HOUT.out hn hu
  have HLAW := hid hlaw
  have HOK := hid hok
  have HDI := hid hd
  have HN := hid hn
  have HU := hid hu
  have hr3 : C.room.length = 3 := vecOk_len (roomOk_vec (clusOk_room hok))
  obtain ⟨A', c', hA, q1, q2, hg⟩ := RI.get HC.out.room
  obtain ⟨rb, ro, rd, rfl, erd, crd⟩ := hg d (by omega)
  injection hA with hA1 hA2 hA3
  subst hA1
  have HRD : Hid (rd = C.room.getD d 0) := hid (by rw [List.getD_eq_getElem?_getD, erd.out]; rfl)
  have HCR := hid crd
  have HR3 := hid hr3
  clear hneg hlaw hok hdi hd hn hu hr3 hA2 hA3 q1 q2 hg erd crd
  refine Wn.seqK ⟨_, Try.func3⟩ (by kernel_rfl) (by kernel_rfl) (fun w39 hS39 hz39 => ?_)
  replace HS := hid (HS.out.trans hS39)
  replace HX := hid (hS39.obj HX.out)
  replace HC := hid (HC.out.sup hS39)
  replace HD := hid (HD.out.sup hS39)
  replace HCR := hid (hS39.cell HCR.out)
  clear hS39 hz39
  simp only [fs8, bodyFs, codeAt, Try.f3, Option.getD_some]
  have KH : Hid (∀ w', Ext w39 w' → w'.cell? ⟨Hx, 0, none⟩ = some (.slice (some ⟨rb, ro, none⟩) C.room.length cr) ∧ w'.cell? ⟨Hx, 1, none⟩ = some (.slice Au C.units.length cu) ∧ w'.cell? ⟨rb, ro + d, none⟩ = some (.int .i64 rd) ∧ Ext w39 w') := hid fun w' hw => ⟨obj_cell (hw.obj HX.out) (i := 0) rfl, obj_cell (hw.obj HX.out) (i := 1) rfl, hw.cell HCR.out, hw⟩
  have i2 : (d : Int) < (C.room.length : Int) := by rw [HR3.out]; have := HDI.out; omega
  have hopen := open_le HOK.out
  obtain ⟨on, hon⟩ : ∃ on, on = openN C := ⟨_, rfl⟩
  have HON := hid hon
  have hw1 : IntKind.i64.wrap ((on : Int) * rd) = n := by
    rw [hon, HRD.out, ← HN.out]
    exact IntWalk.i64_in _ (by have := HLAW.out; omega)
  clear hopen hon
  go_wp2
  refine wp_region_noPanic ?_
  refine WG.start (fun w' => w'.cell? ⟨Hx, 0, none⟩ = some (.slice (some ⟨rb, ro, none⟩) C.room.length cr) ∧ w'.cell? ⟨Hx, 1, none⟩ = some (.slice Au C.units.length cu) ∧ w'.cell? ⟨rb, ro + d, none⟩ = some (.int .i64 rd) ∧ Ext w39 w') [10] (by kernel_rfl) (by exact KH.out _ (Below.drew (Below.refl _ _))) (fun hHeld => ?_)
  obtain ⟨pz, hpz⟩ : ∃ x, x = w39.drew := ⟨_, rfl⟩
  have hX : Ext w39 pz := by rw [hpz]; exact Below.drew (Below.refl _ _)
  rw [← hpz] at hHeld ⊢
  clear hpz
  (refine WG.take (i := 0) (v := ?_) rfl (by kernel_rfl) (by kernel_rfl) (by kernel_rfl) (by kernel_rfl) (fun _ _ _ h => h) (Or.inl ⟨by rfl, ?_⟩) (by assumption) ?_; rotate_left; (intro w hSw; (try dsimp only at hSw); go_split_ands; go_simp; (try with_reducible rfl)); (try simp only [Act.put, List.setIfInBounds_toArray, List.set_cons_zero, List.set_cons_succ]))
  (refine WG.take (i := 4) (v := ?_) rfl (by kernel_rfl) (by kernel_rfl) (by kernel_rfl) (by kernel_rfl) (fun _ _ _ h => h) (Or.inl ⟨by rfl, ?_⟩) (by assumption) ?_; rotate_left; (intro w hSw; (try dsimp only at hSw); go_split_ands; go_simp; (try with_reducible rfl)); (try simp only [Act.put, List.setIfInBounds_toArray, List.set_cons_zero, List.set_cons_succ]))
  (refine WG.take (i := 5) (v := ?_) rfl (by kernel_rfl) (by kernel_rfl) (by kernel_rfl) (by kernel_rfl) (fun _ _ _ h => h) (Or.inl ⟨by rfl, ?_⟩) (by assumption) ?_; rotate_left; (intro w hSw; (try dsimp only at hSw); go_split_ands; go_simp; (try with_reducible rfl)); (try simp only [Act.put, List.setIfInBounds_toArray, List.set_cons_zero, List.set_cons_succ]))
  (refine WG.take (i := 6) (v := ?_) rfl (by kernel_rfl) (by kernel_rfl) (by kernel_rfl) (by kernel_rfl) (fun _ _ _ h => h) (Or.inl ⟨by rfl, ?_⟩) (by assumption) ?_; rotate_left; (intro w hSw; (try dsimp only at hSw); go_split_ands; go_simp; (try with_reducible rfl)); (try simp only [Act.put, List.setIfInBounds_toArray, List.set_cons_zero, List.set_cons_succ]))
  (refine WG.take (i := 7) (v := ?_) rfl (by kernel_rfl) (by kernel_rfl) (by kernel_rfl) (by kernel_rfl) (fun _ _ _ h => h) (Or.inl ⟨by rfl, ?_⟩) (by assumption) ?_; rotate_left; (intro w hSw; (try dsimp only at hSw); go_split_ands; go_simp; (try with_reducible rfl)); (try simp only [Act.put, List.setIfInBounds_toArray, List.set_cons_zero, List.set_cons_succ]))
  (refine WG.take (i := 8) (v := ?_) rfl (by kernel_rfl) (by kernel_rfl) (by kernel_rfl) (by kernel_rfl) (fun _ _ _ h => h) (Or.inl ⟨by rfl, ?_⟩) (by assumption) ?_; rotate_left; (intro w hSw; (try dsimp only at hSw); go_split_ands; go_simp; (try with_reducible rfl)); (try simp only [Act.put, List.setIfInBounds_toArray, List.set_cons_zero, List.set_cons_succ]))
  refine WG.one (i := 1) rfl (by kernel_rfl) (fun K hK => ?_)
  go_simp
  refine (iClusterCounts _ C _ (HC.out.ext hX) HSC.out.len HSC.out.flat HSC.out.ids).mono ?_
  rintro e p1 ⟨vc, rfl, hOc, hEc⟩
  obtain ⟨g, c3, rfl, cg⟩ := counts_first HOK.out hOc
  rw [← HON.out] at cg
  (try dsimp only)
  replace hX := hX.trans hEc
  refine hK.out _ _ (by exact KH.out _ hX) (fun hHeld => ?_)
  clear hK K hEc hOc
  (try simp only [Act.put, List.setIfInBounds_toArray, List.set_cons_zero, List.set_cons_succ])
  refine WG.strong (fun w' => (w'.cell? ⟨Hx, 0, none⟩ = some (.slice (some ⟨rb, ro, none⟩) C.room.length cr) ∧ w'.cell? ⟨Hx, 1, none⟩ = some (.slice Au C.units.length cu) ∧ w'.cell? ⟨rb, ro + d, none⟩ = some (.int .i64 rd) ∧ Ext w39 w') ∧ w'.cell? ⟨g, 0, none⟩ = some (.int .i64 on)) (fun w' h => h.1) (And.intro (KH.out _ hX) cg) (fun hHeld => ?_)
  (refine WG.take (i := 2) (v := ?_) rfl (by kernel_rfl) (by kernel_rfl) (by kernel_rfl) (by kernel_rfl) (fun _ _ _ h => h) (Or.inl ⟨by rfl, ?_⟩) (by assumption) ?_; rotate_left; (intro w hSw; (try dsimp only at hSw); go_split_ands; go_simp; (try with_reducible rfl)); (try simp only [Act.put, List.setIfInBounds_toArray, List.set_cons_zero, List.set_cons_succ]))
  (refine WG.take (i := 3) (v := ?_) rfl (by kernel_rfl) (by kernel_rfl) (by kernel_rfl) (by kernel_rfl) (fun _ _ _ h => h) (Or.inl ⟨by rfl, ?_⟩) (by assumption) ?_; rotate_left; (intro w hSw; (try dsimp only at hSw); go_split_ands; go_simp; (try with_reducible rfl)); (try simp only [Act.put, List.setIfInBounds_toArray, List.set_cons_zero, List.set_cons_succ]))
  (refine WG.take (i := 9) (v := ?_) rfl (by kernel_rfl) (by kernel_rfl) (by kernel_rfl) (by kernel_rfl) (fun _ _ _ h => h) (Or.inl ⟨by rfl, ?_⟩) (by assumption) ?_; rotate_left; (intro w hSw; (try dsimp only at hSw); go_split_ands; go_simp; (try with_reducible rfl)); (try simp only [Act.put, List.setIfInBounds_toArray, List.set_cons_zero, List.set_cons_succ]))
  refine WG.last (i := 10) rfl (by kernel_rfl) (by kernel_rfl) (fun K hK => ?_)
  go_simp
  refine hK.out _ _ ?_
  clear hK K
  (try simp only [Act.put, List.setIfInBounds_toArray, List.set_cons_zero, List.set_cons_succ])
  refine WG.done (by kernel_rfl) ?_
  refine NoPanic.normal ?_
  go_wp2
  refine EndK.on ?_
  dsimp only
  have hEx := Sup.of hX
  clear hX KH cg hw1 i2 hHeld
  replace HS := hid (HS.out.trans hEx)
  replace HX := hid (hEx.obj HX.out)
  replace HC := hid (HC.out.sup hEx)
  replace HD := hid (HD.out.sup hEx)
  replace HCR := hid (hEx.cell HCR.out)
  clear hEx
  refine Wn.silent rfl (fun u => stepG_seq) ?_
  refine Wn.silent rfl (fun u => stepG_region) ?_
  rw [show List.range fsQ.size = [0, 1, 2, 3, 4, 5] by kernel_rfl]
  simp only [fsQ, opsOf, codeAt, bodyFs, Try.f3, Option.getD_some]
  refine Wn.opK rfl rfl rfl (fun w40 hS40 hz40 => ?_)
  replace HS := hid (HS.out.trans hS40)
  replace HX := hid (hS40.obj HX.out)
  replace HC := hid (HC.out.sup hS40)
  replace HD := hid (HD.out.sup hS40)
  replace HCR := hid (hS40.cell HCR.out)
  clear hS40 hz40
  have hb0 := obj_cell HX.out (i := 0) rfl
  have hb1 := obj_cell HX.out (i := 1) rfl
  refine ⟨.value (.agg #[.slice (some ⟨rb, ro, none⟩) C.room.length cr, .slice Au C.units.length cu]), w40, ?_, fun v hv => ?_⟩
  · go_simp
  obtain rfl : v = .agg #[.slice (some ⟨rb, ro, none⟩) C.room.length cr, .slice Au C.units.length cu] := by
    rcases hv with h | ⟨h, _⟩
    · injection h with h; exact h.symm
    · cases h
  clear hv hb0 hb1
  simp only [Act.put, List.setIfInBounds_toArray, List.getElem_toArray, List.getElem_cons_zero, List.set_cons_succ, List.set_cons_zero]
  refine Wn.enter rfl rfl rfl Try.func13 (by kernel_rfl) (by kernel_rfl) ?_
  simp only [List.map_toArray, List.map_cons, List.map_nil, Act.eval, Array.getD_eq_getD_getElem?, List.getElem?_toArray, List.getElem?_cons_succ, List.getElem?_cons_zero, Option.getD_some]
  refine usageOfWn HC.out HSC.out.len HSC.out.flat HSC.out.ids HD.out ?_
  intro w8 D2 v8 hS8 hD8 hM8 hO8 _
  have HDb2 : Hid (∀ b, D2 b → w.heap.size ≤ b) := hid fun b hb => (hM8 b hb).elim (fun h => HDb.out b h) (fun h => Nat.le_trans HS.out.size h)
  have hu8 : usageOf C = usageL C := by unfold usageOf; rw [if_pos HOK.out]
  rw [hu8] at hO8
  obtain ⟨g8, c8, rfl, _⟩ := Own.row hO8 (by rw [usageL_len]; omega)
  have hus : (usageL C)[d]? = some u := by
    have := usageL_len C
    have := HDI.out
    rw [HU.out, List.getD_eq_getElem?_getD, List.getElem?_eq_getElem (by omega)]
    rfl
  have HCU := hid (OI.at_ hO8 hus).1
  rw [usageL_len]
  clear HD hu8 hus
  replace HS := hid (HS.out.trans hS8)
  replace HX := hid (hS8.obj HX.out)
  replace HC := hid (HC.out.sup hS8)
  replace HCR := hid (hS8.cell HCR.out)
  clear hS8 hD8 hM8 hO8
  rw [finish_at rfl rfl]
  simp only [List.setIfInBounds_toArray, List.set_cons_succ, List.set_cons_zero]
  refine Wn.listK 2 ⟨_, Try.func3⟩ (by kernel_rfl) (by kernel_rfl) (by kernel_rfl) (fun w41 hS41 hz41 => ?_)
  replace HS := hid (HS.out.trans hS41)
  replace HX := hid (hS41.obj HX.out)
  replace HC := hid (HC.out.sup hS41)
  replace HCR := hid (hS41.cell HCR.out)
  replace HCU := hid (hS41.cell HCU.out)
  clear hS41 hz41
  simp only [List.drop_succ_cons, List.drop_zero]
  have hcu8 := HCU.out
  have i3 : (d : Int) < 3 := by have := HDI.out; omega
  go_wp2
  refine EndK.on ?_
  dsimp only
  clear hcu8 i3
  refine Wn.codeK ⟨_, Try.func3⟩ (by kernel_rfl) (by kernel_rfl) (fun w42 hS42 hz42 => ?_)
  replace HS := hid (HS.out.trans hS42)
  replace HX := hid (hS42.obj HX.out)
  replace HC := hid (HC.out.sup hS42)
  replace HCR := hid (hS42.cell HCR.out)
  replace HCU := hid (hS42.cell HCU.out)
  clear hS42 hz42
  simp only [fsR, bodyFs, codeAt, Try.f3, Option.getD_some]
  obtain ⟨a1, a2, a3, a4, a5, a6, a7, a8, a9, a10, a11, a12, a13⟩ := HLAW.out
  have hw1 : IntKind.i64.wrap (100 * u) = 100 * u := IntWalk.i64_in _ (by omega)
  have hw2 : IntKind.i64.wrap (out + 1) = out + 1 := IntWalk.i64_in _ (by omega)
  obtain ⟨m1, hm1⟩ : ∃ m1, m1 = out * n := ⟨_, rfl⟩
  obtain ⟨m2, hm2⟩ : ∃ m2, m2 = (out + 1) * n := ⟨_, rfl⟩
  rw [← hm1] at a3 a10 a11
  rw [← hm2] at a5 a12 a13
  have hw3 : IntKind.i64.wrap (out * n) = m1 := by rw [← hm1]; exact IntWalk.i64_in _ (by omega)
  have hw4 : IntKind.i64.wrap ((out + 1) * n) = m2 := by rw [← hm2]; exact IntWalk.i64_in _ (by omega)
  have hb1 : ¬ (100 : Int) < out := by omega
  have hb2 : ¬ 100 * u < m1 := by omega
  clear hm1 hm2
  by_cases hn0 : n = 0
  · have ho0 : out = 0 := a4 hn0
    have hn1 : (n == 0) = true := by simpa using hn0
    have ho1 : (out == 0) = true := by simpa using ho0
    have HZ := hid hn0
    have HZ2 := hid ho0
    clear hn0 ho0 a4 a5 a6 a7 a8 a9 a10 a11 a12 a13
    go_wp2
    refine EndK.out fun todo => ?_
    exact Wn.doneK Try.func3 rfl (by kernel_rfl) (by simp; try omega) HS.out HDb2.out
  · have hn1 : (n == 0) = false := by simpa using hn0
    have hgt := a5 hn0
    clear a4 a5 a6 a7 a8 a9 a10 a11 a12 a13
    go_wp2
    refine EndK.out fun todo => ?_
    exact Wn.doneK Try.func3 rfl (by kernel_rfl) (by simp; try omega) HS.out HDb2.out
end Go.Proofs.Ytcfpilkhjpegcaa
