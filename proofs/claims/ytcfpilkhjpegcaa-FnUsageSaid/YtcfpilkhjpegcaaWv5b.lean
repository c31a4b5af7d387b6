/- The law FnUsage: usage is a load. -/
import Derived.Test.YtcfpilkhjpegcaaWv0b
import Derived.Test.YtcfpilkhjpegcaaK68
import Derived.Test.YtcfpilkhjpegcaaK65
import Derived.Test.YtcfpilkhjpegcaaK69
import Derived.Test.YtcfpilkhjpegcaaK12
namespace Go.Proofs.Ytcfpilkhjpegcaa
open Go Go.Conc Go.ConcN Go.RowKit

theorem XBy.sup {w w' : World} {v : Value} {bs : List Int} (h : XBy w v bs) (hs : Sup w w') : XBy w' v bs := by
  have := XBy.ext h hs.ext
  exact this
noncomputable def bodyFu : Code := (Try.f5.body).getD .skip
noncomputable def fu0 : Code := codeAt bodyFu [0]
noncomputable def fu1 : Code := codeAt bodyFu [1, 0]
noncomputable def fu3 : Code := codeAt bodyFu [1, 1, 0]
noncomputable def fuR : Code := codeAt bodyFu [1, 1, 1, 1]
noncomputable def fuO : Array Oper := opsOf (codeAt bodyFu [1, 1, 1, 0])
theorem bodyFu_eq : bodyFu = .seq fu0 (.seq fu1 (.seq fu3 (.seq (.region 4 fuO false) fuR))) := by kernel_rfl
theorem frameFu (v0 : Value) : Frame.enter Try.prog 5 #[v0] .normal = (base 5).at ⟨#[v0, undef, undef, undef, undef, undef, undef, undef, undef, undef, undef, undef, undef, undef, undef, undef, undef, undef, undef, undef, undef, undef, undef, undef, undef, undef, undef, undef, undef, undef, undef, undef, undef, undef, undef, undef, undef, undef, undef, undef, undef, undef, undef, undef, undef, undef, undef, undef, undef, undef, undef, undef, undef, undef, undef, undef, undef, undef, undef, undef, undef, undef, undef, undef], []⟩ [.code bodyFu] := by
  rw [enter_at _ Try.func5 (c := bodyFu) rfl]
  rw [show (Try.f5).ntmps = 64 by kernel_rfl]
  simp [Array.replicate]
set_option maxRecDepth 100000 in
set_option maxHeartbeats 16000000 in
theorem lawUsage (v : Value) (bs : List Int) (w : World) (h : XBy w v bs) : GoodRun (G (Frame.enter Try.prog 5 #[v] .normal) []) w (LawPost w) := by
  refine Wn.begin ?_
  have HB := hid h
  obtain ⟨A, c, rfl, _⟩ := h
  rw [frameFu, bodyFu_eq]
  refine Wn.seqK ⟨_, Try.func5⟩ (by kernel_rfl) (by kernel_rfl) (fun w1 hS1 hz1 => ?_)
  have HS1 := hid hS1
  clear hS1 hz1
  simp only [fu0, bodyFu, codeAt, Try.f5, Option.getD_some]
  go_wp2
  refine EndK.on ?_
  dsimp only
  refine Wn.seqK ⟨_, Try.func5⟩ (by kernel_rfl) (by kernel_rfl) (fun w2 hS2 hz2 => ?_)
  have HS2 := hid (HS1.out.trans hS2)
  clear hS2 hz2 HS1
  simp only [fu1, bodyFu, codeAt, Try.f5, Option.getD_some]
  by_cases hlen : 1048576 < bs.length
  · have i1 : (1048576 : Int) < (bs.length : Int) := by omega
    go_wp2
    refine EndK.out fun todo => ?_
    exact Wn.doneK Try.func5 rfl (by kernel_rfl) rfl HS2.out (fun b hb => hb.elim)
  have i1 : ¬ (1048576 : Int) < (bs.length : Int) := by omega
  go_wp2
  refine EndK.on ?_
  dsimp only
  refine Wn.seqK ⟨_, Try.func5⟩ (by kernel_rfl) (by kernel_rfl) (fun w3 hS3 hz3 => ?_)
  have HS3 := hid (HS2.out.trans hS3)
  clear hS3 hz3 HS2
  simp only [fu3, bodyFu, codeAt, Try.f5, Option.getD_some]
  go_wp2_with (go_at_call 17; refine (dDrawUsageOf _ bs _ (HB.out.sup HS3.out) (by omega)).mono ?_; rintro e w4 ⟨cv, C, rfl, hO, hS, hE⟩; obtain ⟨Ar, cr, Au, cu, rfl⟩ := hO.form; have HC4 := hid hO.read; have HSC := hid hS; have HE4 := hid hE; obtain ⟨y0, y1, y0f, y1f, k1, k1f, hkk, _⟩ := box2 (heap_alloc_new w4 (.cells #[.slice none 0 0, .slice none 0 0] 26)) (.slice Ar C.room.length cr) (.slice Au C.units.length cu); clear hkk hO hS hE)
  refine EndK.on ?_
  obtain ⟨X, hX⟩ : ∃ X, X = w4.alloc (.cells #[.slice Ar C.room.length cr, .slice Au C.units.length cu] 26) := ⟨_, rfl⟩
  have HX : Hid (X.heap[w4.heap.size]? = some (.cells #[.slice Ar C.room.length cr, .slice Au C.units.length cu] 26 (0, 0))) := hid (by rw [hX]; exact heap_alloc_new _ _)
  have hE4 : Ext w4 X := by rw [hX]; exact Ext.alloc _ _
  rw [← hX]
  dsimp only
  have HSX := hid (HS3.out.trans (Sup.of (HE4.out.trans hE4)))
  have HCX := hid (HC4.out.ext hE4)
  clear hX hE4 HC4 HE4 HS3 y0 y1 y0f y1f k1 k1f
  generalize w4.heap.size = Hx at *
  obtain ⟨us, hus⟩ : ∃ us, us = usageOf C := ⟨_, rfl⟩
  have HUS := hid hus
  clear hus
  refine Wn.silent rfl (fun u => stepG_seq) ?_
  refine Wn.silent rfl (fun u => stepG_region) ?_
  rw [show List.range fuO.size = [0, 1, 2] by kernel_rfl]
  simp only [fuO, opsOf, codeAt, bodyFu, Try.f5, Option.getD_some]
  refine Wn.opK rfl rfl rfl (fun w5 hS5 hz5 => ?_)
  have HS5 := hid (HSX.out.trans hS5)
  have HX5 := hid (hS5.obj HX.out)
  have HC5 := hid (HCX.out.sup hS5)
  have hb0 := obj_cell HX5.out (i := 0) rfl
  have hb1 := obj_cell HX5.out (i := 1) rfl
  clear hS5 hz5 HSX HX HCX
  refine ⟨.value (.agg #[.slice Ar C.room.length cr, .slice Au C.units.length cu]), w5, ?_, fun v hv => ?_⟩
  · go_simp
  obtain rfl : v = .agg #[.slice Ar C.room.length cr, .slice Au C.units.length cu] := by
    rcases hv with h | ⟨h, _⟩
    · injection h with h; exact h.symm
    · cases h
  clear hv hb0 hb1
  simp only [Act.put, List.setIfInBounds_toArray, List.getElem_toArray, List.getElem_cons_zero, List.set_cons_succ, List.set_cons_zero]
  refine Wn.enter rfl rfl rfl Try.func13 (by kernel_rfl) (by kernel_rfl) ?_
  simp only [List.map_toArray, List.map_cons, List.map_nil, Act.eval, Array.getD_eq_getD_getElem?, List.getElem?_toArray, List.getElem?_cons_succ, List.getElem?_cons_zero, Option.getD_some]
  refine usageOfWn HC5.out HSC.out.len HSC.out.flat HSC.out.ids (fun b hb => hb.elim) ?_
  rw [← HUS.out]
  intro w6 D1 v6 hS6 hD6 hM6 hO6 _
  have HS6 := hid (HS5.out.trans hS6)
  have HX6 := hid (hS6.obj HX5.out)
  have HC6 := hid (HC5.out.sup hS6)
  have HR6 : Hid (RI w6 v6 us) := hid hO6.read
  have HDb : Hid (∀ b, D1 b → w.heap.size ≤ b) := hid fun b hb => (hM6 b hb).elim (fun h => h.elim) (fun h => Nat.le_trans HS5.out.size h)
  clear hS6 hD6 hM6 hO6 HS5 HX5 HC5
  rw [finish_at rfl rfl]
  simp only [List.setIfInBounds_toArray, List.set_cons_succ, List.set_cons_zero]
  refine Wn.listK 2 ⟨_, Try.func5⟩ (by kernel_rfl) (by kernel_rfl) (by kernel_rfl) (fun w7 hS7 hz7 => ?_)
  have HS7 := hid hS7
  clear hS7 hz7
  simp only [List.drop_succ_cons, List.drop_zero]
  go_wp2
  refine EndK.on ?_
  dsimp only
  refine Wn.codeK ⟨_, Try.func5⟩ (by kernel_rfl) (by kernel_rfl) (fun w8 hS8 hz8 => ?_)
  have hS := HS7.out.trans hS8
  have HS8 := hid (HS6.out.trans hS)
  have HX8 := hid (hS.obj HX6.out)
  have HC8 := hid (HC6.out.sup hS)
  have HR8 : Hid (RI w8 v6 us) := hid (RI.sup HR6.out hS)
  clear hS8 hz8 hS HS7 HS6 HX6 HC6 HR6
  simp only [fuR, bodyFu, codeAt, Try.f5, Option.getD_some]
  have hb0 := obj_cell HX8.out (i := 0) rfl
  have hb1 := obj_cell HX8.out (i := 1) rfl
  cases hv : clusOk C with
  | false =>
    have hu0 : us = [] := by rw [HUS.out]; unfold usageOf; rw [hv]; rfl
    subst hu0
    clear hv
    go_wp2_with (first
      | (go_at_call 18; refine (sUsageOf _ C _ HC8.out HSC.out.len HSC.out.flat).mono ?_; rw [← HUS.out]; rintro e w9 ⟨v9, rfl, hR9, hE9⟩; have hR90 := hR9; obtain ⟨A9, c9, rfl, _⟩ := hR90; have HR9 := hid hR9; have HE9 := hid hE9; clear hR9 hE9)
      | (go_at_call 19; refine (lSameInts _ _ [] _ (RI.ext HR8.out HE9.out) HR9.out).mono ?_; rintro e w10 ⟨rfl, hE10⟩; have HE10 := hid (HE9.out.trans hE10); have HE910 := hid hE10; clear hE10)
      | (go_at_call 19; refine (lSameInts _ _ [] _ (RI.ext HR8.out HE10.out) (RI.ext HR9.out HE910.out)).mono ?_; rintro e w11 ⟨rfl, hE11⟩; have HE11 := hid (HE10.out.trans hE11); clear hE11))
    refine EndK.out fun todo => ?_
    exact Wn.doneK Try.func5 rfl (by kernel_rfl) rfl (HS8.out.trans (Sup.of HE11.out)) HDb.out
  | true =>
  have HV := hid hv
  obtain ⟨A6, c6, rfl, q1, q2, hg6⟩ := RI.get HR8.out
  clear q1 q2
  have HG6 := hid hg6
  clear hg6
  have hue : us = usageL C := by rw [HUS.out]; unfold usageOf; rw [hv]; rfl
  have hul : us.length = 3 := by rw [hue, usageL_len]
  have HUE := hid hue
  have HUL := hid hul
  have hun : ((us.length : Int) == 0) = false := by rw [hul]; rfl
  clear hv hue hul
  go_wp2_with (first
    | (go_at_call 18; refine (sUsageOf _ C _ HC8.out HSC.out.len HSC.out.flat).mono ?_; rw [← HUS.out]; rintro e w9 ⟨v9, rfl, hR9, hE9⟩; have hR90 := hR9; obtain ⟨A9, c9, rfl, _⟩ := hR90; have HR9 := hid hR9; have HE9 := hid hE9; clear hR9 hE9)
    | (go_at_call 19; refine (lSameInts _ _ us _ (RI.ext HR8.out HE9.out) HR9.out).mono ?_; rintro e w10 ⟨rfl, hE10⟩; have HE10 := hid (HE9.out.trans hE10); clear hE10))
  have hl3 : ((us.length : Int) == 3) = true := by rw [HUL.out]; rfl
  have hlen10 := (clusOk_len HV.out).2
  obtain ⟨Au', cu', hAu, q1, q2, hgu⟩ := RU.get HC8.out.units
  injection hAu with e1 e3 e2
  clear e3 q1 q2
  subst e1 e2
  have HGU := hid hgu
  have HL10 := hid hlen10
  have KB : Hid (∀ w', Ext w8 w' → w'.cell? ⟨Hx, 0, none⟩ = some (.slice Ar C.room.length cr) ∧ w'.cell? ⟨Hx, 1, none⟩ = some (.slice Au C.units.length cu)) :=
    hid fun w' hw => ⟨obj_cell (hw.obj HX8.out) (i := 0) rfl, obj_cell (hw.obj HX8.out) (i := 1) rfl⟩
  clear hgu hun hlen10 hb0 hb1
  go_loopw [6] (fun dv wr => ∃ d : Nat, d ≤ 3 ∧ dv = .int .i64 d ∧ Ext w8 wr) (fun dv _ => 3 - (intOf dv).toNat)
  case atStart => exact ⟨0, by omega, rfl, HE10.out⟩
  case round =>
    obtain ⟨d, hd, rfl, hE⟩ := hrel
    have HE := hid hE
    clear hE
    by_cases hlt : d < 3
    · have hdi : (d : Int) < 3 := by omega
      have HDL := hid hlt
      obtain ⟨bo, oo, y6, rfl, ey6, cy6⟩ := HG6.out d (by rw [HUL.out]; exact hlt)
      have hy6 : y6 = (usageL C).getD d 0 := by
        have h1 := ey6.out
        rw [HUE.out] at h1
        rw [List.getD_eq_getElem?_getD, h1]
        rfl
      have HY6 := hid hy6
      have HCY := hid cy6
      clear hy6 cy6 ey6 hlt
      go_wp2
      go_loopw [7, 8] (fun nv iv wr => ∃ (k : Nat) (t : Int), k ≤ C.units.length ∧ iv = .int .i64 k ∧ nv = .int .i64 t ∧ Hid (t = (togL ((loadsL C).take k)).getD d 0) ∧ Ext w8 wr) (fun _ iv _ => C.units.length - (intOf iv).toNat)
      case atStart => exact ⟨0, 0, Nat.zero_le _, rfl, rfl, hid (by match d, HDL.out with
        | 0, _ => rfl
        | 1, _ => rfl
        | 2, _ => rfl), HE.out⟩
      case round =>
        obtain ⟨k, t, hk, rfl, rfl, H, hE⟩ := hrel
        obtain ⟨hb0, hb1⟩ := KB.out _ hE
        have HE2 := hid hE
        clear hE
        by_cases hlt2 : k < C.units.length
        · obtain ⟨b, o, x, An, cn, rfl, e, _, c2, hnx⟩ := HGU.out k hlt2
          have i2 : (k : Int) < (C.units.length : Int) := by omega
          have hxm := List.mem_of_getElem? e.out
          have HTK := hid (unit_tasks HV.out hxm)
          have HNX := hid hnx
          have HIDS : Hid (∀ t ∈ x.tasks, IdR t.id) := hid fun t ht => HSC.out.ids t (List.mem_flatten.2 ⟨x.tasks, List.mem_map.2 ⟨x, hxm, rfl⟩, ht⟩)
          have ht0 := tog_le HV.out HDL.out k hk
          have ht1 := tog_le HV.out HDL.out (k + 1) hlt2
          have hl : (loadsL C)[k]? = some (loadL x.tasks) := by unfold loadsL; rw [List.getElem?_map, e.out]; rfl
          have hsu : (togL ((loadsL C).take (k + 1))).getD d 0 = t + (loadL x.tasks).getD d 0 := by rw [togL_succ hl, addL_getD _ _ HDL.out, H.out]
          have hyb := vecOk_at (load_vec HV.out hxm) HDL.out
          obtain ⟨y, hy⟩ : ∃ y, y = (loadL x.tasks).getD d 0 := ⟨_, rfl⟩
          rw [← hy] at hsu hyb
          have htb : 0 ≤ t ∧ t ≤ 200 := by
            rw [H.out]
            have hr := room_bd HV.out HDL.out
            have ho := openTo_le C.units k
            have ho2 := HL10.out
            have hm : (openTo C.units k : Int) * C.room.getD d 0 ≤ (openTo C.units k : Int) * 20 := Int.mul_le_mul_of_nonneg_left hr.2 (by omega)
            omega
          have hw1 : IntKind.i64.wrap (t + y) = t + y := IntWalk.i64_in _ (by omega)
          have HSU := hid hsu
          have HY := hid hy
          have KH : Hid (∀ w', Ext w8 w' → w'.cell? ⟨Hx, 0, none⟩ = some (.slice Ar C.room.length cr) ∧ w'.cell? ⟨Hx, 1, none⟩ = some (.slice (some ⟨b, o, none⟩) C.units.length cu) ∧ w'.cell? ⟨b, o + k * 2 + 1, none⟩ = some (.slice An x.tasks.length cn) ∧ Ext w8 w') := hid fun w' hw => ⟨(KB.out _ hw).1, (KB.out _ hw).2, hw.cell c2, hw⟩
          have HRM := hid HC8.out.room
          clear c2 hnx ht0 ht1 hl hsu hyb htb hy hxm
          go_wp2
          refine wp_region_noPanic ?_
          refine WG.start (fun w' => w'.cell? ⟨Hx, 0, none⟩ = some (.slice Ar C.room.length cr) ∧ w'.cell? ⟨Hx, 1, none⟩ = some (.slice (some ⟨b, o, none⟩) C.units.length cu) ∧ w'.cell? ⟨b, o + k * 2 + 1, none⟩ = some (.slice An x.tasks.length cn) ∧ Ext w8 w') [14] (by kernel_rfl) (by exact KH.out _ (HE2.out.trans (Below.drew (Below.refl _ _)))) (fun hHeld => ?_)
          obtain ⟨pz, hpz⟩ : ∃ x, x = wr.drew := ⟨_, rfl⟩
          have hX : Ext w8 pz := by rw [hpz]; exact HE2.out.trans (Below.drew (Below.refl _ _))
          rw [← hpz] at hHeld ⊢
          clear hpz
          (refine WG.take (i := 0) (v := ?_) rfl (by kernel_rfl) (by kernel_rfl) (by kernel_rfl) (by kernel_rfl) (fun _ _ _ h => h) (Or.inl ⟨by rfl, ?_⟩) (by assumption) ?_; rotate_left; (intro w hSw; (try dsimp only at hSw); go_split_ands; go_simp; (try with_reducible rfl)); (try simp only [Act.put, List.setIfInBounds_toArray, List.set_cons_zero, List.set_cons_succ]))
          (refine WG.take (i := 1) (v := ?_) rfl (by kernel_rfl) (by kernel_rfl) (by kernel_rfl) (by kernel_rfl) (fun _ _ _ h => h) (Or.inl ⟨by rfl, ?_⟩) (by assumption) ?_; rotate_left; (intro w hSw; (try dsimp only at hSw); go_split_ands; go_simp; (try with_reducible rfl)); (try simp only [Act.put, List.setIfInBounds_toArray, List.set_cons_zero, List.set_cons_succ]))
          (refine WG.take (i := 2) (v := ?_) rfl (by kernel_rfl) (by kernel_rfl) (by kernel_rfl) (by kernel_rfl) (fun _ _ _ h => h) (Or.inl ⟨by rfl, ?_⟩) (by assumption) ?_; rotate_left; (intro w hSw; (try dsimp only at hSw); go_split_ands; go_simp; (try with_reducible rfl)); (try simp only [Act.put, List.setIfInBounds_toArray, List.set_cons_zero, List.set_cons_succ]))
          (refine WG.take (i := 3) (v := ?_) rfl (by kernel_rfl) (by kernel_rfl) (by kernel_rfl) (by kernel_rfl) (fun _ _ _ h => h) (Or.inl ⟨by rfl, ?_⟩) (by assumption) ?_; rotate_left; (intro w hSw; (try dsimp only at hSw); go_split_ands; go_simp; (try with_reducible rfl)); (try simp only [Act.put, List.setIfInBounds_toArray, List.set_cons_zero, List.set_cons_succ]))
          (refine WG.take (i := 4) (v := ?_) rfl (by kernel_rfl) (by kernel_rfl) (by kernel_rfl) (by kernel_rfl) (fun _ _ _ h => h) (Or.inl ⟨by rfl, ?_⟩) (by assumption) ?_; rotate_left; (intro w hSw; (try dsimp only at hSw); go_split_ands; go_simp; (try with_reducible rfl)); (try simp only [Act.put, List.setIfInBounds_toArray, List.set_cons_zero, List.set_cons_succ]))
          (refine WG.take (i := 5) (v := ?_) rfl (by kernel_rfl) (by kernel_rfl) (by kernel_rfl) (by kernel_rfl) (fun _ _ _ h => h) (Or.inl ⟨by rfl, ?_⟩) (by assumption) ?_; rotate_left; (intro w hSw; (try dsimp only at hSw); go_split_ands; go_simp; (try with_reducible rfl)); (try simp only [Act.put, List.setIfInBounds_toArray, List.set_cons_zero, List.set_cons_succ]))
          (refine WG.take (i := 6) (v := ?_) rfl (by kernel_rfl) (by kernel_rfl) (by kernel_rfl) (by kernel_rfl) (fun _ _ _ h => h) (Or.inl ⟨by rfl, ?_⟩) (by assumption) ?_; rotate_left; (intro w hSw; (try dsimp only at hSw); go_split_ands; go_simp; (try with_reducible rfl)); (try simp only [Act.put, List.setIfInBounds_toArray, List.set_cons_zero, List.set_cons_succ]))
          (refine WG.take (i := 7) (v := ?_) rfl (by kernel_rfl) (by kernel_rfl) (by kernel_rfl) (by kernel_rfl) (fun _ _ _ h => h) (Or.inl ⟨by rfl, ?_⟩) (by assumption) ?_; rotate_left; (intro w hSw; (try dsimp only at hSw); go_split_ands; go_simp; (try with_reducible rfl)); (try simp only [Act.put, List.setIfInBounds_toArray, List.set_cons_zero, List.set_cons_succ]))
          (refine WG.take (i := 8) (v := ?_) rfl (by kernel_rfl) (by kernel_rfl) (by kernel_rfl) (by kernel_rfl) (fun _ _ _ h => h) (Or.inl ⟨by rfl, ?_⟩) (by assumption) ?_; rotate_left; (intro w hSw; (try dsimp only at hSw); go_split_ands; go_simp; (try with_reducible rfl)); (try simp only [Act.put, List.setIfInBounds_toArray, List.set_cons_zero, List.set_cons_succ]))
          (refine WG.take (i := 10) (v := ?_) rfl (by kernel_rfl) (by kernel_rfl) (by kernel_rfl) (by kernel_rfl) (fun _ _ _ h => h) (Or.inl ⟨by rfl, ?_⟩) (by assumption) ?_; rotate_left; (intro w hSw; (try dsimp only at hSw); go_split_ands; go_simp; (try with_reducible rfl)); (try simp only [Act.put, List.setIfInBounds_toArray, List.set_cons_zero, List.set_cons_succ]))
          refine WG.one (i := 9) rfl (by kernel_rfl) (fun K hK => ?_)
          go_simp
          refine (iBinLoad _ _ C.room x.tasks _ (RI.ext HRM.out hX) (HNX.out.ext hX) HIDS.out HTK.out).mono ?_
          rintro e p1 ⟨vb, rfl, hRb, hEb⟩
          obtain ⟨Ab, cb, rfl, q1, q2, hgb⟩ := RI.get hRb
          obtain ⟨b2, o2, y2, rfl, ey, cy⟩ := hgb d (by rw [loadL_len]; exact HDL.out)
          obtain rfl : y2 = y := by
            rw [HY.out, List.getD_eq_getElem?_getD, ey.out]
            rfl
          rw [loadL_len]
          clear q1 q2 hgb hRb ey
          (try dsimp only)
          replace hX := hX.trans hEb
          refine hK.out _ _ (by exact KH.out _ hX) (fun hHeld => ?_)
          clear hK K hEb
          (try simp only [Act.put, List.setIfInBounds_toArray, List.set_cons_zero, List.set_cons_succ])
          refine WG.strong (fun w' => (w'.cell? ⟨Hx, 0, none⟩ = some (.slice Ar C.room.length cr) ∧ w'.cell? ⟨Hx, 1, none⟩ = some (.slice (some ⟨b, o, none⟩) C.units.length cu) ∧ w'.cell? ⟨b, o + k * 2 + 1, none⟩ = some (.slice An x.tasks.length cn) ∧ Ext w8 w') ∧ w'.cell? ⟨b2, o2 + d, none⟩ = some (.int .i64 y2)) (fun w' h => h.1) (And.intro (KH.out _ hX) cy) (fun hHeld => ?_)
          (refine WG.take (i := 11) (v := ?_) rfl (by kernel_rfl) (by kernel_rfl) (by kernel_rfl) (by kernel_rfl) (fun _ _ _ h => h) (Or.inl ⟨by rfl, ?_⟩) (by assumption) ?_; rotate_left; (intro w hSw; (try dsimp only at hSw); go_split_ands; go_simp; (try with_reducible rfl)); (try simp only [Act.put, List.setIfInBounds_toArray, List.set_cons_zero, List.set_cons_succ]))
          (refine WG.take (i := 12) (v := ?_) rfl (by kernel_rfl) (by kernel_rfl) (by kernel_rfl) (by kernel_rfl) (fun _ _ _ h => h) (Or.inl ⟨by rfl, ?_⟩) (by assumption) ?_; rotate_left; (intro w hSw; (try dsimp only at hSw); go_split_ands; go_simp; (try with_reducible rfl)); (try simp only [Act.put, List.setIfInBounds_toArray, List.set_cons_zero, List.set_cons_succ]))
          (refine WG.take (i := 13) (v := ?_) rfl (by kernel_rfl) (by kernel_rfl) (by kernel_rfl) (by kernel_rfl) (fun _ _ _ h => h) (Or.inl ⟨by rfl, ?_⟩) (by assumption) ?_; rotate_left; (intro w hSw; (try dsimp only at hSw); go_split_ands; go_simp; (try with_reducible rfl)); (try simp only [Act.put, List.setIfInBounds_toArray, List.set_cons_zero, List.set_cons_succ]))
          refine WG.last (i := 14) rfl (by kernel_rfl) (by kernel_rfl) (fun K hK => ?_)
          go_simp
          refine hK.out _ _ ?_
          clear hK K
          (try simp only [Act.put, List.setIfInBounds_toArray, List.set_cons_zero, List.set_cons_succ])
          refine WG.done (by kernel_rfl) ?_
          refine NoPanic.normal ?_
          have hl10 := HL10.out
          go_wp2
          go_roundw
          case rel => exact ⟨k + 1, t + y2, by omega, by go_num, rfl, hid HSU.out.symm, hX⟩
          case measure => simp [intOf]; omega
        · have hge : ¬ (k : Int) < (C.units.length : Int) := by omega
          have hk' : k = C.units.length := by omega
          have hty : t = y6 := by
            have e1 : (loadsL C).take k = loadsL C := by
              have : (loadsL C).length = C.units.length := by unfold loadsL; rw [List.length_map]
              rw [hk', ← this, List.take_length]
            rw [H.out, e1, tog_usage, HY6.out]
          have HK' := hid hk'
          clear hk'
          subst hty
          have hco := HE2.out.cell HCY.out
          have hdu : (d : Int) < (us.length : Int) := by rw [HUL.out]; have := HDL.out; omega
          go_wp2
          go_roundw
          case rel => exact ⟨d + 1, by have := HDL.out; omega, by go_num, HE2.out⟩
          case measure => simp [intOf]; omega
    · have hge : ¬ (d : Int) < 3 := by omega
      go_wp2
      refine EndK.out fun todo => ?_
      exact Wn.doneK Try.func5 rfl (by kernel_rfl) rfl (HS8.out.trans (Sup.of HE.out)) HDb.out
end Go.Proofs.Ytcfpilkhjpegcaa
