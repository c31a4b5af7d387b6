/- The law FnExactApartAt. (Printed by genpe1.py.) -/
import Derived.Test.YtoaabinpdjcimaaK30
import Derived.Test.YtoaabinpdjcimaaK28
namespace Go.Proofs.Ytoaabinpdjcimaa
open Go.RowKit
set_option maxRecDepth 4000

set_option maxHeartbeats 8000000 in
theorem lawExactApartAt (rv bv lv nv0 : Value) (room : List Int) (Bs : List (List TaskD)) (ps : List PairD) (x : TaskD) (w : World) (hr : XI w rv room) (hb : XTT w bv Bs) (hids : ∀ t ∈ Bs.flatten, IdR t.id) (hp : XPv w lv ps) (hx : XI w nv0 x.need) (hxi : IdR x.id) :
    Calls Try.prog 5 #[rv, bv, lv, .agg #[.int .i64 x.id, nv0]] w (RetB w true) := by
  have hr0 := hr
  have hb0 := hb
  have hp0 := hp
  have hx0 := hx
  obtain ⟨Ar, cr, rfl, _⟩ := hr
  obtain ⟨Ab, cb, rfl, _⟩ := hb
  obtain ⟨Ap, cp, rfl, _⟩ := hp
  obtain ⟨An, cn, rfl, _⟩ := hx
  obtain ⟨W, hW⟩ : ∃ W, W = w.alloc (.cells #[.int .i64 x.id, .slice An x.need.length cn] 41) := ⟨_, rfl⟩
  have hEW : Ext w W := by rw [hW]; exact Ext.alloc _ _
  have hxb : W.heap[w.heap.size]? = some (.cells #[.int .i64 x.id, .slice An x.need.length cn] 41 (0, 0)) := by rw [hW]; exact heap_alloc_new _ _
  have KB : Hid (∀ w', Ext W w' → w'.cell? ⟨w.heap.size, 0, none⟩ = some (.int .i64 x.id) ∧ w'.cell? ⟨w.heap.size, 1, none⟩ = some (.slice An x.need.length cn)) := hid fun w' hw => ⟨obj_cell (hw.obj hxb) (i := 0) rfl, obj_cell (hw.obj hxb) (i := 1) rfl⟩
  have HEW := hid hEW
  have HR := hid (XI.ext hr0 hEW)
  have HB := hid (XTT.ext hb0 hEW)
  have HP := hid (XPv.ext hp0 hEW)
  have HX := hid (XI.ext hx0 hEW)
  have HBI := hid hids
  have HXI := hid hxi
  have TK0 : Hid True := hid trivial
  obtain ⟨Z, hZ⟩ : ∃ Z, Z = apartAtN room Bs ps x := ⟨_, rfl⟩
  have HZ := hid hZ
  have hzz : (Z != Z) = false := by simp
  clear hr0 hb0 hp0 hx0 hids hxi hxb hEW hZ
  by_cases h1 : room.length ≤ 1048576
  · have i1 : ¬ (1048576 : Int) < (room.length : Int) := by omega
    go_enter Try.func5, Try.ntmps5
    go_wp2_with (first
      | (go_at_call 19; clear TK0; rw [← hW]; refine (lSzTaskSS _ Bs 1048576 _ HB.out (by omega) (by omega)).mono ?_; rintro e w1 ⟨r, rfl, hE1, hr1, hr2, hr3⟩; obtain ⟨q0, q1⟩ := KB.out _ hE1; have HE1 := hid hE1; have HR3 := hid hr3; clear hE1 hr3 hW; have TK1 : Hid True := hid trivial)
      | (go_at_call 20; clear TK1; refine (lSzPairs _ ps r _ (XPv.ext HP.out HE1.out) (by omega) (by omega)).mono ?_; rintro e w2 ⟨r2, rfl, hE2, hs1, hs2, hs3⟩; obtain ⟨q0, q1⟩ := KB.out _ (HE1.out.trans hE2); have HE2 := hid (HE1.out.trans hE2); have HS3 := hid hs3; clear hE2 hs3; have TK2 : Hid True := hid trivial)
      | (go_at_call 21; clear TK2; refine (lSzTask x (.slice An x.need.length cn) r2 _ (XI.ext HX.out HE2.out) (by omega) (by omega)).mono ?_; rintro e w3 ⟨r3, rfl, hE3, ht1, ht2, ht3⟩; obtain ⟨q0, q1⟩ := KB.out _ (HE2.out.trans hE3); have HE3 := hid (HE2.out.trans hE3); have HT3 := hid ht3; clear hE3 ht3; have TK3 : Hid True := hid trivial))
    · go_ret
      exact ⟨rfl, HEW.out.trans HE1.out⟩
    · go_ret
      exact ⟨rfl, HEW.out.trans HE2.out⟩
    · go_ret
      exact ⟨rfl, HEW.out.trans HE3.out⟩
    · have HWB : Hid (wTaskSS Bs ≤ 1048576) := hid (by have := HR3.out (by omega); omega)
      have hwt := wTaskSS_bd HWB.out
      have HBF : Hid (Bs.flatten.length ≤ 3000000) := hid (Nat.le_trans hwt.2.1 (by omega))
      have HBD : Hid (Bs.length ≤ 4000000 ∧ ∀ b ∈ Bs, b.length ≤ 4000000 ∧ ∀ t ∈ b, t.need.length ≤ 4000000) := hid ⟨Nat.le_trans hwt.1 (by omega), fun b hb => ⟨Nat.le_trans (hwt.2.2 b hb).1 (by omega), fun t ht => Nat.le_trans ((hwt.2.2 b hb).2 t ht) (by omega)⟩⟩
      have HPL : Hid (ps.length ≤ 4000000) := hid (by have := HS3.out (by omega); omega)
      have HXL : Hid (x.need.length ≤ 4000000) := hid (by have := HT3.out (by omega); unfold wTask wInts at this; omega)
      have HIDX : Hid (∀ t ∈ Bs.flatten ++ [x], IdR t.id) := hid (fun t ht => by rcases List.mem_append.1 ht with ht | ht; exact HBI.out t ht; rw [List.mem_singleton.1 ht]; exact HXI.out)
      clear hwt
      have HDr := hid (HE3.out.trans (Below.drew (Below.refl _ _)))
      refine WG.start (fun w' => w'.cell? ⟨w.heap.size, 0, none⟩ = some (.int .i64 x.id) ∧ w'.cell? ⟨w.heap.size, 1, none⟩ = some (.slice An x.need.length cn)) [7,8,9] (by kernel_rfl) (by exact KB.out _ HDr.out) (fun hHeld => ?_)
      obtain ⟨pz, hpz⟩ : ∃ y, y = w3.drew := ⟨_, rfl⟩
      rw [← hpz] at hHeld HDr ⊢
      clear hpz
      (refine WG.take (i := 0) (v := ?_) rfl (by kernel_rfl) (by kernel_rfl) (by kernel_rfl) (by kernel_rfl) (fun _ _ _ h => h) (Or.inl ⟨by rfl, ?_⟩) (by assumption) ?_; rotate_left; (intro w hSw; (try dsimp only at hSw); go_split_ands; go_simp; (try with_reducible rfl)); (try simp only [Act.put, List.setIfInBounds_toArray, List.set_cons_zero, List.set_cons_succ]))
      (refine WG.take (i := 2) (v := ?_) rfl (by kernel_rfl) (by kernel_rfl) (by kernel_rfl) (by kernel_rfl) (fun _ _ _ h => h) (Or.inl ⟨by rfl, ?_⟩) (by assumption) ?_; rotate_left; (intro w hSw; (try dsimp only at hSw); go_split_ands; go_simp; (try with_reducible rfl)); (try simp only [Act.put, List.setIfInBounds_toArray, List.set_cons_zero, List.set_cons_succ]))
      (refine WG.take (i := 4) (v := ?_) rfl (by kernel_rfl) (by kernel_rfl) (by kernel_rfl) (by kernel_rfl) (fun _ _ _ h => h) (Or.inl ⟨by rfl, ?_⟩) (by assumption) ?_; rotate_left; (intro w hSw; (try dsimp only at hSw); go_split_ands; go_simp; (try with_reducible rfl)); (try simp only [Act.put, List.setIfInBounds_toArray, List.set_cons_zero, List.set_cons_succ]))
      (refine WG.take (i := 6) (v := ?_) rfl (by kernel_rfl) (by kernel_rfl) (by kernel_rfl) (by kernel_rfl) (fun _ _ _ h => h) (Or.inl ⟨by rfl, ?_⟩) (by assumption) ?_; rotate_left; (intro w hSw; (try dsimp only at hSw); go_split_ands; go_simp; (try with_reducible rfl)); (try simp only [Act.put, List.setIfInBounds_toArray, List.set_cons_zero, List.set_cons_succ]))
      refine WG.one (i := 1) rfl (by kernel_rfl) (fun K hK => ?_)
      go_simp; refine (lToInts _ room _ (XI.ext HR.out HDr.out) (by omega)).mono ?_; rintro e4 w4 ⟨v4, rfl, hO4, hE4⟩; have HO4 := hid hO4.read; have HE4 := hid (HDr.out.trans hE4); clear hO4 hE4; (try dsimp only)
      refine hK.out _ _ (by exact KB.out _ HE4.out) (fun hHeld => ?_)
      clear hK K
      (try simp only [Act.put, List.setIfInBounds_toArray, List.set_cons_zero, List.set_cons_succ])
      refine WG.one (i := 3) rfl (by kernel_rfl) (fun K hK => ?_)
      go_simp; refine (lToTaskSSD _ Bs _ (XTT.ext HB.out HE4.out) HBD.out.1 HBD.out.2).mono ?_; rintro e5 w5 ⟨v5, rfl, hO5, hE5⟩; have HO4 := hid (RI.ext HO4.out hE5); have HO5 := hid hO5.read; have HE5 := hid (HE4.out.trans hE5); clear hO5 hE5; (try dsimp only)
      refine hK.out _ _ (by exact KB.out _ HE5.out) (fun hHeld => ?_)
      clear hK K
      (try simp only [Act.put, List.setIfInBounds_toArray, List.set_cons_zero, List.set_cons_succ])
      refine WG.one (i := 5) rfl (by kernel_rfl) (fun K hK => ?_)
      go_simp; refine (lToPairs _ ps _ (XPv.ext HP.out HE5.out) HPL.out).mono ?_; rintro e6 w6 ⟨v6, rfl, hO6, hE6⟩; have HO4 := hid (RI.ext HO4.out hE6); have HO5 := hid (RB.ext HO5.out hE6); have HO6 := hid hO6.read; have HE6 := hid (HE5.out.trans hE6); clear hO6 hE6; (try dsimp only)
      refine hK.out _ _ (by exact KB.out _ HE6.out) (fun hHeld => ?_)
      clear hK K
      (try simp only [Act.put, List.setIfInBounds_toArray, List.set_cons_zero, List.set_cons_succ])
      refine WG.last (i := 7) rfl (by kernel_rfl) (by kernel_rfl) (fun K hK => ?_)
      go_simp; refine (lToTask x (.slice An x.need.length cn) _ (XI.ext HX.out HE6.out) HXL.out).mono ?_; rintro e7 w7 ⟨v7, rfl, hO7, hE7⟩; have HO4 := hid (RI.ext HO4.out hE7); have HO5 := hid (RB.ext HO5.out hE7); have HO6 := hid (RP.ext HO6.out hE7); have HO7 : Hid (TaskV w7 (.agg #[.int .i64 x.id, v7]) x) := hid ⟨_, rfl, hO7.read⟩; have HE7 := hid (HE6.out.trans hE7); clear hO7 hE7; (try dsimp only)
      refine hK.out _ _ ?_
      clear hK K
      (try simp only [Act.put, List.setIfInBounds_toArray, List.set_cons_zero, List.set_cons_succ])
      refine WG.last (i := 8) rfl (by kernel_rfl) (by kernel_rfl) (fun K hK => ?_)
      go_simp; refine (sApartAt _ _ _ _ room Bs ps x _ HO4.out HO5.out HO6.out HO7.out HBF.out).mono ?_; rw [← HZ.out]; rintro e8 w8 ⟨rfl, hE8⟩; have HE8 := hid (HE7.out.trans hE8); clear hE8; (try dsimp only)
      refine hK.out _ _ ?_
      clear hK K
      (try simp only [Act.put, List.setIfInBounds_toArray, List.set_cons_zero, List.set_cons_succ])
      refine WG.last (i := 9) rfl (by kernel_rfl) (by kernel_rfl) (fun K hK => ?_)
      go_simp
      refine hK.out _ _ ?_
      clear hK K
      (try simp only [Act.put, List.setIfInBounds_toArray, List.set_cons_zero, List.set_cons_succ])
      refine WG.done (by kernel_rfl) ?_
      obtain ⟨q0, q1⟩ := KB.out _ HE8.out
      have TK0 : Hid True := hid trivial
      go_wp2_with (first
        | (go_at_call 22; clear TK0; refine (lToInts _ room _ (XI.ext HR.out HE8.out) (by omega)).mono ?_; rintro e w9 ⟨v9, rfl, hO9, hE9⟩; have HA9 := hid hO9.read; have HE9 := hid (HE8.out.trans hE9); clear hO9 hE9 q0 q1; have TK1 : Hid True := hid trivial)
        | (go_at_call 23; clear TK1; refine (lToTaskSSD _ Bs _ (XTT.ext HB.out HE9.out) HBD.out.1 HBD.out.2).mono ?_; rintro e w10 ⟨v10, rfl, hO10, hE10⟩; have HA10 := hid (RI.ext HA9.out hE10); have HB10 := hid hO10.read; have HE10 := hid (HE9.out.trans hE10); clear hO10 hE10; have TK2 : Hid True := hid trivial)
        | (go_at_call 24; clear TK2; refine (lToPairs _ ps _ (XPv.ext HP.out HE10.out) HPL.out).mono ?_; rintro e w11 ⟨v11, rfl, hO11, hE11⟩; obtain ⟨q0, q1⟩ := KB.out _ (HE10.out.trans hE11); have HA11 := hid (RI.ext HA10.out hE11); have HB11 := hid (RB.ext HB10.out hE11); have HC11 := hid hO11.read; have HE11 := hid (HE10.out.trans hE11); clear hO11 hE11; have TK3 : Hid True := hid trivial)
        | (go_at_call 25; clear TK3; refine (lToTask x (.slice An x.need.length cn) _ (XI.ext HX.out HE11.out) HXL.out).mono ?_; rintro e w12 ⟨v12, rfl, hO12, hE12⟩; obtain ⟨A12, c12, rfl, _, _⟩ := hO12.form; have hx := Ext.alloc w12 (.cells #[.int .i64 x.id, .slice A12 x.need.length c12] 34); have X12 := hid (heap_alloc_new w12 (.cells #[.int .i64 x.id, .slice A12 x.need.length c12] 34)); have HA12 := hid (RI.ext HA11.out (hE12.trans hx)); have HB12 := hid (RB.ext HB11.out (hE12.trans hx)); have HC12 := hid (RP.ext HC11.out (hE12.trans hx)); have HN12 := hid (RI.ext hO12.read hx); have HE12 := hid (HE11.out.trans (hE12.trans hx)); obtain ⟨y0, y1, y0f, y1f, k1, k1f, hkk, _⟩ := box2 (heap_alloc_new w12 (.cells #[.int .i64 0, .slice none 0 0] 34)) (.int .i64 x.id) (.slice A12 x.need.length c12); obtain ⟨W12, hW12⟩ : ∃ y, y = w12.alloc (.cells #[.int .i64 x.id, .slice A12 x.need.length c12] 34) := ⟨_, rfl⟩; clear hkk hO12 hE12 hx q0 q1; have TK4 : Hid True := hid trivial)
        | (go_at_call 16; clear TK4; rw [← hW12]; rw [← hW12] at HA12 HB12 HC12 HN12 HE12 X12; refine (iApartAt _ _ _ _ room Bs ps x _ HA12.out HB12.out HC12.out ⟨_, rfl, HN12.out⟩ HBF.out HIDX.out).mono ?_; rw [← HZ.out]; rintro e w13 ⟨rfl, hE13⟩; have HA13 := hid (RI.ext HA12.out hE13); have HB13 := hid (RB.ext HB12.out hE13); have HC13 := hid (RP.ext HC12.out hE13); have HN13 := hid (RI.ext HN12.out hE13); have X13 := hid (hE13.obj X12.out); have HE13 := hid (HE12.out.trans hE13); clear hE13 hW12 y0 y1 y0f y1f k1 k1f; have TK5 : Hid True := hid trivial)
        | (go_at_call 22; clear TK5; refine (lToInts _ room _ (XI.ext HR.out HE13.out) (by omega)).mono ?_; rintro e w14 ⟨v14, rfl, hO14, hE14⟩; have HA14 := hid (RI.ext HA13.out hE14); have HB14 := hid (RB.ext HB13.out hE14); have HC14 := hid (RP.ext HC13.out hE14); have HN14 := hid (RI.ext HN13.out hE14); have X14 := hid (hE14.obj X13.out); have HD14 := hid hO14.read; have HE14 := hid (HE13.out.trans hE14); clear hO14 hE14; have TK6 : Hid True := hid trivial)
        | (go_at_call 26; clear TK6; refine (lEqInts _ _ room _ HA14.out HD14.out).mono ?_; rintro e w15 ⟨rfl, hE15⟩; have HB15 := hid (RB.ext HB14.out hE15); have HC15 := hid (RP.ext HC14.out hE15); have HN15 := hid (RI.ext HN14.out hE15); have X15 := hid (hE15.obj X14.out); have HE15 := hid (HE14.out.trans hE15); clear hE15; have TK7 : Hid True := hid trivial)
        | (go_at_call 23; clear TK7; refine (lToTaskSSD _ Bs _ (XTT.ext HB.out HE15.out) HBD.out.1 HBD.out.2).mono ?_; rintro e w16 ⟨v16, rfl, hO16, hE16⟩; have HB16 := hid (RB.ext HB15.out hE16); have HC16 := hid (RP.ext HC15.out hE16); have HN16 := hid (RI.ext HN15.out hE16); have X16 := hid (hE16.obj X15.out); have HD16 := hid hO16.read; have HE16 := hid (HE15.out.trans hE16); clear hO16 hE16; have TK8 : Hid True := hid trivial)
        | (go_at_call 27; clear TK8; refine (lEqTaskSS _ _ Bs _ HB16.out HD16.out).mono ?_; rintro e w17 ⟨rfl, hE17⟩; have HC17 := hid (RP.ext HC16.out hE17); have HN17 := hid (RI.ext HN16.out hE17); have X17 := hid (hE17.obj X16.out); have HE17 := hid (HE16.out.trans hE17); clear hE17; have TK9 : Hid True := hid trivial)
        | (go_at_call 24; clear TK9; refine (lToPairs _ ps _ (XPv.ext HP.out HE17.out) HPL.out).mono ?_; rintro e w18 ⟨v18, rfl, hO18, hE18⟩; have HC18 := hid (RP.ext HC17.out hE18); have HN18 := hid (RI.ext HN17.out hE18); have X18 := hid (hE18.obj X17.out); have HD18 := hid hO18.read; have HE18 := hid (HE17.out.trans hE18); clear hO18 hE18; have TK10 : Hid True := hid trivial)
        | (go_at_call 28; clear TK10; refine (lEqPairs _ _ ps _ HC18.out HD18.out).mono ?_; rintro e w19 ⟨rfl, hE19⟩; have HN19 := hid (RI.ext HN18.out hE19); have X19 := hid (hE19.obj X18.out); have HE19 := hid (HE18.out.trans hE19); clear hE19; have TK11 : Hid True := hid trivial))
      have HDs : Hid (Ext w19 w19.drew) := hid (Below.drew (Below.refl _ _))
      have KR : Hid (∀ w', Ext w19 w' → w'.cell? ⟨w.heap.size, 0, none⟩ = some (.int .i64 x.id) ∧ w'.cell? ⟨w.heap.size, 1, none⟩ = some (.slice An x.need.length cn) ∧ w'.cell? ⟨w12.heap.size, 0, none⟩ = some (.int .i64 x.id) ∧ w'.cell? ⟨w12.heap.size, 1, none⟩ = some (.slice A12 x.need.length c12)) := hid fun w' hw => ⟨(KB.out _ (HE19.out.trans hw)).1, (KB.out _ (HE19.out.trans hw)).2, obj_cell (hw.obj X19.out) (i := 0) rfl, obj_cell (hw.obj X19.out) (i := 1) rfl⟩
      refine WG.start (fun w' => w'.cell? ⟨w.heap.size, 0, none⟩ = some (.int .i64 x.id) ∧ w'.cell? ⟨w.heap.size, 1, none⟩ = some (.slice An x.need.length cn) ∧ w'.cell? ⟨w12.heap.size, 0, none⟩ = some (.int .i64 x.id) ∧ w'.cell? ⟨w12.heap.size, 1, none⟩ = some (.slice A12 x.need.length c12)) [3,4] (by kernel_rfl) (by exact KR.out _ HDs.out) (fun hHeld => ?_)
      obtain ⟨ps9, hps9⟩ : ∃ y, y = w19.drew := ⟨_, rfl⟩
      rw [← hps9] at hHeld HDs ⊢
      clear hps9
      (refine WG.take (i := 0) (v := ?_) rfl (by kernel_rfl) (by kernel_rfl) (by kernel_rfl) (by kernel_rfl) (fun _ _ _ h => h) (Or.inl ⟨by rfl, ?_⟩) (by assumption) ?_; rotate_left; (intro w hSw; (try dsimp only at hSw); go_split_ands; go_simp; (try with_reducible rfl)); (try simp only [Act.put, List.setIfInBounds_toArray, List.set_cons_zero, List.set_cons_succ]))
      (refine WG.take (i := 1) (v := ?_) rfl (by kernel_rfl) (by kernel_rfl) (by kernel_rfl) (by kernel_rfl) (fun _ _ _ h => h) (Or.inl ⟨by rfl, ?_⟩) (by assumption) ?_; rotate_left; (intro w hSw; (try dsimp only at hSw); go_split_ands; go_simp; (try with_reducible rfl)); (try simp only [Act.put, List.setIfInBounds_toArray, List.set_cons_zero, List.set_cons_succ]))
      refine WG.one (i := 2) rfl (by kernel_rfl) (fun K hK => ?_)
      go_simp; refine (lToTask x (.slice An x.need.length cn) _ (XI.ext HX.out (HE19.out.trans HDs.out)) HXL.out).mono ?_; rintro e20 w20 ⟨v20, rfl, hO20, hE20⟩; have HO20 := hid hO20.read; have HE20 := hid (HDs.out.trans hE20); clear hO20 hE20; (try dsimp only)
      refine hK.out _ _ (by exact KR.out _ HE20.out) (fun hHeld => ?_)
      clear hK K
      (try simp only [Act.put, List.setIfInBounds_toArray, List.set_cons_zero, List.set_cons_succ])
      refine WG.last (i := 3) rfl (by kernel_rfl) (by kernel_rfl) (fun K hK => ?_)
      go_simp; refine (lEqTask x _ _ _ (RI.ext HN19.out HE20.out) HO20.out).mono ?_; rintro e21 w21 ⟨rfl, hE21⟩; have HE21 := hid (HE20.out.trans hE21); clear hE21; (try dsimp only)
      refine hK.out _ _ ?_
      clear hK K
      (try simp only [Act.put, List.setIfInBounds_toArray, List.set_cons_zero, List.set_cons_succ])
      refine WG.last (i := 4) rfl (by kernel_rfl) (by kernel_rfl) (fun K hK => ?_)
      go_simp
      refine hK.out _ _ ?_
      clear hK K
      (try simp only [Act.put, List.setIfInBounds_toArray, List.set_cons_zero, List.set_cons_succ])
      refine WG.done (by kernel_rfl) ?_
      go_wp2
      go_ret
      exact ⟨rfl, HEW.out.trans (HE19.out.trans HE21.out)⟩
  · have i1 : (1048576 : Int) < (room.length : Int) := by omega
    go_enter Try.func5, Try.ntmps5
    go_wp2
    rw [← hW]
    go_ret
    exact ⟨rfl, HEW.out⟩

end Go.Proofs.Ytoaabinpdjcimaa
