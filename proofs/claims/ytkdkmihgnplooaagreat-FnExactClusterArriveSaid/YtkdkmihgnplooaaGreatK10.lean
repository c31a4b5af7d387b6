/- The program's copies: ints, a task, tasks. -/
import Derived.Test.YtkdkmihgnplooaaGreatK9
import Derived.Test.YtkdkmihgnplooaaGreatK4
import Derived.Test.YtkdkmihgnplooaaGreatK2
import Derived.Test.YtkdkmihgnplooaaGreatK3
import Derived.Test.YtkdkmihgnplooaaGreatK7
import Derived.Laws.CopyRow
import Derived.Laws.CopyOwn
namespace Go.Proofs.YtkdkmihgnplooaaGreat
open Go.RowKit
set_option maxRecDepth 4000

set_option maxHeartbeats 1000000 in
theorem iClone (v : Value) (xs : List Int) (w : World) (h : RI w v xs) (hl : xs.length ≤ 4000000) :
    Calls Tryz.prog 68 #[v] w fun e w' => ∃ v', e = .returned v' ∧ OI w' w.heap.size v' xs ∧ Ext w w' := by
  have hnil := fun (a : Option Addr) (n c n' c' : Nat) (w : World) => Lib.run_eql_slice_nil (P := Tryz.prog) w 22 3 a n c n' c' Tryz.underlying22
  have h0 := h
  obtain ⟨A, c, rfl, hc, hc', hx⟩ := h
  cases A with
  | none =>
    have hz : xs = [] := List.eq_nil_of_length_eq_zero (Nat.eq_zero_of_not_pos (fun hp => by obtain ⟨_, _, _, _, hA, _⟩ := hx hp; cases hA))
    subst hz
    clear h0 hx
    go_enter Tryz.func68, Tryz.ntmps68
    go_wp2
    go_ret
    exact ⟨_, rfl, Own.none_ _ _ _ _ _, Ext.refl _⟩
  | some a =>
    clear hx
    have HM : Hid (OI (w.alloc (.cells #[] 3)) w.heap.size (.slice (some ⟨w.heap.size, 0, none⟩) 0 0) []) := hid (Own.madeAt #[] 0 _ rfl (Nat.le_refl _) (by omega) rfl)
    have HR := hid (RI.ext h0 (Ext.alloc w (.cells #[] 3)))
    clear h0
    obtain ⟨i0_int, hi0_int, hz0_int, hz1_int, hz2_int⟩ := info_parts info_int
    go_enter Tryz.func68, Tryz.ntmps68
    go_wp2_with (at_builtin; refine wpList_append_sl _ (by rfl) _ _ 22 (by rfl) EI.ok EI.flat (w.heap.size) 3 EI.ne i0_int _ 1 8 Tryz.underlying22 hi0_int hz0_int hz1_int hz2_int rfl (by omega) _ (by rfl) _ (HM.out) _ (by rfl) _ (HR.out) (by simp; omega) (by simp; omega) ?_ ?_; (focus (first | exact Nat.le_refl _ | (simp; done) | (simp; omega) | omega)); intro v1 w1 hO1 hg1 hat1 hs1; rw [List.nil_append] at hO1; obtain ⟨A1, c1, rfl, _, _⟩ := hO1.form; have HO1 := hid hO1; have HE1 := hid (Ext.grown (Ext.alloc _ _) hg1 HM.out.lt); clear hO1 hg1 hat1 hs1)
    go_ret
    exact ⟨_, rfl, HO1.out, HE1.out⟩

set_option maxHeartbeats 1000000 in
theorem iTaskCopy (xv : Value) (x : TaskD) (w : World) (h : TaskV w xv x) (hl : x.need.length ≤ 4000000) :
    Calls Tryz.prog 53 #[xv] w fun e w' => ∃ A c, e = .returned (.agg #[.int .i64 x.id, .slice A x.need.length c]) ∧ OI w' w.heap.size (.slice A x.need.length c) x.need ∧ Ext w w' := by
  obtain ⟨nv, rfl, hn⟩ := h
  have HN := hid hn
  obtain ⟨An, cn, rfl, _⟩ := hn
  obtain ⟨W, hW⟩ : ∃ W, W = (w.alloc (.cells #[.int .i64 x.id, .slice An x.need.length cn] 36)).alloc (.cells #[.int .i64 0, .slice none 0 0] 36) := ⟨_, rfl⟩
  have hEW : Ext w W := by rw [hW]; exact (Ext.alloc _ _).trans (Ext.alloc _ _)
  have g0 : W.heap[w.heap.size]? = some (.cells #[.int .i64 x.id, .slice An x.need.length cn] 36 (0, 0)) := by rw [hW]; exact (Ext.alloc _ _).obj (heap_alloc_new w _)
  have g1 : W.heap[w.heap.size + 1]? = some (.cells #[.int .i64 0, .slice none 0 0] 36 (0, 0)) := by rw [hW]; exact heap_new (by simp)
  have HNW := hid (RI.ext HN.out hEW)
  have HEW := hid hEW
  have G1 := hid g1
  have KS : Hid (∀ w', Ext W w' → w'.cell? ⟨w.heap.size, 0, none⟩ = some (.int .i64 x.id) ∧ w'.cell? ⟨w.heap.size, 1, none⟩ = some (.slice An x.need.length cn)) := hid fun w' hw => ⟨obj_cell (hw.obj g0) (i := 0) rfl, obj_cell (hw.obj g0) (i := 1) rfl⟩
  clear hEW g0 g1
  go_enter Tryz.func53, Tryz.ntmps53
  go_wp2
  rw [← hW]
  clear hW
  refine WG.start (fun w' => w'.cell? ⟨w.heap.size, 0, none⟩ = some (.int .i64 x.id) ∧ w'.cell? ⟨w.heap.size, 1, none⟩ = some (.slice An x.need.length cn)) [6] (by kernel_rfl) (by exact KS.out _ (Below.drew (Below.refl _ _))) (fun hHeld => ?_)
  (refine WG.take (i := 0) (v := ?_) rfl (by kernel_rfl) (by kernel_rfl) (by kernel_rfl) (by kernel_rfl) (fun _ _ _ h => h) (Or.inl ⟨by rfl, ?_⟩) (by assumption) ?_; rotate_left; (intro w hSw; (try dsimp only at hSw); go_split_ands; go_simp; (try with_reducible rfl)); (try simp only [Act.put, List.setIfInBounds_toArray, List.set_cons_zero, List.set_cons_succ]))
  (refine WG.take (i := 1) (v := ?_) rfl (by kernel_rfl) (by kernel_rfl) (by kernel_rfl) (by kernel_rfl) (fun _ _ _ h => h) (Or.inl ⟨by rfl, ?_⟩) (by assumption) ?_; rotate_left; (intro w hSw; (try dsimp only at hSw); go_split_ands; go_simp; (try with_reducible rfl)); (try simp only [Act.put, List.setIfInBounds_toArray, List.set_cons_zero, List.set_cons_succ]))
  (refine WG.take (i := 2) (v := ?_) rfl (by kernel_rfl) (by kernel_rfl) (by kernel_rfl) (by kernel_rfl) (fun _ _ _ h => h) (Or.inl ⟨by rfl, ?_⟩) (by assumption) ?_; rotate_left; (intro w hSw; (try dsimp only at hSw); go_split_ands; go_simp; (try with_reducible rfl)); (try simp only [Act.put, List.setIfInBounds_toArray, List.set_cons_zero, List.set_cons_succ]))
  (refine WG.take (i := 3) (v := ?_) rfl (by kernel_rfl) (by kernel_rfl) (by kernel_rfl) (by kernel_rfl) (fun _ _ _ h => h) (Or.inl ⟨by rfl, ?_⟩) (by assumption) ?_; rotate_left; (intro w hSw; (try dsimp only at hSw); go_split_ands; go_simp; (try with_reducible rfl)); (try simp only [Act.put, List.setIfInBounds_toArray, List.set_cons_zero, List.set_cons_succ]))
  refine WG.one (i := 4) rfl (by kernel_rfl) (fun K hK => ?_)
  go_simp; refine (iClone _ x.need _ (RI.ext HNW.out (Below.drew (Below.refl _ _))) hl).mono ?_; rintro e w1 ⟨v1, rfl, hO1, hE1⟩; have hE1 : Ext W w1 := Ext.trans (Below.drew (Below.refl _ _)) hE1; obtain ⟨A1, c1, rfl, _, _⟩ := hO1.form; have HO1 := hid (hO1.low (base' := w.heap.size) HEW.out.size); have HE1 := hid hE1; clear hO1 hE1; (try dsimp only)
  refine hK.out _ _ (by exact KS.out _ HE1.out) (fun hHeld => ?_)
  clear hK K
  (try simp only [Act.put, List.setIfInBounds_toArray, List.set_cons_zero, List.set_cons_succ])
  (refine WG.take (i := 5) (v := ?_) rfl (by kernel_rfl) (by kernel_rfl) (by kernel_rfl) (by kernel_rfl) (fun _ _ _ h => h) (Or.inl ⟨by rfl, ?_⟩) (by assumption) ?_; rotate_left; (intro w hSw; (try dsimp only at hSw); go_split_ands; go_simp; (try with_reducible rfl)); (try simp only [Act.put, List.setIfInBounds_toArray, List.set_cons_zero, List.set_cons_succ]))
  obtain ⟨y0, y1, y0f, y1f, k1, k1f, hkk, hsm⟩ := box2 (HE1.out.obj G1.out) (.int .i64 x.id) (.slice A1 x.need.length c1)
  have r0 := obj_cell hkk (i := 0) rfl
  have r1 := obj_cell hkk (i := 1) rfl
  have HSM := hid hsm
  clear hkk hsm
  refine WG.last (i := 6) rfl (by kernel_rfl) (by kernel_rfl) (fun K hK => ?_)
  go_simp
  refine hK.out _ _ ?_
  clear hK K
  (try simp only [Act.put, List.setIfInBounds_toArray, List.set_cons_zero, List.set_cons_succ])
  refine WG.done (by kernel_rfl) ?_
  go_wp2
  refine bodyPost_ret (v := .agg #[.int .i64 x.id, .slice A1 x.need.length c1]) (by simp [results, Tryz.results53, go_sem, r0, r1]) rfl ?_
  exact ⟨_, _, rfl, Own.same EI.ok HO1.out (HSM.out _ (by rintro t (rfl | h) <;> first | decide | exact h.elim)), Below.setCell (Below.setCell (HEW.out.trans HE1.out) (Nat.le_succ _) _) (Nat.le_succ _) _⟩

set_option maxHeartbeats 2000000 in
theorem iCopyTasks (v : Value) (ts : List TaskD) (w : World) (h : RT w v ts) (hl : ts.length ≤ 4000000) (hn : ∀ t ∈ ts, t.need.length ≤ 4000000) :
    Calls Tryz.prog 84 #[v] w fun e w' => ∃ v', e = .returned v' ∧ OT w' w.heap.size v' ts ∧ Ext w w' := by
  obtain ⟨A, c, rfl, hc, hc', hg⟩ := RT.get h
  clear h
  obtain ⟨i0_task, hi0_task, hz0_task, hz1_task, hz2_task⟩ := info_parts info_task
  go_enter Tryz.func84, Tryz.ntmps84
  go_wp2_with (at_make; refine wpList_make_own _ rfl _ _ 48 rfl w.heap.size 36 i0_task _ 2 Tryz.underlying48 hi0_task hz0_task hz1_task _ _ _ ts.length rfl rfl rfl (by rw [hz2_task]; omega) (by unfold maxLen; omega) (by simp) ?_; intro w1 hO1 hg1; have hE1 : Ext w w1 := Below.grown (Below.refl _ _) hg1 (Nat.le_refl _) (fun k hk => by cases hk); have hO1 : OT w1 w.heap.size _ [] := ⟨[], hO1, Cells.nil_ _ _ _⟩; have HO1 := hid hO1; have HE1 := hid hE1; clear hO1 hE1 hg1)
  go_loopw [3, 11] (fun s i wr => ∃ (u : Value) (k : Nat), u = s ∧ k ≤ ts.length ∧ i = .int .i64 k ∧ Hid (OT wr w.heap.size u (ts.take k) ∧ Ext w wr)) (fun _ i _ => ts.length - (intOf i).toNat)
  case atStart => exact ⟨_, 0, rfl, Nat.zero_le _, rfl, hid ⟨HO1.out, HE1.out⟩⟩
  case round =>
    obtain ⟨u, k, hu, hk, rfl, H⟩ := hrel
    subst hu
    by_cases hlt : k < ts.length
    · obtain ⟨b, o, x, An, cn, rfl, e, c1, c2, hnx⟩ := hg k hlt
      have i1 : (k : Int) < (ts.length : Int) := by omega
      have HE := hid H.out.2
      have c1r := HE.out.cell c1
      have c2r := HE.out.cell c2
      have hsz := HE.out.size
      have HN := hid (RI.ext hnx HE.out)
      have HXL := hid (hn x (List.mem_of_getElem? e.out))
      have HTK := hid (List.length_take_le k ts)
      obtain ⟨O, hO⟩ : ∃ O : Obj, O = .cells #[.int .i64 x.id, .slice An x.need.length cn] 36 := ⟨_, rfl⟩
      have hbx : (wr.alloc O).heap[wr.heap.size]? = some O := heap_alloc_new wr _
      rw [hO] at hbx
      have q0 := obj_cell hbx (i := 0) rfl
      have q1 := obj_cell hbx (i := 1) rfl
      rw [← hO] at q0 q1
      have HEO := hid (Ext.alloc wr O)
      subst hO
      clear c1 c2 hnx hbx
      go_wp2_with (first
        | (go_at_call 53; refine (iTaskCopy _ x _ ⟨_, rfl, RI.ext HN.out HEO.out⟩ HXL.out).mono ?_; rintro e2 w2 ⟨A2, c2, rfl, hO2, hE2⟩; have hEa := (HEO.out.trans hE2).trans (Ext.alloc w2 (.cells #[.int .i64 x.id, .slice A2 x.need.length c2] 36)); have HV := hid (Own.ext ET.ok H.out.1 hEa); have HR2 := hid (RI.ext hO2.read (Ext.alloc w2 (.cells #[.int .i64 x.id, .slice A2 x.need.length c2] 36))); have HEa := hid (HE.out.trans hEa); have hsz2 := HEa.out.size; clear hO2 hE2 hEa)
        | (at_builtin; refine wpList_append_sl _ (by rfl) _ _ 48 (by rfl) ET.ok ET.flat (w.heap.size) 36 ET.ne i0_task _ 2 32 Tryz.underlying48 hi0_task hz0_task hz1_task hz2_task rfl (by omega) _ (by rfl) _ (HV.out) _ (by rfl) _ (RSl.laid (cs := [.int .i64 x.id, .slice A2 x.need.length c2]) (heap_alloc_new _ _) rfl ⟨_, rfl, HR2.out⟩) (by have := HTK.out; simp; omega) (by have := HTK.out; simp; omega) ?_ ?_; (focus (first | exact Nat.le_refl _ | (simp; done) | (simp; omega) | omega)); intro v3 w3 hO3 hg3 hat3 hs3; have HO3 := hid hO3; have HE3 := hid (Ext.grown HEa.out hg3 HV.out.lt); clear hO3 hg3 hat3 hs3))
      go_roundw
      case rel => exact ⟨_, k + 1, rfl, by omega, by go_num, hid ⟨by rw [take_snoc e.out]; exact HO3.out, HE3.out⟩⟩
      case measure => simp [intOf]; omega
    · go_wp2
      go_ret
      have hk' : k = ts.length := by omega
      have hh := H.out
      rw [hk', List.take_length] at hh
      exact ⟨_, rfl, hh.1, hh.2⟩

end Go.Proofs.YtkdkmihgnplooaaGreat

/- The program's copy of a cluster. -/
namespace Go.Proofs.YtkdkmihgnplooaaGreat
open Go.RowKit
set_option maxRecDepth 4000

/-- units by their cells, wherever these lie -/
def RUc (w : World) (v : Value) (us : List UnitD) : Prop := ∃ A c, v = .slice A us.length c ∧ us.length ≤ c ∧ c ≤ 9223372036854775807 ∧
    ∀ (j : Nat), j < us.length → ∃ b o x An cn, A = some ⟨b, o, none⟩ ∧ Hid (us[j]? = some x) ∧ w.cell? ⟨b, o + j * 2, none⟩ = some (.bool x.opened) ∧ w.cell? ⟨b, o + j * 2 + 1, none⟩ = some (.slice An x.tasks.length cn) ∧ RT w (.slice An x.tasks.length cn) x.tasks
theorem RUc.ext {w w' : World} {v : Value} {us : List UnitD} (h : RUc w v us) (ha : Ext w w') : RUc w' v us := by
  obtain ⟨A, c, h1, h2, h3, h⟩ := h
  refine ⟨A, c, h1, h2, h3, fun j hj => ?_⟩
  obtain ⟨b, o, x, An, cn, e1, e2, e3, e4, e5⟩ := h j hj
  exact ⟨b, o, x, An, cn, e1, e2, ha.cell e3, ha.cell e4, e5.ext ha⟩
theorem RUc.of {w : World} {v : Value} {us : List UnitD} (h : RU w v us) : RUc w v us := RU.get h

set_option maxHeartbeats 4000000 in
theorem iCopyOf (rv uv : Value) (C : ClusD) (w : World) (hr : RI w rv C.room) (hu : RUc w uv C.units) (hl : C.units.length ≤ 4000000) (hlr : C.room.length ≤ 4000000) (hlt : ∀ u ∈ C.units, u.tasks.length ≤ 4000000 ∧ ∀ t ∈ u.tasks, t.need.length ≤ 4000000) :
    Calls Tryz.prog 69 #[.agg #[rv, uv]] w fun e w' => ∃ v', e = .returned v' ∧ OCl w' w.heap.size v' C ∧ Ext w w' := by
  obtain ⟨A, c, rfl, hc, hc', hg⟩ := hu
  have hr0 := hr
  obtain ⟨Ar, cr, rfl, _⟩ := hr
  obtain ⟨O1, hO1⟩ : ∃ O1 : Obj, O1 = .cells #[.slice Ar C.room.length cr, .slice A C.units.length c] 32 := ⟨_, rfl⟩
  obtain ⟨O2, hO2⟩ : ∃ O2 : Obj, O2 = .cells #[.slice none 0 0, .slice none 0 0] 32 := ⟨_, rfl⟩
  obtain ⟨W, hW⟩ : ∃ W, W = (w.alloc O1).alloc O2 := ⟨_, rfl⟩
  have hEW : Ext w W := by rw [hW]; exact (Ext.alloc _ _).trans (Ext.alloc _ _)
  have hb1 : W.heap[w.heap.size]? = some O1 := by rw [hW]; exact (Ext.alloc _ _).obj (heap_alloc_new _ _)
  have hb2 : W.heap[w.heap.size + 1]? = some O2 := by rw [hW]; exact heap_new (by simp)
  have hzW : w.heap.size + 1 < W.heap.size := obj_lt hb2
  subst hO1 hO2
  have HR := hid (RI.ext hr0 hEW)
  have HEW := hid hEW
  have HB1 := hid hb1
  have HB2 := hid hb2
  have hb0 := obj_cell hb1 (i := 0) rfl
  clear hr0 hEW hb1 hb2
  obtain ⟨i0_unit, hi0_unit, hz0_unit, hz1_unit, hz2_unit⟩ := info_parts info_unit
  go_enter Tryz.func69, Tryz.ntmps69
  go_wp2_with (go_at_call 68; rw [← hW]; refine (iClone _ C.room _ HR.out hlr).mono ?_; rintro e w1 ⟨v1, rfl, hO1, hE1⟩; obtain ⟨A1, c1x, rfl, _, _⟩ := hO1.form; have HO1 := hid hO1.read; have HE1 := hid hE1; have hbx1 := obj_cell (hE1.obj HB1.out) (i := 1) rfl; have hbx := (Ext.alloc w1 (.cells #[.slice A1 C.room.length c1x, .slice none 0 0] 32)).cell hbx1; obtain ⟨y0, y1, y0f, y1f, k1, k1f, hkk, _⟩ := box2 (heap_alloc_new w1 (.cells #[.slice none 0 0, .slice none 0 0] 32)) (.slice A1 C.room.length c1x) (.slice none 0 0); clear hkk hO1 hE1 hb0 hbx1 hW)
  go_loopw [13] (fun i wr => ∃ (k : Nat) (u : Value) (ps : List (UnitD × Value)), k ≤ C.units.length ∧ i = .int .i64 k ∧ Hid (OUV wr w.heap.size u ps ∧ ps.map (·.1) = C.units.take k ∧ (blocksOf ps).Nodup ∧ Ext w wr ∧ RI wr (.slice A1 C.room.length c1x) C.room ∧
      wr.heap[w.heap.size + 1]? = some (.cells #[.slice none 0 0, .slice none 0 0] 32 (0, 0)) ∧ wr.heap[w1.heap.size]? = some (.cells #[.slice A1 C.room.length c1x, u] 32 (0, 0)) ∧ w.heap.size + 1 < w1.heap.size)) (fun i _ => C.units.length - (intOf i).toNat)
  case atStart =>
    have hx : Ext w1 (w1.alloc (.cells #[.slice A1 C.room.length c1x, .slice none 0 0] 32)) := Ext.alloc _ _
    have hz := HE1.out.size
    exact ⟨0, _, [], Nat.zero_le _, rfl, hid ⟨Own.none_ _ _ _ _ _, by simp, by simp [blocksOf], (HEW.out.trans HE1.out).trans hx, RI.ext HO1.out hx, hx.obj (HE1.out.obj HB2.out), heap_alloc_new _ _, by omega⟩⟩
  case round =>
    obtain ⟨k, u, ps, hk, rfl, H⟩ := hrel
    obtain ⟨hO, hps, hnd, hE, hRo, hob2, hob3, hlt1⟩ := H.out
    obtain ⟨Au, cu, rfl, hcu, hcu'⟩ := hO.form
    have hlps : ps.length = k := by
      have := congrArg List.length hps
      rw [List.length_map, List.length_take] at this
      omega
    by_cases hltk : k < C.units.length
    · obtain ⟨b, o, x, An, cn, rfl, e, c1, c2, hnx⟩ := hg k hltk
      have i1 : (k : Int) < (C.units.length : Int) := by omega
      have i0 : (0 : Int) ≤ (k : Int) := by omega
      have c1r := hE.cell c1
      have c2r := hE.cell c2
      have HN := hid (RT.ext hnx hE)
      have HLT := hid (hlt x (List.mem_of_getElem? e.out))
      have HP := hid hlps
      have HPS := hid hps
      have HND := hid hnd
      have HE := hid hE
      have HRo := hid hRo
      have Hob2 := hid hob2
      have Hob3 := hid hob3
      have HO := hid hO
      obtain ⟨y0, y1, y0f, y1f, k1, k1f, hkk, _⟩ := box2 (heap_alloc_new wr (.cells #[.bool false, .slice none 0 0] 66)) (.bool x.opened) (.slice An x.tasks.length cn)
      clear c1 c2 hnx hlps hps hnd hE hRo hob2 hob3 hO hkk H
      go_wp2
      obtain ⟨W5, hW5⟩ : ∃ W5, W5 = wr.alloc (.cells #[.bool x.opened, .slice An x.tasks.length cn] 66) := ⟨_, rfl⟩
      have hE5 : Ext wr W5 := by rw [hW5]; exact Ext.alloc _ _
      have hub : W5.heap[wr.heap.size]? = some (.cells #[.bool x.opened, .slice An x.tasks.length cn] 66 (0, 0)) := by rw [hW5]; exact heap_alloc_new _ _
      rw [← hW5]
      clear hW5 y0 y1 y0f y1f k1 k1f c1r c2r
      have KS : Hid (∀ w', Ext W5 w' → w'.cell? ⟨w1.heap.size, 1, none⟩ = some (.slice Au ps.length cu) ∧ w'.cell? ⟨wr.heap.size, 0, none⟩ = some (.bool x.opened) ∧ w'.cell? ⟨wr.heap.size, 1, none⟩ = some (.slice An x.tasks.length cn)) :=
        hid fun w' hw => ⟨obj_cell (hw.obj (hE5.obj Hob3.out)) (i := 1) rfl, obj_cell (hw.obj hub) (i := 0) rfl, obj_cell (hw.obj hub) (i := 1) rfl⟩
      have HE5 := hid hE5
      clear hE5 hub
      have HD5 : Hid (Ext W5 W5.drew) := hid (Below.drew (Below.refl _ _))
      refine WG.start (fun w' => w'.cell? ⟨w1.heap.size, 1, none⟩ = some (.slice Au ps.length cu) ∧ w'.cell? ⟨wr.heap.size, 0, none⟩ = some (.bool x.opened) ∧ w'.cell? ⟨wr.heap.size, 1, none⟩ = some (.slice An x.tasks.length cn)) [9,10,11] (by kernel_rfl) (by exact KS.out _ HD5.out) (fun hHeld => ?_)
      (refine WG.take (i := 0) (v := ?_) rfl (by kernel_rfl) (by kernel_rfl) (by kernel_rfl) (by kernel_rfl) (fun _ _ _ h => h) (Or.inl ⟨by rfl, ?_⟩) (by assumption) ?_; rotate_left; (intro w hSw; (try dsimp only at hSw); go_split_ands; go_simp; (try with_reducible rfl)); (try simp only [Act.put, List.setIfInBounds_toArray, List.set_cons_zero, List.set_cons_succ]))
      (refine WG.take (i := 1) (v := ?_) rfl (by kernel_rfl) (by kernel_rfl) (by kernel_rfl) (by kernel_rfl) (fun _ _ _ h => h) (Or.inl ⟨by rfl, ?_⟩) (by assumption) ?_; rotate_left; (intro w hSw; (try dsimp only at hSw); go_split_ands; go_simp; (try with_reducible rfl)); (try simp only [Act.put, List.setIfInBounds_toArray, List.set_cons_zero, List.set_cons_succ]))
      (refine WG.take (i := 2) (v := ?_) rfl (by kernel_rfl) (by kernel_rfl) (by kernel_rfl) (by kernel_rfl) (fun _ _ _ h => h) (Or.inl ⟨by rfl, ?_⟩) (by assumption) ?_; rotate_left; (intro w hSw; (try dsimp only at hSw); go_split_ands; go_simp; (try with_reducible rfl)); (try simp only [Act.put, List.setIfInBounds_toArray, List.set_cons_zero, List.set_cons_succ]))
      (refine WG.take (i := 3) (v := ?_) rfl (by kernel_rfl) (by kernel_rfl) (by kernel_rfl) (by kernel_rfl) (fun _ _ _ h => h) (Or.inl ⟨by rfl, ?_⟩) (by assumption) ?_; rotate_left; (intro w hSw; (try dsimp only at hSw); go_split_ands; go_simp; (try with_reducible rfl)); (try simp only [Act.put, List.setIfInBounds_toArray, List.set_cons_zero, List.set_cons_succ]))
      (refine WG.take (i := 4) (v := ?_) rfl (by kernel_rfl) (by kernel_rfl) (by kernel_rfl) (by kernel_rfl) (fun _ _ _ h => h) (Or.inl ⟨by rfl, ?_⟩) (by assumption) ?_; rotate_left; (intro w hSw; (try dsimp only at hSw); go_split_ands; go_simp; (try with_reducible rfl)); (try simp only [Act.put, List.setIfInBounds_toArray, List.set_cons_zero, List.set_cons_succ]))
      (refine WG.take (i := 5) (v := ?_) rfl (by kernel_rfl) (by kernel_rfl) (by kernel_rfl) (by kernel_rfl) (fun _ _ _ h => h) (Or.inl ⟨by rfl, ?_⟩) (by assumption) ?_; rotate_left; (intro w hSw; (try dsimp only at hSw); go_split_ands; go_simp; (try with_reducible rfl)); (try simp only [Act.put, List.setIfInBounds_toArray, List.set_cons_zero, List.set_cons_succ]))
      refine WG.one (i := 6) rfl (by kernel_rfl) (fun K hK => ?_)
      go_simp; refine (iCopyTasks _ x.tasks _ (HN.out.ext (HE5.out.trans HD5.out)) HLT.out.1 HLT.out.2).mono ?_; rintro e1 w2 ⟨tv, rfl, htv, hEt⟩; have hEr : Ext W5 w2 := Ext.trans (Below.drew (Below.refl _ _)) hEt; obtain ⟨At, ct, rfl, hct, hct'⟩ := htv.form; have HTV := hid htv; have HEr := hid hEr; clear htv hEr hEt; (try dsimp only)
      refine hK.out _ _ (by exact KS.out _ HEr.out) (fun hHeld => ?_)
      clear hK K
      (try simp only [Act.put, List.setIfInBounds_toArray, List.set_cons_zero, List.set_cons_succ])
      (refine WG.take (i := 7) (v := ?_) rfl (by kernel_rfl) (by kernel_rfl) (by kernel_rfl) (by kernel_rfl) (fun _ _ _ h => h) (Or.inl ⟨by rfl, ?_⟩) (by assumption) ?_; rotate_left; (intro w hSw; (try dsimp only at hSw); go_split_ands; go_simp; (try with_reducible rfl)); (try simp only [Act.put, List.setIfInBounds_toArray, List.set_cons_zero, List.set_cons_succ]))
      refine WG.one (i := 8) rfl (by kernel_rfl) (fun K hK => ?_)
      go_simp
      refine hK.out _ _ (by exact KS.out _ (HEr.out.trans (Ext.alloc _ _))) (fun hHeld => ?_)
      clear hK K
      (try simp only [Act.put, List.setIfInBounds_toArray, List.set_cons_zero, List.set_cons_succ])
      have hEa := (HE5.out.trans HEr.out).trans (Ext.alloc w2 (.cells #[.bool x.opened, .slice At x.tasks.length ct] 66))
      have HEa := hid hEa
      have hsza : w.heap.size ≤ w2.heap.size := (HE.out.trans (HE5.out.trans HEr.out)).size
      have HV1 := hid (HO.out.ext (EUV.ok _) hEa)
      have HT1 := hid (Own.low (HTV.out.ext ET.ok (Ext.alloc w2 (.cells #[.bool x.opened, .slice At x.tasks.length ct] 66))) (show w.heap.size ≤ W5.drew.heap.size from (HE.out.trans HE5.out).size))
      have HTN : Hid (∀ g, (Value.slice At x.tasks.length ct).ownBlock = some g → wr.heap.size ≤ g) := hid fun g hg => Nat.le_trans HE5.out.size (HTV.out.lt g hg).1
      clear hEa
      refine WG.last (i := 9) rfl (by kernel_rfl) (by kernel_rfl) (fun K hK => ?_)
      refine step_append_sl _ (by rfl) _ _ 30 (by rfl) (EUV.ok _) (EUV.flat _) (w.heap.size) 66 EUV.ne i0_unit _ 2 32 Tryz.underlying30 hi0_unit hz0_unit hz1_unit hz2_unit rfl (by omega) _ (by rfl) _ (HV1.out) _ (by rfl) _ (RSl.laid (cs := [.bool x.opened, .slice At x.tasks.length ct]) (x := (x, .slice At x.tasks.length ct)) (heap_alloc_new _ _) rfl ⟨rfl, HT1.out⟩) (by have := HP.out; simp; omega) (by have := HP.out; simp; omega) ?_ ?_; (focus (first | exact Nat.le_refl _ | (simp; done) | (simp; omega) | omega)); intro v3 w3 hO3 hg3 hat3 hs3; obtain ⟨A3, c3, rfl, hc3, hc3'⟩ := hO3.form_app; have hE3 : Ext w w3 := Ext.grown (HE.out.trans HEa.out) hg3 HV1.out.lt; have ho2 := hs3 _ _ _ _ (by decide) (HEa.out.obj Hob2.out); have ho3 := hs3 _ _ _ _ (by decide) (HEa.out.obj Hob3.out)
      refine hK.out _ _ ?_
      clear hK K
      (try simp only [Act.put, List.setIfInBounds_toArray, List.set_cons_zero, List.set_cons_succ])
      have co3 := obj_cell ho3 (i := 1) rfl
      have fo3 := obj_frozen ho3 1
      (refine WG.takeP (i := 10) (v := ?_) rfl (by kernel_rfl) (by kernel_rfl) (by kernel_rfl) (by kernel_rfl) (fun _ _ _ h => h) (Or.inl ⟨by rfl, ?_⟩) ?_; rotate_left; (intro w hSw; clear hSw; go_simp; (try with_reducible rfl)); (try simp only [Act.put, List.setIfInBounds_toArray, List.set_cons_zero, List.set_cons_succ]))
      refine WG.last (i := 11) rfl (by kernel_rfl) (by kernel_rfl) (fun K hK => ?_)
      go_simp
      refine hK.out _ _ ?_
      clear hK K
      (try simp only [Act.put, List.setIfInBounds_toArray, List.set_cons_zero, List.set_cons_succ])
      refine WG.done (by kernel_rfl) ?_
      go_wp2
      go_roundw
      case rel =>
        have hsx : SameT (fun t => t ≠ 32) w3 (w3.setCell ⟨w1.heap.size, 1, none⟩ (Value.slice A3 (ps.length + 1) c3)) := SameT.setCell (p := ⟨w1.heap.size, 1, none⟩) ho3 _ (fun t ht => ht)
        have hsI : SameT (fun t => t = 3) w3 (w3.setCell ⟨w1.heap.size, 1, none⟩ (Value.slice A3 (ps.length + 1) c3)) := hsx.mono (by rintro t rfl; decide)
        refine ⟨k + 1, Value.slice A3 (ps.length + 1) c3, ps ++ [(x, Value.slice At x.tasks.length ct)], by omega, by go_num, hid ⟨?_, ?_, ?_, ?_, ?_, ?_, ?_, hlt1⟩⟩
        · exact Own.same (EUV.ok _) hO3 (hsx.mono notClu)
        · rw [List.map_append, HPS.out, take_snoc e.out]; rfl
        · exact nodup_more HO.out HND.out HTN.out
        · exact Below.setCell hE3 (by show w.heap.size ≤ w1.heap.size; omega) _
        · exact RI.same (RI.ext HRo.out HEa.out) ((hs3.mono (by rintro t rfl; decide)).trans hsI)
        · exact obj_far ho2 (by show w.heap.size + 1 ≠ w1.heap.size; omega) _
        · exact obj_set ho3 1 _
      case measure => simp [intOf]; omega
    · have hk' : k = C.units.length := by omega
      obtain ⟨e0, e1, y0, y1, y0f, y1f, k1, k1f, r0, r1, hsm⟩ := res2 hob2 hob3
      have HSM := hid hsm
      have HO := hid hO
      have HP := hid hps
      have HRo := hid hRo
      have HK := hid hk'
      have HND := hid hnd
      have HE := hid hE
      clear hob2 hob3 hO hps hRo hk' hlps hnd hE H hsm
      go_wp2
      refine bodyPost_ret (v := .agg #[.slice A1 C.room.length c1x, .slice Au ps.length cu]) (by simp [results, Tryz.results69, go_sem, r0, r1]) rfl ⟨_, rfl, ⟨_, _, ps, rfl, RI.same HRo.out (HSM.out _ (by rintro t rfl; decide)), Own.same (EUV.ok _) HO.out (HSM.out _ notClu), by rw [HP.out, HK.out, List.take_length], HND.out⟩, Below.setCell (Below.setCell HE.out (Nat.le_succ _) _) (Nat.le_succ _) _⟩
end Go.Proofs.YtkdkmihgnplooaaGreat

/- The program's host: its block, and how it is filled. -/
namespace Go.Proofs.YtkdkmihgnplooaaGreat
open Go.RowKit
set_option maxRecDepth 4000

theorem run_copy_sz (P : Program) (w : World) (dT sT ty elem : TypeId) (g o dLen dCap : Nat) (a : Addr) (sLen sCap : Nat) (cur : Array Value) (t : TypeId) (cs : List Value) (i : TypeInfo) (s : Nat)
    (hu : P.underlying dT = some (.slice elem)) (hi : P.info? elem = some i) (hs : i.size = s)
    (hg : w.heap[g]? = some (.cells cur t (0, 0))) (hn : cs.length = Nat.min sLen dLen * s)
    (hsrc : ∀ j v, cs[j]? = some v → w.cell? (a.add j) = some v) (hfit : o + cs.length ≤ cur.size) (h1 : ∀ v ∈ cs, v.oneCell' = true) :
    (Builtin.copy_ #[dT, sT] ty #[.slice (some ⟨g, o, none⟩) dLen dCap, .slice (some a) sLen sCap]).run P w =
      .ok (goInt (Nat.min sLen dLen)) (w.setRow g (cur.toList.take o ++ cs ++ cur.toList.drop (o + cs.length)).toArray) := by
  have hl := run_loadCells_list (P := P) w a cs hsrc
  have hst := run_storeCells_at P g o t cs 0 cur w hg (by simpa using hfit) h1
  simp [Builtin.copy_, run_underlying hu, Builtin.lenOf, Builtin.firstCells, sizeOf, typeInfo, hi, hs, ← hn, hl, hst]
theorem step_copy_sz {P : Program} {ops : Array Oper} {o : Oper} {a : Act} {w : World} {K : Act → World → Prop} {Q : Exit → Act → World → Prop} {X : Prop} (hgd : o.guard = none) (d s : Operand) (dT sT : TypeId)
    (ho : o.op = .call { callee := .builtin .copy, args := #[d, s], argTypes := #[dT, sT] }) (elem : TypeId) (i : TypeInfo) (sz : Nat) (hu : P.underlying dT = some (.slice elem)) (hi : P.info? elem = some i) (hs : i.size = sz)
    (g off dLen dCap : Nat) (ad : Addr) (sLen sCap : Nat) (hd : a.eval d = .slice (some ⟨g, off, none⟩) dLen dCap) (hsv : a.eval s = .slice (some ad) sLen sCap)
    (cur : List Value) (t : TypeId) (hg : w.heap[g]? = some (.cells cur.toArray t (0, 0))) (cs : List Value) (hn : cs.length = Nat.min sLen dLen * sz)
    (hsrc : ∀ j v, cs[j]? = some v → w.cell? (ad.add j) = some v) (hfit : off + cs.length ≤ cur.length) (h1 : ∀ v ∈ cs, v.oneCell' = true)
    (h : K (a.put o.dst (goInt (Nat.min sLen dLen))) (w.setRow g (cur.take off ++ cs ++ cur.drop (off + cs.length)).toArray)) :
    if Region.wanted o (yielded ops a.tmps) = true then Oper.wp P o a w K Q else X := by
  have hw : Region.wanted o (yielded ops a.tmps) = true := by simp [Region.wanted, hgd]
  rw [if_pos hw]
  have hrun := run_copy_sz P w dT sT o.type elem g off dLen dCap ad sLen sCap cur.toArray t cs i sz hu hi hs hg hn hsrc (by simpa using hfit) h1
  unfold Oper.wp execOp
  simp only [ho, resolve, invoke, builtin, Sem.run_bind, Sem.run_pure, Result.andThen_ok, List.map_toArray, List.map_cons, List.map_nil, hd, hsv, hrun]
  exact h

/-- what a row of the call's own holds, cell by cell -/
theorem Own.src {α : Type} {e : TypeId} {size : Nat} {E : Enc α} {w : World} {base g n c : Nat} {xs : List α} (h : Own e size E w base (.slice (some ⟨g, 0, none⟩) n c) xs) : ∃ cells, Cells size E w cells xs ∧ ∀ j v, cells[j]? = some v → w.cell? ((⟨g, 0, none⟩ : Addr).add j) = some v := by
  obtain ⟨cells, ho, hc⟩ := h
  refine ⟨cells, hc, fun j v hj => ?_⟩
  rcases ho.2 with ⟨h1, _⟩ | ⟨g', cap, cur, h1, _, hg, hl, hm, _, ht⟩
  · cases h1
  · injection h1 with h1 _ _
    injection h1 with h1
    injection h1 with h1 _ _
    subst h1
    have ha : (⟨g, 0, none⟩ : Addr).add j = ⟨g, j, none⟩ := by unfold Addr.add; split <;> simp_all
    rw [ha, cell_of_row w g j cur e (0, 0) hg]
    rw [← ht, List.getElem?_take] at hj
    split at hj
    · simpa using hj
    · cases hj
theorem Cells.flat {α : Type} {size : Nat} {E : Enc α} (hf : E.Flat) (hs : 0 < size) {w : World} {cells : List Value} {xs : List α} (h : Cells size E w cells xs) : ∀ v ∈ cells, v.oneCell' = true := by
  intro u hu
  obtain ⟨k, hk⟩ := List.getElem?_of_mem hu
  have hk' : k < xs.length * size := by rw [← h.1]; exact (List.getElem?_eq_some_iff.1 hk).1
  have hj : k / size < xs.length := Nat.div_lt_of_lt_mul (by rw [Nat.mul_comm]; exact hk')
  obtain ⟨cs, hl, he, hcc⟩ := h.2 (k / size) xs[k / size] (List.getElem?_eq_getElem hj)
  have hm : k % size < cs.length := by rw [hl]; exact Nat.mod_lt _ hs
  have := hcc (k % size) cs[k % size] (List.getElem?_eq_getElem hm)
  rw [Nat.mul_comm, Nat.div_add_mod, hk] at this
  injection this with this
  subst this
  exact hf _ _ _ he _ (List.getElem_mem hm)
/-- nodes that are not there -/
def zerosU (m : Nat) : List Value := (List.replicate m [Value.bool false, .slice none 0 0]).flatten
theorem zerosU_succ (m : Nat) : zerosU (m + 1) = [Value.bool false, .slice none 0 0] ++ zerosU m := by simp [zerosU, List.replicate_succ]
theorem zerosU_drop : ∀ (k m : Nat), (zerosU (m + k)).drop (k * 2) = zerosU m
  | 0, m => by simp
  | k + 1, m => by
    rw [show m + (k + 1) = (m + k) + 1 by omega, zerosU_succ, show (k + 1) * 2 = 2 + k * 2 by omega, ← List.drop_drop]
    exact zerosU_drop k m
theorem zerosU_cells (base : Nat) (w : World) : ∀ m, Cells 2 (EUV base) w (zerosU m) (List.replicate m ((⟨false, []⟩ : UnitD), (.slice none 0 0 : Value)))
  | 0 => Cells.nil_ _ _ _
  | m + 1 => by
    rw [zerosU_succ, List.replicate_succ, ← List.singleton_append]
    exact Cells.app (Cells.one rfl ⟨rfl, Own.none_ _ _ _ _ _⟩) (zerosU_cells base w m)
theorem SameT.setRow {w : World} {g : Nat} {cur cs : Array Value} {e : TypeId} {fr : Nat × Nat} (hg : w.heap[g]? = some (.cells cur e fr)) {T : TypeId → Prop} (hT : ∀ t, T t → t ≠ e) : SameT T w (w.setRow g cs) := by
  intro k cur' t fr' ht hk
  by_cases h : k = g
  · subst h
    rw [hg] at hk
    injection hk with hk
    injection hk with _ h2 _
    exact absurd h2.symm (hT t ht)
  · rw [setRow_other w g k cs h]; exact hk
/-- block H is a host -/
structure HostV (w : World) (H base : Nat) (C : ClusD) (ps : List (UnitD × Value)) (rv : Value) (cells : List Value) (l : Int) : Prop where
  blk : w.heap[H]? = some (.cells ([Value.int .i32 l, .int .u32 0, rv, .int .i64 (C.units.length : Int)] ++ cells).toArray 86 (0, 0))
  cel : Cells 2 (EUV base) w cells ps
  room : RI w rv C.room
  len : ps.length = 10
  units : (ps.take C.units.length).map (·.1) = C.units
  nd : (blocksOf ps).Nodup
  hi : base ≤ H
  n10 : C.units.length ≤ 10
theorem notHost : ∀ t, (t = 66 ∨ t = 36 ∨ t = 3) → t ≠ 86 := by rintro t (rfl | rfl | rfl) <;> decide

set_option maxHeartbeats 4000000 in
theorem iHostOf (rv uv : Value) (C : ClusD) (w : World) (hr : RI w rv C.room) (hu : RU w uv C.units) (hC : clusOk C = true) :
    Calls Tryz.prog 45 #[.agg #[rv, uv]] w fun e w' => ∃ H ps rv' cells, e = .returned (.pointer (some ⟨H, 0, none⟩)) ∧ HostV w' H w.heap.size C ps rv' cells 0 ∧ Ext w w' := by
  have hu0 := hu
  obtain ⟨A, c, rfl, _⟩ := hu
  have hr0 := hr
  obtain ⟨Ar, cr, rfl, _⟩ := hr
  obtain ⟨W, hW⟩ : ∃ W, W = w.alloc (.cells #[.slice Ar C.room.length cr, .slice A C.units.length c] 32) := ⟨_, rfl⟩
  have hEW : Ext w W := by rw [hW]; exact Ext.alloc _ _
  have hb1 : W.heap[w.heap.size]? = some (.cells #[.slice Ar C.room.length cr, .slice A C.units.length c] 32 (0, 0)) := by rw [hW]; exact heap_alloc_new _ _
  have HR := hid (RI.ext hr0 hEW)
  have HU := hid (RUc.of (RU.ext hu0 hEW))
  have HEW := hid hEW
  have KS : Hid (∀ w', Ext W w' → w'.cell? ⟨w.heap.size, 0, none⟩ = some (.slice Ar C.room.length cr) ∧ w'.cell? ⟨w.heap.size, 1, none⟩ = some (.slice A C.units.length c)) := hid fun w' hw => ⟨obj_cell (hw.obj hb1) (i := 0) rfl, obj_cell (hw.obj hb1) (i := 1) rfl⟩
  have HS := hid (clus_small hC)
  have HCN := hid (clusOk_len hC)
  clear hr0 hu0 hEW hb1 hC
  have hfd : ∀ (a b : Value) (w : World), (Instr.field 32 (.agg #[a, b]) 1).run Tryz.prog w = .ok b w := fun _ _ _ => by kernel_rfl
  go_enter Tryz.func45, Tryz.ntmps45
  go_wp2
  rw [← hW]
  clear hW
  refine WG.start (fun w' => w'.cell? ⟨w.heap.size, 0, none⟩ = some (.slice Ar C.room.length cr) ∧ w'.cell? ⟨w.heap.size, 1, none⟩ = some (.slice A C.units.length c)) [7,8] (by kernel_rfl) (by exact KS.out _ (Below.drew (Below.refl _ _))) (fun hHeld => ?_)
  (refine WG.take (i := 0) (v := ?_) rfl (by kernel_rfl) (by kernel_rfl) (by kernel_rfl) (by kernel_rfl) (fun _ _ _ h => h) (Or.inl ⟨by rfl, ?_⟩) (by assumption) ?_; rotate_left; (intro w hSw; (try dsimp only at hSw); go_split_ands; go_simp; (try with_reducible rfl)); (try simp only [Act.put, List.setIfInBounds_toArray, List.set_cons_zero, List.set_cons_succ]))
  (refine WG.take (i := 1) (v := ?_) rfl (by kernel_rfl) (by kernel_rfl) (by kernel_rfl) (by kernel_rfl) (fun _ _ _ h => h) (Or.inl ⟨by rfl, ?_⟩) (by assumption) ?_; rotate_left; (intro w hSw; (try dsimp only at hSw); go_split_ands; go_simp; (try with_reducible rfl)); (try simp only [Act.put, List.setIfInBounds_toArray, List.set_cons_zero, List.set_cons_succ]))
  (refine WG.take (i := 3) (v := ?_) rfl (by kernel_rfl) (by kernel_rfl) (by kernel_rfl) (by kernel_rfl) (fun _ _ _ h => h) (Or.inl ⟨by rfl, ?_⟩) (by assumption) ?_; rotate_left; (intro w hSw; (try dsimp only at hSw); go_split_ands; go_simp; (try with_reducible rfl)); (try simp only [Act.put, List.setIfInBounds_toArray, List.set_cons_zero, List.set_cons_succ]))
  (refine WG.take (i := 4) (v := ?_) rfl (by kernel_rfl) (by kernel_rfl) (by kernel_rfl) (by kernel_rfl) (fun _ _ _ h => h) (Or.inl ⟨by rfl, ?_⟩) (by assumption) ?_; rotate_left; (intro w hSw; (try dsimp only at hSw); go_split_ands; go_simp; (try with_reducible rfl)); (try simp only [Act.put, List.setIfInBounds_toArray, List.set_cons_zero, List.set_cons_succ]))
  (refine WG.take (i := 5) (v := ?_) rfl (by kernel_rfl) (by kernel_rfl) (by kernel_rfl) (by kernel_rfl) (fun _ _ _ h => h) (Or.inl ⟨by rfl, ?_⟩) (by assumption) ?_; rotate_left; (intro w hSw; (try dsimp only at hSw); go_split_ands; go_simp; (try with_reducible rfl)); (try simp only [Act.put, List.setIfInBounds_toArray, List.set_cons_zero, List.set_cons_succ]))
  refine WG.one (i := 2) rfl (by kernel_rfl) (fun K hK => ?_)
  go_simp; refine (iClone _ C.room _ (RI.ext HR.out (Below.drew (Below.refl _ _))) HS.out.1).mono ?_; rintro e w1 ⟨v1, rfl, hO1, hE1⟩; have hE1 : Ext W w1 := Ext.trans (Below.drew (Below.refl _ _)) hE1; obtain ⟨A1, c1, rfl, _, _⟩ := hO1.form; have HO1 := hid (hO1.low (base' := w.heap.size) HEW.out.size); have HE1 := hid hE1; clear hO1 hE1; (try dsimp only)
  refine hK.out _ _ (by exact KS.out _ HE1.out) (fun hHeld => ?_)
  clear hK K
  (try simp only [Act.put, List.setIfInBounds_toArray, List.set_cons_zero, List.set_cons_succ])
  (refine WG.take (i := 6) (v := ?_) rfl (by kernel_rfl) (by kernel_rfl) (by kernel_rfl) (by kernel_rfl) (fun _ _ _ h => h) (Or.inl ⟨by rfl, ?_⟩) (by assumption) ?_; rotate_left; (intro w hSw; (try dsimp only at hSw); go_split_ands; go_simp; (try with_reducible rfl)); (try simp only [Act.put, List.setIfInBounds_toArray, List.set_cons_zero, List.set_cons_succ]))
  refine WG.last (i := 7) rfl (by kernel_rfl) (by kernel_rfl) (fun K hK => ?_)
  go_simp
  refine hK.out _ _ ?_
  clear hK K
  (try simp only [Act.put, List.setIfInBounds_toArray, List.set_cons_zero, List.set_cons_succ])
  refine WG.last (i := 8) rfl (by kernel_rfl) (by kernel_rfl) (fun K hK => ?_)
  go_simp
  refine hK.out _ _ ?_
  clear hK K
  (try simp only [Act.put, List.setIfInBounds_toArray, List.set_cons_zero, List.set_cons_succ])
  refine WG.done (by kernel_rfl) ?_
  go_wp2
  obtain ⟨W2, hW2⟩ : ∃ W2, W2 = w1.alloc (.cells ([Value.int .i32 0, .int .u32 0, .slice A1 C.room.length c1, .int .i64 (C.units.length : Int)] ++ zerosU 10).toArray 86) := ⟨_, rfl⟩
  have hE2 : Ext w1 W2 := by rw [hW2]; exact Ext.alloc _ _
  have hH2 : W2.heap[w1.heap.size]? = some (.cells ([Value.int .i32 0, .int .u32 0, .slice A1 C.room.length c1, .int .i64 (C.units.length : Int)] ++ zerosU 10).toArray 86 (0, 0)) := by rw [hW2]; exact heap_alloc_new _ _
  change Code.wp _ _ _ _ (w1.alloc (.cells ([Value.int .i32 0, .int .u32 0, .slice A1 C.room.length c1, .int .i64 (C.units.length : Int)] ++ zerosU 10).toArray 86))
  rw [← hW2]
  clear hW2
  obtain ⟨H, hH⟩ : ∃ H, H = w1.heap.size := ⟨_, rfl⟩
  have hHw : w.heap.size ≤ H := by rw [hH]; exact (HEW.out.trans HE1.out).size
  rw [← hH] at hH2 ⊢
  clear hH
  have HE2 := hid (HE1.out.trans hE2)
  have HH2 := hid hH2
  have HO2 := hid (Own.ext EI.ok HO1.out hE2)
  clear hE2 hH2
  have HD : Hid (Ext W2 W2.drew) := hid (Below.drew (Below.refl _ _))
  refine WG.start (fun w' => w'.cell? ⟨w.heap.size, 0, none⟩ = some (.slice Ar C.room.length cr) ∧ w'.cell? ⟨w.heap.size, 1, none⟩ = some (.slice A C.units.length c)) [7] (by kernel_rfl) (by exact KS.out _ (HE2.out.trans HD.out)) (fun hHeld => ?_)
  (refine WG.take (i := 0) (v := ?_) rfl (by kernel_rfl) (by kernel_rfl) (by kernel_rfl) (by kernel_rfl) (fun _ _ _ h => h) (Or.inl ⟨by rfl, ?_⟩) (by assumption) ?_; rotate_left; (intro w hSw; (try dsimp only at hSw); go_split_ands; go_simp; (try with_reducible rfl)); (try simp only [Act.put, List.setIfInBounds_toArray, List.set_cons_zero, List.set_cons_succ]))
  (refine WG.take (i := 1) (v := ?_) rfl (by kernel_rfl) (by kernel_rfl) (by kernel_rfl) (by kernel_rfl) (fun _ _ _ h => h) (Or.inl ⟨by rfl, ?_⟩) (by assumption) ?_; rotate_left; (intro w hSw; (try dsimp only at hSw); go_split_ands; go_simp; (try with_reducible rfl)); (try simp only [Act.put, List.setIfInBounds_toArray, List.set_cons_zero, List.set_cons_succ]))
  (refine WG.take (i := 2) (v := ?_) rfl (by kernel_rfl) (by kernel_rfl) (by kernel_rfl) (by kernel_rfl) (fun _ _ _ h => h) (Or.inl ⟨by rfl, ?_⟩) (by assumption) ?_; rotate_left; (intro w hSw; (try dsimp only at hSw); go_split_ands; go_simp; (try with_reducible rfl)); (try simp only [Act.put, List.setIfInBounds_toArray, List.set_cons_zero, List.set_cons_succ]))
  (refine WG.take (i := 3) (v := ?_) rfl (by kernel_rfl) (by kernel_rfl) (by kernel_rfl) (by kernel_rfl) (fun _ _ _ h => h) (Or.inl ⟨by rfl, ?_⟩) (by assumption) ?_; rotate_left; (intro w hSw; (try dsimp only at hSw); go_split_ands; go_simp; (try with_reducible rfl)); (try simp only [Act.put, List.setIfInBounds_toArray, List.set_cons_zero, List.set_cons_succ]))
  (refine WG.take (i := 4) (v := ?_) rfl (by kernel_rfl) (by kernel_rfl) (by kernel_rfl) (by kernel_rfl) (fun _ _ _ h => h) (Or.inl ⟨by rfl, ?_⟩) (by assumption) ?_; rotate_left; (intro w hSw; (try dsimp only at hSw); go_split_ands; go_simp; (try with_reducible rfl)); (try simp only [Act.put, List.setIfInBounds_toArray, List.set_cons_zero, List.set_cons_succ]))
  refine WG.one (i := 5) rfl (by kernel_rfl) (fun K hK => ?_)
  go_simp; refine (iCopyOf _ _ C _ (RI.ext HR.out (HE2.out.trans HD.out)) (HU.out.ext (HE2.out.trans HD.out)) (Nat.le_trans HCN.out.2 (by omega)) HS.out.1 HS.out.2).mono ?_; rintro e w3 ⟨v3, rfl, ⟨rc, uc, ps, rfl, hrc, hou, hps, hnd⟩, hE3⟩; have hpl : ps.length = C.units.length := (by rw [← hps, List.length_map]); have hcn := HCN.out; obtain ⟨gu, cu, rfl, hgu⟩ := Own.row hou (by omega); obtain ⟨A3, c3, rfl, _⟩ := hrc; have hE3 : Ext W2 w3 := Ext.trans HD.out hE3; have HOU := hid (OUV.low hou (HEW.out.trans (HE2.out.trans HD.out)).size); have HPS := hid hps; have HND := hid hnd; have HPL := hid hpl; have HE3 := hid hE3; clear hou hps hnd hpl hE3 hcn; (try dsimp only)
  refine hK.out _ _ (by exact KS.out _ (HE2.out.trans HE3.out)) (fun hHeld => ?_)
  clear hK K
  (try simp only [Act.put, List.setIfInBounds_toArray, List.set_cons_zero, List.set_cons_succ])
  (refine WG.take (i := 6) (v := ?_) rfl (by kernel_rfl) (by kernel_rfl) (by kernel_rfl) (by kernel_rfl) (fun _ _ _ h => h) (Or.inl ⟨by rfl, ?_⟩) (by assumption) ?_; rotate_left; (intro w hSw; (try dsimp only at hSw); go_split_ands; go_simp; (try with_reducible rfl)); (try simp only [Act.put, List.setIfInBounds_toArray, List.set_cons_zero, List.set_cons_succ]))
  obtain ⟨cells, hcells, hsrc⟩ := Own.src HOU.out
  obtain ⟨i0_unit, hi0_unit, hz0_unit, hz1_unit, hz2_unit⟩ := info_parts info_unit
  have hcl : cells.length = ps.length * 2 := hcells.1
  refine WG.last (i := 7) rfl (by kernel_rfl) (by kernel_rfl) (fun K hK => ?_)
  refine step_copy_sz rfl (.tmp 15) (.tmp 18) 30 30 rfl 66 i0_unit 2 Tryz.underlying30 hi0_unit hz1_unit H 4 10 10 ⟨gu, 0, none⟩ ps.length cu rfl rfl _ _ (HE3.out.obj HH2.out) cells (by have := HPL.out; have := HCN.out; rw [hcl]; show ps.length * 2 = min ps.length 10 * 2; rw [Nat.min_eq_left (by omega)]) hsrc (by have := HPL.out; have := HCN.out; rw [hcl]; simp [zerosU]; omega) (Cells.flat (EUV.flat _) (by omega) hcells) ?_
  refine hK.out _ _ ?_
  clear hK K
  (try simp only [Act.put, List.setIfInBounds_toArray, List.set_cons_zero, List.set_cons_succ])
  refine WG.done (by kernel_rfl) ?_
  go_wp2
  go_ret
  have hpl := HPL.out
  have hcn := HCN.out
  have hlist : List.take 4 ([Value.int .i32 0, .int .u32 0, .slice A1 C.room.length c1, .int .i64 (C.units.length : Int)] ++ zerosU 10) ++ cells ++ List.drop (4 + cells.length) ([Value.int .i32 0, .int .u32 0, .slice A1 C.room.length c1, .int .i64 (C.units.length : Int)] ++ zerosU 10) =
      [Value.int .i32 0, .int .u32 0, .slice A1 C.room.length c1, .int .i64 (C.units.length : Int)] ++ (cells ++ zerosU (10 - ps.length)) := by
    have e1 := zerosU_drop ps.length (10 - ps.length)
    rw [show 10 - ps.length + ps.length = 10 by omega] at e1
    rw [Nat.add_comm 4, hcl, ← e1]
    simp
  rw [hlist]
  have hs : SameT (fun t => t ≠ 86) w3 (w3.setRow H ([Value.int .i32 0, .int .u32 0, .slice A1 C.room.length c1, .int .i64 (C.units.length : Int)] ++ (cells ++ zerosU (10 - ps.length))).toArray) := SameT.setRow (HE3.out.obj HH2.out) (fun t ht => ht)
  refine ⟨H, ps ++ List.replicate (10 - ps.length) (⟨false, []⟩, .slice none 0 0), _, _, rfl, ⟨setRow_heap _ _ _ _ _ _ (HE3.out.obj HH2.out), ?_, RI.same (RI.ext HO2.out.read HE3.out) (hs.mono (by rintro t rfl; decide)), by simp; omega, ?_, ?_, hHw, hcn.2⟩, below_setRow (HEW.out.trans (HE2.out.trans HE3.out)) hHw _⟩
  · exact Cells.app (hcells.same (EUV.ok _) (hs.mono (by rintro t (rfl | rfl) <;> decide))) (zerosU_cells _ _ _)
  · rw [← hpl, List.take_left', HPS.out]
    rfl
  · rw [blocksOf_app]
    have : blocksOf (List.replicate (10 - ps.length) ((⟨false, []⟩ : UnitD), (.slice none 0 0 : Value))) = [] := by
      unfold blocksOf
      rw [List.filterMap_eq_nil_iff]
      intro p hp
      rw [(List.mem_replicate.1 hp).2]
      rfl
    rw [this, List.append_nil]
    exact HND.out

end Go.Proofs.YtkdkmihgnplooaaGreat

/- The program's host, read and written. -/
namespace Go.Proofs.YtkdkmihgnplooaaGreat
open Go.RowKit
set_option maxRecDepth 4000

theorem Gr.stored {b : Nat} {w x : World} (h : Gr b w x) {g : Nat} (hg : w.heap.size ≤ g) (i : Nat) (u : Value) : Gr b w (x.setCell ⟨g, i, none⟩ u) :=
  ⟨by simpa [World.setCell] using h.os, by simpa [World.setCell] using h.tape, by simpa [World.setCell] using h.output, by simpa [World.setCell] using h.size, fun k hk hn => (Below.heap_setCell _ _ _ _ (by show k ≠ g; omega)).trans (h.block k hk hn)⟩
theorem Ext.of_gr {b : Nat} {w w' : World} (h : Gr b w w') (hb : w'.heap[b]? = w.heap[b]?) : Ext w w' :=
  ⟨h.os, h.tape, h.output, h.size, fun k hk => by
    by_cases hkb : k = b
    · subst hkb; exact hb
    · exact h.block k hk (by intro he; injection he with he; exact hkb he)⟩
section
variable {w w' : World} {H base : Nat} {C : ClusD} {ps : List (UnitD × Value)} {rv : Value} {cells : List Value} {l : Int}
theorem HostV.at (h : HostV w H base C ps rv cells l) : w.cell? ⟨H, 0, none⟩ = some (.int .i32 l) ∧ w.cell? ⟨H, 2, none⟩ = some rv ∧ w.cell? ⟨H, 3, none⟩ = some (.int .i64 (C.units.length : Int)) ∧ ∀ i, w.frozen? ⟨H, i, none⟩ = false :=
  ⟨obj_cell h.blk (i := 0) rfl, obj_cell h.blk (i := 2) rfl, obj_cell h.blk (i := 3) rfl, fun i => obj_frozen h.blk i⟩
theorem HostV.same (h : HostV w H base C ps rv cells l) (hb : w'.heap[H]? = w.heap[H]?) (hs : SameT (fun t => t = 36 ∨ t = 3) w w') : HostV w' H base C ps rv cells l :=
  ⟨hb.trans h.blk, h.cel.same (EUV.ok _) hs, RI.same h.room (hs.mono (fun _ ht => .inr ht)), h.len, h.units, h.nd, h.hi, h.n10⟩
theorem HostV.ext (h : HostV w H base C ps rv cells l) (ha : Ext w w') : HostV w' H base C ps rv cells l := h.same ((ha.obj h.blk).trans h.blk.symm) (ha.same _)
theorem HostV.unit (h : HostV w H base C ps rv cells l) {j : Nat} {x : UnitD} {v : Value} (hj : ps[j]? = some (x, v)) : w.cell? ⟨H, 4 + j * 2, none⟩ = some (.bool x.opened) ∧ w.cell? ⟨H, 4 + j * 2 + 1, none⟩ = some v ∧ OT w base v x.tasks := by
  obtain ⟨cs, hl, ⟨he, ht⟩, hc⟩ := h.cel.2 j _ hj
  have h0 := hc 0 (.bool x.opened) (by rw [he]; rfl)
  have h1 := hc 1 v (by rw [he]; rfl)
  refine ⟨obj_cell h.blk ?_, obj_cell h.blk ?_, ht⟩
  · rw [List.getElem?_toArray, List.getElem?_append_right (by show 4 ≤ _; omega), show 4 + j * 2 - ([Value.int .i32 l, .int .u32 0, rv, .int .i64 (C.units.length : Int)] : List Value).length = j * 2 + 0 by show 4 + j * 2 - 4 = _; omega]
    exact h0
  · rw [List.getElem?_toArray, List.getElem?_append_right (by show 4 ≤ _; omega), show 4 + j * 2 + 1 - ([Value.int .i32 l, .int .u32 0, rv, .int .i64 (C.units.length : Int)] : List Value).length = j * 2 + 1 by show 4 + j * 2 + 1 - 4 = _; omega]
    exact h1
theorem HostV.pair (h : HostV w H base C ps rv cells l) {j : Nat} {x : UnitD} (hj : C.units[j]? = some x) : ∃ v, ps[j]? = some (x, v) := by
  have hlt := (List.getElem?_eq_some_iff.1 hj).1
  have hu := h.units
  rw [← hu, List.getElem?_map, List.getElem?_take, if_pos hlt] at hj
  obtain ⟨⟨y, v⟩, hy, rfl⟩ := Option.map_eq_some_iff.1 hj
  exact ⟨v, hy⟩
/-- its nodes as a slice -/
theorem HostV.units_ (h : HostV w H base C ps rv cells l) : RUc w (.slice (some ⟨H, 4, none⟩) C.units.length C.units.length) C.units := by
  refine ⟨_, _, rfl, Nat.le_refl _, by have := h.n10; omega, fun j hj => ?_⟩
  obtain ⟨v, hv⟩ := h.pair (List.getElem?_eq_getElem hj)
  obtain ⟨a1, a2, a3⟩ := h.unit hv
  obtain ⟨An, cn, rfl, _, _⟩ := a3.form
  exact ⟨H, 4, C.units[j], An, cn, rfl, hid (List.getElem?_eq_getElem hj), a1, a2, a3.read⟩
/-- the lock's word is stored -/
theorem HostV.lock (h : HostV w H base C ps rv cells l) (l' : Int) : HostV (w.setCell ⟨H, 0, none⟩ (.int .i32 l')) H base C ps rv cells l' := by
  have hs : SameT (fun t => t ≠ 86) w (w.setCell ⟨H, 0, none⟩ (.int .i32 l')) := SameT.setCell (p := ⟨H, 0, none⟩) h.blk _ (fun t ht => ht)
  refine ⟨?_, h.cel.same (EUV.ok _) (hs.mono (by rintro t (rfl | rfl) <;> decide)), RI.same h.room (hs.mono (by rintro t rfl; decide)), h.len, h.units, h.nd, h.hi, h.n10⟩
  rw [obj_set h.blk 0]
  simp
/-- a node is opened or closed -/
theorem HostV.open_ (h : HostV w H base C ps rv cells l) {j : Nat} {x : UnitD} (hj : C.units[j]? = some x) (op : Bool) : ∃ ps' cells', HostV (w.setCell ⟨H, 4 + j * 2, none⟩ (.bool op)) H base ⟨C.room, C.units.set j ⟨op, x.tasks⟩⟩ ps' rv cells' l := by
  obtain ⟨v, hv⟩ := h.pair hj
  have hs : SameT (fun t => t ≠ 86) w (w.setCell ⟨H, 4 + j * 2, none⟩ (.bool op)) := SameT.setCell (p := ⟨H, 4 + j * 2, none⟩) h.blk _ (fun t ht => ht)
  have hs2 := hs.mono (T' := fun t => t = 36 ∨ t = 3) (by rintro t (rfl | rfl) <;> decide)
  have hlt := (List.getElem?_eq_some_iff.1 hj).1
  refine ⟨ps.set j (⟨op, x.tasks⟩, v), cells.set (j * 2 + 0) (.bool op), ?_, ?_, RI.same h.room (hs.mono (by rintro t rfl; decide)), by rw [List.length_set]; exact h.len, ?_, ?_, h.hi, by rw [List.length_set]; exact h.n10⟩
  · rw [obj_set h.blk (4 + j * 2)]
    simp only [List.length_set, Option.some.injEq, Obj.cells.injEq, and_true, List.setIfInBounds_toArray]
    congr 1
    rw [List.set_append_right _ _ (by show 4 ≤ _; omega), show 4 + j * 2 - ([Value.int .i32 l, .int .u32 0, rv, .int .i64 (C.units.length : Int)] : List Value).length = j * 2 + 0 by show 4 + j * 2 - 4 = _; omega]
  · exact Cells.setx (i := 0) h.cel hv (by omega) (fun k y cs _ _ hy => EUV.ok _ _ _ _ _ hy hs2) (fun cs hl ⟨he, ht⟩ => ⟨by rw [he]; rfl, ht.same ET.ok (hs2.mono (fun t ht => ht))⟩)
  · show ((ps.set j (⟨op, x.tasks⟩, v)).take (C.units.set j ⟨op, x.tasks⟩).length).map (·.1) = C.units.set j ⟨op, x.tasks⟩
    rw [List.length_set, List.take_set, List.map_set, h.units]
  · rw [blocksOf_set hv]; exact h.nd
end
theorem Below.drew_ {w : World} : Ext w w.drew := Below.drew (Below.refl _ _)

end Go.Proofs.YtkdkmihgnplooaaGreat
