/- The program's copies of tasks and of a cluster: all rows the call's own, and apart. -/
import Derived.Test.YtkdkmihgnplooaaGreatK22
import Derived.Test.YtkdkmihgnplooaaGreatK10
import Derived.Test.YtkdkmihgnplooaaGreatK11
import Derived.Test.YtkdkmihgnplooaaGreatK16
import Derived.Test.YtkdkmihgnplooaaGreatK21
import Derived.Test.YtkdkmihgnplooaaGreatK8
namespace Go.Proofs.YtkdkmihgnplooaaGreat
open Go.RowKit
set_option maxRecDepth 4000

set_option maxHeartbeats 2000000 in
theorem iCopyTasksD (v : Value) (ts : List TaskD) (w : World) (h : RT w v ts) (hl : ts.length ≤ 4000000) (hn : ∀ t ∈ ts, t.need.length ≤ 4000000) :
    Calls Tryz.prog 84 #[v] w fun e w' => ∃ v' qs, e = .returned v' ∧ ODT w' w.heap.size v' qs ∧ qs.map (·.1) = ts ∧ (needBs qs).Nodup ∧ Ext w w' := by
  obtain ⟨A, c, rfl, hc, hc', hg⟩ := RT.get h
  clear h
  obtain ⟨i0_task, hi0_task, hz0_task, hz1_task, hz2_task⟩ := info_parts info_task
  go_enter Tryz.func84, Tryz.ntmps84
  go_wp2_with (at_make; refine wpList_make_own _ rfl _ _ 48 rfl w.heap.size 36 i0_task _ 2 Tryz.underlying48 hi0_task hz0_task hz1_task _ _ _ ts.length rfl rfl rfl (by rw [hz2_task]; omega) (by unfold maxLen; omega) (by simp) ?_; intro w1 hO1 hg1; have hE1 : Ext w w1 := Below.grown (Below.refl _ _) hg1 (Nat.le_refl _) (fun k hk => by cases hk); have hO1 : ODT w1 w.heap.size _ [] := ⟨[], hO1, Cells.nil_ _ _ _⟩; have HO1 := hid hO1; have HE1 := hid hE1; clear hO1 hE1 hg1)
  go_loopw [3, 11] (fun s i wr => ∃ (u : Value) (k : Nat) (qs : List (TaskD × Value)), u = s ∧ k ≤ ts.length ∧ i = .int .i64 k ∧ Hid (ODT wr w.heap.size u qs ∧ qs.map (·.1) = ts.take k ∧ (needBs qs).Nodup ∧ Ext w wr)) (fun _ i _ => ts.length - (intOf i).toNat)
  case atStart => exact ⟨_, 0, [], rfl, Nat.zero_le _, rfl, hid ⟨HO1.out, rfl, by simp [needBs], HE1.out⟩⟩
  case round =>
    obtain ⟨u, k, qs, hu, hk, rfl, H⟩ := hrel
    subst hu
    by_cases hlt : k < ts.length
    · obtain ⟨b, o, x, An, cn, rfl, e, c1, c2, hnx⟩ := hg k hlt
      have i1 : (k : Int) < (ts.length : Int) := by omega
      have HE := hid H.out.2.2.2
      have c1r := HE.out.cell c1
      have c2r := HE.out.cell c2
      have hsz := HE.out.size
      have HN := hid (RI.ext hnx HE.out)
      have HXL := hid (hn x (List.mem_of_getElem? e.out))
      have HQL : Hid (qs.length ≤ k) := hid (by have := congrArg List.length H.out.2.1; rw [List.length_map, List.length_take] at this; omega)
      have HBL := hid (ODT.lt H.out.1)
      obtain ⟨O, hO⟩ : ∃ O : Obj, O = .cells #[.int .i64 x.id, .slice An x.need.length cn] 36 := ⟨_, rfl⟩
      have hbx : (wr.alloc O).heap[wr.heap.size]? = some O := heap_alloc_new wr _
      rw [hO] at hbx
      have q0 := obj_cell hbx (i := 0) rfl
      have q1 := obj_cell hbx (i := 1) rfl
      rw [← hO] at q0 q1
      have HEO := hid (Ext.alloc wr O)
      subst hO
      clear c1 c2 hnx hbx
      go_wp2_with (first
        | (go_at_call 53; refine (iTaskCopy _ x _ ⟨_, rfl, RI.ext HN.out HEO.out⟩ HXL.out).mono ?_; rintro e2 w2 ⟨A2, c2, rfl, hO2, hE2⟩; have hEa := (HEO.out.trans hE2).trans (Ext.alloc w2 (.cells #[.int .i64 x.id, .slice A2 x.need.length c2] 36)); have HV := hid (Own.ext (EDT.ok _) H.out.1 hEa); have HF2 := hid (fun a (ha : (Value.slice A2 x.need.length c2).ownBlock = some a) => Nat.le_trans HEO.out.size (Own.lt hO2 a ha).1); have HR2 := hid (Own.ext EI.ok (Own.low (base' := w.heap.size) hO2 (Nat.le_trans HE.out.size HEO.out.size)) (Ext.alloc w2 (.cells #[.int .i64 x.id, .slice A2 x.need.length c2] 36))); have HEa := hid (HE.out.trans hEa); have hsz2 := HEa.out.size; clear hO2 hE2 hEa)
        | (at_builtin; refine wpList_append_sl _ (by rfl) _ _ 48 (by rfl) (EDT.ok _) (EDT.flat _) (w.heap.size) 36 EDT.ne i0_task _ 2 32 Tryz.underlying48 hi0_task hz0_task hz1_task hz2_task rfl (by omega) _ (by rfl) _ (HV.out) _ (by rfl) _ (RSl.laid (cs := [.int .i64 x.id, .slice A2 x.need.length c2]) (x := (x, .slice A2 x.need.length c2)) (heap_alloc_new _ _) rfl ⟨rfl, HR2.out⟩) (by have := HQL.out; simp; omega) (by have := HQL.out; simp; omega) ?_ ?_; (focus (first | exact Nat.le_refl _ | (simp; done) | (simp; omega) | omega)); intro v3 w3 hO3 hg3 hat3 hs3; have HO3 := hid hO3; have HE3 := hid (Ext.grown HEa.out hg3 HV.out.lt); clear hO3 hg3 hat3 hs3))
      go_roundw
      case rel => exact ⟨_, k + 1, qs ++ [(x, .slice A2 x.need.length c2)], rfl, by omega, by go_num, hid ⟨HO3.out, by rw [List.map_append, H.out.2.1, take_snoc e.out]; rfl, by rw [needBs_app, needBs_one]; exact nodup_fresh H.out.2.2.1 (optList_nodup _) (fun a ha => (HBL.out a ha).2) (fun a ha => HF2.out a (by simpa using ha)), HE3.out⟩⟩
      case measure => simp [intOf]; omega
    · go_wp2
      go_ret
      have hk' : k = ts.length := by omega
      have hm := H.out.2.1
      rw [hk', List.take_length] at hm
      exact ⟨_, qs, rfl, H.out.1, hm, H.out.2.2.1, H.out.2.2.2⟩

set_option maxHeartbeats 4000000 in
theorem iCopyOfD (rv uv : Value) (C : ClusD) (w : World) (hr : RI w rv C.room) (hu : RUc w uv C.units) (hl : C.units.length ≤ 4000000) (hlr : C.room.length ≤ 4000000) (hlt : ∀ u ∈ C.units, u.tasks.length ≤ 4000000 ∧ ∀ t ∈ u.tasks, t.need.length ≤ 4000000) :
    Calls Tryz.prog 69 #[.agg #[rv, uv]] w fun e w' => ∃ v', e = .returned v' ∧ DCl w' w.heap.size v' C ∧ Ext w w' := by
  obtain ⟨A, c, rfl, hc, hc', hg⟩ := hu
  have hr0 := hr
  obtain ⟨Ar, cr, rfl, _⟩ := hr
  obtain ⟨O1, hO1⟩ : ∃ O1 : Obj, O1 = .cells #[.slice Ar C.room.length cr, .slice A C.units.length c] 32 := ⟨_, rfl⟩
  obtain ⟨O2, hO2⟩ : ∃ O2 : Obj, O2 = .cells #[.slice none 0 0, .slice none 0 0] 32 := ⟨_, rfl⟩
  obtain ⟨W, hW⟩ : ∃ W, W = (w.alloc O1).alloc O2 := ⟨_, rfl⟩
  have hEW : Ext w W := by rw [hW]; exact (Ext.alloc _ _).trans (Ext.alloc _ _)
  have hb1 : W.heap[w.heap.size]? = some O1 := by rw [hW]; exact (Ext.alloc _ _).obj (heap_alloc_new _ _)
  have hb2 : W.heap[w.heap.size + 1]? = some O2 := by rw [hW]; exact heap_new (by simp)
  have hzW : w.heap.size + 1 < W.heap.size := obj_lt hb2
  subst hO1 hO2
  have HR := hid (RI.ext hr0 hEW)
  have HEW := hid hEW
  have HB1 := hid hb1
  have HB2 := hid hb2
  have hb0 := obj_cell hb1 (i := 0) rfl
  clear hr0 hEW hb1 hb2
  obtain ⟨i0_unit, hi0_unit, hz0_unit, hz1_unit, hz2_unit⟩ := info_parts info_unit
  go_enter Tryz.func69, Tryz.ntmps69
  go_wp2_with (go_at_call 68; rw [← hW]; refine (iClone _ C.room _ HR.out hlr).mono ?_; rintro e w1 ⟨v1, rfl, hO1, hE1⟩; obtain ⟨A1, c1x, rfl, _, _⟩ := hO1.form; have HO1 := hid (Own.low (base' := w.heap.size) hO1 HEW.out.size); have HE1 := hid hE1; have hbx1 := obj_cell (hE1.obj HB1.out) (i := 1) rfl; have hbx := (Ext.alloc w1 (.cells #[.slice A1 C.room.length c1x, .slice none 0 0] 32)).cell hbx1; obtain ⟨y0, y1, y0f, y1f, k1, k1f, hkk, _⟩ := box2 (heap_alloc_new w1 (.cells #[.slice none 0 0, .slice none 0 0] 32)) (.slice A1 C.room.length c1x) (.slice none 0 0); clear hkk hO1 hE1 hb0 hbx1 hW)
  go_loopw [13] (fun i wr => ∃ (k : Nat) (u : Value) (us : List UnitW), k ≤ C.units.length ∧ i = .int .i64 k ∧ Hid (ODU wr w.heap.size u us ∧ us.map UnitW.d = C.units.take k ∧ (taskBs us).Nodup ∧ ((Value.slice A1 C.room.length c1x).ownBlock.toList ++ intBs us).Nodup ∧ Ext w wr ∧ OI wr w.heap.size (.slice A1 C.room.length c1x) C.room ∧
      wr.heap[w.heap.size + 1]? = some (.cells #[.slice none 0 0, .slice none 0 0] 32 (0, 0)) ∧ wr.heap[w1.heap.size]? = some (.cells #[.slice A1 C.room.length c1x, u] 32 (0, 0)) ∧ w.heap.size + 1 < w1.heap.size)) (fun i _ => C.units.length - (intOf i).toNat)
  case atStart =>
    have hx : Ext w1 (w1.alloc (.cells #[.slice A1 C.room.length c1x, .slice none 0 0] 32)) := Ext.alloc _ _
    have hz := HE1.out.size
    exact ⟨0, _, [], Nat.zero_le _, rfl, hid ⟨Own.none_ _ _ _ _ _, by simp, by simp [taskBs], by rw [show intBs [] = [] from rfl, List.append_nil]; exact optList_nodup _, (HEW.out.trans HE1.out).trans hx, Own.ext EI.ok HO1.out hx, hx.obj (HE1.out.obj HB2.out), heap_alloc_new _ _, by omega⟩⟩
  case round =>
    obtain ⟨k, u, us, hk, rfl, H⟩ := hrel
    obtain ⟨hO, hps, hnd, hni, hE, hRo, hob2, hob3, hlt1⟩ := H.out
    obtain ⟨Au, cu, rfl, hcu, hcu'⟩ := hO.form
    have hlps : us.length = k := by
      have := congrArg List.length hps
      rw [List.length_map, List.length_take] at this
      omega
    by_cases hltk : k < C.units.length
    · obtain ⟨b, o, x, An, cn, rfl, e, c1, c2, hnx⟩ := hg k hltk
      have i1 : (k : Int) < (C.units.length : Int) := by omega
      have i0 : (0 : Int) ≤ (k : Int) := by omega
      have c1r := hE.cell c1
      have c2r := hE.cell c2
      have HN := hid (RT.ext hnx hE)
      have HLT := hid (hlt x (List.mem_of_getElem? e.out))
      have HP := hid hlps
      have HPS := hid hps
      have HND := hid hnd
      have HNI := hid hni
      have HE := hid hE
      have HRo := hid hRo
      have Hob2 := hid hob2
      have Hob3 := hid hob3
      have HO := hid hO
      have HBT := hid (ODU.tlt hO)
      have HBI := hid (ODU.ilt hO)
      have HBR := hid (fun a (ha : (Value.slice A1 C.room.length c1x).ownBlock = some a) => (Own.lt hRo a ha).2)
      obtain ⟨y0, y1, y0f, y1f, k1, k1f, hkk, _⟩ := box2 (heap_alloc_new wr (.cells #[.bool false, .slice none 0 0] 66)) (.bool x.opened) (.slice An x.tasks.length cn)
      clear c1 c2 hnx hlps hps hnd hni hE hRo hob2 hob3 hO hkk H
      go_wp2
      obtain ⟨W5, hW5⟩ : ∃ W5, W5 = wr.alloc (.cells #[.bool x.opened, .slice An x.tasks.length cn] 66) := ⟨_, rfl⟩
      have hE5 : Ext wr W5 := by rw [hW5]; exact Ext.alloc _ _
      have hub : W5.heap[wr.heap.size]? = some (.cells #[.bool x.opened, .slice An x.tasks.length cn] 66 (0, 0)) := by rw [hW5]; exact heap_alloc_new _ _
      rw [← hW5]
      clear hW5 y0 y1 y0f y1f k1 k1f c1r c2r
      have KS : Hid (∀ w', Ext W5 w' → w'.cell? ⟨w1.heap.size, 1, none⟩ = some (.slice Au us.length cu) ∧ w'.cell? ⟨wr.heap.size, 0, none⟩ = some (.bool x.opened) ∧ w'.cell? ⟨wr.heap.size, 1, none⟩ = some (.slice An x.tasks.length cn)) :=
        hid fun w' hw => ⟨obj_cell (hw.obj (hE5.obj Hob3.out)) (i := 1) rfl, obj_cell (hw.obj hub) (i := 0) rfl, obj_cell (hw.obj hub) (i := 1) rfl⟩
      have HE5 := hid hE5
      clear hE5 hub
      have HD5 : Hid (Ext W5 W5.drew) := hid (Below.drew (Below.refl _ _))
      refine WG.start (fun w' => w'.cell? ⟨w1.heap.size, 1, none⟩ = some (.slice Au us.length cu) ∧ w'.cell? ⟨wr.heap.size, 0, none⟩ = some (.bool x.opened) ∧ w'.cell? ⟨wr.heap.size, 1, none⟩ = some (.slice An x.tasks.length cn)) [9,10,11] (by kernel_rfl) (by exact KS.out _ HD5.out) (fun hHeld => ?_)
      (refine WG.take (i := 0) (v := ?_) rfl (by kernel_rfl) (by kernel_rfl) (by kernel_rfl) (by kernel_rfl) (fun _ _ _ h => h) (Or.inl ⟨by rfl, ?_⟩) (by assumption) ?_; rotate_left; (intro w hSw; (try dsimp only at hSw); go_split_ands; go_simp; (try with_reducible rfl)); (try simp only [Act.put, List.setIfInBounds_toArray, List.set_cons_zero, List.set_cons_succ]))
      (refine WG.take (i := 1) (v := ?_) rfl (by kernel_rfl) (by kernel_rfl) (by kernel_rfl) (by kernel_rfl) (fun _ _ _ h => h) (Or.inl ⟨by rfl, ?_⟩) (by assumption) ?_; rotate_left; (intro w hSw; (try dsimp only at hSw); go_split_ands; go_simp; (try with_reducible rfl)); (try simp only [Act.put, List.setIfInBounds_toArray, List.set_cons_zero, List.set_cons_succ]))
      (refine WG.take (i := 2) (v := ?_) rfl (by kernel_rfl) (by kernel_rfl) (by kernel_rfl) (by kernel_rfl) (fun _ _ _ h => h) (Or.inl ⟨by rfl, ?_⟩) (by assumption) ?_; rotate_left; (intro w hSw; (try dsimp only at hSw); go_split_ands; go_simp; (try with_reducible rfl)); (try simp only [Act.put, List.setIfInBounds_toArray, List.set_cons_zero, List.set_cons_succ]))
      (refine WG.take (i := 3) (v := ?_) rfl (by kernel_rfl) (by kernel_rfl) (by kernel_rfl) (by kernel_rfl) (fun _ _ _ h => h) (Or.inl ⟨by rfl, ?_⟩) (by assumption) ?_; rotate_left; (intro w hSw; (try dsimp only at hSw); go_split_ands; go_simp; (try with_reducible rfl)); (try simp only [Act.put, List.setIfInBounds_toArray, List.set_cons_zero, List.set_cons_succ]))
      (refine WG.take (i := 4) (v := ?_) rfl (by kernel_rfl) (by kernel_rfl) (by kernel_rfl) (by kernel_rfl) (fun _ _ _ h => h) (Or.inl ⟨by rfl, ?_⟩) (by assumption) ?_; rotate_left; (intro w hSw; (try dsimp only at hSw); go_split_ands; go_simp; (try with_reducible rfl)); (try simp only [Act.put, List.setIfInBounds_toArray, List.set_cons_zero, List.set_cons_succ]))
      (refine WG.take (i := 5) (v := ?_) rfl (by kernel_rfl) (by kernel_rfl) (by kernel_rfl) (by kernel_rfl) (fun _ _ _ h => h) (Or.inl ⟨by rfl, ?_⟩) (by assumption) ?_; rotate_left; (intro w hSw; (try dsimp only at hSw); go_split_ands; go_simp; (try with_reducible rfl)); (try simp only [Act.put, List.setIfInBounds_toArray, List.set_cons_zero, List.set_cons_succ]))
      refine WG.one (i := 6) rfl (by kernel_rfl) (fun K hK => ?_)
      go_simp; refine (iCopyTasksD _ x.tasks _ (HN.out.ext (HE5.out.trans HD5.out)) HLT.out.1 HLT.out.2).mono ?_; rintro e1 w2 ⟨tv, qs, rfl, htv, hqm, hqn, hEt⟩; have hEr : Ext W5 w2 := Ext.trans (Below.drew (Below.refl _ _)) hEt; obtain ⟨At, ct, htf, hct, hct'⟩ := htv.form; have hql : qs.length = x.tasks.length := (by rw [← hqm, List.length_map]); rw [hql] at htf; subst htf; clear hql; have HTV := hid htv; have HQM := hid hqm; have HQN := hid hqn; have HEr := hid hEr; clear htv hqm hqn hEr hEt; (try dsimp only)
      refine hK.out _ _ (by exact KS.out _ HEr.out) (fun hHeld => ?_)
      clear hK K
      (try simp only [Act.put, List.setIfInBounds_toArray, List.set_cons_zero, List.set_cons_succ])
      (refine WG.take (i := 7) (v := ?_) rfl (by kernel_rfl) (by kernel_rfl) (by kernel_rfl) (by kernel_rfl) (fun _ _ _ h => h) (Or.inl ⟨by rfl, ?_⟩) (by assumption) ?_; rotate_left; (intro w hSw; (try dsimp only at hSw); go_split_ands; go_simp; (try with_reducible rfl)); (try simp only [Act.put, List.setIfInBounds_toArray, List.set_cons_zero, List.set_cons_succ]))
      refine WG.one (i := 8) rfl (by kernel_rfl) (fun K hK => ?_)
      go_simp
      refine hK.out _ _ (by exact KS.out _ (HEr.out.trans (Ext.alloc _ _))) (fun hHeld => ?_)
      clear hK K
      (try simp only [Act.put, List.setIfInBounds_toArray, List.set_cons_zero, List.set_cons_succ])
      have hEa := (HE5.out.trans HEr.out).trans (Ext.alloc w2 (.cells #[.bool x.opened, .slice At x.tasks.length ct] 66))
      have HEa := hid hEa
      have hsza : w.heap.size ≤ w2.heap.size := (HE.out.trans (HE5.out.trans HEr.out)).size
      have HV1 := hid (HO.out.ext (EDU.ok _) hEa)
      have HT1 := hid (ODT.low (Own.ext (EDT.ok _) HTV.out (Ext.alloc w2 (.cells #[.bool x.opened, .slice At x.tasks.length ct] 66))) (show w.heap.size ≤ W5.drew.heap.size from (HE.out.trans HE5.out).size))
      have HTN : Hid (∀ g, (Value.slice At x.tasks.length ct).ownBlock = some g → wr.heap.size ≤ g) := hid fun g hg => Nat.le_trans HE5.out.size (Own.lt HTV.out g hg).1
      have HTI : Hid (∀ g ∈ needBs qs, wr.heap.size ≤ g) := hid fun g hg => Nat.le_trans HE5.out.size (ODT.lt HTV.out g hg).1
      clear hEa
      refine WG.last (i := 9) rfl (by kernel_rfl) (by kernel_rfl) (fun K hK => ?_)
      refine step_append_sl _ (by rfl) _ _ 30 (by rfl) (EDU.ok _) (EDU.flat _) (w.heap.size) 66 EDU.ne i0_unit _ 2 32 Tryz.underlying30 hi0_unit hz0_unit hz1_unit hz2_unit rfl (by omega) _ (by rfl) _ (HV1.out) _ (by rfl) _ (RSl.laid (cs := [.bool x.opened, .slice At x.tasks.length ct]) (x := (⟨x.opened, .slice At x.tasks.length ct, qs⟩ : UnitW)) (heap_alloc_new _ _) rfl ⟨rfl, HT1.out⟩) (by have := HP.out; simp; omega) (by have := HP.out; simp; omega) ?_ ?_; (focus (first | exact Nat.le_refl _ | (simp; done) | (simp; omega) | omega)); intro v3 w3 hO3 hg3 hat3 hs3; obtain ⟨A3, c3, rfl, hc3, hc3'⟩ := hO3.form_app; have hE3 : Ext w w3 := Ext.grown (HE.out.trans HEa.out) hg3 HV1.out.lt; have ho2 := hs3 _ _ _ _ (by decide) (HEa.out.obj Hob2.out); have ho3 := hs3 _ _ _ _ (by decide) (HEa.out.obj Hob3.out)
      refine hK.out _ _ ?_
      clear hK K
      (try simp only [Act.put, List.setIfInBounds_toArray, List.set_cons_zero, List.set_cons_succ])
      have co3 := obj_cell ho3 (i := 1) rfl
      have fo3 := obj_frozen ho3 1
      (refine WG.takeP (i := 10) (v := ?_) rfl (by kernel_rfl) (by kernel_rfl) (by kernel_rfl) (by kernel_rfl) (fun _ _ _ h => h) (Or.inl ⟨by rfl, ?_⟩) ?_; rotate_left; (intro w hSw; clear hSw; go_simp; (try with_reducible rfl)); (try simp only [Act.put, List.setIfInBounds_toArray, List.set_cons_zero, List.set_cons_succ]))
      refine WG.last (i := 11) rfl (by kernel_rfl) (by kernel_rfl) (fun K hK => ?_)
      go_simp
      refine hK.out _ _ ?_
      clear hK K
      (try simp only [Act.put, List.setIfInBounds_toArray, List.set_cons_zero, List.set_cons_succ])
      refine WG.done (by kernel_rfl) ?_
      go_wp2
      go_roundw
      case rel =>
        have hsx : SameT (fun t => t ≠ 32) w3 (w3.setCell ⟨w1.heap.size, 1, none⟩ (Value.slice A3 (us.length + 1) c3)) := SameT.setCell (p := ⟨w1.heap.size, 1, none⟩) ho3 _ (fun t ht => ht)
        have hsI : SameT (fun t => t = 3) w3 (w3.setCell ⟨w1.heap.size, 1, none⟩ (Value.slice A3 (us.length + 1) c3)) := hsx.mono (by rintro t rfl; decide)
        refine ⟨k + 1, Value.slice A3 (us.length + 1) c3, us ++ [⟨x.opened, Value.slice At x.tasks.length ct, qs⟩], by omega, by go_num, hid ⟨?_, ?_, ?_, ?_, ?_, ?_, ?_, ?_, hlt1⟩⟩
        · exact Own.same (EDU.ok _) hO3 (hsx.mono notClu)
        · rw [List.map_append, HPS.out, take_snoc e.out]
          show _ ++ [(⟨x.opened, qs.map (·.1)⟩ : UnitD)] = _
          rw [HQM.out]
        · rw [taskBs_app, taskBs_one]
          exact nodup_fresh HND.out (optList_nodup _) (fun a ha => (HBT.out a ha).2) (fun a ha => HTN.out a (by simpa using ha))
        · rw [intBs_app, intBs_one, ← List.append_assoc]
          exact nodup_fresh HNI.out HQN.out (fun a ha => by
            rcases List.mem_append.1 ha with ha | ha
            · exact HBR.out a (by simpa using ha)
            · exact (HBI.out a ha).2) HTI.out
        · exact Below.setCell hE3 (by show w.heap.size ≤ w1.heap.size; omega) _
        · exact Own.same EI.ok (Own.ext EI.ok HRo.out HEa.out) (((hs3.mono (by rintro t rfl; decide)).trans hsI).mono (by rintro t (rfl | h) <;> first | rfl | exact h.elim))
        · exact obj_far ho2 (by show w.heap.size + 1 ≠ w1.heap.size; omega) _
        · exact obj_set ho3 1 _
      case measure => simp [intOf]; omega
    · have hk' : k = C.units.length := by omega
      obtain ⟨e0, e1, y0, y1, y0f, y1f, k1, k1f, r0, r1, hsm⟩ := res2 hob2 hob3
      have HSM := hid hsm
      have HO := hid hO
      have HP := hid hps
      have HRo := hid hRo
      have HK := hid hk'
      have HND := hid hnd
      have HNI := hid hni
      have HE := hid hE
      clear hob2 hob3 hO hps hRo hk' hlps hnd hni hE H hsm
      go_wp2
      refine bodyPost_ret (v := .agg #[.slice A1 C.room.length c1x, .slice Au us.length cu]) (by simp [results, Tryz.results69, go_sem, r0, r1]) rfl ⟨_, rfl, ⟨_, _, us, rfl, Own.same EI.ok HRo.out (HSM.out _ (by rintro t (rfl | h) <;> first | decide | exact h.elim)), Own.same (EDU.ok _) HO.out (HSM.out _ notClu), by rw [HP.out, HK.out, List.take_length], HND.out, HNI.out⟩, Below.setCell (Below.setCell HE.out (Nat.le_succ _) _) (Nat.le_succ _) _⟩
end Go.Proofs.YtkdkmihgnplooaaGreat

/- The program's host hands its cluster out: all rows its own. -/
namespace Go.Proofs.YtkdkmihgnplooaaGreat
open Go.RowKit Go.MuLone

def RetDC (w : World) (r : ClusD × Int) (e : Ending) (w' : World) : Prop := ∃ cv, e = .returned (.tuple #[cv, .int .i64 r.2]) ∧ DCl w' w.heap.size cv r.1 ∧ Ext w w'

theorem iHostClusterD (H base : Nat) (C : ClusD) (ps : List (UnitD × Value)) (rv : Value) (cells : List Value) (w : World) (h : HostV w H base C ps rv cells 0) (hs : SmallC C) :
    Calls Tryz.prog 46 #[.pointer (some ⟨H, 0, none⟩)] w fun e w' => ∃ v', e = .returned v' ∧ DCl w' w.heap.size v' C ∧ Ext w w' := by
  have hr := h.room
  obtain ⟨Ar, cr, rfl, _⟩ := hr
  have hHw : H < w.heap.size := obj_lt h.blk
  obtain ⟨W, hW⟩ : ∃ W, W = w.alloc (.cells #[.slice none 0 0, .slice none 0 0] 32) := ⟨_, rfl⟩
  have hEW : Ext w W := by rw [hW]; exact Ext.alloc _ _
  have hz : W.heap[w.heap.size]? = some (.cells #[.slice none 0 0, .slice none 0 0] 32 (0, 0)) := by rw [hW]; exact heap_alloc_new _ _
  have HW := hid (h.ext hEW)
  have c0 := HW.out.at.1
  have f0 := HW.out.at.2.2.2 0
  have H1 := hid (HW.out.lock 1)
  have HG1 := hid ((Gr.of_ext (b := H) hEW).trans (Gr.setCell W H 0 (.int .i32 1)))
  have Z1 := hid (obj_far hz (p := ⟨H, 0, none⟩) (by show w.heap.size ≠ H; omega) (.int .i32 1))
  have HB := hid h.blk
  have hn10 := h.n10
  have HSM := hid hs
  have HLEN := hid (show C.room.length ≤ 4000000 ∧ ∀ u ∈ C.units, u.tasks.length ≤ 4000000 ∧ ∀ t ∈ u.tasks, t.need.length ≤ 4000000 from ⟨by have := hs.room; omega, fun u hu => ⟨by have := (hs.tasks u hu).1; omega, fun t ht => by have := ((hs.tasks u hu).2 t ht).1; omega⟩⟩)
  clear h hz hEW hs
  go_enter_defers Tryz.func46, Tryz.ntmps46
  go_wp2_with (go_at_call 47; rw [← hW]; refine (lock_free muLib ⟨H, 0, none⟩ _ c0 f0).mono ?_; rintro e w1 ⟨rfl, rfl⟩; clear hW)
  obtain ⟨W1, hW1⟩ : ∃ W1, W1 = W.setCell ⟨H, 0, none⟩ (.int .i32 1) := ⟨_, rfl⟩
  rw [← hW1] at H1 HG1 Z1 ⊢
  clear hW1 c0 f0 HW
  have KS : Hid (∀ w', Ext W1 w' → w'.cell? ⟨H, 2, none⟩ = some (.slice Ar C.room.length cr) ∧ w'.cell? ⟨H, 3, none⟩ = some (.int .i64 (C.units.length : Int))) := hid fun w' hw => ⟨(H1.out.ext hw).at.2.1, (H1.out.ext hw).at.2.2.1⟩
  have HD : Hid (Ext W1 W1.drew) := hid (Below.drew (Below.refl _ _))
  have i10 : (C.units.length : Int) ≤ 10 := by omega
  have hz1 : w.heap.size < W1.heap.size := obj_lt Z1.out
  refine wp_region_noPanic ?_
  refine WG.start (fun w' => w'.cell? ⟨H, 2, none⟩ = some (.slice Ar C.room.length cr) ∧ w'.cell? ⟨H, 3, none⟩ = some (.int .i64 (C.units.length : Int))) [17,18] (by kernel_rfl) (by exact KS.out _ HD.out) (fun hHeld => ?_)
  (refine WG.take (i := 0) (v := ?_) rfl (by kernel_rfl) (by kernel_rfl) (by kernel_rfl) (by kernel_rfl) (fun _ _ _ h => h) (Or.inl ⟨by rfl, ?_⟩) (by assumption) ?_; rotate_left; (intro w hSw; (try dsimp only at hSw); go_split_ands; go_simp; (try with_reducible rfl)); (try simp only [Act.put, List.setIfInBounds_toArray, List.set_cons_zero, List.set_cons_succ]))
  (refine WG.take (i := 1) (v := ?_) rfl (by kernel_rfl) (by kernel_rfl) (by kernel_rfl) (by kernel_rfl) (fun _ _ _ h => h) (Or.inl ⟨by rfl, ?_⟩) (by assumption) ?_; rotate_left; (intro w hSw; (try dsimp only at hSw); go_split_ands; go_simp; (try with_reducible rfl)); (try simp only [Act.put, List.setIfInBounds_toArray, List.set_cons_zero, List.set_cons_succ]))
  (refine WG.take (i := 2) (v := ?_) rfl (by kernel_rfl) (by kernel_rfl) (by kernel_rfl) (by kernel_rfl) (fun _ _ _ h => h) (Or.inl ⟨by rfl, ?_⟩) (by assumption) ?_; rotate_left; (intro w hSw; (try dsimp only at hSw); go_split_ands; go_simp; (try with_reducible rfl)); (try simp only [Act.put, List.setIfInBounds_toArray, List.set_cons_zero, List.set_cons_succ]))
  (refine WG.take (i := 3) (v := ?_) rfl (by kernel_rfl) (by kernel_rfl) (by kernel_rfl) (by kernel_rfl) (fun _ _ _ h => h) (Or.inl ⟨by rfl, ?_⟩) (by assumption) ?_; rotate_left; (intro w hSw; (try dsimp only at hSw); go_split_ands; go_simp; (try with_reducible rfl)); (try simp only [Act.put, List.setIfInBounds_toArray, List.set_cons_zero, List.set_cons_succ]))
  (refine WG.take (i := 4) (v := ?_) rfl (by kernel_rfl) (by kernel_rfl) (by kernel_rfl) (by kernel_rfl) (fun _ _ _ h => h) (Or.inl ⟨by rfl, ?_⟩) (by assumption) ?_; rotate_left; (intro w hSw; (try dsimp only at hSw); go_split_ands; go_simp; (try with_reducible rfl)); (try simp only [Act.put, List.setIfInBounds_toArray, List.set_cons_zero, List.set_cons_succ]))
  (refine WG.take (i := 5) (v := ?_) rfl (by kernel_rfl) (by kernel_rfl) (by kernel_rfl) (by kernel_rfl) (fun _ _ _ h => h) (Or.inl ⟨by rfl, ?_⟩) (by assumption) ?_; rotate_left; (intro w hSw; (try dsimp only at hSw); go_split_ands; go_simp; (try with_reducible rfl)); (try simp only [Act.put, List.setIfInBounds_toArray, List.set_cons_zero, List.set_cons_succ]))
  (refine WG.take (i := 6) (v := ?_) rfl (by kernel_rfl) (by kernel_rfl) (by kernel_rfl) (by kernel_rfl) (fun _ _ _ h => h) (Or.inl ⟨by rfl, ?_⟩) (by assumption) ?_; rotate_left; (intro w hSw; (try dsimp only at hSw); go_split_ands; go_simp; (try with_reducible rfl)); (try simp only [Act.put, List.setIfInBounds_toArray, List.set_cons_zero, List.set_cons_succ]))
  (refine WG.take (i := 7) (v := ?_) rfl (by kernel_rfl) (by kernel_rfl) (by kernel_rfl) (by kernel_rfl) (fun _ _ _ h => h) (Or.inl ⟨by rfl, ?_⟩) (by assumption) ?_; rotate_left; (intro w hSw; (try dsimp only at hSw); go_split_ands; go_simp; (try with_reducible rfl)); (try simp only [Act.put, List.setIfInBounds_toArray, List.set_cons_zero, List.set_cons_succ]))
  (refine WG.take (i := 8) (v := ?_) rfl (by kernel_rfl) (by kernel_rfl) (by kernel_rfl) (by kernel_rfl) (fun _ _ _ h => h) (Or.inl ⟨by rfl, ?_⟩) (by assumption) ?_; rotate_left; (intro w hSw; (try dsimp only at hSw); go_split_ands; go_simp; (try with_reducible rfl)); (try simp only [Act.put, List.setIfInBounds_toArray, List.set_cons_zero, List.set_cons_succ]))
  (refine WG.take (i := 9) (v := ?_) rfl (by kernel_rfl) (by kernel_rfl) (by kernel_rfl) (by kernel_rfl) (fun _ _ _ h => h) (Or.inl ⟨by rfl, ?_⟩) (by assumption) ?_; rotate_left; (intro w hSw; (try dsimp only at hSw); go_split_ands; go_simp; (try with_reducible rfl)); (try simp only [Act.put, List.setIfInBounds_toArray, List.set_cons_zero, List.set_cons_succ]))
  (refine WG.take (i := 10) (v := ?_) rfl (by kernel_rfl) (by kernel_rfl) (by kernel_rfl) (by kernel_rfl) (fun _ _ _ h => h) (Or.inl ⟨by rfl, ?_⟩) (by assumption) ?_; rotate_left; (intro w hSw; (try dsimp only at hSw); go_split_ands; go_simp; (try with_reducible rfl)); (try simp only [Act.put, List.setIfInBounds_toArray, List.set_cons_zero, List.set_cons_succ]))
  (refine WG.take (i := 11) (v := ?_) rfl (by kernel_rfl) (by kernel_rfl) (by kernel_rfl) (by kernel_rfl) (fun _ _ _ h => h) (Or.inl ⟨by rfl, ?_⟩) (by assumption) ?_; rotate_left; (intro w hSw; (try dsimp only at hSw); go_split_ands; go_simp; (try with_reducible rfl)); (try simp only [Act.put, List.setIfInBounds_toArray, List.set_cons_zero, List.set_cons_succ]))
  (refine WG.take (i := 12) (v := ?_) rfl (by kernel_rfl) (by kernel_rfl) (by kernel_rfl) (by kernel_rfl) (fun _ _ _ h => h) (Or.inl ⟨by rfl, ?_⟩) (by assumption) ?_; rotate_left; (intro w hSw; (try dsimp only at hSw); go_split_ands; go_simp; (try with_reducible rfl)); (try simp only [Act.put, List.setIfInBounds_toArray, List.set_cons_zero, List.set_cons_succ]))
  (refine WG.take (i := 13) (v := ?_) rfl (by kernel_rfl) (by kernel_rfl) (by kernel_rfl) (by kernel_rfl) (fun _ _ _ h => h) (Or.inl ⟨by rfl, ?_⟩) (by assumption) ?_; rotate_left; (intro w hSw; (try dsimp only at hSw); go_split_ands; go_simp; (try with_reducible rfl)); (try simp only [Act.put, List.setIfInBounds_toArray, List.set_cons_zero, List.set_cons_succ]))
  (refine WG.take (i := 14) (v := ?_) rfl (by kernel_rfl) (by kernel_rfl) (by kernel_rfl) (by kernel_rfl) (fun _ _ _ h => h) (Or.inl ⟨by rfl, ?_⟩) (by assumption) ?_; rotate_left; (intro w hSw; (try dsimp only at hSw); go_split_ands; go_simp; (try with_reducible rfl)); (try simp only [Act.put, List.setIfInBounds_toArray, List.set_cons_zero, List.set_cons_succ]))
  (refine WG.take (i := 15) (v := ?_) rfl (by kernel_rfl) (by kernel_rfl) (by kernel_rfl) (by kernel_rfl) (fun _ _ _ h => h) (Or.inl ⟨by rfl, ?_⟩) (by assumption) ?_; rotate_left; (intro w hSw; (try dsimp only at hSw); go_split_ands; go_simp; (try with_reducible rfl)); (try simp only [Act.put, List.setIfInBounds_toArray, List.set_cons_zero, List.set_cons_succ]))
  (refine WG.take (i := 16) (v := ?_) rfl (by kernel_rfl) (by kernel_rfl) (by kernel_rfl) (by kernel_rfl) (fun _ _ _ h => h) (Or.inl ⟨by rfl, ?_⟩) (by assumption) ?_; rotate_left; (intro w hSw; (try dsimp only at hSw); go_split_ands; go_simp; (try with_reducible rfl)); (try simp only [Act.put, List.setIfInBounds_toArray, List.set_cons_zero, List.set_cons_succ]))
  refine WG.last (i := 17) rfl (by kernel_rfl) (by kernel_rfl) (fun K hK => ?_)
  go_simp; refine (iCopyOfD _ _ C _ (RI.ext H1.out.room HD.out) ((H1.out.ext HD.out).units_) HSM.out.len HLEN.out.1 HLEN.out.2).mono ?_; rintro e w3 ⟨v3, rfl, hO3, hE3⟩; have hE3 : Ext W1 w3 := Ext.trans HD.out hE3; obtain ⟨A3, c3, B3, d3, rfl⟩ := hO3.form; have HO3 := hid (hO3.low (base' := w.heap.size) (by show w.heap.size ≤ W1.heap.size; omega)); have HE3 := hid hE3; clear hO3 hE3; (try dsimp only)
  refine hK.out _ _ ?_
  clear hK K
  (try simp only [Act.put, List.setIfInBounds_toArray, List.set_cons_zero, List.set_cons_succ])
  obtain ⟨y0, y1, y0f, y1f, k1, k1f, hkk, hsm⟩ := box2 (HE3.out.obj Z1.out) (.slice A3 C.room.length c3) (.slice B3 C.units.length d3)
  have r0 := obj_cell hkk (i := 0) rfl
  have r1 := obj_cell hkk (i := 1) rfl
  have HSS := hid hsm
  clear hkk hsm
  refine WG.last (i := 18) rfl (by kernel_rfl) (by kernel_rfl) (fun K hK => ?_)
  go_simp
  refine hK.out _ _ ?_
  clear hK K
  (try simp only [Act.put, List.setIfInBounds_toArray, List.set_cons_zero, List.set_cons_succ])
  refine WG.done (by kernel_rfl) ?_
  refine NoPanic.normal ?_
  go_wp2
  obtain ⟨W4, hW4⟩ : ∃ W4, W4 = (w3.setCell ⟨w.heap.size, 0, none⟩ (.slice A3 C.room.length c3)).setCell ⟨w.heap.size, 1, none⟩ (.slice B3 C.units.length d3) := ⟨_, rfl⟩
  have hne : H ≠ w.heap.size := by omega
  have hb4 : ((w3.setCell ⟨w.heap.size, 0, none⟩ (.slice A3 C.room.length c3)).setCell ⟨w.heap.size, 1, none⟩ (.slice B3 C.units.length d3)).heap[H]? = w3.heap[H]? := (Below.heap_setCell _ _ _ _ hne).trans (Below.heap_setCell _ _ _ _ hne)
  have H4 := (H1.out.ext HE3.out).same hb4 (HSS.out _ (by rintro t (rfl | rfl) <;> decide))
  have HO4 := HO3.out.same (HSS.out _ notClu)
  have HG4 := ((HG1.out.trans (Gr.of_ext HE3.out)).stored (Nat.le_refl w.heap.size) 0 (.slice A3 C.room.length c3)).stored (Nat.le_refl w.heap.size) 1 (.slice B3 C.units.length d3)
  rw [← hW4] at H4 HO4 HG4 r0 r1 ⊢
  clear hW4 hb4 y0 y1 y0f y1f k1 k1f
  have H5 := H4.lock 0
  have hs5 : SameT (fun t => t ≠ 86) W4 (W4.setCell ⟨H, 0, none⟩ (.int .i32 0)) := SameT.setCell (p := ⟨H, 0, none⟩) H4.blk _ (fun t ht => ht)
  have r0' := (cell_far W4 (b' := w.heap.size) (b := H) (o := 0) (i := 0) (Ne.symm hne) (.int .i32 0)).trans r0
  have r1' := (cell_far W4 (b' := w.heap.size) (b := H) (o := 1) (i := 0) (Ne.symm hne) (.int .i32 0)).trans r1
  refine leaves_cons (f := 48) (args := #[.pointer (some ⟨H, 0, none⟩)]) (by simp) (by simp [go_sem]) ?_
  refine (unlock_deferred muLib ⟨H, 0, none⟩ .returning _ H4.at.1 (H4.at.2.2.2 0)).mono ?_
  rintro e u' w'' ⟨rfl, rfl, rfl⟩
  exact ⟨.agg #[.slice A3 C.room.length c3, .slice B3 C.units.length d3], by simp [results, Tryz.results46, go_sem, r0', r1'], _, rfl, HO4.same (hs5.mono notHost), Ext.of_gr (HG4.trans (Gr.setCell W4 H 0 (.int .i32 0))) (H5.blk.trans HB.out.symm)⟩

end Go.Proofs.YtkdkmihgnplooaaGreat

/- The program puts a task into a cluster: all rows of the result its own. -/
namespace Go.Proofs.YtkdkmihgnplooaaGreat
open Go.RowKit Go.MuLone

theorem iDoneArriveD (cv : Value) (C : ClusD) (nv : Value) (x : TaskD) (grant : Bool) (b1 b2 : Nat) (w : World) (h : ClusV w cv C) (hl : C.units.length ≤ 4000000) (hfl : (C.units.map (·.tasks)).flatten.length ≤ 4000000) (hid' : ∀ t ∈ (C.units.map (·.tasks)).flatten, IdR t.id) (hc1 : w.cell? ⟨b1, 0, none⟩ = some (.int .i64 x.id)) (hc1b : w.cell? ⟨b1, 1, none⟩ = some nv) (hc2 : w.cell? ⟨b2, 0, none⟩ = some (.bool grant)) (hnv : RI w nv x.need) (hxi : IdR x.id) :
    Calls Tryz.prog 25 #[cv, .func (.func 26) #[] #[.pointer (some ⟨b1, 0, none⟩), .pointer (some ⟨b2, 0, none⟩)]] w (RetDC w (arriveC C x grant)) := by
  have hCV := h
  obtain ⟨rv, uv, rfl, hr, hu⟩ := h
  have hr0 := hr
  have hu0 := hu
  obtain ⟨Ar, cr, rfl, _⟩ := hr
  obtain ⟨Au, cu, rfl, _⟩ := hu
  obtain ⟨W, hW⟩ : ∃ W, W = (w.alloc (.cells #[.slice Ar C.room.length cr, .slice Au C.units.length cu] 32)).alloc (.cells #[.slice none 0 0, .slice none 0 0] 32) := ⟨_, rfl⟩
  have hEW : Ext w W := by rw [hW]; exact (Ext.alloc _ _).trans (Ext.alloc _ _)
  have hb0 : W.heap[w.heap.size]? = some (.cells #[.slice Ar C.room.length cr, .slice Au C.units.length cu] 32 (0, 0)) := by rw [hW]; exact (Ext.alloc _ _).obj (heap_alloc_new w _)
  have hb1 : W.heap[w.heap.size + 1]? = some (.cells #[.slice none 0 0, .slice none 0 0] 32 (0, 0)) := by rw [hW]; exact heap_new (by simp)
  have KB : Hid (∀ w', Ext W w' → w'.cell? ⟨w.heap.size, 0, none⟩ = some (.slice Ar C.room.length cr) ∧ w'.cell? ⟨w.heap.size, 1, none⟩ = some (.slice Au C.units.length cu)) := hid fun w' hw => ⟨obj_cell (hw.obj hb0) (i := 0) rfl, obj_cell (hw.obj hb0) (i := 1) rfl⟩
  have B1 := hid hb1
  have HCV := hid (hCV.ext hEW)
  have HR := hid (RI.ext hr0 hEW)
  have HU := hid (RU.ext hu0 hEW)
  have Hhc1 := hid (hc1)
  have Hhc1b := hid (hc1b)
  have Hhc2 := hid (hc2)
  have Hhnv := hid (hnv)
  have Hhxi := hid (hxi)
  have HEW := hid hEW
  clear hCV hr0 hu0 hb0 hb1 hEW
  by_cases h1 : clusOk C = true
  · have HC : Hid (arriveC C x grant = arriveH C x grant) := hid (by exact arriveC_ok h1 x grant)
    have HS : Hid (SmallC (arriveH C x grant).1) := hid (by rw [← HC.out]; exact (few_arrive C x grant).small)
    obtain ⟨R, hR⟩ : ∃ R, R = arriveH C x grant := ⟨_, rfl⟩
    have HRR := hid hR
    clear hR
    go_enter Tryz.func25, Tryz.ntmps25
    go_wp2_with (first
      | (go_at_call 44; rw [← hW]; refine (iClusterValid _ C _ HCV.out hl hfl hid').mono ?_; rintro e w1 ⟨rfl, hE1⟩; rw [h1]; obtain ⟨c0, c1⟩ := KB.out _ hE1; have HE1 := hid hE1; clear hE1 hW)
      | (go_at_call 45; refine (iHostOf _ _ C _ (RI.ext HR.out HE1.out) (RU.ext HU.out HE1.out) h1).mono ?_; rintro e w2 ⟨H, ps, rv', cells, rfl, hh2, hE2⟩; have HH2 := hid hh2; have HE2 := hid (HE1.out.trans hE2); have HZ2 := hid hE2.size; clear hh2 hE2)
      | (go_at_call 26; refine (iArrive1 H _ C ps rv' cells nv x grant b1 b2 _ HH2.out HZ2.out ((HEW.out.trans HE2.out).cell Hhc1.out) ((HEW.out.trans HE2.out).cell Hhc1b.out) ((HEW.out.trans HE2.out).cell Hhc2.out) (RI.ext Hhnv.out (HEW.out.trans HE2.out)) h1 Hhxi.out).mono ?_; rintro e w3 ⟨ps3, cells3, rfl, hh3, hB3⟩; rw [← HRR.out] at hh3 ⊢; have HH3 := hid hh3; have HB3 := hid hB3; clear hh3 hB3)
      | (go_at_call 46; refine (iHostClusterD H _ R.1 ps3 rv' cells3 _ HH3.out (by rw [HRR.out]; exact HS.out)).mono ?_; rintro e w4 ⟨v4, rfl, hO4, hE4⟩; obtain ⟨A4, c4, B4, d4, rfl⟩ := hO4.form; have hb3 : w3.heap[w.heap.size + 1]? = some (.cells #[.slice none 0 0, .slice none 0 0] 32 (0, 0)) := ((HB3.out.block _ (obj_lt (HE1.out.obj B1.out))).trans (HE2.out.obj B1.out)); obtain ⟨y0, y1, y0f, y1f, k1, k1f, hkk, hsm⟩ := box2 (hE4.obj hb3) (.slice A4 R.1.room.length c4) (.slice B4 R.1.units.length d4); have r0 := obj_cell hkk (i := 0) rfl; have r1 := obj_cell hkk (i := 1) rfl; have HSM := hid hsm; have HX : Hid (Ext W w4) := hid (Below.trans HE2.out (Below.trans (HB3.out.mono HE1.out.size) (hE4.mono (Nat.le_trans HE2.out.size HB3.out.size)))); have HO4 := hid (hO4.low (base' := w.heap.size) (Nat.le_trans HEW.out.size (Nat.le_trans HE2.out.size HB3.out.size))); clear hO4 hE4 hb3 hkk hsm))
    refine bodyPost_ret (v := .tuple #[.agg #[.slice A4 R.1.room.length c4, .slice B4 R.1.units.length d4], .int .i64 R.2]) (by simp [results, Tryz.results25, go_sem, r0, r1]) rfl ?_
    rw [HC.out, ← HRR.out]
    exact ⟨_, rfl, HO4.out.same (HSM.out _ notClu), Below.setCell (Below.setCell (HEW.out.trans HX.out) (Nat.le_succ _) _) (Nat.le_succ _) _⟩
  · have h1 : clusOk C = false := by simpa using h1
    have HC : Hid (arriveC C x grant = (⟨[], []⟩, 1)) := hid (by unfold arriveC; rw [h1]; rfl)
    go_enter Tryz.func25, Tryz.ntmps25
    go_wp2_with (go_at_call 44; rw [← hW]; refine (iClusterValid _ C _ HCV.out hl hfl hid').mono ?_; rintro e w1 ⟨rfl, hE1⟩; rw [h1]; have HE1 := hid hE1; obtain ⟨_, _, y0, y1, y0f, y1f, k1, k1f, r0, r1, hsm⟩ := res2 (hE1.obj B1.out) (hE1.obj B1.out); clear hE1 hW hsm)
    refine bodyPost_ret (v := .tuple #[.agg #[.slice none 0 0, .slice none 0 0], .int .i64 1]) (by simp [results, Tryz.results25, go_sem, r0, r1]) rfl ?_
    rw [HC.out]
    exact ⟨_, rfl, DCl.zero _ _, Below.setCell (Below.setCell (HEW.out.trans HE1.out) (Nat.le_succ _) _) (Nat.le_succ _) _⟩

theorem iClusterArriveD (cv : Value) (C : ClusD) (xv : Value) (x : TaskD) (grant : Bool) (w : World) (h : ClusV w cv C) (hl : C.units.length ≤ 4000000) (hfl : (C.units.map (·.tasks)).flatten.length ≤ 4000000) (hid' : ∀ t ∈ (C.units.map (·.tasks)).flatten, IdR t.id) (hx : TaskV w xv x) (hxi : IdR x.id) :
    Calls Tryz.prog 9 #[cv, xv, .bool grant] w (RetDC w (arriveC C x grant)) := by
  have hCV := h
  obtain ⟨rv, uv, rfl, hr, hu⟩ := h
  obtain ⟨nv, rfl, hnv⟩ := hx
  have HNV := hid hnv
  obtain ⟨An, cn, rfl, _⟩ := hnv
  have HXI := hid hxi
  clear hxi
  obtain ⟨Ar, cr, rfl, _⟩ := hr
  obtain ⟨Au, cu, rfl, _⟩ := hu
  obtain ⟨W, hW⟩ : ∃ W, W = ((((w.alloc (.cells #[.slice Ar C.room.length cr, .slice Au C.units.length cu] 32)).alloc (.cells #[.int .i64 x.id, .slice An x.need.length cn] 36)).alloc (.cells #[.bool grant] 4)).alloc (.cells #[.slice none 0 0, .slice none 0 0] 32)) := ⟨_, rfl⟩
  have hEW : Ext w W := by rw [hW]; exact (((Ext.alloc _ _).trans (Ext.alloc _ _)).trans (Ext.alloc _ _)).trans (Ext.alloc _ _)
  have hb0 : W.heap[w.heap.size]? = some (.cells #[.slice Ar C.room.length cr, .slice Au C.units.length cu] 32 (0, 0)) := by rw [hW]; exact (Ext.alloc _ _).obj ((Ext.alloc _ _).obj ((Ext.alloc _ _).obj (heap_alloc_new w _)))
  have hb1 : W.heap[w.heap.size + 1]? = some (.cells #[.int .i64 x.id, .slice An x.need.length cn] 36 (0, 0)) := by rw [hW]; exact (Ext.alloc _ _).obj ((Ext.alloc _ _).obj (heap_new (by simp)))
  have hb2 : W.heap[w.heap.size + 2]? = some (.cells #[.bool grant] 4 (0, 0)) := by rw [hW]; exact (Ext.alloc _ _).obj (heap_new (by simp))
  have hb3 : W.heap[w.heap.size + 3]? = some (.cells #[.slice none 0 0, .slice none 0 0] 32 (0, 0)) := by rw [hW]; exact heap_new (by simp)
  have c0 := obj_cell hb0 (i := 0) rfl
  have c1 := obj_cell hb0 (i := 1) rfl
  have d1 := obj_cell hb1 (i := 0) rfl
  have d1b := obj_cell hb1 (i := 1) rfl
  have HNW := hid (RI.ext HNV.out hEW)
  have d2 := obj_cell hb2 (i := 0) rfl
  have BN := hid hb3
  have HCV := hid (hCV.ext hEW)
  have HEW := hid hEW
  clear hCV hEW hb0 hb1 hb2 hb3
  obtain ⟨R, hR⟩ : ∃ R, R = arriveC C x grant := ⟨_, rfl⟩
  rw [← hR]
  have HRR := hid hR
  clear hR
  go_enter Tryz.func9, Tryz.ntmps9
  go_wp2_with (go_at_call 25; rw [← hW]; refine (iDoneArriveD _ C _ x grant _ _ _ HCV.out hl hfl hid' d1 d1b d2 HNW.out HXI.out).mono ?_; rw [← HRR.out]; rintro e w1 ⟨v1, rfl, hO1, hE1⟩; obtain ⟨A1, c1', B1, d1', rfl⟩ := hO1.form; obtain ⟨y0, y1, y0f, y1f, k1, k1f, hkk, hsm⟩ := box2 (hE1.obj BN.out) (.slice A1 R.1.room.length c1') (.slice B1 R.1.units.length d1'); have r0 := obj_cell hkk (i := 0) rfl; have r1 := obj_cell hkk (i := 1) rfl; have HSM := hid hsm; have HE1 := hid hE1; have HO1 := hid (hO1.low (base' := w.heap.size) HEW.out.size); clear hO1 hE1 hkk hsm hW)
  refine bodyPost_ret (v := .tuple #[.agg #[.slice A1 R.1.room.length c1', .slice B1 R.1.units.length d1'], .int .i64 R.2]) (by simp [results, Tryz.results9, go_sem, r0, r1]) rfl ?_
  exact ⟨_, rfl, HO1.out.same (HSM.out _ notClu), Below.setCell (Below.setCell (HEW.out.trans HE1.out) (by show w.heap.size ≤ w.heap.size + 3; omega) _) (by show w.heap.size ≤ w.heap.size + 3; omega) _⟩

end Go.Proofs.YtkdkmihgnplooaaGreat

/- Marks on a cluster all of whose rows are the call's own, and what bears them: in words of clusters. -/
namespace Go.Proofs.YtkdkmihgnplooaaGreat
open Go.RowKit
set_option maxRecDepth 4000

theorem cntQ_wt : ∀ (qs : List (TaskD × Value)), cntQ qs = wTasks (qs.map (·.1))
  | [] => rfl
  | q :: qs => by
    rw [cntQ_cons, cntQ_wt qs]
    simp only [wTasks, sumN, wTask, wInts, List.map_cons, List.length_cons, List.sum_cons]
    omega
theorem cntU_wt : ∀ (us : List UnitW), cntU us = wUnits (us.map UnitW.d)
  | [] => rfl
  | u :: us => by
    rw [cntU_cons, cntU_wt us, cntQ_wt]
    simp only [wUnits, sumN, wUnit, UnitW.d, List.map_cons, List.length_cons, List.sum_cons]
    omega
theorem sumN_bd {α : Type} (f : α → Nat) (M : Nat) : ∀ (xs : List α), (∀ x ∈ xs, f x ≤ M) → sumN f xs ≤ xs.length * M
  | [], _ => by simp [sumN]
  | x :: xs, h => by
    have h1 := sumN_bd f M xs (fun y hy => h y (by simp [hy]))
    have h2 := h x (by simp)
    unfold sumN at *
    rw [List.map_cons, List.sum_cons, List.length_cons, Nat.add_mul]
    omega
theorem small_w {C : ClusD} (h : SmallC C) : wClus C ≤ 100000 := by
  have h1 : sumN wUnit C.units ≤ C.units.length * 4000 := sumN_bd _ _ _ (fun u hu => by
    have h2 := (h.tasks u hu).1
    have h3 : sumN wTask u.tasks ≤ u.tasks.length * 3 := sumN_bd _ _ _ (fun t ht => ((h.tasks u hu).2 t ht).1)
    show u.tasks.length + sumN wTask u.tasks ≤ 4000
    omega)
  have h4 := h.room
  have h5 := h.units
  show C.room.length + (C.units.length + sumN wUnit C.units) ≤ 100000
  omega
/-- what other rows' marks leave of a cluster -/
theorem DCl.touch {w w' : World} {base : Nat} {v : Value} {C : ClusD} {L : List Nat} (h : DCl w base v C) (hT : Touch L w w') (hL : ∀ b ∈ L, b < base) : DCl w' base v C := by
  obtain ⟨rv, uv, us, h1, h2, h3, h4, h5, h6⟩ := h
  have hk : ∀ k, base ≤ k → k < w.heap.size → w'.heap[k]? = w.heap[k]? := fun k hb hk => hT.block k hk (fun hm => by have := hL k hm; omega)
  exact ⟨rv, uv, us, h1, Own.farI h2 (fun k hb => hk k (Own.lt h2 k hb).1 (Own.lt h2 k hb).2), ODU.far h3 (fun k hb => hk k (Own.lt h3 k hb).1 (Own.lt h3 k hb).2) (fun k hb => hk k (ODU.tlt h3 k hb).1 (ODU.tlt h3 k hb).2) (fun k hb => hk k (ODU.ilt h3 k hb).1 (ODU.ilt h3 k hb).2), h4, h5, h6⟩
/-- a cluster that bears marks from k on -/
def HeldC (w : World) (v : Value) (C : ClusD) (k : Int) : Prop := ∃ rv uv us, v = .agg #[rv, uv] ∧ RI w rv (marks k C.room.length) ∧ RU w uv ((markU (k + (C.room.length : Int)) us).map UnitW.d) ∧ cntU us = wUnits C.units
theorem HeldC.ext {w w' : World} {v : Value} {C : ClusD} {k : Int} (h : HeldC w v C k) (ha : Ext w w') : HeldC w' v C k :=
  let ⟨rv, uv, us, h1, h2, h3, h4⟩ := h; ⟨rv, uv, us, h1, h2.ext ha, h3.ext ha, h4⟩
theorem Own.typed {α : Type} {e : TypeId} {size : Nat} {E : Enc α} {w : World} {base : Nat} {v : Value} {xs : List α} (h : Own e size E w base v xs) {b : Nat} (hb : v.ownBlock = some b) : ∃ cur, w.heap[b]? = some (.cells cur e (0, 0)) := by
  obtain ⟨cells, ho, _⟩ := h
  rcases ho.2 with ⟨rfl, _⟩ | ⟨g, cap, cur, rfl, _, hg, _⟩
  · simp [Value.ownBlock] at hb
  · simp [Value.ownBlock] at hb
    subst hb
    exact ⟨cur, hg⟩
theorem Own.notClus {α : Type} {e : TypeId} {size : Nat} {E : Enc α} {w : World} {base : Nat} {v : Value} {xs : List α} (h : Own e size E w base v xs) {b : Nat} (hb : v.ownBlock = some b) (he : e ≠ 32) : ∀ cur fr, w.heap[b]? ≠ some (.cells cur 32 fr) := by
  obtain ⟨c, hc⟩ := h.typed hb
  intro cur fr hh
  rw [hc] at hh
  injection hh with hh
  injection hh with _ h2 _
  exact he h2
theorem Touch.clus {L : List Nat} {w w' : World} (hT : Touch L w w') (hL : ∀ b ∈ L, ∀ cur fr, w.heap[b]? ≠ some (.cells cur 32 fr)) {k : Nat} {cur : Array Value} {fr : Nat × Nat} (hk : w.heap[k]? = some (.cells cur 32 fr)) : w'.heap[k]? = some (.cells cur 32 fr) :=
  (hT.block k (obj_lt hk) (fun hm => hL k hm _ _ hk)).trans hk
theorem lMarkClusterD (v : Value) (C : ClusD) (k : Int) (w0 w : World) (base : Nat) (h : DCl w0 base v C) (hE : Ext w0 w) (hl : wClus C ≤ 4000000) (hk0 : 0 ≤ k) (hk1 : k ≤ 10000000) :
    Calls Tryz.prog 12 #[v, .int .i64 k] w fun e w' => ∃ L, e = .returned (.int .i64 (k + (wClus C : Int))) ∧ HeldC w' v C k ∧ (∀ b ∈ L, base ≤ b ∧ b < w0.heap.size) ∧ (∀ b ∈ L, ∀ cur fr, w.heap[b]? ≠ some (.cells cur 32 fr)) ∧ Touch L w w' := by
  obtain ⟨rv, uv, us, rfl, h1, h2, h3, h4, h5⟩ := h
  have hu : cntU us = wUnits C.units := by rw [cntU_wt, h3]
  have hw : wClus C = C.room.length + wUnits C.units := rfl
  have k1 := Own.ext EI.ok h1 hE
  have k2 := Own.ext (EDU.ok _) h2 hE
  refine (lMarkCluster rv uv C.room us k w base k1 k2 h4 h5 (by omega) (by omega) hk0 hk1).mono ?_
  rintro e w' ⟨rfl, ho1, ho2, hT⟩
  refine ⟨_, ret_i (by omega), ⟨rv, uv, us, rfl, ho1.read, ho2.read, hu⟩, fun b hb => ?_, fun b hb => ?_, hT⟩
  · rcases List.mem_append.1 hb with hb | hb
    · exact Own.lt h1 b (by simpa using hb)
    · rcases List.mem_append.1 hb with hb | hb
      · exact Own.lt h2 b (by simpa using hb)
      · rcases List.mem_append.1 hb with hb | hb
        · exact ODU.tlt h2 b hb
        · exact ODU.ilt h2 b hb
  · rcases List.mem_append.1 hb with hb | hb
    · exact k1.notClus (by simpa using hb) (by decide)
    · rcases List.mem_append.1 hb with hb | hb
      · exact k2.notClus (by simpa using hb) (by decide)
      · rcases List.mem_append.1 hb with hb | hb
        · obtain ⟨u, hu, hb⟩ := List.mem_filterMap.1 hb
          exact (ODU.tasks k2 hu).notClus hb (by decide)
        · obtain ⟨u, hu, hb⟩ := List.mem_flatMap.1 hb
          obtain ⟨p, hp, hb⟩ := List.mem_filterMap.1 hb
          exact (ODT.need (ODU.tasks k2 hu) hp).notClus hb (by decide)
theorem lHeldClusterD (v : Value) (C : ClusD) (k : Int) (w : World) (h : HeldC w v C k) (hl : wClus C ≤ 4000000) (hk0 : 0 ≤ k) (hk1 : k ≤ 10000000) :
    Calls Tryz.prog 14 #[v, .int .i64 k] w (RetN w (k + (wClus C : Int))) := by
  obtain ⟨rv, uv, us, rfl, h1, h2, hu⟩ := h
  have hw : wClus C = C.room.length + wUnits C.units := rfl
  refine (lHeldCluster rv uv C.room.length us k w h1 h2 (by omega) (by omega) hk0 hk1).mono ?_
  rintro e w' ⟨rfl, hE⟩
  exact ⟨ret_i (by omega), hE⟩

end Go.Proofs.YtkdkmihgnplooaaGreat

/- The laws' mark on a task's need. -/
namespace Go.Proofs.YtkdkmihgnplooaaGreat
open Go.RowKit
set_option maxRecDepth 4000

theorem lMarkTask (id : Int) (A : Option Addr) (n c : Nat) (xs : List Int) (k : Int) (w : World) (base : Nat) (h : OI w base (.slice A n c) xs) (hb : base ≤ w.heap.size) (hl : n ≤ 4000000) (hk0 : 0 ≤ k) (hk1 : k ≤ 100000000) :
    Calls Tryz.prog 13 #[.agg #[.int .i64 id, .slice A n c], .int .i64 k] w fun e w' => e = .returned (.int .i64 (k + (n : Int))) ∧ Touch (Value.slice A n c).ownBlock.toList w w' := by
  obtain ⟨W, hW⟩ : ∃ W, W = w.alloc (.cells #[.int .i64 id, .slice A n c] 36) := ⟨_, rfl⟩
  have hEW : Ext w W := by rw [hW]; exact Ext.alloc _ _
  have hb1 : W.cell? ⟨w.heap.size, 1, none⟩ = some (.slice A n c) := by rw [hW]; exact cell_new _ _ _ 1
  have HO := hid (Own.ext EI.ok h hEW)
  have HEW := hid hEW
  clear h hEW
  go_enter Tryz.func13, Tryz.ntmps13
  go_wp2_with (go_at_call 30; rw [← hW]; refine (lMarkInts A n c c xs k _ base HO.out hl hk0 (by omega)).mono ?_; rintro e w1 ⟨rfl, _, hT⟩; have HT := hid hT; clear hT)
  go_ret
  exact ⟨rfl, (Touch.ext HEW.out _).trans HT.out⟩

end Go.Proofs.YtkdkmihgnplooaaGreat
