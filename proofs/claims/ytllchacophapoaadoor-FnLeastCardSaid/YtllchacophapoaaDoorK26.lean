/- The program's placed: nodes of the call's own with a task more. -/
import Derived.Test.YtllchacophapoaaDoorK11
import Derived.Test.YtllchacophapoaaDoorK23
import Derived.Test.YtllchacophapoaaDoorK16
import Derived.Test.YtllchacophapoaaDoorK25
namespace Go.Proofs.YtllchacophapoaaDoor
open Go.RowKit
set_option maxRecDepth 4000

def RetPl (base : Nat) (r : List (List TaskD)) (w : World) (e : Ending) (w' : World) : Prop := ∃ v, e = .returned v ∧ DB w' base v r ∧ Below base w w'
theorem rowNew {us : List BinW} {y : BinW} {H : Nat} (h : (rowBs us).Nodup) (h1 : ∀ g ∈ rowBs us, g < H) (h2 : ∀ g, y.tv.ownBlock = some g → H ≤ g) : (rowBs (us ++ [y])).Nodup := by
  rw [rowBs_app, rowBs_one]
  exact nodup_fresh h (optList_nodup _) h1 (fun x hx => h2 x (by simpa using hx))
theorem binNew {us : List BinW} {y : BinW} {H : Nat} (h : (binNs us).Nodup) (h0 : (needBs y.qs).Nodup) (h1 : ∀ g ∈ binNs us, g < H) (h2 : ∀ g ∈ needBs y.qs, H ≤ g) : (binNs (us ++ [y])).Nodup := by
  rw [binNs_app, binNs_one]
  exact nodup_fresh h h0 h1 h2

set_option maxHeartbeats 4000000 in
theorem iPlacedNew (v xv : Value) (bs : List (List TaskD)) (z : Int) (x : TaskD) (base : Nat) (w : World) (h : DB w base v bs) (hx : TaskV w xv x) (hz : z < 0) (hl : x.need.length ≤ 4000000) (hbl : bs.length ≤ 4000000) (hbz : base ≤ w.heap.size) :
    Calls Tryd.prog 104 #[v, .int .i64 z, xv] w (RetPl base (bs ++ [[x]]) w) := by
  obtain ⟨us, ho, hd, hn, hm⟩ := h
  obtain ⟨nv, rfl, hnx⟩ := hx
  have HXN := hid hnx
  obtain ⟨An, cn, rfl, _⟩ := hnx
  obtain ⟨Au, cu, hu, _, _⟩ := ho.form
  subst hu
  obtain ⟨W, hW⟩ : ∃ W, W = w.alloc (.cells #[.int .i64 x.id, .slice An x.need.length cn] 44) := ⟨_, rfl⟩
  have hEW : Ext w W := by rw [hW]; exact Ext.alloc _ _
  have hxb : W.heap[w.heap.size]? = some (.cells #[.int .i64 x.id, .slice An x.need.length cn] 44 (0, 0)) := by rw [hW]; exact heap_alloc_new _ _
  have hq0 : (w.alloc (.cells #[.int .i64 x.id, .slice An x.need.length cn] 44)).cell? ⟨w.heap.size, 0, none⟩ = some (.int .i64 x.id) := by rw [← hW]; exact obj_cell hxb (i := 0) rfl
  have hq1 : (w.alloc (.cells #[.int .i64 x.id, .slice An x.need.length cn] 44)).cell? ⟨w.heap.size, 1, none⟩ = some (.slice An x.need.length cn) := by rw [← hW]; exact obj_cell hxb (i := 1) rfl
  have HLU : Hid (us.length = bs.length) := hid (by rw [← hd, List.length_map])
  have HEW := hid hEW
  have HO := hid ho
  have HDD := hid hd
  have HNT := hid hn
  have HNI := hid hm
  have HLX := hid hl
  have HXW := hid (RI.ext HXN.out hEW)
  have HBZ := hid hbz
  have HBL := hid hbl
  clear hxb hEW ho hd hn hm hl hbz hbl
  obtain ⟨i0_task, hi0_task, hz0_task, hz1_task, hz2_task⟩ := info_parts info_task
  obtain ⟨i0_bin, hi0_bin, hz0_bin, hz1_bin, hz2_bin⟩ := info_parts info_bin
  go_enter Tryd.func104, Tryd.ntmps104
  go_wp2_with (first
    | (go_at_call 70; rw [← hW]; refine (iTaskCopy _ x _ ⟨_, rfl, HXW.out⟩ HLX.out).mono ?_; rintro e2 w2 ⟨A2, c2, rfl, hO2, hE2⟩; have HO2 := hid hO2; have HE2 := hid (HEW.out.trans hE2); have HE2w := hid hE2; clear hO2 hE2 hW hq0 hq1)
    | (at_builtin; obtain ⟨W3, hW3⟩ : ∃ W3, W3 = w2.alloc (.cells #[.int .i64 x.id, .slice A2 x.need.length c2] 44) := ⟨_, rfl⟩; have h3x : W3.heap[w2.heap.size]? = some (.cells #[.int .i64 x.id, .slice A2 x.need.length c2] 44 (0, 0)) := (by rw [hW3]; exact heap_alloc_new _ _); have hE3 : Ext w2 W3 := (by rw [hW3]; exact Ext.alloc _ _); have hz3 : W3.heap.size = w2.heap.size + 1 := (by rw [hW3]; simp); have hb2 : base ≤ w2.heap.size := Nat.le_trans HBZ.out HE2.out.size; have h3o : ODT W3 base (.slice (some ⟨w2.heap.size, 0, none⟩) 1 1) [(x, .slice A2 x.need.length c2)] := (by rw [hW3]; exact Own.lit (w := w2) (cells := [.int .i64 x.id, .slice A2 x.need.length c2]) (xs := [((x, .slice A2 x.need.length c2) : TaskD × Value)]) hb2 (by simp) (Cells.one rfl ⟨rfl, (Own.low (base' := base) HO2.out (Nat.le_trans HBZ.out HEW.out.size)).ext EI.ok (Ext.alloc _ _)⟩)); rw [← hW3]; obtain ⟨W4, hW4⟩ : ∃ W4, W4 = W3.alloc (.cells #[.slice (some ⟨w2.heap.size, 0, none⟩) 1 1] 28) := ⟨_, rfl⟩; have h4x : W4.heap[w2.heap.size + 1]? = some (.cells #[.slice (some ⟨w2.heap.size, 0, none⟩) 1 1] 28 (0, 0)) := (by rw [← hz3, hW4]; exact heap_alloc_new _ _); have hE4 : Ext W3 W4 := (by rw [hW4]; exact Ext.alloc _ _); rw [← hW4]; have h4o : ODB W4 base (.slice Au us.length cu) us := Own.ext (EDB.ok _) HO.out (HE2.out.trans (hE3.trans hE4)); have h4t : ODT W4 base (.slice (some ⟨w2.heap.size, 0, none⟩) 1 1) [(x, .slice A2 x.need.length c2)] := h3o.ext (EDT.ok _) hE4; have hb4 : base ≤ W4.heap.size := Nat.le_trans hb2 (hE3.trans hE4).size; have hus := HLU.out; have hbl := HBL.out; refine wpList_append_sl _ (by rfl) _ _ 25 (by rfl) (EDB.ok _) (EDB.flat _) (base) 28 EDB.ne i0_bin _ 1 24 Tryd.underlying25 hi0_bin hz0_bin hz1_bin hz2_bin rfl (by omega) _ (by rfl) _ (h4o) _ (by rfl) _ (RSl.laid (cs := [.slice (some ⟨w2.heap.size, 0, none⟩) 1 1]) (x := (⟨.slice (some ⟨w2.heap.size, 0, none⟩) 1 1, [(x, .slice A2 x.need.length c2)]⟩ : BinW)) h4x rfl ⟨rfl, h4t⟩) (by simp; omega) (by simp; omega) ?_ ?_; (focus (first | exact Nat.le_refl _ | (simp; done) | (simp; omega) | omega)); intro v5 w5 hO5 hg5 hat5 hs5; have HO5 := hid hO5; have HB5 : Hid (Below base w w5) := hid (Below.grown ((HE2.out.trans (hE3.trans hE4)).mono HBZ.out) hg5 (by omega) (fun q hq => (Own.lt h4o q hq).1)); clear hO5 hg5 hat5 hs5; clear h3x hE3 hz3 hb2 h3o hW3 hW4 h4x hE4 h4o h4t hb4 hus hbl))
  go_ret
  refine ⟨_, rfl, ⟨_, HO5.out, by rw [List.map_append, HDD.out]; rfl, rowNew HNT.out (H := w.heap.size) (fun g hg => (ODB.tlt HO.out g hg).2) (fun g hg => ?_), binNew HNI.out (H := w.heap.size) ?_ (fun g hg => (ODB.ilt HO.out g hg).2) (fun g hg => ?_)⟩, HB5.out⟩
  · have : g = w2.heap.size := by simpa [Value.ownBlock] using hg.symm
    rw [this]; exact HE2.out.size
  · rw [needBs_one]
    exact optList_nodup _
  · obtain ⟨p, hp, hb⟩ := List.mem_filterMap.1 hg
    rw [List.mem_singleton.1 hp] at hb
    exact Nat.le_trans HEW.out.size (Own.lt HO2.out g hb).1

set_option maxHeartbeats 8000000 in
theorem iPlacedAt (v xv : Value) (bs : List (List TaskD)) (t : Nat) (b : List TaskD) (x : TaskD) (base : Nat) (w : World) (h : DB w base v bs) (hx : TaskV w xv x) (hb : bs[t]? = some b) (hl : x.need.length ≤ 4000000) (hbl : bs.length ≤ 4000000) (hbb : b.length ≤ 4000000) (hbz : base ≤ w.heap.size) :
    Calls Tryd.prog 104 #[v, .int .i64 (t : Int), xv] w (RetPl base (bs.set t (b ++ [x])) w) := by
  obtain ⟨us, ho, hd, hn, hm⟩ := h
  obtain ⟨nv, rfl, hnx⟩ := hx
  have HXN := hid hnx
  obtain ⟨An, cn, rfl, _⟩ := hnx
  obtain ⟨u, hut, hud⟩ := mem_pair hd hb
  have htl : t < bs.length := (List.getElem?_eq_some_iff.1 hb).1
  have hlu : us.length = bs.length := by rw [← hd, List.length_map]
  obtain ⟨g, cg, hgv, hgb⟩ := Own.row ho (by omega)
  subst hgv
  rw [hlu] at ho
  obtain ⟨W, hW⟩ : ∃ W, W = w.alloc (.cells #[.int .i64 x.id, .slice An x.need.length cn] 44) := ⟨_, rfl⟩
  have hEW : Ext w W := by rw [hW]; exact Ext.alloc _ _
  have hxb : W.heap[w.heap.size]? = some (.cells #[.int .i64 x.id, .slice An x.need.length cn] 44 (0, 0)) := by rw [hW]; exact heap_alloc_new _ _
  obtain ⟨At, ct, hcv, _⟩ := (ODB.at_ ho hut).2.2.1.form
  have hql : u.qs.length = b.length := by rw [← hud]; simp [BinW.d]
  rw [hql] at hcv
  have KU : Hid (∀ w', Ext W w' → w'.cell? ⟨g, t, none⟩ = some (.slice At b.length ct) ∧ w'.cell? ⟨w.heap.size, 0, none⟩ = some (.int .i64 x.id) ∧ w'.cell? ⟨w.heap.size, 1, none⟩ = some (.slice An x.need.length cn)) := hid fun w' hw => ⟨(ODB.at_ (Own.ext (EDB.ok _) ho (hEW.trans hw)) hut).1.trans (by rw [hcv]), obj_cell (hw.obj hxb) (i := 0) rfl, obj_cell (hw.obj hxb) (i := 1) rfl⟩
  have HXB := hid hxb
  have HEW := hid hEW
  have HO := hid ho
  have HDD := hid hd
  have HNT := hid hn
  have HNI := hid hm
  have HLX := hid hl
  have HXW := hid (RI.ext HXN.out hEW)
  have HBZ := hid hbz
  have HUT := hid hut
  have HUD := hid hud
  have HCV := hid hcv
  have HQL : Hid (u.qs.length = b.length ∧ b.length ≤ 4000000) := hid ⟨hql, hbb⟩
  have HGB := hid hgb
  have i1 : (t : Int) < (bs.length : Int) := by omega
  have i0 : (0 : Int) ≤ (t : Int) := by omega
  have i2 : ¬ (t : Int) < 0 := by omega
  have HLU := hid hlu
  have HD8 : Hid (Ext W W.drew) := hid (Below.drew (Below.refl _ _))
  clear hxb hEW ho hd hn hm hl hbz hut hud hcv hql hgb hbb hlu
  rw [HLU.out]
  obtain ⟨i0_task, hi0_task, hz0_task, hz1_task, hz2_task⟩ := info_parts info_task
  go_enter Tryd.func104, Tryd.ntmps104
  go_wp2
  rw [← hW]
  clear hW
  refine WG.start (fun w' => w'.cell? ⟨g, t, none⟩ = some (.slice At b.length ct) ∧ w'.cell? ⟨w.heap.size, 0, none⟩ = some (.int .i64 x.id) ∧ w'.cell? ⟨w.heap.size, 1, none⟩ = some (.slice An x.need.length cn)) [10,11] (by kernel_rfl) (by exact KU.out _ HD8.out) (fun hHeld => ?_)
  obtain ⟨pz, hpz⟩ : ∃ x, x = W.drew := ⟨_, rfl⟩
  rw [← hpz] at hHeld HD8 ⊢
  clear hpz
  (refine WG.take (i := 0) (v := ?_) rfl (by kernel_rfl) (by kernel_rfl) (by kernel_rfl) (by kernel_rfl) (fun _ _ _ h => h) (Or.inl ⟨by rfl, ?_⟩) (by assumption) ?_; rotate_left; (intro w hSw; (try dsimp only at hSw); go_split_ands; go_simp; (try with_reducible rfl)); (try simp only [Act.put, List.setIfInBounds_toArray, List.set_cons_zero, List.set_cons_succ]))
  (refine WG.take (i := 1) (v := ?_) rfl (by kernel_rfl) (by kernel_rfl) (by kernel_rfl) (by kernel_rfl) (fun _ _ _ h => h) (Or.inl ⟨by rfl, ?_⟩) (by assumption) ?_; rotate_left; (intro w hSw; (try dsimp only at hSw); go_split_ands; go_simp; (try with_reducible rfl)); (try simp only [Act.put, List.setIfInBounds_toArray, List.set_cons_zero, List.set_cons_succ]))
  (refine WG.take (i := 2) (v := ?_) rfl (by kernel_rfl) (by kernel_rfl) (by kernel_rfl) (by kernel_rfl) (fun _ _ _ h => h) (Or.inl ⟨by rfl, ?_⟩) (by assumption) ?_; rotate_left; (intro w hSw; (try dsimp only at hSw); go_split_ands; go_simp; (try with_reducible rfl)); (try simp only [Act.put, List.setIfInBounds_toArray, List.set_cons_zero, List.set_cons_succ]))
  (refine WG.take (i := 3) (v := ?_) rfl (by kernel_rfl) (by kernel_rfl) (by kernel_rfl) (by kernel_rfl) (fun _ _ _ h => h) (Or.inl ⟨by rfl, ?_⟩) (by assumption) ?_; rotate_left; (intro w hSw; (try dsimp only at hSw); go_split_ands; go_simp; (try with_reducible rfl)); (try simp only [Act.put, List.setIfInBounds_toArray, List.set_cons_zero, List.set_cons_succ]))
  (refine WG.take (i := 4) (v := ?_) rfl (by kernel_rfl) (by kernel_rfl) (by kernel_rfl) (by kernel_rfl) (fun _ _ _ h => h) (Or.inl ⟨by rfl, ?_⟩) (by assumption) ?_; rotate_left; (intro w hSw; (try dsimp only at hSw); go_split_ands; go_simp; (try with_reducible rfl)); (try simp only [Act.put, List.setIfInBounds_toArray, List.set_cons_zero, List.set_cons_succ]))
  (refine WG.take (i := 5) (v := ?_) rfl (by kernel_rfl) (by kernel_rfl) (by kernel_rfl) (by kernel_rfl) (fun _ _ _ h => h) (Or.inl ⟨by rfl, ?_⟩) (by assumption) ?_; rotate_left; (intro w hSw; (try dsimp only at hSw); go_split_ands; go_simp; (try with_reducible rfl)); (try simp only [Act.put, List.setIfInBounds_toArray, List.set_cons_zero, List.set_cons_succ]))
  (refine WG.take (i := 6) (v := ?_) rfl (by kernel_rfl) (by kernel_rfl) (by kernel_rfl) (by kernel_rfl) (fun _ _ _ h => h) (Or.inl ⟨by rfl, ?_⟩) (by assumption) ?_; rotate_left; (intro w hSw; (try dsimp only at hSw); go_split_ands; go_simp; (try with_reducible rfl)); (try simp only [Act.put, List.setIfInBounds_toArray, List.set_cons_zero, List.set_cons_succ]))
  refine WG.one (i := 7) rfl (by kernel_rfl) (fun K hK => ?_)
  go_simp; refine (iTaskCopy _ x _ ⟨_, rfl, RI.ext HXW.out HD8.out⟩ HLX.out).mono ?_; rintro e2 w2 ⟨A2, c2, rfl, hO2, hE2⟩; have HO2 := hid hO2; have HE2 := hid (HD8.out.trans hE2); clear hO2 hE2; (try dsimp only)
  refine hK.out _ _ (by exact KU.out _ HE2.out) (fun hHeld => ?_)
  clear hK K
  (try simp only [Act.put, List.setIfInBounds_toArray, List.set_cons_zero, List.set_cons_succ])
  refine WG.one (i := 8) rfl (by kernel_rfl) (fun K hK => ?_)
  go_simp
  refine hK.out _ _ (by exact KU.out _ (HE2.out.trans (Ext.alloc _ _))) (fun hHeld => ?_)
  clear hK K
  (try simp only [Act.put, List.setIfInBounds_toArray, List.set_cons_zero, List.set_cons_succ])
  have hx9 := HE2.out.trans (Ext.alloc w2 (.cells #[.int .i64 x.id, .slice A2 x.need.length c2] 44))
  have HX9 := hid hx9
  have HV9 : Hid (ODT (w2.alloc (.cells #[.int .i64 x.id, .slice A2 x.need.length c2] 44)) base (.slice At b.length ct) u.qs) := hid (by have h3 := (ODB.at_ (Own.ext (EDB.ok _) HO.out (HEW.out.trans hx9)) HUT.out).2.2.1; rw [HCV.out] at h3; exact h3)
  have HN9 : Hid (OI (w2.alloc (.cells #[.int .i64 x.id, .slice A2 x.need.length c2] 44)) base (.slice A2 x.need.length c2) x.need) := hid ((Own.low (base' := base) HO2.out (Nat.le_trans HBZ.out (Nat.le_trans HEW.out.size HD8.out.size))).ext EI.ok (Ext.alloc _ _))
  have hsz9 : base ≤ w2.heap.size := Nat.le_trans HBZ.out (Nat.le_trans HEW.out.size HE2.out.size)
  clear hx9
  refine WG.one (i := 9) rfl (by kernel_rfl) (fun K hK => ?_)
  refine step_append_sl _ (by rfl) _ _ 28 (by rfl) (EDT.ok _) (EDT.flat _) (base) 44 EDT.ne i0_task _ 2 32 Tryd.underlying28 hi0_task hz0_task hz1_task hz2_task rfl (by omega) _ (by rfl) _ (HV9.out) _ (by rfl) _ (RSl.laid (cs := [.int .i64 x.id, .slice A2 x.need.length c2]) (x := (x, .slice A2 x.need.length c2)) (heap_alloc_new _ _) rfl ⟨rfl, HN9.out⟩) (by have := HQL.out.1; have := HQL.out.2; simp; omega) (by have := HQL.out.1; have := HQL.out.2; simp; omega) ?_ ?_; (focus (first | exact Nat.le_refl _ | (simp; done) | (simp; omega) | omega)); intro v10 w10 hO10 hg10 hat10 hs10; obtain ⟨A10, c10, rfl, _, _⟩ := hO10.form_app; have hgb10 := hs10 _ _ _ _ (by decide) ((HEW.out.trans HX9.out).obj (Own.blk HO.out).choose_spec); have cgt10 := (World.cell?_of_block (w := (w2.alloc (.cells #[.int .i64 x.id, .slice A2 x.need.length c2] 44))) (a := ⟨g, t, none⟩) (hgb10.trans ((HEW.out.trans HX9.out).obj (Own.blk HO.out).choose_spec).symm)).trans (KU.out _ HX9.out).1; have fgt10 := obj_frozen hgb10 t; have hCN : (Value.slice At b.length ct).ownBlock ≠ some w.heap.size := (fun e => absurd (Own.lt (by have h3 := (ODB.at_ HO.out HUT.out).2.2.1; rw [HCV.out] at h3; exact h3) _ e).2 (Nat.lt_irrefl _)); have hx10 := (hg10.block _ (obj_lt (HX9.out.obj HXB.out)) (fun e => hCN e.symm)).trans (HX9.out.obj HXB.out); have HG10 := hid hg10; have HO10 := hid hO10; have HAT10 := hid hat10; clear hgb10 hCN
  refine hK.out _ _ (by exact ⟨cgt10, obj_cell hx10 (i := 0) rfl, obj_cell hx10 (i := 1) rfl⟩) (fun hHeld => ?_)
  clear hK K
  (try simp only [Act.put, List.setIfInBounds_toArray, List.set_cons_zero, List.set_cons_succ])
  (refine WG.takeP (i := 10) (v := ?_) rfl (by kernel_rfl) (by kernel_rfl) (by kernel_rfl) (by kernel_rfl) (fun _ _ _ h => h) (Or.inl ⟨by rfl, ?_⟩) ?_; rotate_left; (intro w hSw; clear hSw; go_simp; (try with_reducible rfl)); (try simp only [Act.put, List.setIfInBounds_toArray, List.set_cons_zero, List.set_cons_succ]))
  refine WG.last (i := 11) rfl (by kernel_rfl) (by kernel_rfl) (fun K hK => ?_)
  go_simp
  refine hK.out _ _ ?_
  clear hK K
  (try simp only [Act.put, List.setIfInBounds_toArray, List.set_cons_zero, List.set_cons_succ])
  refine WG.done (by kernel_rfl) ?_
  go_wp2
  go_ret
  have hg10 := HG10.out
  have hB10 : Below base w w10 := Below.grown ((HEW.out.trans HX9.out).mono HBZ.out) hg10 (Nat.le_trans HBZ.out (HEW.out.trans HX9.out).size) (fun q hq => (Own.lt HV9.out q hq).1)
  obtain ⟨hO11, _⟩ := ODB.turn HO.out HNT.out HUT.out (y := ⟨.slice A10 (u.qs.length + 1) c10, u.qs ++ [(x, .slice A2 x.need.length c2)]⟩) (w' := w10) (fun q hq hne => (hg10.block q (Nat.lt_of_lt_of_le hq (HEW.out.trans HX9.out).size) (fun e => hne (by rw [HCV.out, e]))).trans ((HEW.out.trans HX9.out).block q hq)) HO10.out
  refine ⟨_, rfl, ⟨_, hO11, ?_, nodup_appB HNT.out HUT.out (H := w2.heap.size + 1) (by rw [HCV.out]; exact HAT10.out.imp id (fun h => by rw [h]; simp)) (fun q hq => by have := (ODB.tlt HO.out q hq).2; have := (HEW.out.trans HE2.out).size; omega), ?_⟩, Below.setCell hB10 HGB.out _⟩
  · rw [List.map_set, HDD.out]
    unfold BinW.d
    rw [List.map_append]
    have := HUD.out
    unfold BinW.d at this
    rw [this]
    rfl
  · have h1 : (binNs (us.set t ⟨.slice A10 (u.qs.length + 1) c10, u.qs ++ [(x, .slice A2 x.need.length c2)]⟩)).Perm (needBs [(x, .slice A2 x.need.length c2)] ++ binNs us) := by
      rw [binNs_eq, binNs_eq, List.map_set, ← needBs_app]
      unfold needBs
      refine List.Perm.filterMap _ ?_
      exact flatten_set_perm (us.map BinW.qs) t u.qs _ (by rw [List.getElem?_map, HUT.out]; rfl)
    rw [h1.nodup_iff, needBs_one]
    refine List.nodup_append.2 ⟨optList_nodup _, HNI.out, fun a ha q hq e => ?_⟩
    subst e
    have h2 := (Own.lt HO2.out a (by simpa using ha)).1
    have h3 := (ODB.ilt HO.out a hq).2
    have := (HEW.out.trans HD8.out).size
    omega
theorem iPlaced (v xv : Value) (room : List Int) (bs : List (List TaskD)) (z : Int) (x : TaskD) (base : Nat) (w : World) (h : DB w base v bs) (hx : TaskV w xv x) (hz : z < 0 ∨ ∃ (k : Nat) (b : List TaskD), z = (k : Int) ∧ bs[k]? = some b ∧ l11fits room b x = true) (hl : x.need.length ≤ 4000000) (hbl : bs.length ≤ 4000000) (hbb : ∀ b ∈ bs, b.length ≤ 4000000) (hbz : base ≤ w.heap.size) :
    Calls Tryd.prog 104 #[v, .int .i64 z, xv] w (RetPl base (putL bs z x) w) := by
  rcases hz with hz | ⟨k, b, rfl, hk, _⟩
  · rw [putL_new hz]
    exact iPlacedNew v xv bs z x base w h hx hz hl hbl hbz
  · rw [putL_at hk]
    exact iPlacedAt v xv bs k b x base w h hx hk hl hbl (hbb b (List.mem_of_getElem? hk)) hbz

end Go.Proofs.YtllchacophapoaaDoor

/- The program's all: tasks one after the other where a chooser tells.  -/
namespace Go.Proofs.YtllchacophapoaaDoor
open Go.RowKit
set_option maxRecDepth 4000

/-- what putting keeps -/
theorem all_small {room : List Int} {f : List (List TaskD) → TaskD → Int} (hc : Chooses room f) {ts : List TaskD} (hok : tasksOk room ts = true) (k : Nat) : binsOk room (allBy f (ts.take k)) = true := allBy_ok hc (tasks_sub (List.take_sublist k ts) hok)
theorem DB.form {w : World} {base : Nat} {v : Value} {bs : List (List TaskD)} (h : DB w base v bs) : ∃ A c, v = .slice A bs.length c := by
  obtain ⟨us, h1, h2, _⟩ := h
  obtain ⟨A, c, hv, _⟩ := h1.form
  exact ⟨A, c, by rw [hv, ← h2, List.length_map]⟩

set_option maxHeartbeats 4000000 in
theorem iAllFirst (rv tv : Value) (room : List Int) (ts : List TaskD) (w : World) (hR : RI w rv room) (h : RT w tv ts) (hok : tasksOk room ts = true) :
    Calls Tryd.prog 96 #[.func (.func 95) #[] #[], rv, tv] w fun e w' => ∃ v, e = .returned v ∧ DB w' w.heap.size v (allBy (fun bs x => firstAt room bs x) ts) ∧ Ext w w' := by
  have HR := hid hR
  obtain ⟨Ar, cr, rfl, _⟩ := hR
  obtain ⟨A, c, rfl, hc, hc', hg⟩ := RT.get h
  have HOK := hid hok
  have HSM := hid (fun k => bins_small (all_small (chooses_first room) hok k))
  have HRW := hid (fun k => bins_rows (all_small (chooses_first room) hok k))
  have HGT := hid (tasksOk_good hok)
  have HG := hid hg
  have hl14 := tasksOk_len hok
  obtain ⟨W, hW⟩ : ∃ W, W = w.alloc (.cells #[] 28) := ⟨_, rfl⟩
  have hEW : Ext w W := by rw [hW]; exact Ext.alloc _ _
  have hD0 : DB W w.heap.size (.slice (some ⟨w.heap.size, 0, none⟩) 0 0) [] := ⟨[], by rw [hW]; exact Own.made #[] 0 (Nat.le_refl _) (by omega) rfl, rfl, by simp [rowBs], by simp [binNs]⟩
  have HEW := hid hEW
  have HD0 := hid hD0
  clear hEW hD0 h hg hok
  go_enter Tryd.func96, Tryd.ntmps96
  go_wp2
  rw [← hW]
  clear hW
  go_loopw [7, 13] (fun o i wr => ∃ (u : Value) (k : Nat), u = o ∧ k ≤ ts.length ∧ i = .int .i64 k ∧ Hid (DB wr w.heap.size u (allBy (fun bs x => firstAt room bs x) (ts.take k)) ∧ Ext w wr)) (fun _ i _ => ts.length - (intOf i).toNat)
  case atStart => exact ⟨_, 0, rfl, Nat.zero_le _, rfl, hid ⟨HD0.out, HEW.out⟩⟩
  case round =>
    obtain ⟨u, k, rfl, hk, rfl, H⟩ := hrel
    by_cases hlt : k < ts.length
    · obtain ⟨b, o, x, An, cn, rfl, e, c0, c1, hnx⟩ := HG.out k hlt
      have i1 : (k : Int) < (ts.length : Int) := by omega
      have i0 : (0 : Int) ≤ (k : Int) := by omega
      have HDB := hid H.out.1
      have HE := hid H.out.2
      have c0r := HE.out.cell c0
      have c1r := HE.out.cell c1
      have HNX := hid (RI.ext hnx HE.out)
      have HXG := hid (HGT.out.2 x (List.mem_of_getElem? e.out))
      have HST := hid (allBy_take_succ (fun bs x => firstAt room bs x) e.out)
      obtain ⟨Bs, hBs⟩ : ∃ Bs, Bs = allBy (fun bs x => firstAt room bs x) (ts.take k) := ⟨_, rfl⟩
      have HSK := hid (hBs ▸ HSM.out k)
      have HRK := hid (hBs ▸ HRW.out k)
      rw [← hBs] at HDB HST
      obtain ⟨Au, cu, hu⟩ := HDB.out.form
      subst hu
      clear hBs H c0 c1 hnx
      obtain ⟨xi, xn⟩ := x
      obtain ⟨y0, y1, y0f, y1f, k1, k1f, hkk, _⟩ := box2 (heap_alloc_new wr (.cells #[.int .i64 0, .slice none 0 0] 44)) (.int .i64 xi) (.slice An xn.length cn)
      obtain ⟨W5, hW5⟩ : ∃ W5, W5 = wr.alloc (.cells #[.int .i64 xi, .slice An xn.length cn] 44) := ⟨_, rfl⟩
      have hE5 : Ext wr W5 := by rw [hW5]; exact Ext.alloc _ _
      have hxb : W5.heap[wr.heap.size]? = some (.cells #[.int .i64 xi, .slice An xn.length cn] 44 (0, 0)) := by rw [hW5]; exact heap_alloc_new _ _
      have KB : Hid (∀ w', Ext W5 w' → w'.cell? ⟨wr.heap.size, 0, none⟩ = some (.int .i64 xi) ∧ w'.cell? ⟨wr.heap.size, 1, none⟩ = some (.slice An xn.length cn)) := hid fun w' hw => ⟨obj_cell (hw.obj hxb) (i := 0) rfl, obj_cell (hw.obj hxb) (i := 1) rfl⟩
      have HE5 := hid hE5
      have HDr : Hid (Ext W5 W5.drew) := hid (Below.drew (Below.refl _ _))
      clear hkk hxb hE5
      go_wp2
      rw [← hW5]
      clear hW5 y0 y1 y0f y1f k1 k1f c0r c1r
      obtain ⟨zz, hzz⟩ : ∃ zz, zz = firstAt room Bs ⟨xi, xn⟩ := ⟨_, rfl⟩
      have HZC : Hid (zz < 0 ∨ ∃ (k : Nat) (b : List TaskD), zz = (k : Int) ∧ Bs[k]? = some b ∧ l11fits room b ⟨xi, xn⟩ = true) := hid (by rw [hzz]; exact (chooses_first room) Bs ⟨xi, xn⟩)
      have HZZ := hid hzz
      clear hzz
      refine WG.start (fun w' => w'.cell? ⟨wr.heap.size, 0, none⟩ = some (.int .i64 xi) ∧ w'.cell? ⟨wr.heap.size, 1, none⟩ = some (.slice An xn.length cn)) [7,8] (by kernel_rfl) (by exact KB.out _ HDr.out) (fun hHeld => ?_)
      obtain ⟨pz, hpz⟩ : ∃ x, x = W5.drew := ⟨_, rfl⟩
      rw [← hpz] at hHeld HDr ⊢
      clear hpz
      (refine WG.take (i := 0) (v := ?_) rfl (by kernel_rfl) (by kernel_rfl) (by kernel_rfl) (by kernel_rfl) (fun _ _ _ h => h) (Or.inl ⟨by rfl, ?_⟩) (by assumption) ?_; rotate_left; (intro w hSw; (try dsimp only at hSw); go_split_ands; go_simp; (try with_reducible rfl)); (try simp only [Act.put, List.setIfInBounds_toArray, List.set_cons_zero, List.set_cons_succ]))
      (refine WG.take (i := 1) (v := ?_) rfl (by kernel_rfl) (by kernel_rfl) (by kernel_rfl) (by kernel_rfl) (fun _ _ _ h => h) (Or.inl ⟨by rfl, ?_⟩) (by assumption) ?_; rotate_left; (intro w hSw; (try dsimp only at hSw); go_split_ands; go_simp; (try with_reducible rfl)); (try simp only [Act.put, List.setIfInBounds_toArray, List.set_cons_zero, List.set_cons_succ]))
      (refine WG.take (i := 2) (v := ?_) rfl (by kernel_rfl) (by kernel_rfl) (by kernel_rfl) (by kernel_rfl) (fun _ _ _ h => h) (Or.inl ⟨by rfl, ?_⟩) (by assumption) ?_; rotate_left; (intro w hSw; (try dsimp only at hSw); go_split_ands; go_simp; (try with_reducible rfl)); (try simp only [Act.put, List.setIfInBounds_toArray, List.set_cons_zero, List.set_cons_succ]))
      (refine WG.take (i := 3) (v := ?_) rfl (by kernel_rfl) (by kernel_rfl) (by kernel_rfl) (by kernel_rfl) (fun _ _ _ h => h) (Or.inl ⟨by rfl, ?_⟩) (by assumption) ?_; rotate_left; (intro w hSw; (try dsimp only at hSw); go_split_ands; go_simp; (try with_reducible rfl)); (try simp only [Act.put, List.setIfInBounds_toArray, List.set_cons_zero, List.set_cons_succ]))
      (refine WG.take (i := 4) (v := ?_) rfl (by kernel_rfl) (by kernel_rfl) (by kernel_rfl) (by kernel_rfl) (fun _ _ _ h => h) (Or.inl ⟨by rfl, ?_⟩) (by assumption) ?_; rotate_left; (intro w hSw; (try dsimp only at hSw); go_split_ands; go_simp; (try with_reducible rfl)); (try simp only [Act.put, List.setIfInBounds_toArray, List.set_cons_zero, List.set_cons_succ]))
      (refine WG.take (i := 6) (v := ?_) rfl (by kernel_rfl) (by kernel_rfl) (by kernel_rfl) (by kernel_rfl) (fun _ _ _ h => h) (Or.inl ⟨by rfl, ?_⟩) (by assumption) ?_; rotate_left; (intro w hSw; (try dsimp only at hSw); go_split_ands; go_simp; (try with_reducible rfl)); (try simp only [Act.put, List.setIfInBounds_toArray, List.set_cons_zero, List.set_cons_succ]))
      refine WG.one (i := 5) rfl (by kernel_rfl) (fun K hK => ?_)
      go_simp; refine (iFirstOf room Bs ⟨xi, xn⟩ Ar cr Au cu An cn _ (RI.ext HR.out (HE.out.trans (HE5.out.trans HDr.out))) (RB.ext HDB.out.read (HE5.out.trans HDr.out)) (RI.ext HNX.out (HE5.out.trans HDr.out)) HSK.out.1 (fun b hb => (HSK.out.2.2.2 b hb).1) HXG.out (by have := HSK.out.2.1; omega)).mono ?_; rw [← HZZ.out]; rintro e6 w6 ⟨rfl, hE6⟩; have HE6 := hid (HDr.out.trans hE6); clear hE6; (try dsimp only)
      refine hK.out _ _ (by exact KB.out _ HE6.out) (fun hHeld => ?_)
      clear hK K
      (try simp only [Act.put, List.setIfInBounds_toArray, List.set_cons_zero, List.set_cons_succ])
      refine WG.last (i := 7) rfl (by kernel_rfl) (by kernel_rfl) (fun K hK => ?_)
      go_simp; refine (iPlaced _ _ room Bs zz ⟨xi, xn⟩ w.heap.size _ (HDB.out.ext (HE5.out.trans HE6.out)) ⟨_, rfl, RI.ext HNX.out (HE5.out.trans HE6.out)⟩ HZC.out (by have h3 : xn.length = 3 := HXG.out.1; show xn.length ≤ 4000000; omega) (by have := HSK.out.2.1; omega) (fun b hb => (HRK.out.2.2 b hb).1) (HE.out.trans (HE5.out.trans HE6.out)).size).mono ?_; rintro e7 w7 ⟨v7, rfl, hD7, hB7⟩; have HD7 := hid hD7; have HB7 : Hid (Ext w w7) := hid (Below.trans (HE.out.trans (HE5.out.trans HE6.out)) hB7); clear hD7 hB7; (try dsimp only)
      refine hK.out _ _ ?_
      clear hK K
      (try simp only [Act.put, List.setIfInBounds_toArray, List.set_cons_zero, List.set_cons_succ])
      refine WG.last (i := 8) rfl (by kernel_rfl) (by kernel_rfl) (fun K hK => ?_)
      go_simp
      refine hK.out _ _ ?_
      clear hK K
      (try simp only [Act.put, List.setIfInBounds_toArray, List.set_cons_zero, List.set_cons_succ])
      refine WG.done (by kernel_rfl) ?_
      go_wp2
      go_roundw
      case rel => exact ⟨_, k + 1, rfl, by omega, by go_num, hid ⟨by rw [HST.out, ← HZZ.out]; exact HD7.out, HB7.out⟩⟩
      case measure => simp [intOf]; omega
    · have hk' : k = ts.length := by omega
      subst hk'
      have HDB := hid H.out.1
      have HE := hid H.out.2
      go_wp2
      go_ret
      have h1 := HDB.out
      rw [List.take_length] at h1
      exact ⟨_, rfl, h1, HE.out⟩

end Go.Proofs.YtllchacophapoaaDoor

/- The program's all, for tasks that are to be apart. (XPc7 again, with another chooser.) -/
namespace Go.Proofs.YtllchacophapoaaDoor
open Go.RowKit
set_option maxRecDepth 4000

end Go.Proofs.YtllchacophapoaaDoor
