/- A cluster, and a cluster and a dimension, are drawn. -/
import Derived.Test.YtcfpilkhjpegcaaK9
import Derived.Test.YtcfpilkhjpegcaaK4
import Derived.Test.YtcfpilkhjpegcaaK8
import Derived.Test.YtcfpilkhjpegcaaK64
namespace Go.Proofs.Ytcfpilkhjpegcaa
open Go.RowKit
set_option maxRecDepth 4000

set_option maxHeartbeats 4000000 in
theorem dDrawUsageOf (v : Value) (bs : List Int) (w : World) (h : XBy w v bs) (hl : bs.length ≤ 4000000) :
    Calls Try.prog 17 #[v] w fun e w' => ∃ (cv : Value) (C : ClusD), e = .returned cv ∧ OCl w' w.heap.size cv C ∧ SmallC C ∧ Ext w w' := by
  have HW := hid (Ext.alloc w (.cells #[.slice none 0 0, .slice none 0 0] 26))
  have HB := hid (h.ext (Ext.alloc w (.cells #[.slice none 0 0, .slice none 0 0] 26)))
  have Z0 := hid (heap_alloc_new w (.cells #[.slice none 0 0, .slice none 0 0] 26))
  clear h
  go_enter Try.func17, Try.ntmps17
  go_wp2_with (first
    | (go_at_call 29; refine (dOpen _ bs _ HB.out hl).mono ?_; rintro e w1 ⟨rfl, ⟨bv, bs', hr1⟩, hE1⟩; have HR1 := hid hr1; have HE1 := hid (HW.out.trans hE1); have Z1 := hid (hE1.obj Z0.out); obtain ⟨b, hb⟩ : ∃ b, b = (w.alloc (.cells #[.slice none 0 0, .slice none 0 0] 26)).heap.size := ⟨_, rfl⟩; have hbw : w.heap.size < b := (by rw [hb]; simp); rw [← hb] at HR1 ⊢; clear hb hr1 hE1)
    | (go_at_call 30; refine (dCluster b bv bs' 0 _ HR1.out (by omega)).mono ?_; rintro e w2 ⟨cv, C, rfl, hO2, hS2, hD2⟩; have HSC := hid hS2; obtain ⟨Ar, cr, Au, cu, rfl⟩ := hO2.form; have Z2 := hid (hD2.1.obj Z1.out (by omega)); have HB2 : Hid (Ext w w2) := hid (Below.trans HE1.out (hD2.1.below (Nat.le_of_lt hbw) HE1.out.size)); have HO2 := hid (hO2.low HE1.out.size); have HD2 := hid hD2; obtain ⟨y0, y1, y0f, y1f, k1, k1f, hkk, hsm⟩ := box2 Z2.out (.slice Ar C.room.length cr) (.slice Au C.units.length cu); have r0 := obj_cell hkk (i := 0) rfl; have r1 := obj_cell hkk (i := 1) rfl; have HSM := hid hsm; clear hkk hsm hO2 hS2 hD2))
  refine bodyPost_ret (v := .agg #[.slice Ar C.room.length cr, .slice Au C.units.length cu]) (by simp [results, Try.results17, go_sem, r0, r1]) rfl ?_
  exact ⟨_, _, rfl, HO2.out.same (HSM.out _ notClu), HSC.out, Below.setCell (Below.setCell HB2.out (Nat.le_refl _) _) (Nat.le_refl _) _⟩

set_option maxHeartbeats 4000000 in
theorem dDrawUsageShare (v : Value) (bs : List Int) (w : World) (h : XBy w v bs) (hl : bs.length ≤ 4000000) :
    Calls Try.prog 9 #[v] w fun e w' => ∃ (cv : Value) (C : ClusD) (dim : Int), e = .returned (.tuple #[cv, .int .i64 dim]) ∧ OCl w' w.heap.size cv C ∧ SmallC C ∧ Ext w w' := by
  have HW := hid (Ext.alloc w (.cells #[.slice none 0 0, .slice none 0 0] 26))
  have HB := hid (h.ext (Ext.alloc w (.cells #[.slice none 0 0, .slice none 0 0] 26)))
  have Z0 := hid (heap_alloc_new w (.cells #[.slice none 0 0, .slice none 0 0] 26))
  clear h
  go_enter Try.func9, Try.ntmps9
  go_wp2_with (first
    | (go_at_call 29; refine (dOpen _ bs _ HB.out hl).mono ?_; rintro e w1 ⟨rfl, ⟨bv, bs', hr1⟩, hE1⟩; have HR1 := hid hr1; have HE1 := hid (HW.out.trans hE1); have Z1 := hid (hE1.obj Z0.out); obtain ⟨b, hb⟩ : ∃ b, b = (w.alloc (.cells #[.slice none 0 0, .slice none 0 0] 26)).heap.size := ⟨_, rfl⟩; have hbw : w.heap.size < b := (by rw [hb]; simp); rw [← hb] at HR1 ⊢; clear hb hr1 hE1)
    | (go_at_call 30; refine (dCluster b bv bs' 0 _ HR1.out (by omega)).mono ?_; rintro e w2 ⟨cv, C, rfl, hO2, hS2, hD2⟩; have HSC := hid hS2; obtain ⟨Ar, cr, Au, cu, rfl⟩ := hO2.form; have Z2 := hid (hD2.1.obj Z1.out (by omega)); have HB2 : Hid (Ext w w2) := hid (Below.trans HE1.out (hD2.1.below (Nat.le_of_lt hbw) HE1.out.size)); have HO2 := hid (hO2.low HE1.out.size); have HD2 := hid hD2; obtain ⟨y0, y1, y0f, y1f, k1, k1f, hkk, _⟩ := box2 (heap_alloc_new w2 (.cells #[.slice none 0 0, .slice none 0 0] 26)) (.slice Ar C.room.length cr) (.slice Au C.units.length cu); clear hkk hO2 hS2 hD2))
  obtain ⟨W3, hW3⟩ : ∃ W3, W3 = w2.alloc (.cells #[.slice Ar C.room.length cr, .slice Au C.units.length cu] 26) := ⟨_, rfl⟩
  have hE3 : Ext w2 W3 := by rw [hW3]; exact Ext.alloc _ _
  have hX3 : W3.heap[w2.heap.size]? = some (.cells #[.slice Ar C.room.length cr, .slice Au C.units.length cu] 26 (0, 0)) := by rw [hW3]; exact heap_alloc_new _ _
  rw [← hW3]
  clear hW3 y0 y1 y0f y1f k1 k1f
  have X3 := hid hX3
  have Z3 := hid (hE3.obj Z2.out)
  have HO3 := hid (HO2.out.ext hE3)
  have HB3 := hid (HB2.out.trans hE3)
  have HD3 := hid (HD2.out.ext hE3)
  obtain ⟨H, hH⟩ : ∃ H, H = w2.heap.size := ⟨_, rfl⟩
  have hHw : w.heap.size < H := by rw [hH]; exact obj_lt Z2.out
  have hHb : b < H := by rw [hH]; obtain ⟨_, _, _, hr⟩ := HD2.out; exact obj_lt hr.1
  rw [← hH] at X3 ⊢
  clear hX3 hE3 hH
  have KS3 := hid (And.intro (obj_cell X3.out (i := 0) rfl) (obj_cell X3.out (i := 1) rfl))
  refine WG.start (fun w' => w'.cell? ⟨H, 0, none⟩ = some (.slice Ar C.room.length cr) ∧ w'.cell? ⟨H, 1, none⟩ = some (.slice Au C.units.length cu)) [8] (by kernel_rfl) (by exact KS3.out) (fun hHeld => ?_)
  (refine WG.take (i := 0) (v := ?_) rfl (by kernel_rfl) (by kernel_rfl) (by kernel_rfl) (by kernel_rfl) (fun _ _ _ h => h) (Or.inl ⟨by rfl, ?_⟩) (by assumption) ?_; rotate_left; (intro w hSw; (try dsimp only at hSw); go_split_ands; go_simp; (try with_reducible rfl)); (try simp only [Act.put, List.setIfInBounds_toArray, List.set_cons_zero, List.set_cons_succ]))
  (refine WG.take (i := 1) (v := ?_) rfl (by kernel_rfl) (by kernel_rfl) (by kernel_rfl) (by kernel_rfl) (fun _ _ _ h => h) (Or.inl ⟨by rfl, ?_⟩) (by assumption) ?_; rotate_left; (intro w hSw; (try dsimp only at hSw); go_split_ands; go_simp; (try with_reducible rfl)); (try simp only [Act.put, List.setIfInBounds_toArray, List.set_cons_zero, List.set_cons_succ]))
  (refine WG.take (i := 3) (v := ?_) rfl (by kernel_rfl) (by kernel_rfl) (by kernel_rfl) (by kernel_rfl) (fun _ _ _ h => h) (Or.inl ⟨by rfl, ?_⟩) (by assumption) ?_; rotate_left; (intro w hSw; (try dsimp only at hSw); go_split_ands; go_simp; (try with_reducible rfl)); (try simp only [Act.put, List.setIfInBounds_toArray, List.set_cons_zero, List.set_cons_succ]))
  obtain ⟨p4, hp4⟩ : ∃ p4, p4 = W3.drew := ⟨_, rfl⟩
  have hE4 : Ext W3 p4 := by rw [hp4]; exact Below.drew (Below.refl _ _)
  rw [← hp4] at hHeld ⊢
  clear hp4
  have X4 := hid (hE4.obj X3.out)
  have Z4 := hid (hE4.obj Z3.out)
  have HO4 := hid (HO3.out.ext hE4)
  have HB4 : Hid (Ext w p4) := hid (HB3.out.trans hE4)
  have HD4 := hid (HD3.out.ext hE4)
  clear hE4
  refine WG.one (i := 2) rfl (by kernel_rfl) (fun K hK => ?_)
  go_simp; obtain ⟨hg, pp, hpp, hr⟩ := HD4.out; refine (dPick b bv bs' pp _ _ hr (by omega) (by omega)).mono ?_; rintro e w5 ⟨x5, rfl, hx, hg6, hr6⟩; have X5 := hid (hg6.obj (k := H) X4.out (by omega)); have Z5 := hid (hg6.obj (k := w.heap.size) Z4.out (by omega)); have HO5 := hid (OCl.same HO4.out (hg6.same hr _ notRd3)); have HB5 : Hid (Ext w w5) := hid (Below.trans HB4.out (hg6.below (Nat.le_of_lt hbw) HB4.out.size)); have HD5 := hid (DrawR.more HD4.out hg6 hr6 hpp); have hx5 := pick_lt hx (by decide); clear hg hpp hr hg6 hr6 hx; (try dsimp only)
  refine hK.out _ _ (by exact (And.intro (obj_cell X5.out (i := 0) rfl) (obj_cell X5.out (i := 1) rfl))) (fun hHeld => ?_)
  clear hK K
  (try simp only [Act.put, List.setIfInBounds_toArray, List.set_cons_zero, List.set_cons_succ])
  refine WG.one (i := 4) rfl (by kernel_rfl) (fun K hK => ?_)
  go_simp; obtain ⟨hg, pp, hpp, hr⟩ := HD5.out; refine (dPick b bv bs' pp _ _ hr (by omega) (by omega)).mono ?_; rintro e w6 ⟨x6, rfl, hx, hg6, hr6⟩; have X6 := hid (hg6.obj (k := H) X5.out (by omega)); have Z6 := hid (hg6.obj (k := w.heap.size) Z5.out (by omega)); have HO6 := hid (OCl.same HO5.out (hg6.same hr _ notRd3)); have HB6 : Hid (Ext w w6) := hid (Below.trans HB5.out (hg6.below (Nat.le_of_lt hbw) HB5.out.size)); have HD6 := hid (DrawR.more HD5.out hg6 hr6 hpp); have hx6 := pick_lt hx (by decide); clear hg hpp hr hg6 hr6 hx; (try dsimp only)
  refine hK.out _ _ (by exact (And.intro (obj_cell X6.out (i := 0) rfl) (obj_cell X6.out (i := 1) rfl))) (fun hHeld => ?_)
  clear hK K
  (try simp only [Act.put, List.setIfInBounds_toArray, List.set_cons_zero, List.set_cons_succ])
  obtain ⟨d, hd1, hdl⟩ : ∃ d : Nat, ((x6 : Int).tdiv 11 = (d : Int)) ∧ d ≤ 1 := ⟨x6 / 11, by rw [Int.tdiv_eq_ediv_of_nonneg (by omega)]; simp, by omega⟩
  have hd2 : (x6 : Int) / 11 = (d : Int) := by rw [← hd1, Int.tdiv_eq_ediv_of_nonneg (by omega)]
  have hww : IntKind.i64.wrap (d : Int) = (d : Int) := IntWalk.i64_in _ (by omega)
  have hw3 : IntKind.i64.wrap ((x5 : Int) - (d : Int)) = (x5 : Int) - (d : Int) := IntWalk.i64_in _ (by omega)
  (refine WG.take (i := 5) (v := ?_) rfl (by kernel_rfl) (by kernel_rfl) (by kernel_rfl) (by kernel_rfl) (fun _ _ _ h => h) (Or.inl ⟨by rfl, ?_⟩) (by assumption) ?_; rotate_left; (intro w hSw; (try dsimp only at hSw); go_split_ands; go_simp; (try with_reducible rfl)); (try simp only [Act.put, List.setIfInBounds_toArray, List.set_cons_zero, List.set_cons_succ]))
  (refine WG.take (i := 6) (v := ?_) rfl (by kernel_rfl) (by kernel_rfl) (by kernel_rfl) (by kernel_rfl) (fun _ _ _ h => h) (Or.inl ⟨by rfl, ?_⟩) (by assumption) ?_; rotate_left; (intro w hSw; (try dsimp only at hSw); go_split_ands; go_simp; (try with_reducible rfl)); (try simp only [Act.put, List.setIfInBounds_toArray, List.set_cons_zero, List.set_cons_succ]))
  obtain ⟨y0, y1, y0f, y1f, k1, k1f, hkk, hsm⟩ := box2 Z6.out (.slice Ar C.room.length cr) (.slice Au C.units.length cu)
  have r0 := obj_cell hkk (i := 0) rfl
  have r1 := obj_cell hkk (i := 1) rfl
  have HSM := hid hsm
  clear hkk hsm
  refine WG.one (i := 7) rfl (by kernel_rfl) (fun K hK => ?_)
  go_simp
  refine hK.out _ _ (by exact (And.intro (obj_cell (obj_far (obj_far X6.out (p := ⟨w.heap.size, 0, none⟩) (by show H ≠ w.heap.size; omega) _) (p := ⟨w.heap.size, 1, none⟩) (by show H ≠ w.heap.size; omega) _) (i := 0) rfl) (obj_cell (obj_far (obj_far X6.out (p := ⟨w.heap.size, 0, none⟩) (by show H ≠ w.heap.size; omega) _) (p := ⟨w.heap.size, 1, none⟩) (by show H ≠ w.heap.size; omega) _) (i := 1) rfl))) (fun hHeld => ?_)
  clear hK K
  (try simp only [Act.put, List.setIfInBounds_toArray, List.set_cons_zero, List.set_cons_succ])
  refine WG.last (i := 8) rfl (by kernel_rfl) (by kernel_rfl) (fun K hK => ?_)
  go_simp
  refine hK.out _ _ ?_
  clear hK K
  (try simp only [Act.put, List.setIfInBounds_toArray, List.set_cons_zero, List.set_cons_succ])
  refine WG.done (by kernel_rfl) ?_
  go_wp2
  refine bodyPost_ret (v := .tuple #[.agg #[.slice Ar C.room.length cr, .slice Au C.units.length cu], .int .i64 ((x5 : Int) - (d : Int))]) (by simp [results, Try.results9, go_sem, r0, r1]) rfl ?_
  exact ⟨_, _, _, rfl, HO6.out.same (HSM.out _ notClu), HSC.out, Below.setCell (Below.setCell HB6.out (Nat.le_refl _) _) (Nat.le_refl _) _⟩

end Go.Proofs.Ytcfpilkhjpegcaa

/- The load of a node's tasks. -/
namespace Go.Proofs.Ytcfpilkhjpegcaa
open Go.RowKit
set_option maxRecDepth 4000

theorem unit_tasks {C : ClusD} (h : clusOk C = true) {u : UnitD} (hu : u ∈ C.units) : tasksOk C.room u.tasks = true := by
  have hb := binsOk_tk (clusOk_bins h)
  obtain ⟨h1, h2, h3, h4⟩ := (tasksOk_iff _ _).1 hb
  have hs : u.tasks.Sublist (C.units.map (·.tasks)).flatten := List.sublist_flatten_of_mem (List.mem_map.2 ⟨u, hu, rfl⟩)
  exact (tasksOk_iff _ _).2 ⟨h1, Nat.le_trans hs.length_le h2, fun t ht => h3 t (hs.subset ht), (hs.map _).nodup h4⟩

theorem iBinLoad (rv v : Value) (room : List Int) (ts : List TaskD) (w : World) (hR : RI w rv room) (h : RT w v ts) (hid' : ∀ t ∈ ts, IdR t.id) (hok : tasksOk room ts = true) :
    Calls Try.prog 20 #[rv, v] w (RetRI w (loadL ts)) := by
  have HT := hid h
  have HOK := hid hok
  have HG := hid (tasksOk_good hok)
  clear hok
  go_enter Try.func20, Try.ntmps20
  go_wp2_with (first
    | (go_at_call 48; refine (iTasksValid _ _ room ts _ hR HT.out hid').mono ?_; rintro e w1 ⟨rfl, hE1⟩; rw [HOK.out]; have HE1 := hid hE1; clear hE1)
    | (go_at_call 49; refine (iLoad _ ts _ (HT.out.ext HE1.out) HG.out).mono ?_; rintro e w2 ⟨v2, rfl, hO2, hE2⟩; have HO2 := hid hO2.read; have HE2 := hid (HE1.out.trans hE2); clear hO2 hE2))
  go_ret
  exact ⟨_, rfl, HO2.out, HE2.out⟩
end Go.Proofs.Ytcfpilkhjpegcaa
