/- The lock: its functions and types under their numbers. -/
import Derived.Test.YtkdkmihgnplooaaGreatK10
import Derived.Test.YtkdkmihgnplooaaGreatK4
import Derived.Test.YtkdkmihgnplooaaGreatK8
import Derived.Test.YtkdkmihgnplooaaGreatProg
import Derived.Conc.MuLone
import Derived.KernelRfl
import Derived.Defers
namespace Go.Proofs.YtkdkmihgnplooaaGreat
abbrev muLink : Go.Conc.Locks.MuLink := { lock := 47, unlock := 48, ilock := 70, iunlock := 71, lockSlow := 89, unlockSlow := 92, disable := 85, enable := 87, acquire := 88, relMerge := 90, cas32 := 86, add32 := 91, tMutex := 83, tIMutex := 81, tPMutex := 100, tPIMutex := 114, tPI32 := 116, tUP := 118, tNoCopy := 78, tU32 := 79 }
theorem muLib : Go.Conc.Locks.MuLib Tryz.prog muLink :=
  ⟨Tryz.func47, Tryz.func48, Tryz.func70, Tryz.func71, Tryz.func85, Tryz.func87, Tryz.func88, Tryz.func90, Tryz.func86, Tryz.func91, Tryz.underlying81, Tryz.runUnderlying81, Tryz.sizeOf81, Tryz.isAgg81, Tryz.zeroValue81, Tryz.underlying83, Tryz.runUnderlying83, Tryz.sizeOf83, Tryz.isAgg83, Tryz.zeroValue83, Tryz.underlying100, Tryz.runUnderlying100, Tryz.sizeOf100, Tryz.isAgg100, Tryz.zeroValue100, Tryz.underlying114, Tryz.runUnderlying114, Tryz.sizeOf114, Tryz.isAgg114, Tryz.zeroValue114, Tryz.underlying116, Tryz.runUnderlying116, Tryz.sizeOf116, Tryz.isAgg116, Tryz.zeroValue116, Tryz.underlying118, Tryz.runUnderlying118, Tryz.sizeOf118, Tryz.isAgg118, Tryz.zeroValue118, Tryz.underlying78, Tryz.runUnderlying78, Tryz.sizeOf78, Tryz.isAgg78, Tryz.zeroValue78, Tryz.underlying21, Tryz.runUnderlying21, Tryz.sizeOf21, Tryz.isAgg21, Tryz.zeroValue21, (by kernel_rfl)⟩
end Go.Proofs.YtkdkmihgnplooaaGreat

/- The program's host hands its cluster out. -/
namespace Go.Proofs.YtkdkmihgnplooaaGreat
open Go.RowKit Go.MuLone

set_option maxHeartbeats 4000000 in
theorem iHostCluster (H base : Nat) (C : ClusD) (ps : List (UnitD × Value)) (rv : Value) (cells : List Value) (w : World) (h : HostV w H base C ps rv cells 0) (hs : SmallC C) :
    Calls Tryz.prog 46 #[.pointer (some ⟨H, 0, none⟩)] w fun e w' => ∃ v', e = .returned v' ∧ OCl w' w.heap.size v' C ∧ Ext w w' := by
  have hr := h.room
  obtain ⟨Ar, cr, rfl, _⟩ := hr
  have hHw : H < w.heap.size := obj_lt h.blk
  obtain ⟨W, hW⟩ : ∃ W, W = w.alloc (.cells #[.slice none 0 0, .slice none 0 0] 32) := ⟨_, rfl⟩
  have hEW : Ext w W := by rw [hW]; exact Ext.alloc _ _
  have hz : W.heap[w.heap.size]? = some (.cells #[.slice none 0 0, .slice none 0 0] 32 (0, 0)) := by rw [hW]; exact heap_alloc_new _ _
  have HW := hid (h.ext hEW)
  have c0 := HW.out.at.1
  have f0 := HW.out.at.2.2.2 0
  have H1 := hid (HW.out.lock 1)
  have HG1 := hid ((Gr.of_ext (b := H) hEW).trans (Gr.setCell W H 0 (.int .i32 1)))
  have Z1 := hid (obj_far hz (p := ⟨H, 0, none⟩) (by show w.heap.size ≠ H; omega) (.int .i32 1))
  have HB := hid h.blk
  have hn10 := h.n10
  have HSM := hid hs
  have HLEN := hid (show C.room.length ≤ 4000000 ∧ ∀ u ∈ C.units, u.tasks.length ≤ 4000000 ∧ ∀ t ∈ u.tasks, t.need.length ≤ 4000000 from ⟨by have := hs.room; omega, fun u hu => ⟨by have := (hs.tasks u hu).1; omega, fun t ht => by have := ((hs.tasks u hu).2 t ht).1; omega⟩⟩)
  clear h hz hEW hs
  go_enter_defers Tryz.func46, Tryz.ntmps46
  go_wp2_with (go_at_call 47; rw [← hW]; refine (lock_free muLib ⟨H, 0, none⟩ _ c0 f0).mono ?_; rintro e w1 ⟨rfl, rfl⟩; clear hW)
  obtain ⟨W1, hW1⟩ : ∃ W1, W1 = W.setCell ⟨H, 0, none⟩ (.int .i32 1) := ⟨_, rfl⟩
  rw [← hW1] at H1 HG1 Z1 ⊢
  clear hW1 c0 f0 HW
  have KS : Hid (∀ w', Ext W1 w' → w'.cell? ⟨H, 2, none⟩ = some (.slice Ar C.room.length cr) ∧ w'.cell? ⟨H, 3, none⟩ = some (.int .i64 (C.units.length : Int))) := hid fun w' hw => ⟨(H1.out.ext hw).at.2.1, (H1.out.ext hw).at.2.2.1⟩
  have HD : Hid (Ext W1 W1.drew) := hid (Below.drew (Below.refl _ _))
  have i10 : (C.units.length : Int) ≤ 10 := by omega
  have hz1 : w.heap.size < W1.heap.size := obj_lt Z1.out
  refine wp_region_noPanic ?_
  refine WG.start (fun w' => w'.cell? ⟨H, 2, none⟩ = some (.slice Ar C.room.length cr) ∧ w'.cell? ⟨H, 3, none⟩ = some (.int .i64 (C.units.length : Int))) [17,18] (by kernel_rfl) (by exact KS.out _ HD.out) (fun hHeld => ?_)
  (refine WG.take (i := 0) (v := ?_) rfl (by kernel_rfl) (by kernel_rfl) (by kernel_rfl) (by kernel_rfl) (fun _ _ _ h => h) (Or.inl ⟨by rfl, ?_⟩) (by assumption) ?_; rotate_left; (intro w hSw; (try dsimp only at hSw); go_split_ands; go_simp; (try with_reducible rfl)); (try simp only [Act.put, List.setIfInBounds_toArray, List.set_cons_zero, List.set_cons_succ]))
  (refine WG.take (i := 1) (v := ?_) rfl (by kernel_rfl) (by kernel_rfl) (by kernel_rfl) (by kernel_rfl) (fun _ _ _ h => h) (Or.inl ⟨by rfl, ?_⟩) (by assumption) ?_; rotate_left; (intro w hSw; (try dsimp only at hSw); go_split_ands; go_simp; (try with_reducible rfl)); (try simp only [Act.put, List.setIfInBounds_toArray, List.set_cons_zero, List.set_cons_succ]))
  (refine WG.take (i := 2) (v := ?_) rfl (by kernel_rfl) (by kernel_rfl) (by kernel_rfl) (by kernel_rfl) (fun _ _ _ h => h) (Or.inl ⟨by rfl, ?_⟩) (by assumption) ?_; rotate_left; (intro w hSw; (try dsimp only at hSw); go_split_ands; go_simp; (try with_reducible rfl)); (try simp only [Act.put, List.setIfInBounds_toArray, List.set_cons_zero, List.set_cons_succ]))
  (refine WG.take (i := 3) (v := ?_) rfl (by kernel_rfl) (by kernel_rfl) (by kernel_rfl) (by kernel_rfl) (fun _ _ _ h => h) (Or.inl ⟨by rfl, ?_⟩) (by assumption) ?_; rotate_left; (intro w hSw; (try dsimp only at hSw); go_split_ands; go_simp; (try with_reducible rfl)); (try simp only [Act.put, List.setIfInBounds_toArray, List.set_cons_zero, List.set_cons_succ]))
  (refine WG.take (i := 4) (v := ?_) rfl (by kernel_rfl) (by kernel_rfl) (by kernel_rfl) (by kernel_rfl) (fun _ _ _ h => h) (Or.inl ⟨by rfl, ?_⟩) (by assumption) ?_; rotate_left; (intro w hSw; (try dsimp only at hSw); go_split_ands; go_simp; (try with_reducible rfl)); (try simp only [Act.put, List.setIfInBounds_toArray, List.set_cons_zero, List.set_cons_succ]))
  (refine WG.take (i := 5) (v := ?_) rfl (by kernel_rfl) (by kernel_rfl) (by kernel_rfl) (by kernel_rfl) (fun _ _ _ h => h) (Or.inl ⟨by rfl, ?_⟩) (by assumption) ?_; rotate_left; (intro w hSw; (try dsimp only at hSw); go_split_ands; go_simp; (try with_reducible rfl)); (try simp only [Act.put, List.setIfInBounds_toArray, List.set_cons_zero, List.set_cons_succ]))
  (refine WG.take (i := 6) (v := ?_) rfl (by kernel_rfl) (by kernel_rfl) (by kernel_rfl) (by kernel_rfl) (fun _ _ _ h => h) (Or.inl ⟨by rfl, ?_⟩) (by assumption) ?_; rotate_left; (intro w hSw; (try dsimp only at hSw); go_split_ands; go_simp; (try with_reducible rfl)); (try simp only [Act.put, List.setIfInBounds_toArray, List.set_cons_zero, List.set_cons_succ]))
  (refine WG.take (i := 7) (v := ?_) rfl (by kernel_rfl) (by kernel_rfl) (by kernel_rfl) (by kernel_rfl) (fun _ _ _ h => h) (Or.inl ⟨by rfl, ?_⟩) (by assumption) ?_; rotate_left; (intro w hSw; (try dsimp only at hSw); go_split_ands; go_simp; (try with_reducible rfl)); (try simp only [Act.put, List.setIfInBounds_toArray, List.set_cons_zero, List.set_cons_succ]))
  (refine WG.take (i := 8) (v := ?_) rfl (by kernel_rfl) (by kernel_rfl) (by kernel_rfl) (by kernel_rfl) (fun _ _ _ h => h) (Or.inl ⟨by rfl, ?_⟩) (by assumption) ?_; rotate_left; (intro w hSw; (try dsimp only at hSw); go_split_ands; go_simp; (try with_reducible rfl)); (try simp only [Act.put, List.setIfInBounds_toArray, List.set_cons_zero, List.set_cons_succ]))
  (refine WG.take (i := 9) (v := ?_) rfl (by kernel_rfl) (by kernel_rfl) (by kernel_rfl) (by kernel_rfl) (fun _ _ _ h => h) (Or.inl ⟨by rfl, ?_⟩) (by assumption) ?_; rotate_left; (intro w hSw; (try dsimp only at hSw); go_split_ands; go_simp; (try with_reducible rfl)); (try simp only [Act.put, List.setIfInBounds_toArray, List.set_cons_zero, List.set_cons_succ]))
  (refine WG.take (i := 10) (v := ?_) rfl (by kernel_rfl) (by kernel_rfl) (by kernel_rfl) (by kernel_rfl) (fun _ _ _ h => h) (Or.inl ⟨by rfl, ?_⟩) (by assumption) ?_; rotate_left; (intro w hSw; (try dsimp only at hSw); go_split_ands; go_simp; (try with_reducible rfl)); (try simp only [Act.put, List.setIfInBounds_toArray, List.set_cons_zero, List.set_cons_succ]))
  (refine WG.take (i := 11) (v := ?_) rfl (by kernel_rfl) (by kernel_rfl) (by kernel_rfl) (by kernel_rfl) (fun _ _ _ h => h) (Or.inl ⟨by rfl, ?_⟩) (by assumption) ?_; rotate_left; (intro w hSw; (try dsimp only at hSw); go_split_ands; go_simp; (try with_reducible rfl)); (try simp only [Act.put, List.setIfInBounds_toArray, List.set_cons_zero, List.set_cons_succ]))
  (refine WG.take (i := 12) (v := ?_) rfl (by kernel_rfl) (by kernel_rfl) (by kernel_rfl) (by kernel_rfl) (fun _ _ _ h => h) (Or.inl ⟨by rfl, ?_⟩) (by assumption) ?_; rotate_left; (intro w hSw; (try dsimp only at hSw); go_split_ands; go_simp; (try with_reducible rfl)); (try simp only [Act.put, List.setIfInBounds_toArray, List.set_cons_zero, List.set_cons_succ]))
  (refine WG.take (i := 13) (v := ?_) rfl (by kernel_rfl) (by kernel_rfl) (by kernel_rfl) (by kernel_rfl) (fun _ _ _ h => h) (Or.inl ⟨by rfl, ?_⟩) (by assumption) ?_; rotate_left; (intro w hSw; (try dsimp only at hSw); go_split_ands; go_simp; (try with_reducible rfl)); (try simp only [Act.put, List.setIfInBounds_toArray, List.set_cons_zero, List.set_cons_succ]))
  (refine WG.take (i := 14) (v := ?_) rfl (by kernel_rfl) (by kernel_rfl) (by kernel_rfl) (by kernel_rfl) (fun _ _ _ h => h) (Or.inl ⟨by rfl, ?_⟩) (by assumption) ?_; rotate_left; (intro w hSw; (try dsimp only at hSw); go_split_ands; go_simp; (try with_reducible rfl)); (try simp only [Act.put, List.setIfInBounds_toArray, List.set_cons_zero, List.set_cons_succ]))
  (refine WG.take (i := 15) (v := ?_) rfl (by kernel_rfl) (by kernel_rfl) (by kernel_rfl) (by kernel_rfl) (fun _ _ _ h => h) (Or.inl ⟨by rfl, ?_⟩) (by assumption) ?_; rotate_left; (intro w hSw; (try dsimp only at hSw); go_split_ands; go_simp; (try with_reducible rfl)); (try simp only [Act.put, List.setIfInBounds_toArray, List.set_cons_zero, List.set_cons_succ]))
  (refine WG.take (i := 16) (v := ?_) rfl (by kernel_rfl) (by kernel_rfl) (by kernel_rfl) (by kernel_rfl) (fun _ _ _ h => h) (Or.inl ⟨by rfl, ?_⟩) (by assumption) ?_; rotate_left; (intro w hSw; (try dsimp only at hSw); go_split_ands; go_simp; (try with_reducible rfl)); (try simp only [Act.put, List.setIfInBounds_toArray, List.set_cons_zero, List.set_cons_succ]))
  refine WG.last (i := 17) rfl (by kernel_rfl) (by kernel_rfl) (fun K hK => ?_)
  go_simp; refine (iCopyOf _ _ C _ (RI.ext H1.out.room HD.out) ((H1.out.ext HD.out).units_) HSM.out.len HLEN.out.1 HLEN.out.2).mono ?_; rintro e w3 ⟨v3, rfl, hO3, hE3⟩; have hE3 : Ext W1 w3 := Ext.trans HD.out hE3; obtain ⟨A3, c3, B3, d3, rfl⟩ := hO3.form; have HO3 := hid (hO3.low (base' := w.heap.size) (by show w.heap.size ≤ W1.heap.size; omega)); have HE3 := hid hE3; clear hO3 hE3; (try dsimp only)
  refine hK.out _ _ ?_
  clear hK K
  (try simp only [Act.put, List.setIfInBounds_toArray, List.set_cons_zero, List.set_cons_succ])
  obtain ⟨y0, y1, y0f, y1f, k1, k1f, hkk, hsm⟩ := box2 (HE3.out.obj Z1.out) (.slice A3 C.room.length c3) (.slice B3 C.units.length d3)
  have r0 := obj_cell hkk (i := 0) rfl
  have r1 := obj_cell hkk (i := 1) rfl
  have HSS := hid hsm
  clear hkk hsm
  refine WG.last (i := 18) rfl (by kernel_rfl) (by kernel_rfl) (fun K hK => ?_)
  go_simp
  refine hK.out _ _ ?_
  clear hK K
  (try simp only [Act.put, List.setIfInBounds_toArray, List.set_cons_zero, List.set_cons_succ])
  refine WG.done (by kernel_rfl) ?_
  refine NoPanic.normal ?_
  go_wp2
  obtain ⟨W4, hW4⟩ : ∃ W4, W4 = (w3.setCell ⟨w.heap.size, 0, none⟩ (.slice A3 C.room.length c3)).setCell ⟨w.heap.size, 1, none⟩ (.slice B3 C.units.length d3) := ⟨_, rfl⟩
  have hne : H ≠ w.heap.size := by omega
  have hb4 : ((w3.setCell ⟨w.heap.size, 0, none⟩ (.slice A3 C.room.length c3)).setCell ⟨w.heap.size, 1, none⟩ (.slice B3 C.units.length d3)).heap[H]? = w3.heap[H]? := (Below.heap_setCell _ _ _ _ hne).trans (Below.heap_setCell _ _ _ _ hne)
  have H4 := (H1.out.ext HE3.out).same hb4 (HSS.out _ (by rintro t (rfl | rfl) <;> decide))
  have HO4 := HO3.out.same (HSS.out _ notClu)
  have HG4 := ((HG1.out.trans (Gr.of_ext HE3.out)).stored (Nat.le_refl w.heap.size) 0 (.slice A3 C.room.length c3)).stored (Nat.le_refl w.heap.size) 1 (.slice B3 C.units.length d3)
  rw [← hW4] at H4 HO4 HG4 r0 r1 ⊢
  clear hW4 hb4 y0 y1 y0f y1f k1 k1f
  have H5 := H4.lock 0
  have hs5 : SameT (fun t => t ≠ 86) W4 (W4.setCell ⟨H, 0, none⟩ (.int .i32 0)) := SameT.setCell (p := ⟨H, 0, none⟩) H4.blk _ (fun t ht => ht)
  have r0' := (cell_far W4 (b' := w.heap.size) (b := H) (o := 0) (i := 0) (Ne.symm hne) (.int .i32 0)).trans r0
  have r1' := (cell_far W4 (b' := w.heap.size) (b := H) (o := 1) (i := 0) (Ne.symm hne) (.int .i32 0)).trans r1
  refine leaves_cons (f := 48) (args := #[.pointer (some ⟨H, 0, none⟩)]) (by simp) (by simp [go_sem]) ?_
  refine (unlock_deferred muLib ⟨H, 0, none⟩ .returning _ H4.at.1 (H4.at.2.2.2 0)).mono ?_
  rintro e u' w'' ⟨rfl, rfl, rfl⟩
  exact ⟨.agg #[.slice A3 C.room.length c3, .slice B3 C.units.length d3], by simp [results, Tryz.results46, go_sem, r0', r1'], _, rfl, HO4.same (hs5.mono notHost), Ext.of_gr (HG4.trans (Gr.setCell W4 H 0 (.int .i32 0))) (H5.blk.trans HB.out.symm)⟩

end Go.Proofs.YtkdkmihgnplooaaGreat

/- The program's host opens and closes a node. -/
namespace Go.Proofs.YtkdkmihgnplooaaGreat
open Go.RowKit Go.MuLone

def openH (C : ClusD) (node : Int) (op : Bool) : ClusD × Int :=
  if inB node 0 ((C.units.length : Int) - 1) then
    match C.units[node.toNat]? with
    | none => (C, 4)
    | some u => if u.opened == op then (C, 2) else if 0 < u.tasks.length then (C, 5) else (⟨C.room, C.units.set node.toNat ⟨op, u.tasks⟩⟩, 0)
  else (C, 4)
theorem openC_ok {C : ClusD} (h : clusOk C = true) (node : Int) (op : Bool) : openC C node op = openH C node op := by unfold openC openH; rw [if_pos h]; rfl
theorem openH_at {C : ClusD} {k : Nat} {op : Bool} {x : UnitD} (h2 : inB (k : Int) 0 ((C.units.length : Int) - 1) = true) (hk : C.units[k]? = some x) :
    openH C k op = if x.opened == op then (C, 2) else if 0 < x.tasks.length then (C, 5) else (⟨C.room, C.units.set k ⟨op, x.tasks⟩⟩, 0) := by
  unfold openH
  rw [if_pos h2, Int.toNat_natCast, hk]
end Go.Proofs.YtkdkmihgnplooaaGreat

/- The program opens and closes a node. -/
namespace Go.Proofs.YtkdkmihgnplooaaGreat
open Go.RowKit Go.MuLone

end Go.Proofs.YtkdkmihgnplooaaGreat
