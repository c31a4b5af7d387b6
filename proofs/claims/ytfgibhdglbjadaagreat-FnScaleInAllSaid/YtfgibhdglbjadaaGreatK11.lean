/- The lock: its functions and types under their numbers. -/
import Derived.Test.YtfgibhdglbjadaaGreatProg
import Derived.Test.YtfgibhdglbjadaaGreatK10
import Derived.Test.YtfgibhdglbjadaaGreatK4
import Derived.Test.YtfgibhdglbjadaaGreatK8
import Derived.Conc.MuLone
import Derived.KernelRfl
import Derived.Defers
namespace Go.Proofs.YtfgibhdglbjadaaGreat
abbrev muLink : Go.Conc.Locks.MuLink := { lock := 113, unlock := 114, ilock := 147, iunlock := 148, lockSlow := 164, unlockSlow := 167, disable := 160, enable := 162, acquire := 163, relMerge := 165, cas32 := 161, add32 := 166, tMutex := 129, tIMutex := 127, tPMutex := 158, tPIMutex := 165, tPI32 := 167, tUP := 169, tNoCopy := 124, tU32 := 125 }
theorem muLib : Go.Conc.Locks.MuLib Tryz.prog muLink :=
  ⟨Tryz.func113, Tryz.func114, Tryz.func147, Tryz.func148, Tryz.func160, Tryz.func162, Tryz.func163, Tryz.func165, Tryz.func161, Tryz.func166, Tryz.underlying127, Tryz.runUnderlying127, Tryz.sizeOf127, Tryz.isAgg127, Tryz.zeroValue127, Tryz.underlying129, Tryz.runUnderlying129, Tryz.sizeOf129, Tryz.isAgg129, Tryz.zeroValue129, Tryz.underlying158, Tryz.runUnderlying158, Tryz.sizeOf158, Tryz.isAgg158, Tryz.zeroValue158, Tryz.underlying165, Tryz.runUnderlying165, Tryz.sizeOf165, Tryz.isAgg165, Tryz.zeroValue165, Tryz.underlying167, Tryz.runUnderlying167, Tryz.sizeOf167, Tryz.isAgg167, Tryz.zeroValue167, Tryz.underlying169, Tryz.runUnderlying169, Tryz.sizeOf169, Tryz.isAgg169, Tryz.zeroValue169, Tryz.underlying124, Tryz.runUnderlying124, Tryz.sizeOf124, Tryz.isAgg124, Tryz.zeroValue124, Tryz.underlying21, Tryz.runUnderlying21, Tryz.sizeOf21, Tryz.isAgg21, Tryz.zeroValue21, (by kernel_rfl)⟩
end Go.Proofs.YtfgibhdglbjadaaGreat

/- The program's host hands its cluster out. -/
namespace Go.Proofs.YtfgibhdglbjadaaGreat
open Go.RowKit Go.MuLone

set_option maxHeartbeats 4000000 in
theorem iHostCluster (H base : Nat) (C : ClusD) (ps : List (UnitD × Value)) (rv : Value) (cells : List Value) (w : World) (h : HostV w H base C ps rv cells 0) (hs : SmallC C) :
    Calls Tryz.prog 112 #[.pointer (some ⟨H, 0, none⟩)] w fun e w' => ∃ v', e = .returned v' ∧ OCl w' w.heap.size v' C ∧ Ext w w' := by
  have hr := h.room
  obtain ⟨Ar, cr, rfl, _⟩ := hr
  have hHw : H < w.heap.size := obj_lt h.blk
  obtain ⟨W, hW⟩ : ∃ W, W = w.alloc (.cells #[.slice none 0 0, .slice none 0 0] 26) := ⟨_, rfl⟩
  have hEW : Ext w W := by rw [hW]; exact Ext.alloc _ _
  have hz : W.heap[w.heap.size]? = some (.cells #[.slice none 0 0, .slice none 0 0] 26 (0, 0)) := by rw [hW]; exact heap_alloc_new _ _
  have HW := hid (h.ext hEW)
  have c0 := HW.out.at.1
  have f0 := HW.out.at.2.2.2 0
  have H1 := hid (HW.out.lock 1)
  have HG1 := hid ((Gr.of_ext (b := H) hEW).trans (Gr.setCell W H 0 (.int .i32 1)))
  have Z1 := hid (obj_far hz (p := ⟨H, 0, none⟩) (by show w.heap.size ≠ H; omega) (.int .i32 1))
  have HB := hid h.blk
  have hn10 := h.n10
  have HSM := hid hs
  have HLEN := hid (show C.room.length ≤ 4000000 ∧ ∀ u ∈ C.units, u.tasks.length ≤ 4000000 ∧ ∀ t ∈ u.tasks, t.need.length ≤ 4000000 from ⟨by have := hs.room; omega, fun u hu => ⟨by have := (hs.tasks u hu).1; omega, fun t ht => by have := ((hs.tasks u hu).2 t ht).1; omega⟩⟩)
  clear h hz hEW hs
  go_enter_defers Tryz.func112, Tryz.ntmps112
  go_wp2_with (go_at_call 113; rw [← hW]; refine (lock_free muLib ⟨H, 0, none⟩ _ c0 f0).mono ?_; rintro e w1 ⟨rfl, rfl⟩; clear hW)
  obtain ⟨W1, hW1⟩ : ∃ W1, W1 = W.setCell ⟨H, 0, none⟩ (.int .i32 1) := ⟨_, rfl⟩
  rw [← hW1] at H1 HG1 Z1 ⊢
  clear hW1 c0 f0 HW
  have KS : Hid (∀ w', Ext W1 w' → w'.cell? ⟨H, 2, none⟩ = some (.slice Ar C.room.length cr) ∧ w'.cell? ⟨H, 3, none⟩ = some (.int .i64 (C.units.length : Int))) := hid fun w' hw => ⟨(H1.out.ext hw).at.2.1, (H1.out.ext hw).at.2.2.1⟩
  have HD : Hid (Ext W1 W1.drew) := hid (Below.drew (Below.refl _ _))
  have i10 : (C.units.length : Int) ≤ 10 := by omega
  have hz1 : w.heap.size < W1.heap.size := obj_lt Z1.out
  refine wp_region_noPanic ?_
  refine WG.start (fun w' => w'.cell? ⟨H, 2, none⟩ = some (.slice Ar C.room.length cr) ∧ w'.cell? ⟨H, 3, none⟩ = some (.int .i64 (C.units.length : Int))) [17,18] (by kernel_rfl) (by exact KS.out _ HD.out) (fun hHeld => ?_)
  (refine WG.take (i := 0) (v := ?_) rfl (by kernel_rfl) (by kernel_rfl) (by kernel_rfl) (by kernel_rfl) (fun _ _ _ h => h) (Or.inl ⟨by rfl, ?_⟩) (by assumption) ?_; rotate_left; (intro w hSw; (try dsimp only at hSw); go_split_ands; go_simp; (try with_reducible rfl)); (try simp only [Act.put, List.setIfInBounds_toArray, List.set_cons_zero, List.set_cons_succ]))
  (refine WG.take (i := 1) (v := ?_) rfl (by kernel_rfl) (by kernel_rfl) (by kernel_rfl) (by kernel_rfl) (fun _ _ _ h => h) (Or.inl ⟨by rfl, ?_⟩) (by assumption) ?_; rotate_left; (intro w hSw; (try dsimp only at hSw); go_split_ands; go_simp; (try with_reducible rfl)); (try simp only [Act.put, List.setIfInBounds_toArray, List.set_cons_zero, List.set_cons_succ]))
  (refine WG.take (i := 2) (v := ?_) rfl (by kernel_rfl) (by kernel_rfl) (by kernel_rfl) (by kernel_rfl) (fun _ _ _ h => h) (Or.inl ⟨by rfl, ?_⟩) (by assumption) ?_; rotate_left; (intro w hSw; (try dsimp only at hSw); go_split_ands; go_simp; (try with_reducible rfl)); (try simp only [Act.put, List.setIfInBounds_toArray, List.set_cons_zero, List.set_cons_succ]))
  (refine WG.take (i := 3) (v := ?_) rfl (by kernel_rfl) (by kernel_rfl) (by kernel_rfl) (by kernel_rfl) (fun _ _ _ h => h) (Or.inl ⟨by rfl, ?_⟩) (by assumption) ?_; rotate_left; (intro w hSw; (try dsimp only at hSw); go_split_ands; go_simp; (try with_reducible rfl)); (try simp only [Act.put, List.setIfInBounds_toArray, List.set_cons_zero, List.set_cons_succ]))
  (refine WG.take (i := 4) (v := ?_) rfl (by kernel_rfl) (by kernel_rfl) (by kernel_rfl) (by kernel_rfl) (fun _ _ _ h => h) (Or.inl ⟨by rfl, ?_⟩) (by assumption) ?_; rotate_left; (intro w hSw; (try dsimp only at hSw); go_split_ands; go_simp; (try with_reducible rfl)); (try simp only [Act.put, List.setIfInBounds_toArray, List.set_cons_zero, List.set_cons_succ]))
  (refine WG.take (i := 5) (v := ?_) rfl (by kernel_rfl) (by kernel_rfl) (by kernel_rfl) (by kernel_rfl) (fun _ _ _ h => h) (Or.inl ⟨by rfl, ?_⟩) (by assumption) ?_; rotate_left; (intro w hSw; (try dsimp only at hSw); go_split_ands; go_simp; (try with_reducible rfl)); (try simp only [Act.put, List.setIfInBounds_toArray, List.set_cons_zero, List.set_cons_succ]))
  (refine WG.take (i := 6) (v := ?_) rfl (by kernel_rfl) (by kernel_rfl) (by kernel_rfl) (by kernel_rfl) (fun _ _ _ h => h) (Or.inl ⟨by rfl, ?_⟩) (by assumption) ?_; rotate_left; (intro w hSw; (try dsimp only at hSw); go_split_ands; go_simp; (try with_reducible rfl)); (try simp only [Act.put, List.setIfInBounds_toArray, List.set_cons_zero, List.set_cons_succ]))
  (refine WG.take (i := 7) (v := ?_) rfl (by kernel_rfl) (by kernel_rfl) (by kernel_rfl) (by kernel_rfl) (fun _ _ _ h => h) (Or.inl ⟨by rfl, ?_⟩) (by assumption) ?_; rotate_left; (intro w hSw; (try dsimp only at hSw); go_split_ands; go_simp; (try with_reducible rfl)); (try simp only [Act.put, List.setIfInBounds_toArray, List.set_cons_zero, List.set_cons_succ]))
  (refine WG.take (i := 8) (v := ?_) rfl (by kernel_rfl) (by kernel_rfl) (by kernel_rfl) (by kernel_rfl) (fun _ _ _ h => h) (Or.inl ⟨by rfl, ?_⟩) (by assumption) ?_; rotate_left; (intro w hSw; (try dsimp only at hSw); go_split_ands; go_simp; (try with_reducible rfl)); (try simp only [Act.put, List.setIfInBounds_toArray, List.set_cons_zero, List.set_cons_succ]))
  (refine WG.take (i := 9) (v := ?_) rfl (by kernel_rfl) (by kernel_rfl) (by kernel_rfl) (by kernel_rfl) (fun _ _ _ h => h) (Or.inl ⟨by rfl, ?_⟩) (by assumption) ?_; rotate_left; (intro w hSw; (try dsimp only at hSw); go_split_ands; go_simp; (try with_reducible rfl)); (try simp only [Act.put, List.setIfInBounds_toArray, List.set_cons_zero, List.set_cons_succ]))
  (refine WG.take (i := 10) (v := ?_) rfl (by kernel_rfl) (by kernel_rfl) (by kernel_rfl) (by kernel_rfl) (fun _ _ _ h => h) (Or.inl ⟨by rfl, ?_⟩) (by assumption) ?_; rotate_left; (intro w hSw; (try dsimp only at hSw); go_split_ands; go_simp; (try with_reducible rfl)); (try simp only [Act.put, List.setIfInBounds_toArray, List.set_cons_zero, List.set_cons_succ]))
  (refine WG.take (i := 11) (v := ?_) rfl (by kernel_rfl) (by kernel_rfl) (by kernel_rfl) (by kernel_rfl) (fun _ _ _ h => h) (Or.inl ⟨by rfl, ?_⟩) (by assumption) ?_; rotate_left; (intro w hSw; (try dsimp only at hSw); go_split_ands; go_simp; (try with_reducible rfl)); (try simp only [Act.put, List.setIfInBounds_toArray, List.set_cons_zero, List.set_cons_succ]))
  (refine WG.take (i := 12) (v := ?_) rfl (by kernel_rfl) (by kernel_rfl) (by kernel_rfl) (by kernel_rfl) (fun _ _ _ h => h) (Or.inl ⟨by rfl, ?_⟩) (by assumption) ?_; rotate_left; (intro w hSw; (try dsimp only at hSw); go_split_ands; go_simp; (try with_reducible rfl)); (try simp only [Act.put, List.setIfInBounds_toArray, List.set_cons_zero, List.set_cons_succ]))
  (refine WG.take (i := 13) (v := ?_) rfl (by kernel_rfl) (by kernel_rfl) (by kernel_rfl) (by kernel_rfl) (fun _ _ _ h => h) (Or.inl ⟨by rfl, ?_⟩) (by assumption) ?_; rotate_left; (intro w hSw; (try dsimp only at hSw); go_split_ands; go_simp; (try with_reducible rfl)); (try simp only [Act.put, List.setIfInBounds_toArray, List.set_cons_zero, List.set_cons_succ]))
  (refine WG.take (i := 14) (v := ?_) rfl (by kernel_rfl) (by kernel_rfl) (by kernel_rfl) (by kernel_rfl) (fun _ _ _ h => h) (Or.inl ⟨by rfl, ?_⟩) (by assumption) ?_; rotate_left; (intro w hSw; (try dsimp only at hSw); go_split_ands; go_simp; (try with_reducible rfl)); (try simp only [Act.put, List.setIfInBounds_toArray, List.set_cons_zero, List.set_cons_succ]))
  (refine WG.take (i := 15) (v := ?_) rfl (by kernel_rfl) (by kernel_rfl) (by kernel_rfl) (by kernel_rfl) (fun _ _ _ h => h) (Or.inl ⟨by rfl, ?_⟩) (by assumption) ?_; rotate_left; (intro w hSw; (try dsimp only at hSw); go_split_ands; go_simp; (try with_reducible rfl)); (try simp only [Act.put, List.setIfInBounds_toArray, List.set_cons_zero, List.set_cons_succ]))
  (refine WG.take (i := 16) (v := ?_) rfl (by kernel_rfl) (by kernel_rfl) (by kernel_rfl) (by kernel_rfl) (fun _ _ _ h => h) (Or.inl ⟨by rfl, ?_⟩) (by assumption) ?_; rotate_left; (intro w hSw; (try dsimp only at hSw); go_split_ands; go_simp; (try with_reducible rfl)); (try simp only [Act.put, List.setIfInBounds_toArray, List.set_cons_zero, List.set_cons_succ]))
  refine WG.last (i := 17) rfl (by kernel_rfl) (by kernel_rfl) (fun K hK => ?_)
  go_simp; refine (iCopyOf _ _ C _ (RI.ext H1.out.room HD.out) ((H1.out.ext HD.out).units_) HSM.out.len HLEN.out.1 HLEN.out.2).mono ?_; rintro e w3 ⟨v3, rfl, hO3, hE3⟩; have hE3 : Ext W1 w3 := Ext.trans HD.out hE3; obtain ⟨A3, c3, B3, d3, rfl⟩ := hO3.form; have HO3 := hid (hO3.low (base' := w.heap.size) (by show w.heap.size ≤ W1.heap.size; omega)); have HE3 := hid hE3; clear hO3 hE3; (try dsimp only)
  refine hK.out _ _ ?_
  clear hK K
  (try simp only [Act.put, List.setIfInBounds_toArray, List.set_cons_zero, List.set_cons_succ])
  obtain ⟨y0, y1, y0f, y1f, k1, k1f, hkk, hsm⟩ := box2 (HE3.out.obj Z1.out) (.slice A3 C.room.length c3) (.slice B3 C.units.length d3)
  have r0 := obj_cell hkk (i := 0) rfl
  have r1 := obj_cell hkk (i := 1) rfl
  have HSS := hid hsm
  clear hkk hsm
  refine WG.last (i := 18) rfl (by kernel_rfl) (by kernel_rfl) (fun K hK => ?_)
  go_simp
  refine hK.out _ _ ?_
  clear hK K
  (try simp only [Act.put, List.setIfInBounds_toArray, List.set_cons_zero, List.set_cons_succ])
  refine WG.done (by kernel_rfl) ?_
  refine NoPanic.normal ?_
  go_wp2
  obtain ⟨W4, hW4⟩ : ∃ W4, W4 = (w3.setCell ⟨w.heap.size, 0, none⟩ (.slice A3 C.room.length c3)).setCell ⟨w.heap.size, 1, none⟩ (.slice B3 C.units.length d3) := ⟨_, rfl⟩
  have hne : H ≠ w.heap.size := by omega
  have hb4 : ((w3.setCell ⟨w.heap.size, 0, none⟩ (.slice A3 C.room.length c3)).setCell ⟨w.heap.size, 1, none⟩ (.slice B3 C.units.length d3)).heap[H]? = w3.heap[H]? := (Below.heap_setCell _ _ _ _ hne).trans (Below.heap_setCell _ _ _ _ hne)
  have H4 := (H1.out.ext HE3.out).same hb4 (HSS.out _ (by rintro t (rfl | rfl) <;> decide))
  have HO4 := HO3.out.same (HSS.out _ notClu)
  have HG4 := ((HG1.out.trans (Gr.of_ext HE3.out)).stored (Nat.le_refl w.heap.size) 0 (.slice A3 C.room.length c3)).stored (Nat.le_refl w.heap.size) 1 (.slice B3 C.units.length d3)
  rw [← hW4] at H4 HO4 HG4 r0 r1 ⊢
  clear hW4 hb4 y0 y1 y0f y1f k1 k1f
  have H5 := H4.lock 0
  have hs5 : SameT (fun t => t ≠ 132) W4 (W4.setCell ⟨H, 0, none⟩ (.int .i32 0)) := SameT.setCell (p := ⟨H, 0, none⟩) H4.blk _ (fun t ht => ht)
  have r0' := (cell_far W4 (b' := w.heap.size) (b := H) (o := 0) (i := 0) (Ne.symm hne) (.int .i32 0)).trans r0
  have r1' := (cell_far W4 (b' := w.heap.size) (b := H) (o := 1) (i := 0) (Ne.symm hne) (.int .i32 0)).trans r1
  refine leaves_cons (f := 114) (args := #[.pointer (some ⟨H, 0, none⟩)]) (by simp) (by simp [go_sem]) ?_
  refine (unlock_deferred muLib ⟨H, 0, none⟩ .returning _ H4.at.1 (H4.at.2.2.2 0)).mono ?_
  rintro e u' w'' ⟨rfl, rfl, rfl⟩
  exact ⟨.agg #[.slice A3 C.room.length c3, .slice B3 C.units.length d3], by simp [results, Tryz.results112, go_sem, r0', r1'], _, rfl, HO4.same (hs5.mono notHost), Ext.of_gr (HG4.trans (Gr.setCell W4 H 0 (.int .i32 0))) (H5.blk.trans HB.out.symm)⟩

end Go.Proofs.YtfgibhdglbjadaaGreat

/- The program's host opens and closes a node. -/
namespace Go.Proofs.YtfgibhdglbjadaaGreat
open Go.RowKit Go.MuLone

def openH (C : ClusD) (node : Int) (op : Bool) : ClusD × Int :=
  if inB node 0 ((C.units.length : Int) - 1) then
    match C.units[node.toNat]? with
    | none => (C, 4)
    | some u => if u.opened == op then (C, 2) else if 0 < u.tasks.length then (C, 5) else (⟨C.room, C.units.set node.toNat ⟨op, u.tasks⟩⟩, 0)
  else (C, 4)
theorem openC_ok {C : ClusD} (h : clusOk C = true) (node : Int) (op : Bool) : openC C node op = openH C node op := by unfold openC openH; rw [if_pos h]; rfl
theorem openH_at {C : ClusD} {k : Nat} {op : Bool} {x : UnitD} (h2 : inB (k : Int) 0 ((C.units.length : Int) - 1) = true) (hk : C.units[k]? = some x) :
    openH C k op = if x.opened == op then (C, 2) else if 0 < x.tasks.length then (C, 5) else (⟨C.room, C.units.set k ⟨op, x.tasks⟩⟩, 0) := by
  unfold openH
  rw [if_pos h2, Int.toNat_natCast, hk]
set_option maxHeartbeats 4000000 in
theorem iHostOpen (H base : Nat) (C : ClusD) (ps : List (UnitD × Value)) (rv : Value) (cells : List Value) (node : Int) (op : Bool) (w : World) (h : HostV w H base C ps rv cells 0) (hbz : base ≤ w.heap.size) :
    Calls Tryz.prog 96 #[.pointer (some ⟨H, 0, none⟩), .int .i64 node, .bool op] w fun e w' => ∃ ps' cells', e = .returned (.int .i64 (openH C node op).2) ∧ HostV w' H base (openH C node op).1 ps' rv cells' 0 ∧ Below base w w' := by
  have c0 := h.at.1
  have f0 := h.at.2.2.2 0
  have H1 := hid (h.lock 1)
  have hHb := h.hi
  have hn10 := h.n10
  have c3 := H1.out.at.2.2.1
  clear h
  by_cases hin : inB node 0 ((C.units.length : Int) - 1) = true
  · have hin2 : 0 ≤ node ∧ node ≤ (C.units.length : Int) - 1 := by simpa [inB] using hin
    obtain ⟨k, rfl⟩ : ∃ k : Nat, node = k := ⟨node.toNat, by omega⟩
    have hkl : k < C.units.length := by omega
    have ik : (k : Int) < 10 := by omega
    have i0 : (0 : Int) ≤ (k : Int) := by omega
    obtain ⟨x, ex⟩ : ∃ x, Hid (C.units[k]? = some x) := ⟨_, hid (List.getElem?_eq_getElem hkl)⟩
    obtain ⟨tv, hpk⟩ : ∃ tv, Hid (ps[k]? = some (x, tv)) := by
      obtain ⟨v, hv⟩ := H1.out.pair ex.out
      exact ⟨v, hid hv⟩
    obtain ⟨At, ct, rfl⟩ : ∃ At ct, tv = .slice At x.tasks.length ct := by
      obtain ⟨_, _, ht⟩ := H1.out.unit hpk.out
      obtain ⟨At, ct, hv, _⟩ := ht.form
      exact ⟨At, ct, hv⟩
    clear hin2
    by_cases h3 : (x.opened == op) = true
    · have HC : Hid (openH C k op = (C, 2)) := hid (by rw [openH_at hin ex.out]; simp [h3])
      go_enter_defers Tryz.func96, Tryz.ntmps96
      go_wp2_with (first
        | (go_at_call 113; refine (lock_free muLib ⟨H, 0, none⟩ _ c0 f0).mono ?_; rintro e w1 ⟨rfl, rfl⟩)
        | (go_at_call 82; refine (iWithin _ _ _ _).mono ?_; rintro e w2 ⟨rfl, n2, hw2⟩; rw [hin]; have hE2 : Ext (w.setCell ⟨H, 0, none⟩ (.int .i32 1)) w2 := (by rw [hw2]; exact Ext.drewN _ _); have H2 := hid (H1.out.ext hE2); have HB2 : Hid (Below base w w2) := hid (Below.trans (Below.setCell (Below.refl _ _) hHb (.int .i32 1)) (hE2.mono (by simpa [World.setCell] using hbz))); obtain ⟨cu0, cu1, htu⟩ := H2.out.unit hpk.out; have fu := H2.out.at.2.2.2 (4 + k * 2); clear htu; clear hw2 hE2))
      have HD := H2
      have HB := HB2
      refine leaves_cons (f := 114) (args := #[.pointer (some ⟨H, 0, none⟩)]) (by simp) (by simp [go_sem]) ?_
      refine (unlock_deferred muLib ⟨H, 0, none⟩ .returning _ HD.out.at.1 (HD.out.at.2.2.2 0)).mono ?_
      rintro e u' w'' ⟨rfl, rfl, rfl⟩
      exact ⟨_, results_tmp rfl _ _ _, _, _, by rw [HC.out]; rfl, by rw [HC.out]; exact HD.out.lock 0, Below.setCell HB.out hHb _⟩
    · have h3 : (x.opened == op) = false := by simpa using h3
      by_cases h4 : 0 < x.tasks.length
      · have i4 : (0 : Int) < (x.tasks.length : Int) := by omega
        have HC : Hid (openH C k op = (C, 5)) := hid (by rw [openH_at hin ex.out]; simp [h3, h4])
        go_enter_defers Tryz.func96, Tryz.ntmps96
        go_wp2_with (first
          | (go_at_call 113; refine (lock_free muLib ⟨H, 0, none⟩ _ c0 f0).mono ?_; rintro e w1 ⟨rfl, rfl⟩)
          | (go_at_call 82; refine (iWithin _ _ _ _).mono ?_; rintro e w2 ⟨rfl, n2, hw2⟩; rw [hin]; have hE2 : Ext (w.setCell ⟨H, 0, none⟩ (.int .i32 1)) w2 := (by rw [hw2]; exact Ext.drewN _ _); have H2 := hid (H1.out.ext hE2); have HB2 : Hid (Below base w w2) := hid (Below.trans (Below.setCell (Below.refl _ _) hHb (.int .i32 1)) (hE2.mono (by simpa [World.setCell] using hbz))); obtain ⟨cu0, cu1, htu⟩ := H2.out.unit hpk.out; have fu := H2.out.at.2.2.2 (4 + k * 2); clear htu; clear hw2 hE2))
        have HD := H2
        have HB := HB2
        refine leaves_cons (f := 114) (args := #[.pointer (some ⟨H, 0, none⟩)]) (by simp) (by simp [go_sem]) ?_
        refine (unlock_deferred muLib ⟨H, 0, none⟩ .returning _ HD.out.at.1 (HD.out.at.2.2.2 0)).mono ?_
        rintro e u' w'' ⟨rfl, rfl, rfl⟩
        exact ⟨_, results_tmp rfl _ _ _, _, _, by rw [HC.out]; rfl, by rw [HC.out]; exact HD.out.lock 0, Below.setCell HB.out hHb _⟩
      · have i4 : ¬ (0 : Int) < (x.tasks.length : Int) := by omega
        have HC : Hid (openH C k op = (⟨C.room, C.units.set k ⟨op, x.tasks⟩⟩, 0)) := hid (by rw [openH_at hin ex.out]; simp [h3, h4])
        go_enter_defers Tryz.func96, Tryz.ntmps96
        go_wp2_with (first
          | (go_at_call 113; refine (lock_free muLib ⟨H, 0, none⟩ _ c0 f0).mono ?_; rintro e w1 ⟨rfl, rfl⟩)
          | (go_at_call 82; refine (iWithin _ _ _ _).mono ?_; rintro e w2 ⟨rfl, n2, hw2⟩; rw [hin]; have hE2 : Ext (w.setCell ⟨H, 0, none⟩ (.int .i32 1)) w2 := (by rw [hw2]; exact Ext.drewN _ _); have H2 := hid (H1.out.ext hE2); have HB2 : Hid (Below base w w2) := hid (Below.trans (Below.setCell (Below.refl _ _) hHb (.int .i32 1)) (hE2.mono (by simpa [World.setCell] using hbz))); obtain ⟨cu0, cu1, htu⟩ := H2.out.unit hpk.out; have fu := H2.out.at.2.2.2 (4 + k * 2); clear htu; clear hw2 hE2))
        obtain ⟨ps', cells', hop⟩ := H2.out.open_ ex.out op
        have HD := hid hop
        have HB : Hid (Below base w (w2.setCell ⟨H, 4 + k * 2, none⟩ (.bool op))) := hid (Below.setCell HB2.out hHb _)
        refine leaves_cons (f := 114) (args := #[.pointer (some ⟨H, 0, none⟩)]) (by simp) (by simp [go_sem]) ?_
        refine (unlock_deferred muLib ⟨H, 0, none⟩ .returning _ HD.out.at.1 (HD.out.at.2.2.2 0)).mono ?_
        rintro e u' w'' ⟨rfl, rfl, rfl⟩
        exact ⟨_, results_tmp rfl _ _ _, _, _, by rw [HC.out]; rfl, by rw [HC.out]; exact HD.out.lock 0, Below.setCell HB.out hHb _⟩
  · have hin : inB node 0 ((C.units.length : Int) - 1) = false := by simpa using hin
    have HC : Hid (openH C node op = (C, 4)) := hid (by unfold openH; rw [hin]; rfl)
    go_enter_defers Tryz.func96, Tryz.ntmps96
    go_wp2_with (first
      | (go_at_call 113; refine (lock_free muLib ⟨H, 0, none⟩ _ c0 f0).mono ?_; rintro e w1 ⟨rfl, rfl⟩)
      | (go_at_call 82; refine (iWithin _ _ _ _).mono ?_; rintro e w2 ⟨rfl, n2, hw2⟩; rw [hin]; have hE2 : Ext (w.setCell ⟨H, 0, none⟩ (.int .i32 1)) w2 := (by rw [hw2]; exact Ext.drewN _ _); have H2 := hid (H1.out.ext hE2); have HB2 : Hid (Below base w w2) := hid (Below.trans (Below.setCell (Below.refl _ _) hHb (.int .i32 1)) (hE2.mono (by simpa [World.setCell] using hbz))); clear hw2 hE2))
    have HD := H2
    have HB := HB2
    refine leaves_cons (f := 114) (args := #[.pointer (some ⟨H, 0, none⟩)]) (by simp) (by simp [go_sem]) ?_
    refine (unlock_deferred muLib ⟨H, 0, none⟩ .returning _ HD.out.at.1 (HD.out.at.2.2.2 0)).mono ?_
    rintro e u' w'' ⟨rfl, rfl, rfl⟩
    exact ⟨_, results_tmp rfl _ _ _, _, _, by rw [HC.out]; rfl, by rw [HC.out]; exact HD.out.lock 0, Below.setCell HB.out hHb _⟩

theorem iOpen1 (H base : Nat) (C : ClusD) (ps : List (UnitD × Value)) (rv : Value) (cells : List Value) (node : Int) (op : Bool) (b1 b2 : Nat) (w : World) (h : HostV w H base C ps rv cells 0) (hbz : base ≤ w.heap.size) (h1 : w.cell? ⟨b1, 0, none⟩ = some (.int .i64 node)) (h2 : w.cell? ⟨b2, 0, none⟩ = some (.bool op)) :
    Calls Tryz.prog 95 #[.pointer (some ⟨H, 0, none⟩), .pointer (some ⟨b1, 0, none⟩), .pointer (some ⟨b2, 0, none⟩)] w fun e w' => ∃ ps' cells', e = .returned (.int .i64 (openH C node op).2) ∧ HostV w' H base (openH C node op).1 ps' rv cells' 0 ∧ Below base w w' := by
  have HH := hid h
  clear h
  go_enter Tryz.func95, Tryz.ntmps95
  go_wp2_with (go_at_call 96; refine (iHostOpen H base C ps rv cells node op _ HH.out hbz).mono ?_; rintro e w1 ⟨ps', cells', rfl, hh, hb⟩; have HH1 := hid hh; have HB1 := hid hb; clear hh hb)
  go_ret
  exact ⟨_, _, rfl, HH1.out, HB1.out⟩

end Go.Proofs.YtfgibhdglbjadaaGreat

/- The program opens and closes a node. -/
namespace Go.Proofs.YtfgibhdglbjadaaGreat
open Go.RowKit Go.MuLone

set_option maxHeartbeats 4000000 in
theorem iDoneOpen (cv : Value) (C : ClusD) (node : Int) (op : Bool) (b1 b2 : Nat) (w : World) (h : ClusV w cv C) (hl : C.units.length ≤ 4000000) (hfl : (C.units.map (·.tasks)).flatten.length ≤ 4000000) (hid' : ∀ t ∈ (C.units.map (·.tasks)).flatten, IdR t.id) (hc1 : w.cell? ⟨b1, 0, none⟩ = some (.int .i64 node)) (hc2 : w.cell? ⟨b2, 0, none⟩ = some (.bool op)) :
    Calls Tryz.prog 57 #[cv, .func (.func 95) #[] #[.pointer (some ⟨b1, 0, none⟩), .pointer (some ⟨b2, 0, none⟩)]] w (RetOC w (openC C node op)) := by
  have hCV := h
  obtain ⟨rv, uv, rfl, hr, hu⟩ := h
  have hr0 := hr
  have hu0 := hu
  obtain ⟨Ar, cr, rfl, _⟩ := hr
  obtain ⟨Au, cu, rfl, _⟩ := hu
  obtain ⟨W, hW⟩ : ∃ W, W = (w.alloc (.cells #[.slice Ar C.room.length cr, .slice Au C.units.length cu] 26)).alloc (.cells #[.slice none 0 0, .slice none 0 0] 26) := ⟨_, rfl⟩
  have hEW : Ext w W := by rw [hW]; exact (Ext.alloc _ _).trans (Ext.alloc _ _)
  have hb0 : W.heap[w.heap.size]? = some (.cells #[.slice Ar C.room.length cr, .slice Au C.units.length cu] 26 (0, 0)) := by rw [hW]; exact (Ext.alloc _ _).obj (heap_alloc_new w _)
  have hb1 : W.heap[w.heap.size + 1]? = some (.cells #[.slice none 0 0, .slice none 0 0] 26 (0, 0)) := by rw [hW]; exact heap_new (by simp)
  have KB : Hid (∀ w', Ext W w' → w'.cell? ⟨w.heap.size, 0, none⟩ = some (.slice Ar C.room.length cr) ∧ w'.cell? ⟨w.heap.size, 1, none⟩ = some (.slice Au C.units.length cu)) := hid fun w' hw => ⟨obj_cell (hw.obj hb0) (i := 0) rfl, obj_cell (hw.obj hb0) (i := 1) rfl⟩
  have B1 := hid hb1
  have HCV := hid (hCV.ext hEW)
  have HR := hid (RI.ext hr0 hEW)
  have HU := hid (RU.ext hu0 hEW)
  have Hhc1 := hid (hc1)
  have Hhc2 := hid (hc2)
  have HEW := hid hEW
  clear hCV hr0 hu0 hb0 hb1 hEW
  by_cases h1 : clusOk C = true
  · have HC : Hid (openC C node op = openH C node op) := hid (by exact openC_ok h1 node op)
    have HS : Hid (SmallC (openH C node op).1) := hid (by rw [← HC.out]; exact (few_open C node op).small)
    obtain ⟨R, hR⟩ : ∃ R, R = openH C node op := ⟨_, rfl⟩
    have HRR := hid hR
    clear hR
    go_enter Tryz.func57, Tryz.ntmps57
    go_wp2_with (first
      | (go_at_call 37; rw [← hW]; refine (iClusterValid _ C _ HCV.out hl hfl hid').mono ?_; rintro e w1 ⟨rfl, hE1⟩; rw [h1]; obtain ⟨c0, c1⟩ := KB.out _ hE1; have HE1 := hid hE1; clear hE1 hW)
      | (go_at_call 111; refine (iHostOf _ _ C _ (RI.ext HR.out HE1.out) (RU.ext HU.out HE1.out) h1).mono ?_; rintro e w2 ⟨H, ps, rv', cells, rfl, hh2, hE2⟩; have HH2 := hid hh2; have HE2 := hid (HE1.out.trans hE2); have HZ2 := hid hE2.size; clear hh2 hE2)
      | (go_at_call 95; refine (iOpen1 H _ C ps rv' cells node op b1 b2 _ HH2.out HZ2.out ((HEW.out.trans HE2.out).cell Hhc1.out) ((HEW.out.trans HE2.out).cell Hhc2.out)).mono ?_; rintro e w3 ⟨ps3, cells3, rfl, hh3, hB3⟩; rw [← HRR.out] at hh3 ⊢; have HH3 := hid hh3; have HB3 := hid hB3; clear hh3 hB3)
      | (go_at_call 112; refine (iHostCluster H _ R.1 ps3 rv' cells3 _ HH3.out (by rw [HRR.out]; exact HS.out)).mono ?_; rintro e w4 ⟨v4, rfl, hO4, hE4⟩; obtain ⟨A4, c4, B4, d4, rfl⟩ := hO4.form; have hb3 : w3.heap[w.heap.size + 1]? = some (.cells #[.slice none 0 0, .slice none 0 0] 26 (0, 0)) := ((HB3.out.block _ (obj_lt (HE1.out.obj B1.out))).trans (HE2.out.obj B1.out)); obtain ⟨y0, y1, y0f, y1f, k1, k1f, hkk, hsm⟩ := box2 (hE4.obj hb3) (.slice A4 R.1.room.length c4) (.slice B4 R.1.units.length d4); have r0 := obj_cell hkk (i := 0) rfl; have r1 := obj_cell hkk (i := 1) rfl; have HSM := hid hsm; have HX : Hid (Ext W w4) := hid (Below.trans HE2.out (Below.trans (HB3.out.mono HE1.out.size) (hE4.mono (Nat.le_trans HE2.out.size HB3.out.size)))); have HO4 := hid (hO4.low (base' := w.heap.size) (Nat.le_trans HEW.out.size (Nat.le_trans HE2.out.size HB3.out.size))); clear hO4 hE4 hb3 hkk hsm))
    refine bodyPost_ret (v := .tuple #[.agg #[.slice A4 R.1.room.length c4, .slice B4 R.1.units.length d4], .int .i64 R.2]) (by simp [results, Tryz.results57, go_sem, r0, r1]) rfl ?_
    rw [HC.out, ← HRR.out]
    exact ⟨_, rfl, HO4.out.same (HSM.out _ notClu), Below.setCell (Below.setCell (HEW.out.trans HX.out) (Nat.le_succ _) _) (Nat.le_succ _) _⟩
  · have h1 : clusOk C = false := by simpa using h1
    have HC : Hid (openC C node op = (⟨[], []⟩, 1)) := hid (by unfold openC; rw [h1]; rfl)
    go_enter Tryz.func57, Tryz.ntmps57
    go_wp2_with (go_at_call 37; rw [← hW]; refine (iClusterValid _ C _ HCV.out hl hfl hid').mono ?_; rintro e w1 ⟨rfl, hE1⟩; rw [h1]; have HE1 := hid hE1; obtain ⟨_, _, y0, y1, y0f, y1f, k1, k1f, r0, r1, hsm⟩ := res2 (hE1.obj B1.out) (hE1.obj B1.out); clear hE1 hW hsm)
    refine bodyPost_ret (v := .tuple #[.agg #[.slice none 0 0, .slice none 0 0], .int .i64 1]) (by simp [results, Tryz.results57, go_sem, r0, r1]) rfl ?_
    rw [HC.out]
    exact ⟨_, rfl, OCl.zero _ _, Below.setCell (Below.setCell (HEW.out.trans HE1.out) (Nat.le_succ _) _) (Nat.le_succ _) _⟩

set_option maxHeartbeats 4000000 in
theorem iClusterOpen (cv : Value) (C : ClusD) (node : Int) (op : Bool) (w : World) (h : ClusV w cv C) (hl : C.units.length ≤ 4000000) (hfl : (C.units.map (·.tasks)).flatten.length ≤ 4000000) (hid' : ∀ t ∈ (C.units.map (·.tasks)).flatten, IdR t.id) :
    Calls Tryz.prog 43 #[cv, .int .i64 node, .bool op] w (RetOC w (openC C node op)) := by
  have hCV := h
  obtain ⟨rv, uv, rfl, hr, hu⟩ := h
  obtain ⟨Ar, cr, rfl, _⟩ := hr
  obtain ⟨Au, cu, rfl, _⟩ := hu
  obtain ⟨W, hW⟩ : ∃ W, W = ((((w.alloc (.cells #[.slice Ar C.room.length cr, .slice Au C.units.length cu] 26)).alloc (.cells #[.int .i64 node] 3)).alloc (.cells #[.bool op] 4)).alloc (.cells #[.slice none 0 0, .slice none 0 0] 26)) := ⟨_, rfl⟩
  have hEW : Ext w W := by rw [hW]; exact (((Ext.alloc _ _).trans (Ext.alloc _ _)).trans (Ext.alloc _ _)).trans (Ext.alloc _ _)
  have hb0 : W.heap[w.heap.size]? = some (.cells #[.slice Ar C.room.length cr, .slice Au C.units.length cu] 26 (0, 0)) := by rw [hW]; exact (Ext.alloc _ _).obj ((Ext.alloc _ _).obj ((Ext.alloc _ _).obj (heap_alloc_new w _)))
  have hb1 : W.heap[w.heap.size + 1]? = some (.cells #[.int .i64 node] 3 (0, 0)) := by rw [hW]; exact (Ext.alloc _ _).obj ((Ext.alloc _ _).obj (heap_new (by simp)))
  have hb2 : W.heap[w.heap.size + 2]? = some (.cells #[.bool op] 4 (0, 0)) := by rw [hW]; exact (Ext.alloc _ _).obj (heap_new (by simp))
  have hb3 : W.heap[w.heap.size + 3]? = some (.cells #[.slice none 0 0, .slice none 0 0] 26 (0, 0)) := by rw [hW]; exact heap_new (by simp)
  have c0 := obj_cell hb0 (i := 0) rfl
  have c1 := obj_cell hb0 (i := 1) rfl
  have d1 := obj_cell hb1 (i := 0) rfl
  have d2 := obj_cell hb2 (i := 0) rfl
  have BN := hid hb3
  have HCV := hid (hCV.ext hEW)
  have HEW := hid hEW
  clear hCV hEW hb0 hb1 hb2 hb3
  obtain ⟨R, hR⟩ : ∃ R, R = openC C node op := ⟨_, rfl⟩
  rw [← hR]
  have HRR := hid hR
  clear hR
  go_enter Tryz.func43, Tryz.ntmps43
  go_wp2_with (go_at_call 57; rw [← hW]; refine (iDoneOpen _ C node op _ _ _ HCV.out hl hfl hid' d1 d2).mono ?_; rw [← HRR.out]; rintro e w1 ⟨v1, rfl, hO1, hE1⟩; obtain ⟨A1, c1', B1, d1', rfl⟩ := hO1.form; obtain ⟨y0, y1, y0f, y1f, k1, k1f, hkk, hsm⟩ := box2 (hE1.obj BN.out) (.slice A1 R.1.room.length c1') (.slice B1 R.1.units.length d1'); have r0 := obj_cell hkk (i := 0) rfl; have r1 := obj_cell hkk (i := 1) rfl; have HSM := hid hsm; have HE1 := hid hE1; have HO1 := hid (hO1.low (base' := w.heap.size) HEW.out.size); clear hO1 hE1 hkk hsm hW)
  refine bodyPost_ret (v := .tuple #[.agg #[.slice A1 R.1.room.length c1', .slice B1 R.1.units.length d1'], .int .i64 R.2]) (by simp [results, Tryz.results43, go_sem, r0, r1]) rfl ?_
  exact ⟨_, rfl, HO1.out.same (HSM.out _ notClu), Below.setCell (Below.setCell (HEW.out.trans HE1.out) (by show w.heap.size ≤ w.heap.size + 3; omega) _) (by show w.heap.size ≤ w.heap.size + 3; omega) _⟩

end Go.Proofs.YtfgibhdglbjadaaGreat
