/- The program's host finds a task. -/
import Derived.Test.YtcfpilkhjpegcaaK11
import Derived.Test.YtcfpilkhjpegcaaK4
import Derived.Test.YtcfpilkhjpegcaaK1
namespace Go.Proofs.Ytcfpilkhjpegcaa
open Go.RowKit
set_option maxRecDepth 4000

/-- the node and the place of a task -/
def findU (us : List UnitD) (id : Int) : Int × Int := match us.findIdx? (fun u => hasId u.tasks id) with
  | some i => (i, idxI (fun t : TaskD => t.id == id) (us.getD i default).tasks)
  | none => (-1, -1)
theorem findU_hit {us : List UnitD} {id : Int} {k : Nat} {u : UnitD} (hb : us[k]? = some u) (h : hasId u.tasks id = true) (hn : ∀ (j : Nat) c, j < k → us[j]? = some c → hasId c.tasks id = false) : findU us id = ((k : Int), idxI (fun t : TaskD => t.id == id) u.tasks) := by
  have hk : k < us.length := (List.getElem?_eq_some_iff.1 hb).1
  have hbk : us[k] = u := (List.getElem?_eq_some_iff.1 hb).2
  have : us.findIdx? (fun u => hasId u.tasks id) = some k := by
    rw [List.findIdx?_eq_some_iff_getElem]
    exact ⟨hk, by rw [hbk]; exact h, fun j hj => by simpa using hn j us[j] hj (List.getElem?_eq_getElem (by omega))⟩
  unfold findU
  rw [this]
  simp [List.getD, hb]
theorem findU_miss {us : List UnitD} {id : Int} (hn : ∀ (j : Nat) c, us[j]? = some c → hasId c.tasks id = false) : findU us id = (-1, -1) := by
  have : us.findIdx? (fun u => hasId u.tasks id) = none := by
    rw [List.findIdx?_eq_none_iff]
    intro b hb
    obtain ⟨k, hk⟩ := List.getElem?_of_mem hb
    exact hn k b hk
  unfold findU
  rw [this]
theorem idx_has (ts : List TaskD) (id : Int) : decide (0 ≤ idxI (fun t : TaskD => t.id == id) ts) = hasId ts id := idxI_ge _ _

end Go.Proofs.Ytcfpilkhjpegcaa

/- The program's place of a task in a cluster. -/
namespace Go.Proofs.Ytcfpilkhjpegcaa
open Go.RowKit
set_option maxRecDepth 4000

/-- where a task of a valid cluster is -/
def whereC (C : ClusD) (id : Int) : Int := if clusOk C then whereL (C.units.map (·.tasks)) id else -1
end Go.Proofs.Ytcfpilkhjpegcaa

/- The program's counts of a cluster. -/
namespace Go.Proofs.Ytcfpilkhjpegcaa
open Go.RowKit
set_option maxRecDepth 4000

def busyTo (us : List UnitD) (k : Nat) : Nat := (us.take k).countP fun u => decide (0 < u.tasks.length)
def flatTo (us : List UnitD) (k : Nat) : Nat := ((us.take k).map (·.tasks)).flatten.length
theorem busyTo_succ {us : List UnitD} {k : Nat} {u : UnitD} (h : us[k]? = some u) : busyTo us (k + 1) = if 0 < u.tasks.length then busyTo us k + 1 else busyTo us k := by
  unfold busyTo
  rw [take_snoc h, List.countP_append, List.countP_singleton]
  by_cases hc : 0 < u.tasks.length <;> simp [hc]
theorem flatTo_succ {us : List UnitD} {k : Nat} {u : UnitD} (h : us[k]? = some u) : flatTo us (k + 1) = flatTo us k + u.tasks.length := by
  unfold flatTo
  rw [tasks_take_succ h, List.flatten_append, List.length_append]
  simp
def busyN (C : ClusD) : Nat := busyTo C.units C.units.length
def manyN (C : ClusD) : Nat := (C.units.map (·.tasks)).flatten.length
def countsC (C : ClusD) : List Int := if clusOk C then [(openN C : Int), (busyN C : Int), (manyN C : Int)] else []
theorem hmkI3 (w : World) : (Instr.makeSlice 23 (.int .i64 3) (.int .i64 3)).run Try.prog w = .ok (.slice (some ⟨w.heap.size, 0, none⟩) 3 3) (w.alloc (.cells #[.int .i64 0, .int .i64 0, .int .i64 0] 3)) := by kernel_rfl
set_option maxHeartbeats 4000000 in
theorem iClusterCounts (cv : Value) (C : ClusD) (w : World) (h : ClusV w cv C) (hl : C.units.length ≤ 4000000) (hfl : (C.units.map (·.tasks)).flatten.length ≤ 4000000) (hid' : ∀ t ∈ (C.units.map (·.tasks)).flatten, IdR t.id) :
    Calls Try.prog 12 #[cv] w fun e w' => ∃ v, e = .returned v ∧ OI w' w.heap.size v (countsC C) ∧ Ext w w' := by
  have hC := h
  obtain ⟨rv, uv, rfl, hr, hu⟩ := h
  obtain ⟨Ar, cr, rfl, _⟩ := hr
  obtain ⟨Au, cu, rfl, hcu, hcu', hg⟩ := RU.get hu
  clear hu
  obtain ⟨W, hW⟩ : ∃ W, W = w.alloc (.cells #[.slice Ar C.room.length cr, .slice Au C.units.length cu] 26) := ⟨_, rfl⟩
  have hEW : Ext w W := by rw [hW]; exact Ext.alloc _ _
  have hx : W.heap[w.heap.size]? = some (.cells #[.slice Ar C.room.length cr, .slice Au C.units.length cu] 26 (0, 0)) := by rw [hW]; exact heap_alloc_new _ _
  have c0 := obj_cell hx (i := 0) rfl
  have c1 := obj_cell hx (i := 1) rfl
  have KB : Hid (∀ w', Ext W w' → w'.cell? ⟨w.heap.size, 0, none⟩ = some (.slice Ar C.room.length cr) ∧ w'.cell? ⟨w.heap.size, 1, none⟩ = some (.slice Au C.units.length cu)) := hid fun w' hw => ⟨obj_cell (hw.obj hx) (i := 0) rfl, obj_cell (hw.obj hx) (i := 1) rfl⟩
  have HC := hid (hC.ext hEW)
  have HEW := hid hEW
  clear hC hEW hx
  by_cases hv : clusOk C = true
  · have hlen := (clusOk_len hv).2
    have hfl14 := tasksOk_len (binsOk_tk (clusOk_bins hv))
    have HOK := hid hv
    have hW2 := hmkI3
    go_enter Try.func12, Try.ntmps12
    go_wp2_with (go_at_call 32; rw [← hW]; refine (iClusterValid _ C _ HC.out hl hfl hid').mono ?_; rintro e w1 ⟨rfl, hE1⟩; rw [hv]; have hmk := hmkI3 w1; have hEa := hE1.trans (Ext.alloc w1 (.cells #[.int .i64 0, .int .i64 0, .int .i64 0] 3)); have hwz := (HEW.out.trans hE1).size; have HO1 : Hid (OI (w1.alloc (.cells #[.int .i64 0, .int .i64 0, .int .i64 0] 3)) w.heap.size (.slice (some ⟨w1.heap.size, 0, none⟩) 3 3) [0, 0, 0]) := hid (OI.lit w1 [0, 0, 0] (by simp) _ hwz); obtain ⟨c0, c1⟩ := KB.out _ hEa; have HEa := hid hEa; have hWg : W.heap.size ≤ w1.heap.size := hE1.size; clear hE1 hW hEa hW2)
    obtain ⟨g, hgg⟩ : ∃ g, g = w1.heap.size := ⟨_, rfl⟩
    have hgW : W.heap.size ≤ g := by rw [hgg]; exact hWg
    have hgw0 : w.heap.size ≤ g := by rw [hgg]; exact hwz
    rw [← hgg] at HO1 ⊢
    clear hgg hWg hwz hmk
    go_loopw [13] (fun i wr => ∃ (k a b n : Nat), k ≤ C.units.length ∧ i = .int .i64 k ∧ Hid (a = openTo C.units k ∧ b = busyTo C.units k ∧ n = flatTo C.units k) ∧ Hid (OI wr w.heap.size (.slice (some ⟨g, 0, none⟩) 3 3) [(a : Int), (b : Int), (n : Int)] ∧ Ext W wr) ∧ a ≤ k ∧ b ≤ k ∧ n ≤ 4000000 * k) (fun i _ => C.units.length - (intOf i).toNat)
    case atStart => exact ⟨0, 0, 0, 0, Nat.zero_le _, rfl, hid ⟨rfl, rfl, rfl⟩, hid ⟨HO1.out, HEa.out⟩, by omega, by omega, by omega⟩
    case round =>
      obtain ⟨k, a, b, n, hk, rfl, H, HOE, hak, hbk, hnk⟩ := hrel
      have HO := hid HOE.out.1
      have HE := hid HOE.out.2
      clear HOE
      by_cases hlt : k < C.units.length
      · obtain ⟨b1, o, x, An, cn, rfl, e, x1, x2, hnx⟩ := hg k hlt
        have i1 : (k : Int) < (C.units.length : Int) := by omega
        have hEE := HEW.out.trans HE.out
        have x1r := hEE.cell x1
        have x2r := hEE.cell x2
        obtain ⟨op, ts⟩ := x
        have hts : ts.length ≤ 4000000 := Nat.le_trans (clusOk_unit HOK.out (List.mem_of_getElem? e.out)).1.1 (by omega)
        clear hnx hEE x1 x2
        by_cases h4 : 0 < ts.length
        · have i4 : (0 : Int) < (ts.length : Int) := by omega
          cases op
          · have hgu : g < wr.heap.size := (HO.out.lt g rfl).2
            have wb : IntKind.i64.wrap ((b : Int) + 1) = (b : Int) + 1 := IntWalk.i64_in _ (by omega)
            have wn : IntKind.i64.wrap ((n : Int) + (ts.length : Int)) = (n : Int) + (ts.length : Int) := IntWalk.i64_in _ (by omega)
            have hU1 := HO.out
            have hE1 := HE.out
            have hO1 := hU1.ext EI.ok (Ext.alloc wr (.cells #[.bool false, .slice An ts.length cn] 44))
            have hub1 := obj_cell (heap_alloc_new wr (.cells #[.bool false, .slice An ts.length cn] 44)) (i := 0) rfl
            have hut1 := obj_cell (heap_alloc_new wr (.cells #[.bool false, .slice An ts.length cn] 44)) (i := 1) rfl
            obtain ⟨q1, q1f, _⟩ := OI.at_ hO1 (j := 1) rfl
            have hU2 : OI (wr.setCell ⟨g, 1, none⟩ (.int .i64 ((b : Int) + 1))) w.heap.size (.slice (some ⟨g, 0, none⟩) 3 3) [(a : Int), (b : Int) + 1, (n : Int)] := (OI.set hU1 (j := 1) (by show 1 < 3; omega) ((b : Int) + 1)).1
            have hE2 : Ext W (wr.setCell ⟨g, 1, none⟩ (.int .i64 ((b : Int) + 1))) := Below.setCell hE1 (by show W.heap.size ≤ g; omega) _
            have hO2 := hU2.ext EI.ok (Ext.alloc (wr.setCell ⟨g, 1, none⟩ (.int .i64 ((b : Int) + 1))) (.cells #[.bool false, .slice An ts.length cn] 44))
            have hub2 := obj_cell (heap_alloc_new (wr.setCell ⟨g, 1, none⟩ (.int .i64 ((b : Int) + 1))) (.cells #[.bool false, .slice An ts.length cn] 44)) (i := 0) rfl
            have hut2 := obj_cell (heap_alloc_new (wr.setCell ⟨g, 1, none⟩ (.int .i64 ((b : Int) + 1))) (.cells #[.bool false, .slice An ts.length cn] 44)) (i := 1) rfl
            rw [show (wr.setCell ⟨g, 1, none⟩ (.int .i64 ((b : Int) + 1))).heap.size = wr.heap.size by simp] at hub2 hut2
            have hHE := hid (hE2.trans (Ext.alloc _ (.cells #[.bool false, .slice An ts.length cn] 44)))
            have HU1 := hid hU1
            have HU2 := hid hU2
            clear hU1 hE1 hU2 hE2
            obtain ⟨V, hV⟩ : ∃ V, V = ((wr.setCell ⟨g, 1, none⟩ (.int .i64 ((b : Int) + 1))).alloc (.cells #[.bool false, .slice An ts.length cn] 44)) := ⟨_, rfl⟩
            have HOV : Hid (OI V w.heap.size (.slice (some ⟨g, 0, none⟩) 3 3) [(a : Int), (b : Int) + 1, (n : Int)]) := hid (by rw [hV]; exact hO2)
            have HEV : Hid (Ext W V) := hid (by rw [hV]; exact hHE.out)
            have hutV : V.cell? ⟨wr.heap.size, 1, none⟩ = some (.slice An ts.length cn) := by rw [hV]; exact hut2
            obtain ⟨s0, s0f, _⟩ := OI.at_ HOV.out (j := 2) rfl
            have KS := hid (And.intro s0 (And.intro s0f hutV))
            clear s0 s0f hutV
            go_wp2
            rw [← hV]
            clear hV
            refine WG.start (fun w' => w'.cell? ⟨g, 2, none⟩ = some (.int .i64 (n : Int)) ∧ w'.frozen? ⟨g, 2, none⟩ = false ∧ w'.cell? ⟨wr.heap.size, 1, none⟩ = some (.slice An ts.length cn)) [8] (by kernel_rfl) (by exact KS.out) (fun hHeld => ?_)
            (refine WG.take (i := 0) (v := ?_) rfl (by kernel_rfl) (by kernel_rfl) (by kernel_rfl) (by kernel_rfl) (fun _ _ _ h => h) (Or.inl ⟨by rfl, ?_⟩) (by assumption) ?_; rotate_left; (intro w hSw; (try dsimp only at hSw); go_split_ands; go_simp; (try with_reducible rfl)); (try simp only [Act.put, List.setIfInBounds_toArray, List.set_cons_zero, List.set_cons_succ]))
            (refine WG.take (i := 1) (v := ?_) rfl (by kernel_rfl) (by kernel_rfl) (by kernel_rfl) (by kernel_rfl) (fun _ _ _ h => h) (Or.inl ⟨by rfl, ?_⟩) (by assumption) ?_; rotate_left; (intro w hSw; (try dsimp only at hSw); go_split_ands; go_simp; (try with_reducible rfl)); (try simp only [Act.put, List.setIfInBounds_toArray, List.set_cons_zero, List.set_cons_succ]))
            (refine WG.take (i := 2) (v := ?_) rfl (by kernel_rfl) (by kernel_rfl) (by kernel_rfl) (by kernel_rfl) (fun _ _ _ h => h) (Or.inl ⟨by rfl, ?_⟩) (by assumption) ?_; rotate_left; (intro w hSw; (try dsimp only at hSw); go_split_ands; go_simp; (try with_reducible rfl)); (try simp only [Act.put, List.setIfInBounds_toArray, List.set_cons_zero, List.set_cons_succ]))
            (refine WG.take (i := 3) (v := ?_) rfl (by kernel_rfl) (by kernel_rfl) (by kernel_rfl) (by kernel_rfl) (fun _ _ _ h => h) (Or.inl ⟨by rfl, ?_⟩) (by assumption) ?_; rotate_left; (intro w hSw; (try dsimp only at hSw); go_split_ands; go_simp; (try with_reducible rfl)); (try simp only [Act.put, List.setIfInBounds_toArray, List.set_cons_zero, List.set_cons_succ]))
            (refine WG.take (i := 4) (v := ?_) rfl (by kernel_rfl) (by kernel_rfl) (by kernel_rfl) (by kernel_rfl) (fun _ _ _ h => h) (Or.inl ⟨by rfl, ?_⟩) (by assumption) ?_; rotate_left; (intro w hSw; (try dsimp only at hSw); go_split_ands; go_simp; (try with_reducible rfl)); (try simp only [Act.put, List.setIfInBounds_toArray, List.set_cons_zero, List.set_cons_succ]))
            (refine WG.take (i := 5) (v := ?_) rfl (by kernel_rfl) (by kernel_rfl) (by kernel_rfl) (by kernel_rfl) (fun _ _ _ h => h) (Or.inl ⟨by rfl, ?_⟩) (by assumption) ?_; rotate_left; (intro w hSw; (try dsimp only at hSw); go_split_ands; go_simp; (try with_reducible rfl)); (try simp only [Act.put, List.setIfInBounds_toArray, List.set_cons_zero, List.set_cons_succ]))
            (refine WG.take (i := 6) (v := ?_) rfl (by kernel_rfl) (by kernel_rfl) (by kernel_rfl) (by kernel_rfl) (fun _ _ _ h => h) (Or.inl ⟨by rfl, ?_⟩) (by assumption) ?_; rotate_left; (intro w hSw; (try dsimp only at hSw); go_split_ands; go_simp; (try with_reducible rfl)); (try simp only [Act.put, List.setIfInBounds_toArray, List.set_cons_zero, List.set_cons_succ]))
            (refine WG.take (i := 7) (v := ?_) rfl (by kernel_rfl) (by kernel_rfl) (by kernel_rfl) (by kernel_rfl) (fun _ _ _ h => h) (Or.inl ⟨by rfl, ?_⟩) (by assumption) ?_; rotate_left; (intro w hSw; (try dsimp only at hSw); go_split_ands; go_simp; (try with_reducible rfl)); (try simp only [Act.put, List.setIfInBounds_toArray, List.set_cons_zero, List.set_cons_succ]))
            obtain ⟨s0, s0f, _⟩ := KS.out
            have s0' : V.drew.cell? ⟨g, 2, none⟩ = some (.int .i64 (n : Int)) := s0
            have s0f' : V.drew.frozen? ⟨g, 2, none⟩ = false := s0f
            refine WG.last (i := 8) rfl (by kernel_rfl) (by kernel_rfl) (fun K hK => ?_)
            go_simp
            refine hK.out _ _ ?_
            clear hK K
            (try simp only [Act.put, List.setIfInBounds_toArray, List.set_cons_zero, List.set_cons_succ])
            refine WG.done (by kernel_rfl) ?_
            go_wp2
            go_roundw
            case rel =>
              have hs := (OI.set (HOV.out.ext EI.ok (Below.drew (Below.refl _ _))) (j := 2) (by show 2 < 3; omega) ((n : Int) + (ts.length : Int))).1
              refine ⟨k + 1, a, b + 1, n + ts.length, by omega, by go_num, hid ⟨?_, ?_, ?_⟩, hid ⟨by rw [Int.natCast_add]; exact hs, Below.setCell (Below.drew HEV.out) (by show W.heap.size ≤ g; omega) _⟩, by omega, by omega, by omega⟩
              · rw [openTo_succ e.out, H.out.1]; rfl
              · rw [busyTo_succ e.out, H.out.2.1]; exact (if_pos h4).symm
              · rw [flatTo_succ e.out, H.out.2.2]
            case measure => simp [intOf]; omega
          · have hgu : g < wr.heap.size := (HO.out.lt g rfl).2
            have wa : IntKind.i64.wrap ((a : Int) + 1) = (a : Int) + 1 := IntWalk.i64_in _ (by omega)
            have wb : IntKind.i64.wrap ((b : Int) + 1) = (b : Int) + 1 := IntWalk.i64_in _ (by omega)
            have wn : IntKind.i64.wrap ((n : Int) + (ts.length : Int)) = (n : Int) + (ts.length : Int) := IntWalk.i64_in _ (by omega)
            have hU1 := HO.out
            have hE1 := HE.out
            have hO1 := hU1.ext EI.ok (Ext.alloc wr (.cells #[.bool true, .slice An ts.length cn] 44))
            have hub1 := obj_cell (heap_alloc_new wr (.cells #[.bool true, .slice An ts.length cn] 44)) (i := 0) rfl
            have hut1 := obj_cell (heap_alloc_new wr (.cells #[.bool true, .slice An ts.length cn] 44)) (i := 1) rfl
            obtain ⟨q1, q1f, _⟩ := OI.at_ hO1 (j := 0) rfl
            have hU2 : OI (wr.setCell ⟨g, 0, none⟩ (.int .i64 ((a : Int) + 1))) w.heap.size (.slice (some ⟨g, 0, none⟩) 3 3) [(a : Int) + 1, (b : Int), (n : Int)] := (OI.set hU1 (j := 0) (by show 0 < 3; omega) ((a : Int) + 1)).1
            have hE2 : Ext W (wr.setCell ⟨g, 0, none⟩ (.int .i64 ((a : Int) + 1))) := Below.setCell hE1 (by show W.heap.size ≤ g; omega) _
            have hO2 := hU2.ext EI.ok (Ext.alloc (wr.setCell ⟨g, 0, none⟩ (.int .i64 ((a : Int) + 1))) (.cells #[.bool true, .slice An ts.length cn] 44))
            have hub2 := obj_cell (heap_alloc_new (wr.setCell ⟨g, 0, none⟩ (.int .i64 ((a : Int) + 1))) (.cells #[.bool true, .slice An ts.length cn] 44)) (i := 0) rfl
            have hut2 := obj_cell (heap_alloc_new (wr.setCell ⟨g, 0, none⟩ (.int .i64 ((a : Int) + 1))) (.cells #[.bool true, .slice An ts.length cn] 44)) (i := 1) rfl
            rw [show (wr.setCell ⟨g, 0, none⟩ (.int .i64 ((a : Int) + 1))).heap.size = wr.heap.size by simp] at hub2 hut2
            obtain ⟨q2, q2f, _⟩ := OI.at_ hO2 (j := 1) rfl
            have hU3 : OI ((wr.setCell ⟨g, 0, none⟩ (.int .i64 ((a : Int) + 1))).setCell ⟨g, 1, none⟩ (.int .i64 ((b : Int) + 1))) w.heap.size (.slice (some ⟨g, 0, none⟩) 3 3) [(a : Int) + 1, (b : Int) + 1, (n : Int)] := (OI.set hU2 (j := 1) (by show 1 < 3; omega) ((b : Int) + 1)).1
            have hE3 : Ext W ((wr.setCell ⟨g, 0, none⟩ (.int .i64 ((a : Int) + 1))).setCell ⟨g, 1, none⟩ (.int .i64 ((b : Int) + 1))) := Below.setCell hE2 (by show W.heap.size ≤ g; omega) _
            have hO3 := hU3.ext EI.ok (Ext.alloc ((wr.setCell ⟨g, 0, none⟩ (.int .i64 ((a : Int) + 1))).setCell ⟨g, 1, none⟩ (.int .i64 ((b : Int) + 1))) (.cells #[.bool true, .slice An ts.length cn] 44))
            have hub3 := obj_cell (heap_alloc_new ((wr.setCell ⟨g, 0, none⟩ (.int .i64 ((a : Int) + 1))).setCell ⟨g, 1, none⟩ (.int .i64 ((b : Int) + 1))) (.cells #[.bool true, .slice An ts.length cn] 44)) (i := 0) rfl
            have hut3 := obj_cell (heap_alloc_new ((wr.setCell ⟨g, 0, none⟩ (.int .i64 ((a : Int) + 1))).setCell ⟨g, 1, none⟩ (.int .i64 ((b : Int) + 1))) (.cells #[.bool true, .slice An ts.length cn] 44)) (i := 1) rfl
            rw [show ((wr.setCell ⟨g, 0, none⟩ (.int .i64 ((a : Int) + 1))).setCell ⟨g, 1, none⟩ (.int .i64 ((b : Int) + 1))).heap.size = wr.heap.size by simp] at hub3 hut3
            have hHE := hid (hE3.trans (Ext.alloc _ (.cells #[.bool true, .slice An ts.length cn] 44)))
            have HU1 := hid hU1
            have HU2 := hid hU2
            have HU3 := hid hU3
            clear hU1 hE1 hU2 hE2 hU3 hE3
            obtain ⟨V, hV⟩ : ∃ V, V = (((wr.setCell ⟨g, 0, none⟩ (.int .i64 ((a : Int) + 1))).setCell ⟨g, 1, none⟩ (.int .i64 ((b : Int) + 1))).alloc (.cells #[.bool true, .slice An ts.length cn] 44)) := ⟨_, rfl⟩
            have HOV : Hid (OI V w.heap.size (.slice (some ⟨g, 0, none⟩) 3 3) [(a : Int) + 1, (b : Int) + 1, (n : Int)]) := hid (by rw [hV]; exact hO3)
            have HEV : Hid (Ext W V) := hid (by rw [hV]; exact hHE.out)
            have hutV : V.cell? ⟨wr.heap.size, 1, none⟩ = some (.slice An ts.length cn) := by rw [hV]; exact hut3
            obtain ⟨s0, s0f, _⟩ := OI.at_ HOV.out (j := 2) rfl
            have KS := hid (And.intro s0 (And.intro s0f hutV))
            clear s0 s0f hutV
            go_wp2
            rw [← hV]
            clear hV
            refine WG.start (fun w' => w'.cell? ⟨g, 2, none⟩ = some (.int .i64 (n : Int)) ∧ w'.frozen? ⟨g, 2, none⟩ = false ∧ w'.cell? ⟨wr.heap.size, 1, none⟩ = some (.slice An ts.length cn)) [8] (by kernel_rfl) (by exact KS.out) (fun hHeld => ?_)
            (refine WG.take (i := 0) (v := ?_) rfl (by kernel_rfl) (by kernel_rfl) (by kernel_rfl) (by kernel_rfl) (fun _ _ _ h => h) (Or.inl ⟨by rfl, ?_⟩) (by assumption) ?_; rotate_left; (intro w hSw; (try dsimp only at hSw); go_split_ands; go_simp; (try with_reducible rfl)); (try simp only [Act.put, List.setIfInBounds_toArray, List.set_cons_zero, List.set_cons_succ]))
            (refine WG.take (i := 1) (v := ?_) rfl (by kernel_rfl) (by kernel_rfl) (by kernel_rfl) (by kernel_rfl) (fun _ _ _ h => h) (Or.inl ⟨by rfl, ?_⟩) (by assumption) ?_; rotate_left; (intro w hSw; (try dsimp only at hSw); go_split_ands; go_simp; (try with_reducible rfl)); (try simp only [Act.put, List.setIfInBounds_toArray, List.set_cons_zero, List.set_cons_succ]))
            (refine WG.take (i := 2) (v := ?_) rfl (by kernel_rfl) (by kernel_rfl) (by kernel_rfl) (by kernel_rfl) (fun _ _ _ h => h) (Or.inl ⟨by rfl, ?_⟩) (by assumption) ?_; rotate_left; (intro w hSw; (try dsimp only at hSw); go_split_ands; go_simp; (try with_reducible rfl)); (try simp only [Act.put, List.setIfInBounds_toArray, List.set_cons_zero, List.set_cons_succ]))
            (refine WG.take (i := 3) (v := ?_) rfl (by kernel_rfl) (by kernel_rfl) (by kernel_rfl) (by kernel_rfl) (fun _ _ _ h => h) (Or.inl ⟨by rfl, ?_⟩) (by assumption) ?_; rotate_left; (intro w hSw; (try dsimp only at hSw); go_split_ands; go_simp; (try with_reducible rfl)); (try simp only [Act.put, List.setIfInBounds_toArray, List.set_cons_zero, List.set_cons_succ]))
            (refine WG.take (i := 4) (v := ?_) rfl (by kernel_rfl) (by kernel_rfl) (by kernel_rfl) (by kernel_rfl) (fun _ _ _ h => h) (Or.inl ⟨by rfl, ?_⟩) (by assumption) ?_; rotate_left; (intro w hSw; (try dsimp only at hSw); go_split_ands; go_simp; (try with_reducible rfl)); (try simp only [Act.put, List.setIfInBounds_toArray, List.set_cons_zero, List.set_cons_succ]))
            (refine WG.take (i := 5) (v := ?_) rfl (by kernel_rfl) (by kernel_rfl) (by kernel_rfl) (by kernel_rfl) (fun _ _ _ h => h) (Or.inl ⟨by rfl, ?_⟩) (by assumption) ?_; rotate_left; (intro w hSw; (try dsimp only at hSw); go_split_ands; go_simp; (try with_reducible rfl)); (try simp only [Act.put, List.setIfInBounds_toArray, List.set_cons_zero, List.set_cons_succ]))
            (refine WG.take (i := 6) (v := ?_) rfl (by kernel_rfl) (by kernel_rfl) (by kernel_rfl) (by kernel_rfl) (fun _ _ _ h => h) (Or.inl ⟨by rfl, ?_⟩) (by assumption) ?_; rotate_left; (intro w hSw; (try dsimp only at hSw); go_split_ands; go_simp; (try with_reducible rfl)); (try simp only [Act.put, List.setIfInBounds_toArray, List.set_cons_zero, List.set_cons_succ]))
            (refine WG.take (i := 7) (v := ?_) rfl (by kernel_rfl) (by kernel_rfl) (by kernel_rfl) (by kernel_rfl) (fun _ _ _ h => h) (Or.inl ⟨by rfl, ?_⟩) (by assumption) ?_; rotate_left; (intro w hSw; (try dsimp only at hSw); go_split_ands; go_simp; (try with_reducible rfl)); (try simp only [Act.put, List.setIfInBounds_toArray, List.set_cons_zero, List.set_cons_succ]))
            obtain ⟨s0, s0f, _⟩ := KS.out
            have s0' : V.drew.cell? ⟨g, 2, none⟩ = some (.int .i64 (n : Int)) := s0
            have s0f' : V.drew.frozen? ⟨g, 2, none⟩ = false := s0f
            refine WG.last (i := 8) rfl (by kernel_rfl) (by kernel_rfl) (fun K hK => ?_)
            go_simp
            refine hK.out _ _ ?_
            clear hK K
            (try simp only [Act.put, List.setIfInBounds_toArray, List.set_cons_zero, List.set_cons_succ])
            refine WG.done (by kernel_rfl) ?_
            go_wp2
            go_roundw
            case rel =>
              have hs := (OI.set (HOV.out.ext EI.ok (Below.drew (Below.refl _ _))) (j := 2) (by show 2 < 3; omega) ((n : Int) + (ts.length : Int))).1
              refine ⟨k + 1, a + 1, b + 1, n + ts.length, by omega, by go_num, hid ⟨?_, ?_, ?_⟩, hid ⟨by rw [Int.natCast_add]; exact hs, Below.setCell (Below.drew HEV.out) (by show W.heap.size ≤ g; omega) _⟩, by omega, by omega, by omega⟩
              · rw [openTo_succ e.out, H.out.1]; rfl
              · rw [busyTo_succ e.out, H.out.2.1]; exact (if_pos h4).symm
              · rw [flatTo_succ e.out, H.out.2.2]
            case measure => simp [intOf]; omega
        · have i4 : ¬ (0 : Int) < (ts.length : Int) := by omega
          cases op
          · have hgu : g < wr.heap.size := (HO.out.lt g rfl).2
            have wn : IntKind.i64.wrap ((n : Int) + (ts.length : Int)) = (n : Int) + (ts.length : Int) := IntWalk.i64_in _ (by omega)
            have hU1 := HO.out
            have hE1 := HE.out
            have hO1 := hU1.ext EI.ok (Ext.alloc wr (.cells #[.bool false, .slice An ts.length cn] 44))
            have hub1 := obj_cell (heap_alloc_new wr (.cells #[.bool false, .slice An ts.length cn] 44)) (i := 0) rfl
            have hut1 := obj_cell (heap_alloc_new wr (.cells #[.bool false, .slice An ts.length cn] 44)) (i := 1) rfl
            have hHE := hid (hE1.trans (Ext.alloc _ (.cells #[.bool false, .slice An ts.length cn] 44)))
            have HU1 := hid hU1
            clear hU1 hE1
            obtain ⟨V, hV⟩ : ∃ V, V = (wr.alloc (.cells #[.bool false, .slice An ts.length cn] 44)) := ⟨_, rfl⟩
            have HOV : Hid (OI V w.heap.size (.slice (some ⟨g, 0, none⟩) 3 3) [(a : Int), (b : Int), (n : Int)]) := hid (by rw [hV]; exact hO1)
            have HEV : Hid (Ext W V) := hid (by rw [hV]; exact hHE.out)
            have hutV : V.cell? ⟨wr.heap.size, 1, none⟩ = some (.slice An ts.length cn) := by rw [hV]; exact hut1
            obtain ⟨s0, s0f, _⟩ := OI.at_ HOV.out (j := 2) rfl
            have KS := hid (And.intro s0 (And.intro s0f hutV))
            clear s0 s0f hutV
            go_wp2
            rw [← hV]
            clear hV
            refine WG.start (fun w' => w'.cell? ⟨g, 2, none⟩ = some (.int .i64 (n : Int)) ∧ w'.frozen? ⟨g, 2, none⟩ = false ∧ w'.cell? ⟨wr.heap.size, 1, none⟩ = some (.slice An ts.length cn)) [8] (by kernel_rfl) (by exact KS.out) (fun hHeld => ?_)
            (refine WG.take (i := 0) (v := ?_) rfl (by kernel_rfl) (by kernel_rfl) (by kernel_rfl) (by kernel_rfl) (fun _ _ _ h => h) (Or.inl ⟨by rfl, ?_⟩) (by assumption) ?_; rotate_left; (intro w hSw; (try dsimp only at hSw); go_split_ands; go_simp; (try with_reducible rfl)); (try simp only [Act.put, List.setIfInBounds_toArray, List.set_cons_zero, List.set_cons_succ]))
            (refine WG.take (i := 1) (v := ?_) rfl (by kernel_rfl) (by kernel_rfl) (by kernel_rfl) (by kernel_rfl) (fun _ _ _ h => h) (Or.inl ⟨by rfl, ?_⟩) (by assumption) ?_; rotate_left; (intro w hSw; (try dsimp only at hSw); go_split_ands; go_simp; (try with_reducible rfl)); (try simp only [Act.put, List.setIfInBounds_toArray, List.set_cons_zero, List.set_cons_succ]))
            (refine WG.take (i := 2) (v := ?_) rfl (by kernel_rfl) (by kernel_rfl) (by kernel_rfl) (by kernel_rfl) (fun _ _ _ h => h) (Or.inl ⟨by rfl, ?_⟩) (by assumption) ?_; rotate_left; (intro w hSw; (try dsimp only at hSw); go_split_ands; go_simp; (try with_reducible rfl)); (try simp only [Act.put, List.setIfInBounds_toArray, List.set_cons_zero, List.set_cons_succ]))
            (refine WG.take (i := 3) (v := ?_) rfl (by kernel_rfl) (by kernel_rfl) (by kernel_rfl) (by kernel_rfl) (fun _ _ _ h => h) (Or.inl ⟨by rfl, ?_⟩) (by assumption) ?_; rotate_left; (intro w hSw; (try dsimp only at hSw); go_split_ands; go_simp; (try with_reducible rfl)); (try simp only [Act.put, List.setIfInBounds_toArray, List.set_cons_zero, List.set_cons_succ]))
            (refine WG.take (i := 4) (v := ?_) rfl (by kernel_rfl) (by kernel_rfl) (by kernel_rfl) (by kernel_rfl) (fun _ _ _ h => h) (Or.inl ⟨by rfl, ?_⟩) (by assumption) ?_; rotate_left; (intro w hSw; (try dsimp only at hSw); go_split_ands; go_simp; (try with_reducible rfl)); (try simp only [Act.put, List.setIfInBounds_toArray, List.set_cons_zero, List.set_cons_succ]))
            (refine WG.take (i := 5) (v := ?_) rfl (by kernel_rfl) (by kernel_rfl) (by kernel_rfl) (by kernel_rfl) (fun _ _ _ h => h) (Or.inl ⟨by rfl, ?_⟩) (by assumption) ?_; rotate_left; (intro w hSw; (try dsimp only at hSw); go_split_ands; go_simp; (try with_reducible rfl)); (try simp only [Act.put, List.setIfInBounds_toArray, List.set_cons_zero, List.set_cons_succ]))
            (refine WG.take (i := 6) (v := ?_) rfl (by kernel_rfl) (by kernel_rfl) (by kernel_rfl) (by kernel_rfl) (fun _ _ _ h => h) (Or.inl ⟨by rfl, ?_⟩) (by assumption) ?_; rotate_left; (intro w hSw; (try dsimp only at hSw); go_split_ands; go_simp; (try with_reducible rfl)); (try simp only [Act.put, List.setIfInBounds_toArray, List.set_cons_zero, List.set_cons_succ]))
            (refine WG.take (i := 7) (v := ?_) rfl (by kernel_rfl) (by kernel_rfl) (by kernel_rfl) (by kernel_rfl) (fun _ _ _ h => h) (Or.inl ⟨by rfl, ?_⟩) (by assumption) ?_; rotate_left; (intro w hSw; (try dsimp only at hSw); go_split_ands; go_simp; (try with_reducible rfl)); (try simp only [Act.put, List.setIfInBounds_toArray, List.set_cons_zero, List.set_cons_succ]))
            obtain ⟨s0, s0f, _⟩ := KS.out
            have s0' : V.drew.cell? ⟨g, 2, none⟩ = some (.int .i64 (n : Int)) := s0
            have s0f' : V.drew.frozen? ⟨g, 2, none⟩ = false := s0f
            refine WG.last (i := 8) rfl (by kernel_rfl) (by kernel_rfl) (fun K hK => ?_)
            go_simp
            refine hK.out _ _ ?_
            clear hK K
            (try simp only [Act.put, List.setIfInBounds_toArray, List.set_cons_zero, List.set_cons_succ])
            refine WG.done (by kernel_rfl) ?_
            go_wp2
            go_roundw
            case rel =>
              have hs := (OI.set (HOV.out.ext EI.ok (Below.drew (Below.refl _ _))) (j := 2) (by show 2 < 3; omega) ((n : Int) + (ts.length : Int))).1
              refine ⟨k + 1, a, b, n + ts.length, by omega, by go_num, hid ⟨?_, ?_, ?_⟩, hid ⟨by rw [Int.natCast_add]; exact hs, Below.setCell (Below.drew HEV.out) (by show W.heap.size ≤ g; omega) _⟩, by omega, by omega, by omega⟩
              · rw [openTo_succ e.out, H.out.1]; rfl
              · rw [busyTo_succ e.out, H.out.2.1]; exact (if_neg h4).symm
              · rw [flatTo_succ e.out, H.out.2.2]
            case measure => simp [intOf]; omega
          · have hgu : g < wr.heap.size := (HO.out.lt g rfl).2
            have wa : IntKind.i64.wrap ((a : Int) + 1) = (a : Int) + 1 := IntWalk.i64_in _ (by omega)
            have wn : IntKind.i64.wrap ((n : Int) + (ts.length : Int)) = (n : Int) + (ts.length : Int) := IntWalk.i64_in _ (by omega)
            have hU1 := HO.out
            have hE1 := HE.out
            have hO1 := hU1.ext EI.ok (Ext.alloc wr (.cells #[.bool true, .slice An ts.length cn] 44))
            have hub1 := obj_cell (heap_alloc_new wr (.cells #[.bool true, .slice An ts.length cn] 44)) (i := 0) rfl
            have hut1 := obj_cell (heap_alloc_new wr (.cells #[.bool true, .slice An ts.length cn] 44)) (i := 1) rfl
            obtain ⟨q1, q1f, _⟩ := OI.at_ hO1 (j := 0) rfl
            have hU2 : OI (wr.setCell ⟨g, 0, none⟩ (.int .i64 ((a : Int) + 1))) w.heap.size (.slice (some ⟨g, 0, none⟩) 3 3) [(a : Int) + 1, (b : Int), (n : Int)] := (OI.set hU1 (j := 0) (by show 0 < 3; omega) ((a : Int) + 1)).1
            have hE2 : Ext W (wr.setCell ⟨g, 0, none⟩ (.int .i64 ((a : Int) + 1))) := Below.setCell hE1 (by show W.heap.size ≤ g; omega) _
            have hO2 := hU2.ext EI.ok (Ext.alloc (wr.setCell ⟨g, 0, none⟩ (.int .i64 ((a : Int) + 1))) (.cells #[.bool true, .slice An ts.length cn] 44))
            have hub2 := obj_cell (heap_alloc_new (wr.setCell ⟨g, 0, none⟩ (.int .i64 ((a : Int) + 1))) (.cells #[.bool true, .slice An ts.length cn] 44)) (i := 0) rfl
            have hut2 := obj_cell (heap_alloc_new (wr.setCell ⟨g, 0, none⟩ (.int .i64 ((a : Int) + 1))) (.cells #[.bool true, .slice An ts.length cn] 44)) (i := 1) rfl
            rw [show (wr.setCell ⟨g, 0, none⟩ (.int .i64 ((a : Int) + 1))).heap.size = wr.heap.size by simp] at hub2 hut2
            have hHE := hid (hE2.trans (Ext.alloc _ (.cells #[.bool true, .slice An ts.length cn] 44)))
            have HU1 := hid hU1
            have HU2 := hid hU2
            clear hU1 hE1 hU2 hE2
            obtain ⟨V, hV⟩ : ∃ V, V = ((wr.setCell ⟨g, 0, none⟩ (.int .i64 ((a : Int) + 1))).alloc (.cells #[.bool true, .slice An ts.length cn] 44)) := ⟨_, rfl⟩
            have HOV : Hid (OI V w.heap.size (.slice (some ⟨g, 0, none⟩) 3 3) [(a : Int) + 1, (b : Int), (n : Int)]) := hid (by rw [hV]; exact hO2)
            have HEV : Hid (Ext W V) := hid (by rw [hV]; exact hHE.out)
            have hutV : V.cell? ⟨wr.heap.size, 1, none⟩ = some (.slice An ts.length cn) := by rw [hV]; exact hut2
            obtain ⟨s0, s0f, _⟩ := OI.at_ HOV.out (j := 2) rfl
            have KS := hid (And.intro s0 (And.intro s0f hutV))
            clear s0 s0f hutV
            go_wp2
            rw [← hV]
            clear hV
            refine WG.start (fun w' => w'.cell? ⟨g, 2, none⟩ = some (.int .i64 (n : Int)) ∧ w'.frozen? ⟨g, 2, none⟩ = false ∧ w'.cell? ⟨wr.heap.size, 1, none⟩ = some (.slice An ts.length cn)) [8] (by kernel_rfl) (by exact KS.out) (fun hHeld => ?_)
            (refine WG.take (i := 0) (v := ?_) rfl (by kernel_rfl) (by kernel_rfl) (by kernel_rfl) (by kernel_rfl) (fun _ _ _ h => h) (Or.inl ⟨by rfl, ?_⟩) (by assumption) ?_; rotate_left; (intro w hSw; (try dsimp only at hSw); go_split_ands; go_simp; (try with_reducible rfl)); (try simp only [Act.put, List.setIfInBounds_toArray, List.set_cons_zero, List.set_cons_succ]))
            (refine WG.take (i := 1) (v := ?_) rfl (by kernel_rfl) (by kernel_rfl) (by kernel_rfl) (by kernel_rfl) (fun _ _ _ h => h) (Or.inl ⟨by rfl, ?_⟩) (by assumption) ?_; rotate_left; (intro w hSw; (try dsimp only at hSw); go_split_ands; go_simp; (try with_reducible rfl)); (try simp only [Act.put, List.setIfInBounds_toArray, List.set_cons_zero, List.set_cons_succ]))
            (refine WG.take (i := 2) (v := ?_) rfl (by kernel_rfl) (by kernel_rfl) (by kernel_rfl) (by kernel_rfl) (fun _ _ _ h => h) (Or.inl ⟨by rfl, ?_⟩) (by assumption) ?_; rotate_left; (intro w hSw; (try dsimp only at hSw); go_split_ands; go_simp; (try with_reducible rfl)); (try simp only [Act.put, List.setIfInBounds_toArray, List.set_cons_zero, List.set_cons_succ]))
            (refine WG.take (i := 3) (v := ?_) rfl (by kernel_rfl) (by kernel_rfl) (by kernel_rfl) (by kernel_rfl) (fun _ _ _ h => h) (Or.inl ⟨by rfl, ?_⟩) (by assumption) ?_; rotate_left; (intro w hSw; (try dsimp only at hSw); go_split_ands; go_simp; (try with_reducible rfl)); (try simp only [Act.put, List.setIfInBounds_toArray, List.set_cons_zero, List.set_cons_succ]))
            (refine WG.take (i := 4) (v := ?_) rfl (by kernel_rfl) (by kernel_rfl) (by kernel_rfl) (by kernel_rfl) (fun _ _ _ h => h) (Or.inl ⟨by rfl, ?_⟩) (by assumption) ?_; rotate_left; (intro w hSw; (try dsimp only at hSw); go_split_ands; go_simp; (try with_reducible rfl)); (try simp only [Act.put, List.setIfInBounds_toArray, List.set_cons_zero, List.set_cons_succ]))
            (refine WG.take (i := 5) (v := ?_) rfl (by kernel_rfl) (by kernel_rfl) (by kernel_rfl) (by kernel_rfl) (fun _ _ _ h => h) (Or.inl ⟨by rfl, ?_⟩) (by assumption) ?_; rotate_left; (intro w hSw; (try dsimp only at hSw); go_split_ands; go_simp; (try with_reducible rfl)); (try simp only [Act.put, List.setIfInBounds_toArray, List.set_cons_zero, List.set_cons_succ]))
            (refine WG.take (i := 6) (v := ?_) rfl (by kernel_rfl) (by kernel_rfl) (by kernel_rfl) (by kernel_rfl) (fun _ _ _ h => h) (Or.inl ⟨by rfl, ?_⟩) (by assumption) ?_; rotate_left; (intro w hSw; (try dsimp only at hSw); go_split_ands; go_simp; (try with_reducible rfl)); (try simp only [Act.put, List.setIfInBounds_toArray, List.set_cons_zero, List.set_cons_succ]))
            (refine WG.take (i := 7) (v := ?_) rfl (by kernel_rfl) (by kernel_rfl) (by kernel_rfl) (by kernel_rfl) (fun _ _ _ h => h) (Or.inl ⟨by rfl, ?_⟩) (by assumption) ?_; rotate_left; (intro w hSw; (try dsimp only at hSw); go_split_ands; go_simp; (try with_reducible rfl)); (try simp only [Act.put, List.setIfInBounds_toArray, List.set_cons_zero, List.set_cons_succ]))
            obtain ⟨s0, s0f, _⟩ := KS.out
            have s0' : V.drew.cell? ⟨g, 2, none⟩ = some (.int .i64 (n : Int)) := s0
            have s0f' : V.drew.frozen? ⟨g, 2, none⟩ = false := s0f
            refine WG.last (i := 8) rfl (by kernel_rfl) (by kernel_rfl) (fun K hK => ?_)
            go_simp
            refine hK.out _ _ ?_
            clear hK K
            (try simp only [Act.put, List.setIfInBounds_toArray, List.set_cons_zero, List.set_cons_succ])
            refine WG.done (by kernel_rfl) ?_
            go_wp2
            go_roundw
            case rel =>
              have hs := (OI.set (HOV.out.ext EI.ok (Below.drew (Below.refl _ _))) (j := 2) (by show 2 < 3; omega) ((n : Int) + (ts.length : Int))).1
              refine ⟨k + 1, a + 1, b, n + ts.length, by omega, by go_num, hid ⟨?_, ?_, ?_⟩, hid ⟨by rw [Int.natCast_add]; exact hs, Below.setCell (Below.drew HEV.out) (by show W.heap.size ≤ g; omega) _⟩, by omega, by omega, by omega⟩
              · rw [openTo_succ e.out, H.out.1]; rfl
              · rw [busyTo_succ e.out, H.out.2.1]; exact (if_neg h4).symm
              · rw [flatTo_succ e.out, H.out.2.2]
            case measure => simp [intOf]; omega
      · go_wp2
        go_ret
        have hk' : k = C.units.length := by omega
        subst hk'
        refine ⟨_, rfl, ?_, HEW.out.trans HE.out⟩
        unfold countsC
        rw [if_pos HOK.out]
        have h1 : openN C = a := H.out.1.symm
        have h2 : busyN C = b := H.out.2.1.symm
        have h3 : manyN C = n := by rw [H.out.2.2]; unfold manyN flatTo; rw [List.take_length]
        rw [h1, h2, h3]
        exact HO.out
  · have hv : clusOk C = false := by simpa using hv
    go_enter Try.func12, Try.ntmps12
    go_wp2_with (go_at_call 32; rw [← hW]; refine (iClusterValid _ C _ HC.out hl hfl hid').mono ?_; rintro e w1 ⟨rfl, hE1⟩; rw [hv]; have HE1 := hid hE1; clear hE1 hW)
    go_ret
    refine ⟨_, rfl, ?_, HEW.out.trans HE1.out⟩
    unfold countsC
    rw [hv]
    exact Own.none_ _ _ _ _ _

end Go.Proofs.Ytcfpilkhjpegcaa
