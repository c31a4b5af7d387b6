/- The reference's place for a task. -/
import Derived.Test.YtfgibhdglbjadaaCl1
import Derived.Test.YtfgibhdglbjadaaBase2
namespace Go.Proofs.Ytfgibhdglbjadaa
open Go.RowKit
set_option maxRecDepth 4000

def canC (C : ClusD) (x : TaskD) (op : Bool) (u : UnitD) : Bool := u.opened == op && l11fits C.room u.tasks x
/-- the first node that is open, or closed, and has room -/
def atC (C : ClusD) (x : TaskD) (op : Bool) : Int := idxI (canC C x op) C.units

set_option maxHeartbeats 2000000 in
theorem sAt21 (cv xv : Value) (C : ClusD) (x : TaskD) (op : Bool) (w : World) (h : ClusV w cv C) (hx : TaskV w xv x) (hC : clusOk C = true) (hn : x.need.length = 3 ∧ Bd 1000 x.need) :
    Calls Try.prog 132 #[cv, xv, .bool op] w (RetN w (atC C x op)) := by
  obtain ⟨rv, uv, rfl, hr, hu⟩ := h
  have hr0 := hr
  obtain ⟨Ar, cr, rfl, _⟩ := hr
  obtain ⟨A, c, rfl, hc, hc', hg⟩ := RU.get hu
  have hx0 := hx
  obtain ⟨nv, rfl, hnv⟩ := hx
  obtain ⟨An, cn, rfl, _⟩ := hnv
  obtain ⟨W, hW⟩ : ∃ W, W = (w.alloc (.cells #[.slice Ar C.room.length cr, .slice A C.units.length c] 26)).alloc (.cells #[.int .i64 x.id, .slice An x.need.length cn] 64) := ⟨_, rfl⟩
  have hEW : Ext w W := by rw [hW]; exact (Ext.alloc _ _).trans (Ext.alloc _ _)
  have g1 : W.heap[w.heap.size]? = some (.cells #[.slice Ar C.room.length cr, .slice A C.units.length c] 26 (0, 0)) := by rw [hW]; exact (Ext.alloc _ _).obj (heap_alloc_new w _)
  have g2 : W.heap[w.heap.size + 1]? = some (.cells #[.int .i64 x.id, .slice An x.need.length cn] 64 (0, 0)) := by rw [hW]; exact heap_new (by simp)
  have KC : Hid (∀ w', Ext W w' → w'.cell? ⟨w.heap.size, 0, none⟩ = some (.slice Ar C.room.length cr) ∧ w'.cell? ⟨w.heap.size, 1, none⟩ = some (.slice A C.units.length c) ∧ w'.cell? ⟨w.heap.size + 1, 0, none⟩ = some (.int .i64 x.id) ∧ w'.cell? ⟨w.heap.size + 1, 1, none⟩ = some (.slice An x.need.length cn)) :=
    hid fun w' hw => ⟨obj_cell (hw.obj g1) (i := 0) rfl, obj_cell (hw.obj g1) (i := 1) rfl, obj_cell (hw.obj g2) (i := 0) rfl, obj_cell (hw.obj g2) (i := 1) rfl⟩
  have HX := hid (hx0.ext hEW)
  have HR := hid (hr0.ext hEW)
  have HEW := hid hEW
  have HC := hid hC
  have HN := hid hn
  clear hr0 hx0 hu g1 g2 hEW hC hn
  go_enter Try.func132, Try.ntmps132
  go_wp2
  rw [← hW]
  clear hW
  go_loopw [7] (fun i wr => ∃ k : Nat, k ≤ C.units.length ∧ i = .int .i64 k ∧ Hid (∀ (j : Nat) y, j < k → C.units[j]? = some y → canC C x op y = false) ∧ Ext W wr) (fun i _ => C.units.length - (intOf i).toNat)
  case atStart => exact ⟨0, Nat.zero_le _, rfl, fun j y hj => absurd hj (by omega), Ext.refl _⟩
  case round =>
    obtain ⟨k, hk, rfl, H, hE⟩ := hrel
    obtain ⟨a0, a1, a2, a3⟩ := KC.out _ hE
    by_cases hlt : k < C.units.length
    · obtain ⟨b, o, u, Au, cu, rfl, e, c1, c2, hu⟩ := hg k hlt
      have i1 : (k : Int) < (C.units.length : Int) := by omega
      have i0 : (0 : Int) ≤ (k : Int) := by omega
      have c1r := (HEW.out.trans hE).cell c1
      have c2r := (HEW.out.trans hE).cell c2
      by_cases h3 : (u.opened == op) = true
      · have HU := hid (RT.ext hu (HEW.out.trans hE))
        have hgu := hid (clusOk_unit HC.out (List.mem_of_getElem? e.out)).1
        have KH : Hid (∀ w', Ext wr w' → w'.cell? ⟨w.heap.size, 0, none⟩ = some (.slice Ar C.room.length cr) ∧ w'.cell? ⟨w.heap.size, 1, none⟩ = some (.slice (some ⟨b, o, none⟩) C.units.length c) ∧ w'.cell? ⟨w.heap.size + 1, 0, none⟩ = some (.int .i64 x.id) ∧ w'.cell? ⟨w.heap.size + 1, 1, none⟩ = some (.slice An x.need.length cn) ∧ w'.cell? ⟨b, o + k * 2, none⟩ = some (.bool u.opened) ∧ w'.cell? ⟨b, o + k * 2 + 1, none⟩ = some (.slice Au u.tasks.length cu) ∧ Ext wr w') :=
          hid fun w' hw => ⟨hw.cell a0, hw.cell a1, hw.cell a2, hw.cell a3, hw.cell c1r, hw.cell c2r, hw⟩
        clear c1 c2 hu
        go_wp2
        go_region_held3 (fun w' => w'.cell? ⟨w.heap.size, 0, none⟩ = some (.slice Ar C.room.length cr) ∧ w'.cell? ⟨w.heap.size, 1, none⟩ = some (.slice (some ⟨b, o, none⟩) C.units.length c) ∧ w'.cell? ⟨w.heap.size + 1, 0, none⟩ = some (.int .i64 x.id) ∧ w'.cell? ⟨w.heap.size + 1, 1, none⟩ = some (.slice An x.need.length cn) ∧ w'.cell? ⟨b, o + k * 2, none⟩ = some (.bool u.opened) ∧ w'.cell? ⟨b, o + k * 2 + 1, none⟩ = some (.slice Au u.tasks.length cu) ∧ Ext wr w')
          (first | exact KH.out _ (by assumption) | exact KH.out _ (Below.drew (Below.refl _ _)))
          ((go_at_call 150; refine (sL11Fits _ _ _ C.room u.tasks x _ (HR.out.ext (hE.trans (Below.drew (Below.refl _ _)))) (RT.ext HU.out (Below.drew (Below.refl _ _))) (HX.out.ext (hE.trans (Below.drew (Below.refl _ _)))) (vecOk_len (roomOk_vec (clusOk_room HC.out))) hgu.out HN.out).mono ?_; rintro e2 w2 ⟨rfl, hE2⟩; have h02 : Ext wr w2 := Ext.trans (Below.drew (Below.refl _ _)) hE2))
        by_cases h4 : l11fits C.room u.tasks x = true
        · have hcan : canC C x op u = true := by unfold canC; rw [h3, h4]; rfl
          rw [h4]
          go_wp2
          go_ret
          exact ⟨ret_i (idxI_hit e.out hcan H.out).symm, HEW.out.trans (hE.trans h02)⟩
        · have h4 : l11fits C.room u.tasks x = false := by simpa using h4
          have hcan : canC C x op u = false := by unfold canC; rw [h4, Bool.and_false]
          rw [h4]
          go_wp2
          go_roundw
          case rel => exact ⟨k + 1, by omega, by go_num, idx_more e.out hcan H.out, hE.trans h02⟩
          case measure => simp [intOf]; omega
      · have h3 : (u.opened == op) = false := by simpa using h3
        have hcan : canC C x op u = false := by unfold canC; rw [h3, Bool.false_and]
        clear c1 c2 hu
        go_wp2
        go_quiet (fail)
        go_wp2
        go_roundw
        case rel => exact ⟨k + 1, by omega, by go_num, idx_more e.out hcan H.out, hE.trans (Ext.drewN _ _)⟩
        case measure => simp [intOf]; omega
    · go_wp2
      go_ret
      have hk' : k = C.units.length := by omega
      subst hk'
      exact ⟨ret_i (idxI_miss fun j y hj => H.out j y (List.getElem?_eq_some_iff.1 hj).1 hj).symm, HEW.out.trans hE⟩

end Go.Proofs.Ytfgibhdglbjadaa
