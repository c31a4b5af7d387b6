/- The laws' tests for the same ints, tasks, cluster, where they are the same. -/
import Derived.Test.YtfgibhdglbjadaaGreatK9
namespace Go.Proofs.YtfgibhdglbjadaaGreat
open Go.RowKit
set_option maxRecDepth 4000
set_option maxRecDepth 4000

theorem lSameInts (v u : Value) (xs : List Int) (w : World) (h : RI w v xs) (h' : RI w u xs) :
    Calls Tryz.prog 47 #[v, u] w (RetB w true) := by
  obtain ⟨A, c, rfl, hc, hc', hr⟩ := h.get
  obtain ⟨A', c', rfl, _, _, hr'⟩ := h'.get
  clear h h'
  go_enter Tryz.func47, Tryz.ntmps47
  go_wp2
  go_loopw [5] (fun i wr => ∃ k : Nat, k ≤ xs.length ∧ i = .int .i64 k ∧ ∃ n, wr = w.drewN n) (fun i _ => xs.length - (intOf i).toNat)
  case atStart => exact ⟨0, Nat.zero_le _, rfl, 0, rfl⟩
  case round =>
    obtain ⟨k, hk, rfl, n, rfl⟩ := hrel
    by_cases hlt : k < xs.length
    · obtain ⟨b1, o1, x1, rfl, e1, c1⟩ := hr k hlt
      obtain ⟨b2, o2, x2, rfl, e2, c2⟩ := hr' k hlt
      have hx : x2 = x1 := by have a := e1.out; rw [e2.out] at a; injection a
      subst hx
      have i1 : (k : Int) < (xs.length : Int) := by omega
      go_wp2
      go_quiet (fail)
      go_wp2
      go_roundw
      case rel => exact ⟨k + 1, by omega, by go_num, _, rfl⟩
      case measure => simp [intOf]; omega
    · go_wp2
      go_ret
      exact ⟨rfl, Ext.drewN _ _⟩

set_option maxHeartbeats 2000000 in
theorem lSameTasks (v u : Value) (xs : List TaskD) (w : World) (h : RT w v xs) (h' : RT w u xs) :
    Calls Tryz.prog 79 #[v, u] w (RetB w true) := by
  obtain ⟨A, c, rfl, hc, hc', hr⟩ := h.get
  obtain ⟨A', c', rfl, _, _, hr'⟩ := h'.get
  clear h h'
  go_enter Tryz.func79, Tryz.ntmps79
  go_wp2
  go_loopw [5] (fun i wr => ∃ k : Nat, k ≤ xs.length ∧ i = .int .i64 k ∧ Ext w wr) (fun i _ => xs.length - (intOf i).toNat)
  case atStart => exact ⟨0, Nat.zero_le _, rfl, Ext.refl _⟩
  case round =>
    obtain ⟨k, hk, rfl, hE⟩ := hrel
    by_cases hlt : k < xs.length
    · obtain ⟨b1, o1, x1, An, cn, rfl, e1, c1, c2, hn⟩ := hr k hlt
      obtain ⟨b2, o2, x2, Am, cm, rfl, e2, d1, d2, hm⟩ := hr' k hlt
      have hx : x2 = x1 := by have a := e1.out; rw [e2.out] at a; injection a
      subst hx
      have i1 : (k : Int) < (xs.length : Int) := by omega
      have i0 : (0 : Int) ≤ (k : Int) := by omega
      have KH : Hid (∀ w', Ext wr w' → w'.cell? ⟨b1, o1 + k * 2, none⟩ = some (.int .i64 x2.id) ∧ w'.cell? ⟨b1, o1 + k * 2 + 1, none⟩ = some (.slice An x2.need.length cn) ∧ w'.cell? ⟨b2, o2 + k * 2, none⟩ = some (.int .i64 x2.id) ∧ w'.cell? ⟨b2, o2 + k * 2 + 1, none⟩ = some (.slice Am x2.need.length cm) ∧ Ext wr w') :=
        hid fun w' hw => ⟨hw.cell (hE.cell c1), hw.cell (hE.cell c2), hw.cell (hE.cell d1), hw.cell (hE.cell d2), hw⟩
      have H1 := hid (RI.ext hn hE)
      have H2 := hid (RI.ext hm hE)
      clear c1 c2 d1 d2 hn hm
      go_wp2
      go_region_held3 (fun w' => w'.cell? ⟨b1, o1 + k * 2, none⟩ = some (.int .i64 x2.id) ∧ w'.cell? ⟨b1, o1 + k * 2 + 1, none⟩ = some (.slice An x2.need.length cn) ∧ w'.cell? ⟨b2, o2 + k * 2, none⟩ = some (.int .i64 x2.id) ∧ w'.cell? ⟨b2, o2 + k * 2 + 1, none⟩ = some (.slice Am x2.need.length cm) ∧ Ext wr w')
        (first | exact KH.out _ (by assumption) | exact KH.out _ (Below.drew (Below.refl _ _)))
        ((go_at_call 47; refine (lSameInts _ _ x2.need _ (RI.ext H1.out (Below.drew (Below.refl _ _))) (RI.ext H2.out (Below.drew (Below.refl _ _)))).mono ?_; rintro e w1 ⟨rfl, hE1⟩; have h01 : Ext wr w1 := Ext.trans (Below.drew (Below.refl _ _)) hE1))
      go_wp2
      go_roundw
      case rel => exact ⟨k + 1, by omega, by go_num, hE.trans h01⟩
      case measure => simp [intOf]; omega
    · go_wp2
      go_ret
      exact ⟨rfl, hE⟩

set_option maxHeartbeats 4000000 in
theorem lSameCluster (v u : Value) (C : ClusD) (w : World) (h : ClusV w v C) (h' : ClusV w u C) :
    Calls Tryz.prog 35 #[v, u] w (RetB w true) := by
  obtain ⟨rv, uv, rfl, hr, hu⟩ := h
  obtain ⟨rv', uv', rfl, hr', hu'⟩ := h'
  have kr := hr
  have kr' := hr'
  obtain ⟨Ar, cr, rfl, _⟩ := hr
  obtain ⟨Ar', cr', rfl, _⟩ := hr'
  obtain ⟨A, c, rfl, hc, hc', hg⟩ := RU.get hu
  obtain ⟨A', c', rfl, _, _, hg'⟩ := RU.get hu'
  clear hu hu'
  obtain ⟨W, hW⟩ : ∃ W, W = (w.alloc (.cells #[.slice Ar C.room.length cr, .slice A C.units.length c] 26)).alloc (.cells #[.slice Ar' C.room.length cr', .slice A' C.units.length c'] 26) := ⟨_, rfl⟩
  have hEW : Ext w W := by rw [hW]; exact (Ext.alloc _ _).trans (Ext.alloc _ _)
  have g0 : W.heap[w.heap.size]? = some (.cells #[.slice Ar C.room.length cr, .slice A C.units.length c] 26 (0, 0)) := by rw [hW]; exact (Ext.alloc _ _).obj (heap_alloc_new w _)
  have g1 : W.heap[w.heap.size + 1]? = some (.cells #[.slice Ar' C.room.length cr', .slice A' C.units.length c'] 26 (0, 0)) := by rw [hW]; exact heap_new (by simp)
  have KB : Hid (∀ w', Ext W w' → w'.cell? ⟨w.heap.size, 1, none⟩ = some (.slice A C.units.length c) ∧ w'.cell? ⟨w.heap.size + 1, 1, none⟩ = some (.slice A' C.units.length c')) := hid fun w' hw => ⟨obj_cell (hw.obj g0) (i := 1) rfl, obj_cell (hw.obj g1) (i := 1) rfl⟩
  have a0 := obj_cell g0 (i := 0) rfl
  have a1 := obj_cell g1 (i := 0) rfl
  have HR := hid (RI.ext kr hEW)
  have HR' := hid (RI.ext kr' hEW)
  have HEW := hid hEW
  rw [hW] at a0 a1
  clear kr kr' g0 g1 hEW
  go_enter Tryz.func35, Tryz.ntmps35
  go_wp2_with (go_at_call 47; rw [← hW]; refine (lSameInts _ _ C.room _ HR.out HR'.out).mono ?_; rintro e w1 ⟨rfl, hE1⟩; obtain ⟨qb0, qb1⟩ := KB.out _ hE1; have HE1 := hid hE1; clear hE1 hW)
  go_loopw [5] (fun i wr => ∃ k : Nat, k ≤ C.units.length ∧ i = .int .i64 k ∧ Hid (Ext W wr)) (fun i _ => C.units.length - (intOf i).toNat)
  case atStart => exact ⟨0, Nat.zero_le _, rfl, HE1⟩
  case round =>
    obtain ⟨k, hk, rfl, hE⟩ := hrel
    obtain ⟨q0, q1⟩ := KB.out _ hE.out
    by_cases hlt : k < C.units.length
    · obtain ⟨b1, o1, x1, An, cn, rfl, e1, c1, c2, hn⟩ := hg k hlt
      obtain ⟨b2, o2, x2, Am, cm, rfl, e2, d1, d2, hm⟩ := hg' k hlt
      have hx : x2 = x1 := by have a := e1.out; rw [e2.out] at a; injection a
      subst hx
      have i1 : (k : Int) < (C.units.length : Int) := by omega
      have i0 : (0 : Int) ≤ (k : Int) := by omega
      have hEE := HEW.out.trans hE.out
      have KH : Hid (∀ w', Ext wr w' → w'.cell? ⟨w.heap.size, 1, none⟩ = some (.slice (some ⟨b1, o1, none⟩) C.units.length c) ∧ w'.cell? ⟨w.heap.size + 1, 1, none⟩ = some (.slice (some ⟨b2, o2, none⟩) C.units.length c') ∧ w'.cell? ⟨b1, o1 + k * 2, none⟩ = some (.bool x2.opened) ∧ w'.cell? ⟨b1, o1 + k * 2 + 1, none⟩ = some (.slice An x2.tasks.length cn) ∧ w'.cell? ⟨b2, o2 + k * 2, none⟩ = some (.bool x2.opened) ∧ w'.cell? ⟨b2, o2 + k * 2 + 1, none⟩ = some (.slice Am x2.tasks.length cm) ∧ Ext wr w') :=
        hid fun w' hw => ⟨hw.cell q0, hw.cell q1, hw.cell (hEE.cell c1), hw.cell (hEE.cell c2), hw.cell (hEE.cell d1), hw.cell (hEE.cell d2), hw⟩
      have H1 := hid (RT.ext hn hEE)
      have H2 := hid (RT.ext hm hEE)
      clear c1 c2 d1 d2 hn hm
      go_wp2
      go_region_held3 (fun w' => w'.cell? ⟨w.heap.size, 1, none⟩ = some (.slice (some ⟨b1, o1, none⟩) C.units.length c) ∧ w'.cell? ⟨w.heap.size + 1, 1, none⟩ = some (.slice (some ⟨b2, o2, none⟩) C.units.length c') ∧ w'.cell? ⟨b1, o1 + k * 2, none⟩ = some (.bool x2.opened) ∧ w'.cell? ⟨b1, o1 + k * 2 + 1, none⟩ = some (.slice An x2.tasks.length cn) ∧ w'.cell? ⟨b2, o2 + k * 2, none⟩ = some (.bool x2.opened) ∧ w'.cell? ⟨b2, o2 + k * 2 + 1, none⟩ = some (.slice Am x2.tasks.length cm) ∧ Ext wr w')
        (first | exact KH.out _ (by assumption) | exact KH.out _ (Below.drew (Below.refl _ _)))
        ((go_at_call 79; refine (lSameTasks _ _ x2.tasks _ (RT.ext H1.out (Below.drew (Below.refl _ _))) (RT.ext H2.out (Below.drew (Below.refl _ _)))).mono ?_; rintro e w1 ⟨rfl, hE1⟩; have h01 : Ext wr w1 := Ext.trans (Below.drew (Below.refl _ _)) hE1))
      go_wp2
      go_roundw
      case rel => exact ⟨k + 1, by omega, by go_num, hid (hE.out.trans h01)⟩
      case measure => simp [intOf]; omega
    · go_wp2
      go_ret
      exact ⟨rfl, HEW.out.trans hE.out⟩

end Go.Proofs.YtfgibhdglbjadaaGreat
