/- The laws' tests for equal values, where they are equal. -/
import Derived.Test.YtfgibhdglbjadaaLa4
namespace Go.Proofs.Ytfgibhdglbjadaa
open Go.RowKit
set_option maxRecDepth 4000

theorem lEqInts (v u : Value) (xs : List Int) (w : World) (h : RI w v xs) (h' : RI w u xs) :
    Calls Try.prog 25 #[v, u] w (RetB w true) := by
  obtain ⟨A, c, rfl, hc, hc', hr⟩ := h.get
  obtain ⟨A', c', rfl, _, _, hr'⟩ := h'.get
  clear h h'
  go_enter Try.func25, Try.ntmps25
  go_wp2
  go_loopw [5] (fun i wr => ∃ k : Nat, k ≤ xs.length ∧ i = .int .i64 k ∧ ∃ n, wr = w.drewN n) (fun i _ => xs.length - (intOf i).toNat)
  case atStart => exact ⟨0, Nat.zero_le _, rfl, 0, rfl⟩
  case round =>
    obtain ⟨k, hk, rfl, n, rfl⟩ := hrel
    by_cases hlt : k < xs.length
    · obtain ⟨b1, o1, x1, rfl, e1, c1⟩ := hr k hlt
      obtain ⟨b2, o2, x2, rfl, e2, c2⟩ := hr' k hlt
      have hx : x2 = x1 := by have a := e1.out; rw [e2.out] at a; injection a
      subst hx
      have i1 : (k : Int) < (xs.length : Int) := by omega
      go_wp2
      go_quiet (fail)
      go_wp2
      go_roundw
      case rel => exact ⟨k + 1, by omega, by go_num, _, rfl⟩
      case measure => simp [intOf]; omega
    · go_wp2
      go_ret
      exact ⟨rfl, Ext.drewN _ _⟩

set_option maxHeartbeats 1000000 in
theorem lEqTask (x : TaskD) (v u : Value) (w : World) (h : RI w v x.need) (h' : RI w u x.need) :
    Calls Try.prog 156 #[.agg #[.int .i64 x.id, v], .agg #[.int .i64 x.id, u]] w (RetB w true) := by
  have k := h
  have k' := h'
  obtain ⟨A, c, rfl, _⟩ := h
  obtain ⟨A', c', rfl, _⟩ := h'
  have hX := (Ext.alloc w (.cells #[.int .i64 x.id, .slice A x.need.length c] 64)).trans (Ext.alloc _ (.cells #[.int .i64 x.id, .slice A' x.need.length c'] 64))
  have p0 := (Ext.alloc (w.alloc (.cells #[.int .i64 x.id, .slice A x.need.length c] 64)) (.cells #[.int .i64 x.id, .slice A' x.need.length c'] 64)).obj (heap_alloc_new w _)
  have p1 : ((w.alloc (.cells #[.int .i64 x.id, .slice A x.need.length c] 64)).alloc (.cells #[.int .i64 x.id, .slice A' x.need.length c'] 64)).heap[w.heap.size + 1]? = some (.cells #[.int .i64 x.id, .slice A' x.need.length c'] 64 (0, 0)) := heap_new (by simp)
  have a0 := obj_cell p0 (i := 0) rfl
  have a1 := obj_cell p0 (i := 1) rfl
  have a2 := obj_cell p1 (i := 0) rfl
  have a3 := obj_cell p1 (i := 1) rfl
  have HX := hid hX
  have H1 := hid (k.ext hX)
  have H2 := hid (k'.ext hX)
  clear k k' hX p0 p1
  go_enter Try.func156, Try.ntmps156
  go_wp2_with (go_at_call 25; refine (lEqInts _ _ x.need _ H1.out H2.out).mono ?_; rintro e w1 ⟨rfl, hE1⟩)
  go_ret
  exact ⟨rfl, HX.out.trans hE1⟩

set_option maxHeartbeats 1000000 in
theorem lEqTasks (v u : Value) (xs : List TaskD) (w : World) (h : RT w v xs) (h' : RT w u xs) :
    Calls Try.prog 143 #[v, u] w (RetB w true) := by
  obtain ⟨A, c, rfl, hc, hc', hr⟩ := h.get
  obtain ⟨A', c', rfl, _, _, hr'⟩ := h'.get
  clear h h'
  go_enter Try.func143, Try.ntmps143
  go_wp2
  go_loopw [5] (fun i wr => ∃ k : Nat, k ≤ xs.length ∧ i = .int .i64 k ∧ Ext w wr) (fun i _ => xs.length - (intOf i).toNat)
  case atStart => exact ⟨0, Nat.zero_le _, rfl, Ext.refl _⟩
  case round =>
    obtain ⟨k, hk, rfl, hE⟩ := hrel
    by_cases hlt : k < xs.length
    · obtain ⟨b1, o1, x1, An, cn, rfl, e1, c1, c2, hn⟩ := hr k hlt
      obtain ⟨b2, o2, x2, Am, cm, rfl, e2, d1, d2, hm⟩ := hr' k hlt
      have hx : x2 = x1 := by have a := e1.out; rw [e2.out] at a; injection a
      subst hx
      have i1 : (k : Int) < (xs.length : Int) := by omega
      have i0 : (0 : Int) ≤ (k : Int) := by omega
      have KH : Hid (∀ w', Ext wr w' → w'.cell? ⟨b1, o1 + k * 2, none⟩ = some (.int .i64 x2.id) ∧ w'.cell? ⟨b1, o1 + k * 2 + 1, none⟩ = some (.slice An x2.need.length cn) ∧ w'.cell? ⟨b2, o2 + k * 2, none⟩ = some (.int .i64 x2.id) ∧ w'.cell? ⟨b2, o2 + k * 2 + 1, none⟩ = some (.slice Am x2.need.length cm) ∧ Ext wr w') :=
        hid fun w' hw => ⟨hw.cell (hE.cell c1), hw.cell (hE.cell c2), hw.cell (hE.cell d1), hw.cell (hE.cell d2), hw⟩
      have H1 := hid (RI.ext hn hE)
      have H2 := hid (RI.ext hm hE)
      clear c1 c2 d1 d2 hn hm
      go_wp2
      go_region_held3 (fun w' => w'.cell? ⟨b1, o1 + k * 2, none⟩ = some (.int .i64 x2.id) ∧ w'.cell? ⟨b1, o1 + k * 2 + 1, none⟩ = some (.slice An x2.need.length cn) ∧ w'.cell? ⟨b2, o2 + k * 2, none⟩ = some (.int .i64 x2.id) ∧ w'.cell? ⟨b2, o2 + k * 2 + 1, none⟩ = some (.slice Am x2.need.length cm) ∧ Ext wr w')
        (first | exact KH.out _ (by assumption) | exact KH.out _ (Below.drew (Below.refl _ _)))
        ((go_at_call 156; refine (lEqTask x2 _ _ _ (RI.ext H1.out (Below.drew (Below.refl _ _))) (RI.ext H2.out (Below.drew (Below.refl _ _)))).mono ?_; rintro e w1 ⟨rfl, hE1⟩; have h01 : Ext wr w1 := Ext.trans (Below.drew (Below.refl _ _)) hE1))
      go_wp2
      go_roundw
      case rel => exact ⟨k + 1, by omega, by go_num, hE.trans h01⟩
      case measure => simp [intOf]; omega
    · go_wp2
      go_ret
      exact ⟨rfl, hE⟩

set_option maxHeartbeats 1000000 in
theorem lEqUnit (x : UnitD) (v u : Value) (w : World) (h : RT w v x.tasks) (h' : RT w u x.tasks) :
    Calls Try.prog 111 #[.agg #[.bool x.opened, v], .agg #[.bool x.opened, u]] w (RetB w true) := by
  have k := h
  have k' := h'
  obtain ⟨A, c, rfl, _⟩ := h
  obtain ⟨A', c', rfl, _⟩ := h'
  have hX := (Ext.alloc w (.cells #[.bool x.opened, .slice A x.tasks.length c] 56)).trans (Ext.alloc _ (.cells #[.bool x.opened, .slice A' x.tasks.length c'] 56))
  have p0 := (Ext.alloc (w.alloc (.cells #[.bool x.opened, .slice A x.tasks.length c] 56)) (.cells #[.bool x.opened, .slice A' x.tasks.length c'] 56)).obj (heap_alloc_new w _)
  have p1 : ((w.alloc (.cells #[.bool x.opened, .slice A x.tasks.length c] 56)).alloc (.cells #[.bool x.opened, .slice A' x.tasks.length c'] 56)).heap[w.heap.size + 1]? = some (.cells #[.bool x.opened, .slice A' x.tasks.length c'] 56 (0, 0)) := heap_new (by simp)
  have a0 := obj_cell p0 (i := 0) rfl
  have a1 := obj_cell p0 (i := 1) rfl
  have a2 := obj_cell p1 (i := 0) rfl
  have a3 := obj_cell p1 (i := 1) rfl
  have HX := hid hX
  have H1 := hid (k.ext hX)
  have H2 := hid (k'.ext hX)
  clear k k' hX p0 p1
  go_enter Try.func111, Try.ntmps111
  go_wp2_with (go_at_call 143; refine (lEqTasks _ _ x.tasks _ H1.out H2.out).mono ?_; rintro e w1 ⟨rfl, hE1⟩)
  go_ret
  exact ⟨rfl, HX.out.trans hE1⟩

set_option maxHeartbeats 1000000 in
theorem lEqUnits (v u : Value) (xs : List UnitD) (w : World) (h : RU w v xs) (h' : RU w u xs) :
    Calls Try.prog 67 #[v, u] w (RetB w true) := by
  obtain ⟨A, c, rfl, hc, hc', hr⟩ := h.get
  obtain ⟨A', c', rfl, _, _, hr'⟩ := h'.get
  clear h h'
  go_enter Try.func67, Try.ntmps67
  go_wp2
  go_loopw [5] (fun i wr => ∃ k : Nat, k ≤ xs.length ∧ i = .int .i64 k ∧ Ext w wr) (fun i _ => xs.length - (intOf i).toNat)
  case atStart => exact ⟨0, Nat.zero_le _, rfl, Ext.refl _⟩
  case round =>
    obtain ⟨k, hk, rfl, hE⟩ := hrel
    by_cases hlt : k < xs.length
    · obtain ⟨b1, o1, x1, An, cn, rfl, e1, c1, c2, hn⟩ := hr k hlt
      obtain ⟨b2, o2, x2, Am, cm, rfl, e2, d1, d2, hm⟩ := hr' k hlt
      have hx : x2 = x1 := by have a := e1.out; rw [e2.out] at a; injection a
      subst hx
      have i1 : (k : Int) < (xs.length : Int) := by omega
      have i0 : (0 : Int) ≤ (k : Int) := by omega
      have KH : Hid (∀ w', Ext wr w' → w'.cell? ⟨b1, o1 + k * 2, none⟩ = some (.bool x2.opened) ∧ w'.cell? ⟨b1, o1 + k * 2 + 1, none⟩ = some (.slice An x2.tasks.length cn) ∧ w'.cell? ⟨b2, o2 + k * 2, none⟩ = some (.bool x2.opened) ∧ w'.cell? ⟨b2, o2 + k * 2 + 1, none⟩ = some (.slice Am x2.tasks.length cm) ∧ Ext wr w') :=
        hid fun w' hw => ⟨hw.cell (hE.cell c1), hw.cell (hE.cell c2), hw.cell (hE.cell d1), hw.cell (hE.cell d2), hw⟩
      have H1 := hid (RT.ext hn hE)
      have H2 := hid (RT.ext hm hE)
      clear c1 c2 d1 d2 hn hm
      go_wp2
      go_region_held3 (fun w' => w'.cell? ⟨b1, o1 + k * 2, none⟩ = some (.bool x2.opened) ∧ w'.cell? ⟨b1, o1 + k * 2 + 1, none⟩ = some (.slice An x2.tasks.length cn) ∧ w'.cell? ⟨b2, o2 + k * 2, none⟩ = some (.bool x2.opened) ∧ w'.cell? ⟨b2, o2 + k * 2 + 1, none⟩ = some (.slice Am x2.tasks.length cm) ∧ Ext wr w')
        (first | exact KH.out _ (by assumption) | exact KH.out _ (Below.drew (Below.refl _ _)))
        ((go_at_call 111; refine (lEqUnit x2 _ _ _ (RT.ext H1.out (Below.drew (Below.refl _ _))) (RT.ext H2.out (Below.drew (Below.refl _ _)))).mono ?_; rintro e w1 ⟨rfl, hE1⟩; have h01 : Ext wr w1 := Ext.trans (Below.drew (Below.refl _ _)) hE1))
      go_wp2
      go_roundw
      case rel => exact ⟨k + 1, by omega, by go_num, hE.trans h01⟩
      case measure => simp [intOf]; omega
    · go_wp2
      go_ret
      exact ⟨rfl, hE⟩

set_option maxHeartbeats 1000000 in
theorem lEqClus (cv cu : Value) (C : ClusD) (w : World) (h : ClusV w cv C) (h' : ClusV w cu C) :
    Calls Try.prog 26 #[cv, cu] w (RetB w true) := by
  obtain ⟨rv, uv, rfl, hr, hu⟩ := h
  obtain ⟨rv', uv', rfl, hr', hu'⟩ := h'
  have k1 := hr
  have k2 := hu
  have k3 := hr'
  have k4 := hu'
  obtain ⟨A1, c1, rfl, _⟩ := hr
  obtain ⟨A2, c2, rfl, _⟩ := hu
  obtain ⟨A3, c3, rfl, _⟩ := hr'
  obtain ⟨A4, c4, rfl, _⟩ := hu'
  have hX := (Ext.alloc w (.cells #[.slice A1 C.room.length c1, .slice A2 C.units.length c2] 26)).trans (Ext.alloc _ (.cells #[.slice A3 C.room.length c3, .slice A4 C.units.length c4] 26))
  have p0 := (Ext.alloc (w.alloc (.cells #[.slice A1 C.room.length c1, .slice A2 C.units.length c2] 26)) (.cells #[.slice A3 C.room.length c3, .slice A4 C.units.length c4] 26)).obj (heap_alloc_new w _)
  have p1 : ((w.alloc (.cells #[.slice A1 C.room.length c1, .slice A2 C.units.length c2] 26)).alloc (.cells #[.slice A3 C.room.length c3, .slice A4 C.units.length c4] 26)).heap[w.heap.size + 1]? = some (.cells #[.slice A3 C.room.length c3, .slice A4 C.units.length c4] 26 (0, 0)) := heap_new (by simp)
  have a0 := obj_cell p0 (i := 0) rfl
  have a1 := obj_cell p0 (i := 1) rfl
  have a2 := obj_cell p1 (i := 0) rfl
  have a3 := obj_cell p1 (i := 1) rfl
  have HX := hid hX
  have H1 := hid (RI.ext k1 hX)
  have H2 := hid (RU.ext k2 hX)
  have H3 := hid (RI.ext k3 hX)
  have H4 := hid (RU.ext k4 hX)
  clear k1 k2 k3 k4 hX p0 p1
  go_enter Try.func26, Try.ntmps26
  go_wp2_with (first
    | (go_at_call 25; refine (lEqInts _ _ C.room _ H1.out H3.out).mono ?_; rintro e w1 ⟨rfl, hE1⟩; have a1 := hE1.cell a1; have a3 := hE1.cell a3; have HE1 := hid hE1; clear hE1)
    | (go_at_call 67; refine (lEqUnits _ _ C.units _ (RU.ext H2.out HE1.out) (RU.ext H4.out HE1.out)).mono ?_; rintro e w2 ⟨rfl, hE2⟩; have HE2 := hid hE2; clear hE2))
  go_ret
  exact ⟨rfl, HX.out.trans (HE1.out.trans HE2.out)⟩

end Go.Proofs.Ytfgibhdglbjadaa
