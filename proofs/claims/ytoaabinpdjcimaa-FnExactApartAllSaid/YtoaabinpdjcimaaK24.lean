/- The library's linked list, as the enemies of a task use it. (Printed by genpc1.py.) -/
import Derived.Test.YtoaabinpdjcimaaK23
import Derived.Test.YtoaabinpdjcimaaK9
import Derived.LaidEql
namespace Go.Proofs.Ytoaabinpdjcimaa
open Go.RowKit
set_option maxRecDepth 4000

abbrev elP (b : Nat) : Value := .pointer (some ⟨b, 0, none⟩)
abbrev elV (e : Int) : Value := .iface 3 (.int .i64 e)
/-- a linked list of numbers: its block B, its elements' blocks gs -/
structure Lst (w : World) (B : Nat) (gs : List Nat) (es : List Int) : Prop where
  len : gs.length = es.length
  gt : ∀ g ∈ gs, B < g
  nd : gs.Nodup
  none_ : gs = [] → w.heap[B]? = some (.cells #[.pointer none, .pointer none, .pointer none, .nilIface, .int .i64 0] 131 (0, 0))
  head : gs ≠ [] → w.heap[B]? = some (.cells #[elP (gs.getD 0 B), elP (gs.getD (gs.length - 1) B), .pointer none, .nilIface, .int .i64 (gs.length : Int)] 131 (0, 0))
  el : ∀ (k : Nat) e, es[k]? = some e → w.heap[gs.getD k B]? = some (.cells #[elP (gs.getD (k + 1) B), elP (if k = 0 then B else gs.getD (k - 1) B), elP B, elV e] 127 (0, 0))
theorem Lst.ext {w w' : World} {B : Nat} {gs : List Nat} {es : List Int} (h : Lst w B gs es) (ha : Ext w w') : Lst w' B gs es :=
  ⟨h.len, h.gt, h.nd, fun hn => ha.obj (h.none_ hn), fun hn => ha.obj (h.head hn), fun k e hk => ha.obj (h.el k e hk)⟩

theorem cInit (B : Nat) (w : World) (hB : w.heap[B]? = some (.cells #[.pointer none, .pointer none, .pointer none, .nilIface, .int .i64 0] 131 (0, 0))) :
    Calls Try.prog 126 #[elP B] w fun e w' => e = .returned (elP B) ∧ w'.heap[B]? = some (.cells #[.pointer (some ⟨B, 0, none⟩), .pointer (some ⟨B, 0, none⟩), .pointer none, .nilIface, .int .i64 0] 131 (0, 0)) ∧ w' = (((w.setCell ⟨B, 0, none⟩ (.pointer (some ⟨B, 0, none⟩))).setCell ⟨B, 1, none⟩ (.pointer (some ⟨B, 0, none⟩))).setCell ⟨B, 4, none⟩ (.int .i64 0)) := by
  have c1 := obj_cell hB (i := 0) rfl
  have f1 := obj_frozen hB 0
  have h1B : (w.setCell ⟨B, 0, none⟩ (.pointer (some ⟨B, 0, none⟩))).heap[B]? = some (.cells #[.pointer (some ⟨B, 0, none⟩), .pointer none, .pointer none, .nilIface, .int .i64 0] 131 (0, 0)) := by simpa using obj_set hB 0 (.pointer (some ⟨B, 0, none⟩))
  have c2 := obj_cell h1B (i := 1) rfl
  have f2 := obj_frozen h1B 1
  have h2B : ((w.setCell ⟨B, 0, none⟩ (.pointer (some ⟨B, 0, none⟩))).setCell ⟨B, 1, none⟩ (.pointer (some ⟨B, 0, none⟩))).heap[B]? = some (.cells #[.pointer (some ⟨B, 0, none⟩), .pointer (some ⟨B, 0, none⟩), .pointer none, .nilIface, .int .i64 0] 131 (0, 0)) := by simpa using obj_set h1B 1 (.pointer (some ⟨B, 0, none⟩))
  have c3 := obj_cell h2B (i := 4) rfl
  have f3 := obj_frozen h2B 4
  have h3B : (((w.setCell ⟨B, 0, none⟩ (.pointer (some ⟨B, 0, none⟩))).setCell ⟨B, 1, none⟩ (.pointer (some ⟨B, 0, none⟩))).setCell ⟨B, 4, none⟩ (.int .i64 0)).heap[B]? = some (.cells #[.pointer (some ⟨B, 0, none⟩), .pointer (some ⟨B, 0, none⟩), .pointer none, .nilIface, .int .i64 0] 131 (0, 0)) := by simpa using obj_set h2B 4 (.int .i64 0)
  go_enter Try.func126, Try.ntmps126
  go_wp2
  go_ret
  exact ⟨rfl, h3B, rfl⟩

theorem cLazyNew (B : Nat) (w : World) (hB : w.heap[B]? = some (.cells #[.pointer none, .pointer none, .pointer none, .nilIface, .int .i64 0] 131 (0, 0))) :
    Calls Try.prog 122 #[elP B] w fun e w' => (∃ v, e = .returned v) ∧ w'.heap[B]? = some (.cells #[.pointer (some ⟨B, 0, none⟩), .pointer (some ⟨B, 0, none⟩), .pointer none, .nilIface, .int .i64 0] 131 (0, 0)) ∧ w' = (((w.setCell ⟨B, 0, none⟩ (.pointer (some ⟨B, 0, none⟩))).setCell ⟨B, 1, none⟩ (.pointer (some ⟨B, 0, none⟩))).setCell ⟨B, 4, none⟩ (.int .i64 0)) := by
  have c0 := obj_cell hB (i := 0) rfl
  go_enter Try.func122, Try.ntmps122
  go_wp2_with (go_at_call 126; refine (cInit B _ hB).mono ?_; rintro e w1 ⟨rfl, h1, h2⟩; have H1 := hid h1; have H2 := hid h2; clear h1 h2)
  go_end0
  exact ⟨⟨_, rfl⟩, H1.out, H2.out⟩

theorem cLazyOld (B a : Nat) (w : World) (hB : w.cell? ⟨B, 0, none⟩ = some (elP a)) :
    Calls Try.prog 122 #[elP B] w fun e w' => (∃ v, e = .returned v) ∧ w' = w := by
  go_enter Try.func122, Try.ntmps122
  go_wp2
  go_end0
  exact ⟨⟨_, rfl⟩, rfl⟩

set_option maxHeartbeats 1000000 in
theorem cInsNew (B H : Nat) (v : Value) (w : World) (hBH : B ≠ H) (hB : w.heap[B]? = some (.cells #[.pointer (some ⟨B, 0, none⟩), .pointer (some ⟨B, 0, none⟩), .pointer none, .nilIface, .int .i64 0] 131 (0, 0))) (hH : w.heap[H]? = some (.cells #[.pointer none, .pointer none, .pointer none, v] 127 (0, 0))) :
    Calls Try.prog 127 #[elP B, elP H, elP B] w fun e w' => e = .returned (elP H) ∧ w'.heap[B]? = some (.cells #[.pointer (some ⟨H, 0, none⟩), .pointer (some ⟨H, 0, none⟩), .pointer none, .nilIface, .int .i64 1] 131 (0, 0)) ∧ w'.heap[H]? = some (.cells #[.pointer (some ⟨B, 0, none⟩), .pointer (some ⟨B, 0, none⟩), .pointer (some ⟨B, 0, none⟩), v] 127 (0, 0)) ∧ w' = ((((((w.setCell ⟨H, 1, none⟩ (.pointer (some ⟨B, 0, none⟩))).setCell ⟨H, 0, none⟩ (.pointer (some ⟨B, 0, none⟩))).setCell ⟨B, 0, none⟩ (.pointer (some ⟨H, 0, none⟩))).setCell ⟨B, 1, none⟩ (.pointer (some ⟨H, 0, none⟩))).setCell ⟨H, 2, none⟩ (.pointer (some ⟨B, 0, none⟩))).setCell ⟨B, 4, none⟩ (.int .i64 1)) := by
  have c1 := obj_cell hH (i := 1) rfl
  have f1 := obj_frozen hH 1
  have h1B : (w.setCell ⟨H, 1, none⟩ (.pointer (some ⟨B, 0, none⟩))).heap[B]? = some (.cells #[.pointer (some ⟨B, 0, none⟩), .pointer (some ⟨B, 0, none⟩), .pointer none, .nilIface, .int .i64 0] 131 (0, 0)) := obj_far (p := ⟨H, 1, none⟩) hB (hBH) (.pointer (some ⟨B, 0, none⟩))
  have h1H : (w.setCell ⟨H, 1, none⟩ (.pointer (some ⟨B, 0, none⟩))).heap[H]? = some (.cells #[.pointer none, .pointer (some ⟨B, 0, none⟩), .pointer none, v] 127 (0, 0)) := by simpa using obj_set hH 1 (.pointer (some ⟨B, 0, none⟩))
  have c2 := obj_cell h1B (i := 0) rfl
  have c3 := obj_cell h1H (i := 0) rfl
  have f3 := obj_frozen h1H 0
  have h3B : ((w.setCell ⟨H, 1, none⟩ (.pointer (some ⟨B, 0, none⟩))).setCell ⟨H, 0, none⟩ (.pointer (some ⟨B, 0, none⟩))).heap[B]? = some (.cells #[.pointer (some ⟨B, 0, none⟩), .pointer (some ⟨B, 0, none⟩), .pointer none, .nilIface, .int .i64 0] 131 (0, 0)) := obj_far (p := ⟨H, 0, none⟩) h1B (hBH) (.pointer (some ⟨B, 0, none⟩))
  have h3H : ((w.setCell ⟨H, 1, none⟩ (.pointer (some ⟨B, 0, none⟩))).setCell ⟨H, 0, none⟩ (.pointer (some ⟨B, 0, none⟩))).heap[H]? = some (.cells #[.pointer (some ⟨B, 0, none⟩), .pointer (some ⟨B, 0, none⟩), .pointer none, v] 127 (0, 0)) := by simpa using obj_set h1H 0 (.pointer (some ⟨B, 0, none⟩))
  have c4 := obj_cell h3H (i := 1) rfl
  have c5 := obj_cell h3B (i := 0) rfl
  have f5 := obj_frozen h3B 0
  have h5B : (((w.setCell ⟨H, 1, none⟩ (.pointer (some ⟨B, 0, none⟩))).setCell ⟨H, 0, none⟩ (.pointer (some ⟨B, 0, none⟩))).setCell ⟨B, 0, none⟩ (.pointer (some ⟨H, 0, none⟩))).heap[B]? = some (.cells #[.pointer (some ⟨H, 0, none⟩), .pointer (some ⟨B, 0, none⟩), .pointer none, .nilIface, .int .i64 0] 131 (0, 0)) := by simpa using obj_set h3B 0 (.pointer (some ⟨H, 0, none⟩))
  have h5H : (((w.setCell ⟨H, 1, none⟩ (.pointer (some ⟨B, 0, none⟩))).setCell ⟨H, 0, none⟩ (.pointer (some ⟨B, 0, none⟩))).setCell ⟨B, 0, none⟩ (.pointer (some ⟨H, 0, none⟩))).heap[H]? = some (.cells #[.pointer (some ⟨B, 0, none⟩), .pointer (some ⟨B, 0, none⟩), .pointer none, v] 127 (0, 0)) := obj_far (p := ⟨B, 0, none⟩) h3H ((Ne.symm hBH)) (.pointer (some ⟨H, 0, none⟩))
  have c6 := obj_cell h5H (i := 0) rfl
  have c7 := obj_cell h5B (i := 1) rfl
  have f7 := obj_frozen h5B 1
  have h7B : ((((w.setCell ⟨H, 1, none⟩ (.pointer (some ⟨B, 0, none⟩))).setCell ⟨H, 0, none⟩ (.pointer (some ⟨B, 0, none⟩))).setCell ⟨B, 0, none⟩ (.pointer (some ⟨H, 0, none⟩))).setCell ⟨B, 1, none⟩ (.pointer (some ⟨H, 0, none⟩))).heap[B]? = some (.cells #[.pointer (some ⟨H, 0, none⟩), .pointer (some ⟨H, 0, none⟩), .pointer none, .nilIface, .int .i64 0] 131 (0, 0)) := by simpa using obj_set h5B 1 (.pointer (some ⟨H, 0, none⟩))
  have h7H : ((((w.setCell ⟨H, 1, none⟩ (.pointer (some ⟨B, 0, none⟩))).setCell ⟨H, 0, none⟩ (.pointer (some ⟨B, 0, none⟩))).setCell ⟨B, 0, none⟩ (.pointer (some ⟨H, 0, none⟩))).setCell ⟨B, 1, none⟩ (.pointer (some ⟨H, 0, none⟩))).heap[H]? = some (.cells #[.pointer (some ⟨B, 0, none⟩), .pointer (some ⟨B, 0, none⟩), .pointer none, v] 127 (0, 0)) := obj_far (p := ⟨B, 1, none⟩) h5H ((Ne.symm hBH)) (.pointer (some ⟨H, 0, none⟩))
  have c8 := obj_cell h7H (i := 2) rfl
  have f8 := obj_frozen h7H 2
  have h8B : (((((w.setCell ⟨H, 1, none⟩ (.pointer (some ⟨B, 0, none⟩))).setCell ⟨H, 0, none⟩ (.pointer (some ⟨B, 0, none⟩))).setCell ⟨B, 0, none⟩ (.pointer (some ⟨H, 0, none⟩))).setCell ⟨B, 1, none⟩ (.pointer (some ⟨H, 0, none⟩))).setCell ⟨H, 2, none⟩ (.pointer (some ⟨B, 0, none⟩))).heap[B]? = some (.cells #[.pointer (some ⟨H, 0, none⟩), .pointer (some ⟨H, 0, none⟩), .pointer none, .nilIface, .int .i64 0] 131 (0, 0)) := obj_far (p := ⟨H, 2, none⟩) h7B (hBH) (.pointer (some ⟨B, 0, none⟩))
  have h8H : (((((w.setCell ⟨H, 1, none⟩ (.pointer (some ⟨B, 0, none⟩))).setCell ⟨H, 0, none⟩ (.pointer (some ⟨B, 0, none⟩))).setCell ⟨B, 0, none⟩ (.pointer (some ⟨H, 0, none⟩))).setCell ⟨B, 1, none⟩ (.pointer (some ⟨H, 0, none⟩))).setCell ⟨H, 2, none⟩ (.pointer (some ⟨B, 0, none⟩))).heap[H]? = some (.cells #[.pointer (some ⟨B, 0, none⟩), .pointer (some ⟨B, 0, none⟩), .pointer (some ⟨B, 0, none⟩), v] 127 (0, 0)) := by simpa using obj_set h7H 2 (.pointer (some ⟨B, 0, none⟩))
  have c9 := obj_cell h8B (i := 4) rfl
  have c10 := obj_cell h8B (i := 4) rfl
  have f10 := obj_frozen h8B 4
  have h10B : ((((((w.setCell ⟨H, 1, none⟩ (.pointer (some ⟨B, 0, none⟩))).setCell ⟨H, 0, none⟩ (.pointer (some ⟨B, 0, none⟩))).setCell ⟨B, 0, none⟩ (.pointer (some ⟨H, 0, none⟩))).setCell ⟨B, 1, none⟩ (.pointer (some ⟨H, 0, none⟩))).setCell ⟨H, 2, none⟩ (.pointer (some ⟨B, 0, none⟩))).setCell ⟨B, 4, none⟩ (.int .i64 1)).heap[B]? = some (.cells #[.pointer (some ⟨H, 0, none⟩), .pointer (some ⟨H, 0, none⟩), .pointer none, .nilIface, .int .i64 1] 131 (0, 0)) := by simpa using obj_set h8B 4 (.int .i64 1)
  have h10H : ((((((w.setCell ⟨H, 1, none⟩ (.pointer (some ⟨B, 0, none⟩))).setCell ⟨H, 0, none⟩ (.pointer (some ⟨B, 0, none⟩))).setCell ⟨B, 0, none⟩ (.pointer (some ⟨H, 0, none⟩))).setCell ⟨B, 1, none⟩ (.pointer (some ⟨H, 0, none⟩))).setCell ⟨H, 2, none⟩ (.pointer (some ⟨B, 0, none⟩))).setCell ⟨B, 4, none⟩ (.int .i64 1)).heap[H]? = some (.cells #[.pointer (some ⟨B, 0, none⟩), .pointer (some ⟨B, 0, none⟩), .pointer (some ⟨B, 0, none⟩), v] 127 (0, 0)) := obj_far (p := ⟨B, 4, none⟩) h8H ((Ne.symm hBH)) (.int .i64 1)
  go_enter Try.func127, Try.ntmps127
  go_wp2
  go_ret
  exact ⟨rfl, h10B, h10H, rfl⟩

set_option maxHeartbeats 1000000 in
theorem cInsOld (B H G L Q : Nat) (v u : Value) (n : Int) (w : World) (hBH : B ≠ H) (hBL : B ≠ L) (hLH : L ≠ H) (hn0 : 0 ≤ n) (hn1 : n ≤ 1000000) (hB : w.heap[B]? = some (.cells #[.pointer (some ⟨G, 0, none⟩), .pointer (some ⟨L, 0, none⟩), .pointer none, .nilIface, .int .i64 n] 131 (0, 0))) (hH : w.heap[H]? = some (.cells #[.pointer none, .pointer none, .pointer none, v] 127 (0, 0))) (hL : w.heap[L]? = some (.cells #[.pointer (some ⟨B, 0, none⟩), .pointer (some ⟨Q, 0, none⟩), .pointer (some ⟨B, 0, none⟩), u] 127 (0, 0))) :
    Calls Try.prog 127 #[elP B, elP H, elP L] w fun e w' => e = .returned (elP H) ∧ w'.heap[B]? = some (.cells #[.pointer (some ⟨G, 0, none⟩), .pointer (some ⟨H, 0, none⟩), .pointer none, .nilIface, .int .i64 (n + 1)] 131 (0, 0)) ∧ w'.heap[H]? = some (.cells #[.pointer (some ⟨B, 0, none⟩), .pointer (some ⟨L, 0, none⟩), .pointer (some ⟨B, 0, none⟩), v] 127 (0, 0)) ∧ w'.heap[L]? = some (.cells #[.pointer (some ⟨H, 0, none⟩), .pointer (some ⟨Q, 0, none⟩), .pointer (some ⟨B, 0, none⟩), u] 127 (0, 0)) ∧ w' = ((((((w.setCell ⟨H, 1, none⟩ (.pointer (some ⟨L, 0, none⟩))).setCell ⟨H, 0, none⟩ (.pointer (some ⟨B, 0, none⟩))).setCell ⟨L, 0, none⟩ (.pointer (some ⟨H, 0, none⟩))).setCell ⟨B, 1, none⟩ (.pointer (some ⟨H, 0, none⟩))).setCell ⟨H, 2, none⟩ (.pointer (some ⟨B, 0, none⟩))).setCell ⟨B, 4, none⟩ (.int .i64 (n + 1))) := by
  have c1 := obj_cell hH (i := 1) rfl
  have f1 := obj_frozen hH 1
  have h1B : (w.setCell ⟨H, 1, none⟩ (.pointer (some ⟨L, 0, none⟩))).heap[B]? = some (.cells #[.pointer (some ⟨G, 0, none⟩), .pointer (some ⟨L, 0, none⟩), .pointer none, .nilIface, .int .i64 n] 131 (0, 0)) := obj_far (p := ⟨H, 1, none⟩) hB (hBH) (.pointer (some ⟨L, 0, none⟩))
  have h1H : (w.setCell ⟨H, 1, none⟩ (.pointer (some ⟨L, 0, none⟩))).heap[H]? = some (.cells #[.pointer none, .pointer (some ⟨L, 0, none⟩), .pointer none, v] 127 (0, 0)) := by simpa using obj_set hH 1 (.pointer (some ⟨L, 0, none⟩))
  have h1L : (w.setCell ⟨H, 1, none⟩ (.pointer (some ⟨L, 0, none⟩))).heap[L]? = some (.cells #[.pointer (some ⟨B, 0, none⟩), .pointer (some ⟨Q, 0, none⟩), .pointer (some ⟨B, 0, none⟩), u] 127 (0, 0)) := obj_far (p := ⟨H, 1, none⟩) hL (hLH) (.pointer (some ⟨L, 0, none⟩))
  have c2 := obj_cell h1L (i := 0) rfl
  have c3 := obj_cell h1H (i := 0) rfl
  have f3 := obj_frozen h1H 0
  have h3B : ((w.setCell ⟨H, 1, none⟩ (.pointer (some ⟨L, 0, none⟩))).setCell ⟨H, 0, none⟩ (.pointer (some ⟨B, 0, none⟩))).heap[B]? = some (.cells #[.pointer (some ⟨G, 0, none⟩), .pointer (some ⟨L, 0, none⟩), .pointer none, .nilIface, .int .i64 n] 131 (0, 0)) := obj_far (p := ⟨H, 0, none⟩) h1B (hBH) (.pointer (some ⟨B, 0, none⟩))
  have h3H : ((w.setCell ⟨H, 1, none⟩ (.pointer (some ⟨L, 0, none⟩))).setCell ⟨H, 0, none⟩ (.pointer (some ⟨B, 0, none⟩))).heap[H]? = some (.cells #[.pointer (some ⟨B, 0, none⟩), .pointer (some ⟨L, 0, none⟩), .pointer none, v] 127 (0, 0)) := by simpa using obj_set h1H 0 (.pointer (some ⟨B, 0, none⟩))
  have h3L : ((w.setCell ⟨H, 1, none⟩ (.pointer (some ⟨L, 0, none⟩))).setCell ⟨H, 0, none⟩ (.pointer (some ⟨B, 0, none⟩))).heap[L]? = some (.cells #[.pointer (some ⟨B, 0, none⟩), .pointer (some ⟨Q, 0, none⟩), .pointer (some ⟨B, 0, none⟩), u] 127 (0, 0)) := obj_far (p := ⟨H, 0, none⟩) h1L (hLH) (.pointer (some ⟨B, 0, none⟩))
  have c4 := obj_cell h3H (i := 1) rfl
  have c5 := obj_cell h3L (i := 0) rfl
  have f5 := obj_frozen h3L 0
  have h5B : (((w.setCell ⟨H, 1, none⟩ (.pointer (some ⟨L, 0, none⟩))).setCell ⟨H, 0, none⟩ (.pointer (some ⟨B, 0, none⟩))).setCell ⟨L, 0, none⟩ (.pointer (some ⟨H, 0, none⟩))).heap[B]? = some (.cells #[.pointer (some ⟨G, 0, none⟩), .pointer (some ⟨L, 0, none⟩), .pointer none, .nilIface, .int .i64 n] 131 (0, 0)) := obj_far (p := ⟨L, 0, none⟩) h3B (hBL) (.pointer (some ⟨H, 0, none⟩))
  have h5H : (((w.setCell ⟨H, 1, none⟩ (.pointer (some ⟨L, 0, none⟩))).setCell ⟨H, 0, none⟩ (.pointer (some ⟨B, 0, none⟩))).setCell ⟨L, 0, none⟩ (.pointer (some ⟨H, 0, none⟩))).heap[H]? = some (.cells #[.pointer (some ⟨B, 0, none⟩), .pointer (some ⟨L, 0, none⟩), .pointer none, v] 127 (0, 0)) := obj_far (p := ⟨L, 0, none⟩) h3H ((Ne.symm hLH)) (.pointer (some ⟨H, 0, none⟩))
  have h5L : (((w.setCell ⟨H, 1, none⟩ (.pointer (some ⟨L, 0, none⟩))).setCell ⟨H, 0, none⟩ (.pointer (some ⟨B, 0, none⟩))).setCell ⟨L, 0, none⟩ (.pointer (some ⟨H, 0, none⟩))).heap[L]? = some (.cells #[.pointer (some ⟨H, 0, none⟩), .pointer (some ⟨Q, 0, none⟩), .pointer (some ⟨B, 0, none⟩), u] 127 (0, 0)) := by simpa using obj_set h3L 0 (.pointer (some ⟨H, 0, none⟩))
  have c6 := obj_cell h5H (i := 0) rfl
  have c7 := obj_cell h5B (i := 1) rfl
  have f7 := obj_frozen h5B 1
  have h7B : ((((w.setCell ⟨H, 1, none⟩ (.pointer (some ⟨L, 0, none⟩))).setCell ⟨H, 0, none⟩ (.pointer (some ⟨B, 0, none⟩))).setCell ⟨L, 0, none⟩ (.pointer (some ⟨H, 0, none⟩))).setCell ⟨B, 1, none⟩ (.pointer (some ⟨H, 0, none⟩))).heap[B]? = some (.cells #[.pointer (some ⟨G, 0, none⟩), .pointer (some ⟨H, 0, none⟩), .pointer none, .nilIface, .int .i64 n] 131 (0, 0)) := by simpa using obj_set h5B 1 (.pointer (some ⟨H, 0, none⟩))
  have h7H : ((((w.setCell ⟨H, 1, none⟩ (.pointer (some ⟨L, 0, none⟩))).setCell ⟨H, 0, none⟩ (.pointer (some ⟨B, 0, none⟩))).setCell ⟨L, 0, none⟩ (.pointer (some ⟨H, 0, none⟩))).setCell ⟨B, 1, none⟩ (.pointer (some ⟨H, 0, none⟩))).heap[H]? = some (.cells #[.pointer (some ⟨B, 0, none⟩), .pointer (some ⟨L, 0, none⟩), .pointer none, v] 127 (0, 0)) := obj_far (p := ⟨B, 1, none⟩) h5H ((Ne.symm hBH)) (.pointer (some ⟨H, 0, none⟩))
  have h7L : ((((w.setCell ⟨H, 1, none⟩ (.pointer (some ⟨L, 0, none⟩))).setCell ⟨H, 0, none⟩ (.pointer (some ⟨B, 0, none⟩))).setCell ⟨L, 0, none⟩ (.pointer (some ⟨H, 0, none⟩))).setCell ⟨B, 1, none⟩ (.pointer (some ⟨H, 0, none⟩))).heap[L]? = some (.cells #[.pointer (some ⟨H, 0, none⟩), .pointer (some ⟨Q, 0, none⟩), .pointer (some ⟨B, 0, none⟩), u] 127 (0, 0)) := obj_far (p := ⟨B, 1, none⟩) h5L ((Ne.symm hBL)) (.pointer (some ⟨H, 0, none⟩))
  have c8 := obj_cell h7H (i := 2) rfl
  have f8 := obj_frozen h7H 2
  have h8B : (((((w.setCell ⟨H, 1, none⟩ (.pointer (some ⟨L, 0, none⟩))).setCell ⟨H, 0, none⟩ (.pointer (some ⟨B, 0, none⟩))).setCell ⟨L, 0, none⟩ (.pointer (some ⟨H, 0, none⟩))).setCell ⟨B, 1, none⟩ (.pointer (some ⟨H, 0, none⟩))).setCell ⟨H, 2, none⟩ (.pointer (some ⟨B, 0, none⟩))).heap[B]? = some (.cells #[.pointer (some ⟨G, 0, none⟩), .pointer (some ⟨H, 0, none⟩), .pointer none, .nilIface, .int .i64 n] 131 (0, 0)) := obj_far (p := ⟨H, 2, none⟩) h7B (hBH) (.pointer (some ⟨B, 0, none⟩))
  have h8H : (((((w.setCell ⟨H, 1, none⟩ (.pointer (some ⟨L, 0, none⟩))).setCell ⟨H, 0, none⟩ (.pointer (some ⟨B, 0, none⟩))).setCell ⟨L, 0, none⟩ (.pointer (some ⟨H, 0, none⟩))).setCell ⟨B, 1, none⟩ (.pointer (some ⟨H, 0, none⟩))).setCell ⟨H, 2, none⟩ (.pointer (some ⟨B, 0, none⟩))).heap[H]? = some (.cells #[.pointer (some ⟨B, 0, none⟩), .pointer (some ⟨L, 0, none⟩), .pointer (some ⟨B, 0, none⟩), v] 127 (0, 0)) := by simpa using obj_set h7H 2 (.pointer (some ⟨B, 0, none⟩))
  have h8L : (((((w.setCell ⟨H, 1, none⟩ (.pointer (some ⟨L, 0, none⟩))).setCell ⟨H, 0, none⟩ (.pointer (some ⟨B, 0, none⟩))).setCell ⟨L, 0, none⟩ (.pointer (some ⟨H, 0, none⟩))).setCell ⟨B, 1, none⟩ (.pointer (some ⟨H, 0, none⟩))).setCell ⟨H, 2, none⟩ (.pointer (some ⟨B, 0, none⟩))).heap[L]? = some (.cells #[.pointer (some ⟨H, 0, none⟩), .pointer (some ⟨Q, 0, none⟩), .pointer (some ⟨B, 0, none⟩), u] 127 (0, 0)) := obj_far (p := ⟨H, 2, none⟩) h7L (hLH) (.pointer (some ⟨B, 0, none⟩))
  have c9 := obj_cell h8B (i := 4) rfl
  have c10 := obj_cell h8B (i := 4) rfl
  have f10 := obj_frozen h8B 4
  have h10B : ((((((w.setCell ⟨H, 1, none⟩ (.pointer (some ⟨L, 0, none⟩))).setCell ⟨H, 0, none⟩ (.pointer (some ⟨B, 0, none⟩))).setCell ⟨L, 0, none⟩ (.pointer (some ⟨H, 0, none⟩))).setCell ⟨B, 1, none⟩ (.pointer (some ⟨H, 0, none⟩))).setCell ⟨H, 2, none⟩ (.pointer (some ⟨B, 0, none⟩))).setCell ⟨B, 4, none⟩ (.int .i64 (n + 1))).heap[B]? = some (.cells #[.pointer (some ⟨G, 0, none⟩), .pointer (some ⟨H, 0, none⟩), .pointer none, .nilIface, .int .i64 (n + 1)] 131 (0, 0)) := by simpa using obj_set h8B 4 (.int .i64 (n + 1))
  have h10H : ((((((w.setCell ⟨H, 1, none⟩ (.pointer (some ⟨L, 0, none⟩))).setCell ⟨H, 0, none⟩ (.pointer (some ⟨B, 0, none⟩))).setCell ⟨L, 0, none⟩ (.pointer (some ⟨H, 0, none⟩))).setCell ⟨B, 1, none⟩ (.pointer (some ⟨H, 0, none⟩))).setCell ⟨H, 2, none⟩ (.pointer (some ⟨B, 0, none⟩))).setCell ⟨B, 4, none⟩ (.int .i64 (n + 1))).heap[H]? = some (.cells #[.pointer (some ⟨B, 0, none⟩), .pointer (some ⟨L, 0, none⟩), .pointer (some ⟨B, 0, none⟩), v] 127 (0, 0)) := obj_far (p := ⟨B, 4, none⟩) h8H ((Ne.symm hBH)) (.int .i64 (n + 1))
  have h10L : ((((((w.setCell ⟨H, 1, none⟩ (.pointer (some ⟨L, 0, none⟩))).setCell ⟨H, 0, none⟩ (.pointer (some ⟨B, 0, none⟩))).setCell ⟨L, 0, none⟩ (.pointer (some ⟨H, 0, none⟩))).setCell ⟨B, 1, none⟩ (.pointer (some ⟨H, 0, none⟩))).setCell ⟨H, 2, none⟩ (.pointer (some ⟨B, 0, none⟩))).setCell ⟨B, 4, none⟩ (.int .i64 (n + 1))).heap[L]? = some (.cells #[.pointer (some ⟨H, 0, none⟩), .pointer (some ⟨Q, 0, none⟩), .pointer (some ⟨B, 0, none⟩), u] 127 (0, 0)) := obj_far (p := ⟨B, 4, none⟩) h8L ((Ne.symm hBL)) (.int .i64 (n + 1))
  have hwn : IntKind.i64.wrap (n + 1) = n + 1 := IntWalk.i64_in _ (by omega)
  go_enter Try.func127, Try.ntmps127
  go_wp2
  go_ret
  exact ⟨rfl, h10B, h10H, h10L, rfl⟩

theorem Lst.push_nil {w : World} {B H : Nat} {e : Int} (hBH : B < H) (hB : w.heap[B]? = some (.cells #[elP H, elP H, .pointer none, .nilIface, .int .i64 1] 131 (0, 0))) (hH : w.heap[H]? = some (.cells #[elP B, elP B, elP B, elV e] 127 (0, 0))) : Lst w B [H] [e] :=
  ⟨rfl, fun g hg => by rw [List.mem_singleton.1 hg]; exact hBH, by simp, fun h => (by cases h), fun _ => hB, fun k x hk => (by
    have h0 : k = 0 := by have := (List.getElem?_eq_some_iff.1 hk).1; simpa using this
    subst h0
    simp only [List.getElem?_cons_zero, Option.some.injEq] at hk
    subst hk
    exact hH)⟩
theorem getD_push_l {gs : List Nat} {H k d : Nat} (h : k < gs.length) : (gs ++ [H]).getD k d = gs.getD k d := by rw [List.getD_eq_getElem?_getD, List.getElem?_append_left h, List.getD_eq_getElem?_getD]
theorem getD_push_e {gs : List Nat} {H d : Nat} : (gs ++ [H]).getD gs.length d = H := by rw [List.getD_eq_getElem?_getD, List.getElem?_append_right (Nat.le_refl _), Nat.sub_self]; rfl
theorem getD_past {gs : List Nat} {k d : Nat} (h : gs.length ≤ k) : gs.getD k d = d := by rw [List.getD_eq_getElem?_getD, List.getElem?_eq_none h]; rfl
theorem getD_in {gs : List Nat} {k d : Nat} (h : k < gs.length) : gs.getD k d ∈ gs := by rw [List.getD_eq_getElem?_getD, List.getElem?_eq_getElem h]; exact List.getElem_mem _
theorem Lst.push {w w' : World} {B H : Nat} {gs : List Nat} {es : List Int} {e : Int} (h : Lst w B gs es) (hne : gs ≠ []) (hBH : B < H) (hgH : ∀ g ∈ gs, g < H)
    (hB : w'.heap[B]? = some (.cells #[elP (gs.getD 0 B), elP H, .pointer none, .nilIface, .int .i64 ((gs.length : Int) + 1)] 131 (0, 0)))
    (hH : w'.heap[H]? = some (.cells #[elP B, elP (gs.getD (gs.length - 1) B), elP B, elV e] 127 (0, 0)))
    (hL : ∀ u, es[gs.length - 1]? = some u → w'.heap[gs.getD (gs.length - 1) B]? = some (.cells #[elP H, elP (if gs.length - 1 = 0 then B else gs.getD (gs.length - 1 - 1) B), elP B, elV u] 127 (0, 0)))
    (ho : ∀ g ∈ gs, g ≠ gs.getD (gs.length - 1) B → w'.heap[g]? = w.heap[g]?) : Lst w' B (gs ++ [H]) (es ++ [e]) := by
  have h0 : 0 < gs.length := by cases gs with | nil => exact absurd rfl hne | cons a l => simp
  refine ⟨by simp [h.len], fun g hg => ?_, ?_, fun h1 => by simp at h1, fun _ => ?_, fun k x hk => ?_⟩
  · rcases List.mem_append.1 hg with hg | hg
    · exact h.gt g hg
    · rw [List.mem_singleton.1 hg]; exact hBH
  · refine List.nodup_append.2 ⟨h.nd, by simp, fun a ha b hb hab => ?_⟩
    rw [List.mem_singleton.1 hb] at hab
    have := hgH a ha
    omega
  · have e1 : (gs ++ [H]).length - 1 = gs.length := by simp
    rw [e1, getD_push_e, getD_push_l h0, hB, List.length_append, List.length_singleton]
    rfl
  · by_cases hk1 : k < es.length
    · rw [List.getElem?_append_left hk1] at hk
      have hkg : k < gs.length := by rw [h.len]; exact hk1
      rw [getD_push_l hkg]
      have e2 : (if k = 0 then B else (gs ++ [H]).getD (k - 1) B) = if k = 0 then B else gs.getD (k - 1) B := by
        split
        · rfl
        · rw [getD_push_l (by omega)]
      rw [e2]
      by_cases hkl : k = gs.length - 1
      · have e3 : (gs ++ [H]).getD (k + 1) B = H := by rw [show k + 1 = gs.length by omega]; exact getD_push_e
        rw [e3]
        subst hkl
        exact hL x hk
      · rw [getD_push_l (by omega), ho _ (getD_in hkg) (fun he => hkl ?_)]
        · exact h.el k x hk
        · rw [List.getD_eq_getElem?_getD, List.getD_eq_getElem?_getD, List.getElem?_eq_getElem hkg, List.getElem?_eq_getElem (by omega)] at he
          have hp := List.pairwise_iff_getElem.1 (List.nodup_iff_pairwise_ne.1 h.nd) k (gs.length - 1) hkg (by omega) (by omega)
          exact absurd he hp
    · rw [List.getElem?_append_right (by omega)] at hk
      have hk2 : k = es.length := by
        have := (List.getElem?_eq_some_iff.1 hk).1
        simp at this
        omega
      subst hk2
      simp only [Nat.sub_self, List.getElem?_cons_zero, Option.some.injEq] at hk
      subst hk
      rw [← h.len, getD_push_e, getD_past (by simp), if_neg (by omega), getD_push_l (by omega)]
      exact hH

end Go.Proofs.Ytoaabinpdjcimaa

/- The linked list: a number is put at its end; its first; the next. (Printed by genpc2.py.) -/
namespace Go.Proofs.Ytoaabinpdjcimaa
open Go.RowKit
set_option maxRecDepth 4000

theorem neq_ptr_same {P : Program} (w : World) {tp te : TypeId} {j : TypeInfo} (a : Addr) (hp : P.underlying tp = some (.pointer te)) (hte : P.info? te = some j) :
    (binOp .neq tp (.pointer (some a)) (.pointer (some a))).run P w = .ok (.bool false) w := by
  have h : ∀ d : Nat, (Op.equalIn (d + 1) tp (.pointer (some a)) (.pointer (some a))).run P w = .ok true w := fun d => by
    simp [Op.equalIn, run_underlying hp, sizeOf, typeInfo, hte, run_sameAddr_same]
  simp only [binOp]
  simp [Op.equal, Op.maxDepth, h 9999]
theorem neq_ptr_other {P : Program} (w : World) {tp te : TypeId} {j : TypeInfo} {a b : Addr} {ca cb : Array Value} {ta tb : TypeId} (hp : P.underlying tp = some (.pointer te)) (hte : P.info? te = some j) (hsz : j.size ≠ 0)
    (hne : a ≠ b) (ha : w.heap[a.block]? = some (.cells ca ta (0, 0))) (hb : w.heap[b.block]? = some (.cells cb tb (0, 0))) :
    (binOp .neq tp (.pointer (some a)) (.pointer (some b))).run P w = .ok (.bool true) w := by
  have h : ∀ d : Nat, (Op.equalIn (d + 1) tp (.pointer (some a)) (.pointer (some b))).run P w = .ok false w := fun d => by
    simp [Op.equalIn, run_underlying hp, sizeOf, typeInfo, hte, hsz, run_sameAddr_other w hne ha hb]
  simp only [binOp]
  simp [Op.equal, Op.maxDepth, h 9999]
theorem el_size : (Try.prog.info? 127).map (·.size) = some 4 := by kernel_rfl

def RetPush (B : Nat) (gs : List Nat) (es : List Int) (e : Int) (w : World) (en : Ending) (w' : World) : Prop := ∃ v, en = .returned v ∧ Lst w' B (gs ++ [w.heap.size]) (es ++ [e]) ∧ Below B w w'
theorem cInsV_new (B : Nat) (e : Int) (w : World) (hB : w.heap[B]? = some (.cells #[.pointer (some ⟨B, 0, none⟩), .pointer (some ⟨B, 0, none⟩), .pointer none, .nilIface, .int .i64 0] 131 (0, 0))) :
    Calls Try.prog 123 #[.pointer (some ⟨B, 0, none⟩), elV e, .pointer (some ⟨B, 0, none⟩)] w fun en w' => ∃ v, en = .returned v ∧ Lst w' B [w.heap.size] [e] ∧ Below B w w' := by
  have hlt := obj_lt hB
  obtain ⟨W, hW⟩ : ∃ W, W = w.alloc (.cells #[.pointer none, .pointer none, .pointer none, elV e] 127) := ⟨_, rfl⟩
  have hEW : Ext w W := by rw [hW]; exact Ext.alloc _ _
  have hH : W.heap[w.heap.size]? = some (.cells #[.pointer none, .pointer none, .pointer none, elV e] 127 (0, 0)) := by rw [hW]; exact heap_alloc_new _ _
  have hBW := hEW.obj hB
  have HEW := hid hEW
  have HH := hid hH
  have HB := hid hBW
  clear hEW hH hBW hB
  go_enter Try.func123, Try.ntmps123
  go_wp2_with (go_at_call 127; rw [← hW]; refine (cInsNew B w.heap.size (elV e) W (by omega) HB.out HH.out).mono ?_; rintro en w1 ⟨rfl, h1, h2, h3⟩; have H1 := hid h1; have H2 := hid h2; have H3 := hid h3; clear h1 h2 h3)
  go_ret
  refine ⟨_, rfl, Lst.push_nil hlt H1.out H2.out, ?_⟩
  rw [H3.out]
  have hl : B ≤ w.heap.size := Nat.le_of_lt hlt
  exact (Below.setCell (Below.setCell (Below.setCell (Below.setCell (Below.setCell (Below.setCell (HEW.out.mono hl) (p := ⟨w.heap.size, 1, none⟩) hl _) (p := ⟨w.heap.size, 0, none⟩) hl _) (p := ⟨B, 0, none⟩) (Nat.le_refl _) _) (p := ⟨B, 1, none⟩) (Nat.le_refl _) _) (p := ⟨w.heap.size, 2, none⟩) hl _) (p := ⟨B, 4, none⟩) (Nat.le_refl _) _)
set_option maxHeartbeats 400000 in
theorem cInsV_old (B : Nat) (gs : List Nat) (es : List Int) (e : Int) (w : World) (h : Lst w B gs es) (hne : gs ≠ []) (hgs : ∀ g ∈ gs, g < w.heap.size) (hl2 : gs.length ≤ 1000000) :
    Calls Try.prog 123 #[.pointer (some ⟨B, 0, none⟩), elV e, .pointer (some ⟨gs.getD (gs.length - 1) B, 0, none⟩)] w (RetPush B gs es e w) := by
  have h0 : 0 < gs.length := by cases gs with | nil => exact absurd rfl hne | cons a l => simp
  have hlt := obj_lt (h.head hne)
  obtain ⟨L, hL⟩ : ∃ L, L = gs.getD (gs.length - 1) B := ⟨_, rfl⟩
  have hLm : L ∈ gs := by rw [hL]; exact getD_in (by omega)
  have hBL : B < L := h.gt L hLm
  have hLH : L < w.heap.size := hgs L hLm
  have hll : gs.length - 1 < es.length := by have := h.len; omega
  obtain ⟨u, hu⟩ : ∃ u, es[gs.length - 1]? = some u := ⟨_, List.getElem?_eq_getElem hll⟩
  have hlast := h.el _ u hu
  rw [show gs.length - 1 + 1 = gs.length by omega, getD_past (Nat.le_refl _), ← hL] at hlast
  have hhead := h.head hne
  rw [← hL] at hhead ⊢
  obtain ⟨W, hW⟩ : ∃ W, W = w.alloc (.cells #[.pointer none, .pointer none, .pointer none, elV e] 127) := ⟨_, rfl⟩
  have hEW : Ext w W := by rw [hW]; exact Ext.alloc _ _
  have hH : W.heap[w.heap.size]? = some (.cells #[.pointer none, .pointer none, .pointer none, elV e] 127 (0, 0)) := by rw [hW]; exact heap_alloc_new _ _
  have HEW := hid hEW
  have HH := hid hH
  have HB := hid (hEW.obj hhead)
  have HL := hid (hEW.obj hlast)
  have HU := hid hu
  have HLST := hid h
  have HN := hid (show B ≠ w.heap.size ∧ B ≠ L ∧ L ≠ w.heap.size ∧ (0 : Int) ≤ (gs.length : Int) ∧ (gs.length : Int) ≤ 1000000 from ⟨by omega, by omega, by omega, by omega, by omega⟩)
  have HGS := hid hgs
  have HLV := hid hL
  have HLTS := hid hlt
  have HBL := hid hBL
  have HNE := hid hne
  clear hEW hH hhead hlast hu h hgs hL hLm hLH hll hl2 h0 hne hlt hBL
  go_enter Try.func123, Try.ntmps123
  go_wp2_with (go_at_call 127; rw [← hW]; refine (cInsOld B w.heap.size _ L _ (elV e) (elV u) (gs.length : Int) W HN.out.1 HN.out.2.1 HN.out.2.2.1 HN.out.2.2.2.1 HN.out.2.2.2.2 HB.out HH.out HL.out).mono ?_; rintro en w1 ⟨rfl, h1, h2, h3, h4⟩; have H1 := hid h1; have H2 := hid h2; have H3 := hid h3; have H4 := hid h4; clear h1 h2 h3 h4)
  go_ret
  have hL := HLV.out
  have hgs := HGS.out
  have hlt := HLTS.out
  have hBL := HBL.out
  refine ⟨_, rfl, Lst.push HLST.out HNE.out hlt hgs H1.out (by rw [← hL]; exact H2.out) (fun x hx => ?_) (fun g hg hgl => ?_), ?_⟩
  · rw [HU.out] at hx
    injection hx with hx
    subst hx
    rw [← hL]
    exact H3.out
  · rw [H4.out]
    rw [← hL] at hgl
    have hgB : g ≠ B := Nat.ne_of_gt (HLST.out.gt g hg)
    have hgH : g ≠ w.heap.size := Nat.ne_of_lt (hgs g hg)
    rw [Below.heap_setCell _ _ _ _ hgB, Below.heap_setCell _ _ _ _ hgH, Below.heap_setCell _ _ _ _ hgB, Below.heap_setCell _ _ _ _ hgl, Below.heap_setCell _ _ _ _ hgH, Below.heap_setCell _ _ _ _ hgH]
    exact HEW.out.block g (hgs g hg)
  · rw [H4.out]
    have hl : B ≤ w.heap.size := Nat.le_of_lt hlt
    exact (Below.setCell (Below.setCell (Below.setCell (Below.setCell (Below.setCell (Below.setCell (HEW.out.mono hl) (p := ⟨w.heap.size, 1, none⟩) hl _) (p := ⟨w.heap.size, 0, none⟩) hl _) (p := ⟨L, 0, none⟩) (Nat.le_of_lt hBL) _) (p := ⟨B, 1, none⟩) (Nat.le_refl _) _) (p := ⟨w.heap.size, 2, none⟩) hl _) (p := ⟨B, 4, none⟩) (Nat.le_refl _) _)

theorem cPushNew (B : Nat) (e : Int) (w : World) (h : Lst w B [] []) :
    Calls Try.prog 108 #[.pointer (some ⟨B, 0, none⟩), elV e] w (RetPush B [] [] e w) := by
  have HB := hid (h.none_ rfl)
  have hlt := obj_lt HB.out
  clear h
  go_enter Try.func108, Try.ntmps108
  go_wp2_with (first
    | (go_at_call 122; refine (cLazyNew B _ HB.out).mono ?_; rintro en w1 ⟨⟨_, rfl⟩, h1, h2⟩; have hc := obj_cell h1 (i := 1) rfl; have H1 := hid h1; have H2 := hid h2; clear h1 h2)
    | (go_at_call 123; refine (cInsV_new B e _ H1.out).mono ?_; rintro en w2 ⟨v, rfl, h3, h4⟩; have H3 := hid h3; have H4 := hid h4; clear h3 h4))
  go_ret
  have hs : w1.heap.size = w.heap.size := by rw [H2.out]; simp
  refine ⟨_, rfl, by rw [← hs]; exact H3.out, ?_⟩
  refine Below.trans ?_ H4.out
  rw [H2.out]
  exact (Below.setCell (Below.setCell (Below.setCell (Below.refl _ _) (p := ⟨B, 0, none⟩) (Nat.le_refl _) _) (p := ⟨B, 1, none⟩) (Nat.le_refl _) _) (p := ⟨B, 4, none⟩) (Nat.le_refl _) _)
theorem cPushOld (B : Nat) (gs : List Nat) (es : List Int) (e : Int) (w : World) (h : Lst w B gs es) (hne : gs ≠ []) (hgs : ∀ g ∈ gs, g < w.heap.size) (hl2 : gs.length ≤ 1000000) :
    Calls Try.prog 108 #[.pointer (some ⟨B, 0, none⟩), elV e] w (RetPush B gs es e w) := by
  have h0 := obj_cell (h.head hne) (i := 0) rfl
  have h1 := obj_cell (h.head hne) (i := 1) rfl
  have HL := hid h
  clear h
  go_enter Try.func108, Try.ntmps108
  go_wp2_with (first
    | (go_at_call 122; refine (cLazyOld B _ _ h0).mono ?_; rintro en w1 ⟨⟨_, rfl⟩, rfl⟩)
    | (go_at_call 123; refine (cInsV_old B gs es e _ HL.out hne hgs hl2).mono ?_; rintro en w2 ⟨v, rfl, h3, h4⟩; have H3 := hid h3; have H4 := hid h4; clear h3 h4))
  go_ret
  exact ⟨_, rfl, H3.out, H4.out⟩
theorem cPush (B : Nat) (gs : List Nat) (es : List Int) (e : Int) (w : World) (h : Lst w B gs es) (hgs : ∀ g ∈ gs, g < w.heap.size) (hl2 : gs.length ≤ 1000000) :
    Calls Try.prog 108 #[.pointer (some ⟨B, 0, none⟩), elV e] w (RetPush B gs es e w) := by
  cases gs with
  | nil =>
    have he : es = [] := List.eq_nil_of_length_eq_zero h.len.symm
    subst he
    exact cPushNew B e w h
  | cons g gs => exact cPushOld B _ es e w h (by simp) hgs hl2

/-- where the list stands: at element k, or at its end -/
def elAt (B : Nat) (gs : List Nat) (k : Nat) : Value := if k < gs.length then (.pointer (some ⟨gs.getD k B, 0, none⟩)) else .pointer none
theorem cFront (B : Nat) (gs : List Nat) (es : List Int) (w : World) (h : Lst w B gs es) (hl : gs.length ≤ 1000000) :
    Calls Try.prog 111 #[.pointer (some ⟨B, 0, none⟩)] w fun en w' => en = .returned (elAt B gs 0) ∧ w' = w := by
  cases gs with
  | nil =>
    have c4 := obj_cell (h.none_ rfl) (i := 4) rfl
    clear h
    go_enter Try.func111, Try.ntmps111
    go_wp2
    go_ret
    exact ⟨rfl, rfl⟩
  | cons g gs =>
    have hb := h.head (by simp)
    have c0 := obj_cell hb (i := 0) rfl
    have c4 := obj_cell hb (i := 4) rfl
    obtain ⟨n, hn⟩ : ∃ n : Int, n = ((g :: gs).length : Int) := ⟨_, rfl⟩
    have hn0 : (n == 0) = false := by rw [hn, beq_eq_false_iff_ne]; simp; omega
    have d0 : w.cell? ⟨B, 0, none⟩ = some ((.pointer (some ⟨g, 0, none⟩))) := c0
    have d4 : w.cell? ⟨B, 4, none⟩ = some (.int .i64 n) := by rw [hn]; exact c4
    clear c0 c4
    clear h hb hn hl
    go_enter Try.func111, Try.ntmps111
    go_wp2
    go_ret
    exact ⟨by simp [elAt], rfl⟩
theorem cNext (B : Nat) (gs : List Nat) (es : List Int) (k : Nat) (w : World) (h : Lst w B gs es) (hk : k < gs.length) :
    Calls Try.prog 112 #[.pointer (some ⟨gs.getD k B, 0, none⟩)] w fun en w' => en = .returned (elAt B gs (k + 1)) ∧ w' = w := by
  obtain ⟨x, hx⟩ : ∃ x, es[k]? = some x := ⟨_, List.getElem?_eq_getElem (by have := h.len; omega)⟩
  have hb := h.el k x hx
  have c0 := obj_cell hb (i := 0) rfl
  have c2 := obj_cell hb (i := 2) rfl
  obtain ⟨G, hG⟩ : ∃ G, G = gs.getD k B := ⟨_, rfl⟩
  rw [← hG] at c0 c2 ⊢
  by_cases hk1 : k + 1 < gs.length
  · obtain ⟨G2, hG2⟩ : ∃ G2, G2 = gs.getD (k + 1) B := ⟨_, rfl⟩
    have hne : B < G2 := by rw [hG2]; exact h.gt _ (getD_in hk1)
    obtain ⟨x2, hx2⟩ : ∃ x, es[k + 1]? = some x := ⟨_, List.getElem?_eq_getElem (by have := h.len; omega)⟩
    have hb2 := h.el (k + 1) x2 hx2
    rw [← hG2] at hb2
    obtain ⟨j, hj, hjs⟩ := Option.map_eq_some_iff.1 el_size
    have hcmp := neq_ptr_other (P := Try.prog) w (tp := 124) (a := ⟨G2, 0, none⟩) (b := ⟨B, 0, none⟩) Try.underlying124 hj (by rw [hjs]; decide) (fun e => by injection e with e _ _; omega) hb2 (h.head (by intro e; rw [e] at hk1; simp at hk1))
    have d0 : w.cell? ⟨G, 0, none⟩ = some ((.pointer (some ⟨G2, 0, none⟩))) := by rw [hG2]; exact c0
    have d2 : w.cell? ⟨G, 2, none⟩ = some ((.pointer (some ⟨B, 0, none⟩))) := c2
    clear c0 c2
    have hR : Hid (elAt B gs (k + 1) = (.pointer (some ⟨G2, 0, none⟩))) := hid (by unfold elAt; rw [if_pos hk1, hG2])
    clear h hb hx hk1 hG2 hG hne hb2 hx2 hj hjs
    go_enter Try.func112, Try.ntmps112
    go_wp2
    go_ret
    rw [hR.out]
    exact ⟨rfl, rfl⟩
  · have d0 : w.cell? ⟨G, 0, none⟩ = some ((.pointer (some ⟨B, 0, none⟩))) := by rw [getD_past (show gs.length ≤ k + 1 by omega)] at c0; exact c0
    have d2 : w.cell? ⟨G, 2, none⟩ = some ((.pointer (some ⟨B, 0, none⟩))) := c2
    obtain ⟨j, hj, _⟩ := Option.map_eq_some_iff.1 el_size
    have hcmp := neq_ptr_same (P := Try.prog) w (tp := 124) ⟨B, 0, none⟩ Try.underlying124 hj
    clear c0 c2 hj
    have hR : Hid (elAt B gs (k + 1) = .pointer none) := hid (by unfold elAt; rw [if_neg hk1])
    clear h hb hx hk1 hG
    go_enter Try.func112, Try.ntmps112
    go_wp2
    go_ret
    rw [hR.out]
    exact ⟨rfl, rfl⟩

end Go.Proofs.Ytoaabinpdjcimaa

/- The program's enemies of a task. -/
namespace Go.Proofs.Ytoaabinpdjcimaa
open Go.RowKit
set_option maxRecDepth 4000

theorem Lst.lt {w : World} {B : Nat} {gs : List Nat} {es : List Int} (h : Lst w B gs es) : ∀ g ∈ gs, g < w.heap.size := by
  intro g hg
  obtain ⟨k, hk⟩ := List.getElem?_of_mem hg
  have hkl := (List.getElem?_eq_some_iff.1 hk).1
  obtain ⟨x, hx⟩ : ∃ x, es[k]? = some x := ⟨_, List.getElem?_eq_getElem (by have := h.len; omega)⟩
  have := obj_lt (h.el k x hx)
  rwa [List.getD_eq_getElem?_getD, hk] at this
def RetEn (es : List Int) (w : World) (e : Ending) (w' : World) : Prop := ∃ B gs, e = .returned (elP B) ∧ w.heap.size ≤ B ∧ Lst w' B gs es ∧ Ext w w'

set_option maxHeartbeats 2000000 in
theorem iEnemiesOf (v : Value) (ps : List PairD) (id : Int) (w : World) (h : RP w v ps) (hl : ps.length ≤ 100000) :
    Calls Try.prog 80 #[v, .int .i64 id] w (RetEn (foes ps id) w) := by
  obtain ⟨A, c, rfl, hc, hc', hg⟩ := RP.get h
  clear h
  obtain ⟨W, hW⟩ : ∃ W, W = w.alloc (.cells #[.pointer none, .pointer none, .pointer none, .nilIface, .int .i64 0] 131) := ⟨_, rfl⟩
  have hEW : Ext w W := by rw [hW]; exact Ext.alloc _ _
  have hL0 : Lst W w.heap.size [] [] := ⟨rfl, fun g hg => (by cases hg), List.nodup_nil, fun _ => (by rw [hW]; exact heap_alloc_new _ _), fun h => absurd rfl h, fun k e hk => (by simp at hk)⟩
  have HEW := hid hEW
  have HL0 := hid hL0
  clear hEW hL0
  go_enter Try.func80, Try.ntmps80
  go_wp2
  rw [← hW]
  clear hW
  go_loopw [12] (fun i wr => ∃ (k : Nat) (gs : List Nat), k ≤ ps.length ∧ i = .int .i64 k ∧ Hid (Lst wr w.heap.size gs (foes (ps.take k) id) ∧ Ext w wr)) (fun i _ => ps.length - (intOf i).toNat)
  case atStart => exact ⟨0, [], Nat.zero_le _, rfl, hid ⟨HL0.out, HEW.out⟩⟩
  case round =>
    obtain ⟨k, gs, hk, rfl, H⟩ := hrel
    by_cases hlt : k < ps.length
    · obtain ⟨b, o, x, rfl, e, c0, c1⟩ := hg k hlt
      have i1 : (k : Int) < (ps.length : Int) := by omega
      have i0 : (0 : Int) ≤ (k : Int) := by omega
      have HL := hid H.out.1
      have HE := hid H.out.2
      have c0r := HE.out.cell c0
      have c1r := HE.out.cell c1
      have HGL : Hid (gs.length ≤ 1000000) := hid (by have h1 := HL.out.len; have h2 := foes_len (ps.take k) id; have h3 := List.length_take_le k ps; omega)
      have HST := hid (foes_take_succ e.out id)
      obtain ⟨xa, xb⟩ := x
      obtain ⟨y0, y1, y0f, y1f, k1, k1f, hkk, _⟩ := box2 (heap_alloc_new wr (.cells #[.int .i64 0, .int .i64 0] 55)) (.int .i64 xa) (.int .i64 xb)
      obtain ⟨W5, hW5⟩ : ∃ W5, W5 = wr.alloc (.cells #[.int .i64 xa, .int .i64 xb] 55) := ⟨_, rfl⟩
      have hE5 : Ext wr W5 := by rw [hW5]; exact Ext.alloc _ _
      have hxb : W5.heap[wr.heap.size]? = some (.cells #[.int .i64 xa, .int .i64 xb] 55 (0, 0)) := by rw [hW5]; exact heap_alloc_new _ _
      have KB : Hid (∀ w', Ext W5 w' → w'.cell? ⟨wr.heap.size, 0, none⟩ = some (.int .i64 xa) ∧ w'.cell? ⟨wr.heap.size, 1, none⟩ = some (.int .i64 xb)) := hid fun w' hw => ⟨obj_cell (hw.obj hxb) (i := 0) rfl, obj_cell (hw.obj hxb) (i := 1) rfl⟩
      have HE5 := hid hE5
      have HDr : Hid (Ext W5 W5.drew) := hid (Below.drew (Below.refl _ _))
      clear hkk H c0 c1 hxb hE5
      by_cases ha : id = xa
      · have h1 : (id == xa) = true := by simp [ha]
        have HF : Hid (foeOf id ⟨xa, xb⟩ = some xb) := hid (by unfold foeOf; rw [if_pos ha])
        clear ha
        go_wp2
        rw [← hW5]
        clear hW5 y0 y1 y0f y1f k1 k1f c0r c1r
        refine WG.start (fun w' => w'.cell? ⟨wr.heap.size, 0, none⟩ = some (.int .i64 xa) ∧ w'.cell? ⟨wr.heap.size, 1, none⟩ = some (.int .i64 xb)) [6] (by kernel_rfl) (by exact KB.out _ HDr.out) (fun hHeld => ?_)
        obtain ⟨pz, hpz⟩ : ∃ x, x = W5.drew := ⟨_, rfl⟩
        rw [← hpz] at hHeld HDr ⊢
        clear hpz
        (refine WG.take (i := 0) (v := ?_) rfl (by kernel_rfl) (by kernel_rfl) (by kernel_rfl) (by kernel_rfl) (fun _ _ _ h => h) (Or.inl ⟨by rfl, ?_⟩) (by assumption) ?_; rotate_left; (intro w hSw; (try dsimp only at hSw); go_split_ands; go_simp; (try with_reducible rfl)); (try simp only [Act.put, List.setIfInBounds_toArray, List.set_cons_zero, List.set_cons_succ]))
        (refine WG.take (i := 1) (v := ?_) rfl (by kernel_rfl) (by kernel_rfl) (by kernel_rfl) (by kernel_rfl) (fun _ _ _ h => h) (Or.inl ⟨by rfl, ?_⟩) (by assumption) ?_; rotate_left; (intro w hSw; (try dsimp only at hSw); go_split_ands; go_simp; (try with_reducible rfl)); (try simp only [Act.put, List.setIfInBounds_toArray, List.set_cons_zero, List.set_cons_succ]))
        (refine WG.take (i := 2) (v := ?_) rfl (by kernel_rfl) (by kernel_rfl) (by kernel_rfl) (by kernel_rfl) (fun _ _ _ h => h) (Or.inl ⟨by rfl, ?_⟩) (by assumption) ?_; rotate_left; (intro w hSw; (try dsimp only at hSw); go_split_ands; go_simp; (try with_reducible rfl)); (try simp only [Act.put, List.setIfInBounds_toArray, List.set_cons_zero, List.set_cons_succ]))
        (refine WG.take (i := 3) (v := ?_) rfl (by kernel_rfl) (by kernel_rfl) (by kernel_rfl) (by kernel_rfl) (fun _ _ _ h => h) (Or.inl ⟨by rfl, ?_⟩) (by assumption) ?_; rotate_left; (intro w hSw; (try dsimp only at hSw); go_split_ands; go_simp; (try with_reducible rfl)); (try simp only [Act.put, List.setIfInBounds_toArray, List.set_cons_zero, List.set_cons_succ]))
        (refine WG.take (i := 4) (v := ?_) rfl (by kernel_rfl) (by kernel_rfl) (by kernel_rfl) (by kernel_rfl) (fun _ _ _ h => h) (Or.inl ⟨by rfl, ?_⟩) (by assumption) ?_; rotate_left; (intro w hSw; (try dsimp only at hSw); go_split_ands; go_simp; (try with_reducible rfl)); (try simp only [Act.put, List.setIfInBounds_toArray, List.set_cons_zero, List.set_cons_succ]))
        refine WG.one (i := 5) rfl (by kernel_rfl) (fun K hK => ?_)
        go_simp
        refine hK.out _ _ (by exact KB.out _ HDr.out) (fun hHeld => ?_)
        clear hK K
        (try simp only [Act.put, List.setIfInBounds_toArray, List.set_cons_zero, List.set_cons_succ])
        refine WG.last (i := 6) rfl (by kernel_rfl) (by kernel_rfl) (fun K hK => ?_)
        go_simp; refine (cPush w.heap.size gs _ xb _ (HL.out.ext (HE5.out.trans HDr.out)) (HL.out.ext (HE5.out.trans HDr.out)).lt HGL.out).mono ?_; rintro e6 w6 ⟨v6, rfl, hL6, hB6⟩; have HL6 := hid hL6; have HE6 : Hid (Ext w w6) := hid (Below.trans (HE.out.trans (HE5.out.trans HDr.out)) hB6); clear hL6 hB6; (try dsimp only)
        refine hK.out _ _ ?_
        clear hK K
        (try simp only [Act.put, List.setIfInBounds_toArray, List.set_cons_zero, List.set_cons_succ])
        refine WG.done (by kernel_rfl) ?_
        go_wp2
        go_roundw
        case rel => exact ⟨k + 1, _, by omega, by go_num, hid ⟨by rw [HST.out, HF.out]; exact HL6.out, HE6.out⟩⟩
        case measure => simp [intOf]; omega
      · by_cases hb : id = xb
        · have h1 : (id == xa) = false := by simp [ha]
          have h2 : (id == xb) = true := by simp [hb]
          have HF : Hid (foeOf id ⟨xa, xb⟩ = some xa) := hid (by unfold foeOf; rw [if_neg ha, if_pos hb])
          clear ha hb
          go_wp2
          rw [← hW5]
          clear hW5 y0 y1 y0f y1f k1 k1f c0r c1r
          refine WG.start (fun w' => w'.cell? ⟨wr.heap.size, 0, none⟩ = some (.int .i64 xa) ∧ w'.cell? ⟨wr.heap.size, 1, none⟩ = some (.int .i64 xb)) [6] (by kernel_rfl) (by exact KB.out _ HDr.out) (fun hHeld => ?_)
          obtain ⟨pz, hpz⟩ : ∃ x, x = W5.drew := ⟨_, rfl⟩
          rw [← hpz] at hHeld HDr ⊢
          clear hpz
          (refine WG.take (i := 0) (v := ?_) rfl (by kernel_rfl) (by kernel_rfl) (by kernel_rfl) (by kernel_rfl) (fun _ _ _ h => h) (Or.inl ⟨by rfl, ?_⟩) (by assumption) ?_; rotate_left; (intro w hSw; (try dsimp only at hSw); go_split_ands; go_simp; (try with_reducible rfl)); (try simp only [Act.put, List.setIfInBounds_toArray, List.set_cons_zero, List.set_cons_succ]))
          (refine WG.take (i := 1) (v := ?_) rfl (by kernel_rfl) (by kernel_rfl) (by kernel_rfl) (by kernel_rfl) (fun _ _ _ h => h) (Or.inl ⟨by rfl, ?_⟩) (by assumption) ?_; rotate_left; (intro w hSw; (try dsimp only at hSw); go_split_ands; go_simp; (try with_reducible rfl)); (try simp only [Act.put, List.setIfInBounds_toArray, List.set_cons_zero, List.set_cons_succ]))
          (refine WG.take (i := 2) (v := ?_) rfl (by kernel_rfl) (by kernel_rfl) (by kernel_rfl) (by kernel_rfl) (fun _ _ _ h => h) (Or.inl ⟨by rfl, ?_⟩) (by assumption) ?_; rotate_left; (intro w hSw; (try dsimp only at hSw); go_split_ands; go_simp; (try with_reducible rfl)); (try simp only [Act.put, List.setIfInBounds_toArray, List.set_cons_zero, List.set_cons_succ]))
          (refine WG.take (i := 3) (v := ?_) rfl (by kernel_rfl) (by kernel_rfl) (by kernel_rfl) (by kernel_rfl) (fun _ _ _ h => h) (Or.inl ⟨by rfl, ?_⟩) (by assumption) ?_; rotate_left; (intro w hSw; (try dsimp only at hSw); go_split_ands; go_simp; (try with_reducible rfl)); (try simp only [Act.put, List.setIfInBounds_toArray, List.set_cons_zero, List.set_cons_succ]))
          (refine WG.take (i := 4) (v := ?_) rfl (by kernel_rfl) (by kernel_rfl) (by kernel_rfl) (by kernel_rfl) (fun _ _ _ h => h) (Or.inl ⟨by rfl, ?_⟩) (by assumption) ?_; rotate_left; (intro w hSw; (try dsimp only at hSw); go_split_ands; go_simp; (try with_reducible rfl)); (try simp only [Act.put, List.setIfInBounds_toArray, List.set_cons_zero, List.set_cons_succ]))
          refine WG.one (i := 5) rfl (by kernel_rfl) (fun K hK => ?_)
          go_simp
          refine hK.out _ _ (by exact KB.out _ HDr.out) (fun hHeld => ?_)
          clear hK K
          (try simp only [Act.put, List.setIfInBounds_toArray, List.set_cons_zero, List.set_cons_succ])
          refine WG.last (i := 6) rfl (by kernel_rfl) (by kernel_rfl) (fun K hK => ?_)
          go_simp; refine (cPush w.heap.size gs _ xa _ (HL.out.ext (HE5.out.trans HDr.out)) (HL.out.ext (HE5.out.trans HDr.out)).lt HGL.out).mono ?_; rintro e6 w6 ⟨v6, rfl, hL6, hB6⟩; have HL6 := hid hL6; have HE6 : Hid (Ext w w6) := hid (Below.trans (HE.out.trans (HE5.out.trans HDr.out)) hB6); clear hL6 hB6; (try dsimp only)
          refine hK.out _ _ ?_
          clear hK K
          (try simp only [Act.put, List.setIfInBounds_toArray, List.set_cons_zero, List.set_cons_succ])
          refine WG.done (by kernel_rfl) ?_
          go_wp2
          go_roundw
          case rel => exact ⟨k + 1, _, by omega, by go_num, hid ⟨by rw [HST.out, HF.out]; exact HL6.out, HE6.out⟩⟩
          case measure => simp [intOf]; omega
        · have h1 : (id == xa) = false := by simp [ha]
          have h2 : (id == xb) = false := by simp [hb]
          have HF : Hid (foeOf id ⟨xa, xb⟩ = none) := hid (by unfold foeOf; rw [if_neg ha, if_neg hb])
          clear ha hb
          go_wp2
          rw [← hW5]
          clear hW5 y0 y1 y0f y1f k1 k1f c0r c1r
          go_roundw
          case rel => exact ⟨k + 1, gs, by omega, by go_num, hid ⟨by rw [HST.out, HF.out]; simpa using HL.out.ext HE5.out, HE.out.trans HE5.out⟩⟩
          case measure => simp [intOf]; omega
    · have hk' : k = ps.length := by omega
      subst hk'
      go_wp2
      go_ret
      have h1 := H.out.1
      rw [List.take_length] at h1
      exact ⟨_, gs, rfl, Nat.le_refl _, h1, H.out.2⟩

theorem elAt_inj {B : Nat} {gs : List Nat} (hn : gs.Nodup) {k j : Nat} (hk : k ≤ gs.length) (hj : j ≤ gs.length) (h : elAt B gs k = elAt B gs j) : k = j := by
  unfold elAt at h
  by_cases h1 : k < gs.length
  · by_cases h2 : j < gs.length
    · rw [if_pos h1, if_pos h2] at h
      injection h with h
      injection h with h
      injection h with h _ _
      rw [List.getD_eq_getElem?_getD, List.getElem?_eq_getElem h1, List.getD_eq_getElem?_getD, List.getElem?_eq_getElem h2] at h
      have h : gs[k] = gs[j] := h
      rcases Nat.lt_trichotomy k j with h3 | h3 | h3
      · exact absurd h (List.pairwise_iff_getElem.1 (List.nodup_iff_pairwise_ne.1 hn) k j h1 h2 h3)
      · exact h3
      · exact absurd h.symm (List.pairwise_iff_getElem.1 (List.nodup_iff_pairwise_ne.1 hn) j k h2 h1 h3)
    · rw [if_pos h1, if_neg h2] at h
      injection h with h
      cases h
  · by_cases h2 : j < gs.length
    · rw [if_neg h1, if_pos h2] at h
      injection h with h
      cases h
    · omega
open Classical in
/-- how far the list's end is -/
noncomputable def elRank (B : Nat) (gs : List Nat) (v : Value) : Nat := if h : ∃ k, k ≤ gs.length ∧ v = elAt B gs k then gs.length - Classical.choose h else 0
theorem elRank_at {B : Nat} {gs : List Nat} (hn : gs.Nodup) {k : Nat} (hk : k ≤ gs.length) : elRank B gs (elAt B gs k) = gs.length - k := by
  have h : ∃ j, j ≤ gs.length ∧ elAt B gs k = elAt B gs j := ⟨k, hk, rfl⟩
  unfold elRank
  rw [dif_pos h]
  have := Classical.choose_spec h
  rw [← elAt_inj hn hk this.1 this.2]
theorem foesIn_take_succ {es : List Int} {k : Nat} {e : Int} (h : es[k]? = some e) (ts : List TaskD) : foesIn (es.take (k + 1)) ts = (foesIn (es.take k) ts || hasId ts e) := by
  unfold foesIn hasId
  rw [take_snoc h, List.any_append]
  simp
theorem foesIn_hit {es : List Int} {k : Nat} {e : Int} (h : es[k]? = some e) {ts : List TaskD} (ht : hasId ts e = true) : foesIn es ts = true := by
  unfold foesIn
  rw [List.any_eq_true]
  exact ⟨e, List.mem_of_getElem? h, ht⟩

set_option maxHeartbeats 2000000 in
theorem iFoesIn (B : Nat) (gs : List Nat) (es : List Int) (bv : Value) (ts : List TaskD) (w : World) (h : Lst w B gs es) (hb : RT w bv ts) (hl : gs.length ≤ 1000000) :
    Calls Try.prog 82 #[elP B, bv] w (RetB w (foesIn es ts)) := by
  obtain ⟨A, c, rfl, hc, hc', hg⟩ := RT.get hb
  have HL := hid h
  have HG := hid hg
  clear h hb hg
  go_enter Try.func82, Try.ntmps82
  go_wp2_with (go_at_call 111; refine (cFront B gs es _ HL.out hl).mono ?_; rintro e1 w1 ⟨rfl, hw1⟩; obtain rfl : w = w1 := hw1.symm)
  obtain ⟨F0, hF0⟩ : ∃ F0, F0 = elAt B gs 0 := ⟨_, rfl⟩
  rw [← hF0]
  go_loopw [5] (fun x wr => ∃ k : Nat, k ≤ gs.length ∧ x = elAt B gs k ∧ Hid (foesIn (es.take k) ts = false ∧ Ext w wr)) (fun x _ => elRank B gs x)
  case atStart => exact ⟨0, Nat.zero_le _, hF0, hid ⟨rfl, Ext.refl _⟩⟩
  case round =>
    clear hF0
    obtain ⟨k, hk, rfl, H⟩ := hrel
    by_cases hlt : k < gs.length
    · obtain ⟨G, hG⟩ : ∃ G, G = gs.getD k B := ⟨_, rfl⟩
      have hx : elAt B gs k = elP G := by unfold elAt; rw [if_pos hlt, hG]
      obtain ⟨e, he⟩ : ∃ e, es[k]? = some e := ⟨_, List.getElem?_eq_getElem (by have := HL.out.len; omega)⟩
      have hob := HL.out.el k e he
      rw [← hG] at hob
      have HE := hid H.out.2
      have HGO := hid hob
      have HEE := hid he
      have HXX := hid hx
      have HGG := hid hG
      have HLT := hid hlt
      rw [hx]
      clear hob he hx hG hlt
      go_wp2
      go_loopw [18] (fun i wr2 => ∃ j : Nat, j ≤ ts.length ∧ i = .int .i64 j ∧ Hid (hasId (ts.take j) e = false ∧ Ext wr wr2)) (fun i _ => ts.length - (intOf i).toNat)
      case atStart => exact ⟨0, Nat.zero_le _, rfl, hid ⟨rfl, Ext.refl _⟩⟩
      case round =>
        obtain ⟨j, hj, rfl, HJ⟩ := hrel
        by_cases hjl : j < ts.length
        · obtain ⟨b0, o0, y, An, cn, rfl, ey, d0, d1, _⟩ := HG.out j hjl
          have i1 : (j : Int) < (ts.length : Int) := by omega
          have i0 : (0 : Int) ≤ (j : Int) := by omega
          have HE2 := hid (HE.out.trans HJ.out.2)
          have d0r := HE2.out.cell d0
          have d1r := HE2.out.cell d1
          obtain ⟨yi, yn⟩ := y
          obtain ⟨y0, y1, y0f, y1f, k1, k1f, hkk, _⟩ := box2 (heap_alloc_new wr (.cells #[.int .i64 0, .slice none 0 0] 34)) (.int .i64 yi) (.slice An yn.length cn)
          obtain ⟨W5, hW5⟩ : ∃ W5, W5 = wr.alloc (.cells #[.int .i64 yi, .slice An yn.length cn] 34) := ⟨_, rfl⟩
          have hE5 : Ext wr W5 := by rw [hW5]; exact Ext.alloc _ _
          have hxb : W5.heap[wr.heap.size]? = some (.cells #[.int .i64 yi, .slice An yn.length cn] 34 (0, 0)) := by rw [hW5]; exact heap_alloc_new _ _
          have KB : Hid (∀ w', Ext W5 w' → w'.cell? ⟨wr.heap.size, 0, none⟩ = some (.int .i64 yi) ∧ w'.cell? ⟨G, 3, none⟩ = some (elV e)) := hid fun w' hw => ⟨obj_cell (hw.obj hxb) (i := 0) rfl, obj_cell ((HE2.out.trans (hE5.trans hw)).obj HGO.out) (i := 3) rfl⟩
          have HE5 := hid hE5
          have HDr : Hid (Ext W5 W5.drew) := hid (Below.drew (Below.refl _ _))
          have HSU := hid (hasId_take_succ ey.out e)
          clear hkk d0 d1 hxb hE5
          go_wp2
          rw [← hW5]
          clear hW5 y0 y1 y0f y1f k1 k1f d0r d1r
          cases hye : (yi == e) with
          | true =>
            have HYE := hid hye
            have HT : Hid (foesIn es ts = true) := hid (foesIn_hit HEE.out (hasId_hit (n := ts.length) ey.out hjl (by simpa using hye) |> fun h => by rwa [List.take_length] at h))
            refine WG.start (fun w' => w'.cell? ⟨wr.heap.size, 0, none⟩ = some (.int .i64 yi) ∧ w'.cell? ⟨G, 3, none⟩ = some (elV e)) [7] (by kernel_rfl) (by exact KB.out _ HDr.out) (fun hHeld => ?_)
            (refine WG.take (i := 0) (v := ?_) rfl (by kernel_rfl) (by kernel_rfl) (by kernel_rfl) (by kernel_rfl) (fun _ _ _ h => h) (Or.inl ⟨by rfl, ?_⟩) (by assumption) ?_; rotate_left; (intro w hSw; (try dsimp only at hSw); go_split_ands; go_simp; (try with_reducible rfl)); (try simp only [Act.put, List.setIfInBounds_toArray, List.set_cons_zero, List.set_cons_succ]))
            (refine WG.take (i := 1) (v := ?_) rfl (by kernel_rfl) (by kernel_rfl) (by kernel_rfl) (by kernel_rfl) (fun _ _ _ h => h) (Or.inl ⟨by rfl, ?_⟩) (by assumption) ?_; rotate_left; (intro w hSw; (try dsimp only at hSw); go_split_ands; go_simp; (try with_reducible rfl)); (try simp only [Act.put, List.setIfInBounds_toArray, List.set_cons_zero, List.set_cons_succ]))
            (refine WG.take (i := 2) (v := ?_) rfl (by kernel_rfl) (by kernel_rfl) (by kernel_rfl) (by kernel_rfl) (fun _ _ _ h => h) (Or.inl ⟨by rfl, ?_⟩) (by assumption) ?_; rotate_left; (intro w hSw; (try dsimp only at hSw); go_split_ands; go_simp; (try with_reducible rfl)); (try simp only [Act.put, List.setIfInBounds_toArray, List.set_cons_zero, List.set_cons_succ]))
            (refine WG.take (i := 3) (v := ?_) rfl (by kernel_rfl) (by kernel_rfl) (by kernel_rfl) (by kernel_rfl) (fun _ _ _ h => h) (Or.inl ⟨by rfl, ?_⟩) (by assumption) ?_; rotate_left; (intro w hSw; (try dsimp only at hSw); go_split_ands; go_simp; (try with_reducible rfl)); (try simp only [Act.put, List.setIfInBounds_toArray, List.set_cons_zero, List.set_cons_succ]))
            (refine WG.take (i := 4) (v := ?_) rfl (by kernel_rfl) (by kernel_rfl) (by kernel_rfl) (by kernel_rfl) (fun _ _ _ h => h) (Or.inl ⟨by rfl, ?_⟩) (by assumption) ?_; rotate_left; (intro w hSw; (try dsimp only at hSw); go_split_ands; go_simp; (try with_reducible rfl)); (try simp only [Act.put, List.setIfInBounds_toArray, List.set_cons_zero, List.set_cons_succ]))
            (refine WG.take (i := 5) (v := ?_) rfl (by kernel_rfl) (by kernel_rfl) (by kernel_rfl) (by kernel_rfl) (fun _ _ _ h => h) (Or.inl ⟨by rfl, ?_⟩) (by assumption) ?_; rotate_left; (intro w hSw; (try dsimp only at hSw); go_split_ands; go_simp; (try with_reducible rfl)); (try simp only [Act.put, List.setIfInBounds_toArray, List.set_cons_zero, List.set_cons_succ]))
            refine WG.one (i := 6) rfl (by kernel_rfl) (fun K hK => ?_)
            go_simp
            refine hK.out _ _ (by exact KB.out _ HDr.out) (fun hHeld => ?_)
            clear hK K
            (try simp only [Act.put, List.setIfInBounds_toArray, List.set_cons_zero, List.set_cons_succ])
            (try rw [HYE.out])
            refine WG.last (i := 7) rfl (by kernel_rfl) (by kernel_rfl) (fun K hK => ?_)
            go_simp
            refine hK.out _ _ ?_
            clear hK K
            (try simp only [Act.put, List.setIfInBounds_toArray, List.set_cons_zero, List.set_cons_succ])
            refine WG.done (by kernel_rfl) ?_
            go_wp2
            go_ret
            rw [HT.out]
            exact ⟨rfl, HE2.out.trans (HE5.out.trans HDr.out)⟩
          | false =>
            have HYE := hid hye
            refine WG.start (fun w' => w'.cell? ⟨wr.heap.size, 0, none⟩ = some (.int .i64 yi) ∧ w'.cell? ⟨G, 3, none⟩ = some (elV e)) [7] (by kernel_rfl) (by exact KB.out _ HDr.out) (fun hHeld => ?_)
            (refine WG.take (i := 0) (v := ?_) rfl (by kernel_rfl) (by kernel_rfl) (by kernel_rfl) (by kernel_rfl) (fun _ _ _ h => h) (Or.inl ⟨by rfl, ?_⟩) (by assumption) ?_; rotate_left; (intro w hSw; (try dsimp only at hSw); go_split_ands; go_simp; (try with_reducible rfl)); (try simp only [Act.put, List.setIfInBounds_toArray, List.set_cons_zero, List.set_cons_succ]))
            (refine WG.take (i := 1) (v := ?_) rfl (by kernel_rfl) (by kernel_rfl) (by kernel_rfl) (by kernel_rfl) (fun _ _ _ h => h) (Or.inl ⟨by rfl, ?_⟩) (by assumption) ?_; rotate_left; (intro w hSw; (try dsimp only at hSw); go_split_ands; go_simp; (try with_reducible rfl)); (try simp only [Act.put, List.setIfInBounds_toArray, List.set_cons_zero, List.set_cons_succ]))
            (refine WG.take (i := 2) (v := ?_) rfl (by kernel_rfl) (by kernel_rfl) (by kernel_rfl) (by kernel_rfl) (fun _ _ _ h => h) (Or.inl ⟨by rfl, ?_⟩) (by assumption) ?_; rotate_left; (intro w hSw; (try dsimp only at hSw); go_split_ands; go_simp; (try with_reducible rfl)); (try simp only [Act.put, List.setIfInBounds_toArray, List.set_cons_zero, List.set_cons_succ]))
            (refine WG.take (i := 3) (v := ?_) rfl (by kernel_rfl) (by kernel_rfl) (by kernel_rfl) (by kernel_rfl) (fun _ _ _ h => h) (Or.inl ⟨by rfl, ?_⟩) (by assumption) ?_; rotate_left; (intro w hSw; (try dsimp only at hSw); go_split_ands; go_simp; (try with_reducible rfl)); (try simp only [Act.put, List.setIfInBounds_toArray, List.set_cons_zero, List.set_cons_succ]))
            (refine WG.take (i := 4) (v := ?_) rfl (by kernel_rfl) (by kernel_rfl) (by kernel_rfl) (by kernel_rfl) (fun _ _ _ h => h) (Or.inl ⟨by rfl, ?_⟩) (by assumption) ?_; rotate_left; (intro w hSw; (try dsimp only at hSw); go_split_ands; go_simp; (try with_reducible rfl)); (try simp only [Act.put, List.setIfInBounds_toArray, List.set_cons_zero, List.set_cons_succ]))
            (refine WG.take (i := 5) (v := ?_) rfl (by kernel_rfl) (by kernel_rfl) (by kernel_rfl) (by kernel_rfl) (fun _ _ _ h => h) (Or.inl ⟨by rfl, ?_⟩) (by assumption) ?_; rotate_left; (intro w hSw; (try dsimp only at hSw); go_split_ands; go_simp; (try with_reducible rfl)); (try simp only [Act.put, List.setIfInBounds_toArray, List.set_cons_zero, List.set_cons_succ]))
            refine WG.one (i := 6) rfl (by kernel_rfl) (fun K hK => ?_)
            go_simp
            refine hK.out _ _ (by exact KB.out _ HDr.out) (fun hHeld => ?_)
            clear hK K
            (try simp only [Act.put, List.setIfInBounds_toArray, List.set_cons_zero, List.set_cons_succ])
            (try rw [HYE.out])
            refine WG.last (i := 7) rfl (by kernel_rfl) (by kernel_rfl) (fun K hK => ?_)
            go_simp
            refine hK.out _ _ ?_
            clear hK K
            (try simp only [Act.put, List.setIfInBounds_toArray, List.set_cons_zero, List.set_cons_succ])
            refine WG.done (by kernel_rfl) ?_
            go_wp2
            go_roundw
            case rel => exact ⟨j + 1, by omega, by go_num, hid ⟨by rw [HSU.out, HJ.out.1]; exact HYE.out, HJ.out.2.trans (HE5.out.trans HDr.out)⟩⟩
            case measure => simp [intOf]; omega
        · have hj' : j = ts.length := by omega
          have HJ' := hid hj'
          clear hj'
          have HE2 := hid (HE.out.trans HJ.out.2)
          go_wp2_with (go_at_call 112; rw [HGG.out]; refine (cNext B gs es k _ (HL.out.ext HE2.out) HLT.out).mono ?_; rintro e1 w1 ⟨rfl, hw1⟩; subst hw1)
          go_roundw
          case rel => exact ⟨k + 1, HLT.out, rfl, hid ⟨by
            have h1 := HJ.out.1
            rw [HJ'.out, List.take_length] at h1
            rw [foesIn_take_succ HEE.out, H.out.1, h1]; rfl, HE2.out⟩⟩
          case measure =>
            rw [← HXX.out, elRank_at HL.out.nd hk, elRank_at HL.out.nd HLT.out]
            have := HLT.out
            omega
    · have hx : elAt B gs k = .pointer none := by unfold elAt; rw [if_neg hlt]
      have HXX := hid hx
      rw [hx]
      clear hx
      go_wp2
      go_ret
      have h1 := H.out.1
      rw [List.take_of_length_le (by have := HL.out.len; omega)] at h1
      rw [h1]
      exact ⟨rfl, H.out.2⟩

end Go.Proofs.Ytoaabinpdjcimaa
