/- FewestAll of the reference and of the program. (Printed by genof1.py.) -/
import Derived.Test.YtllchacophapoaaDoorK34
import Derived.Test.YtllchacophapoaaDoorK35
namespace Go.Proofs.YtllchacophapoaaDoor
open Go.RowKit
set_option maxRecDepth 4000

theorem iPackFirst (room : List Int) (ts : List TaskD) (Ar : Option Addr) (cr : Nat) (At : Option Addr) (ct : Nat) (w : World) (hR : RI w (.slice Ar room.length cr) room) (h : RT w (.slice At ts.length ct) ts) (hids : ∀ t ∈ ts, IdR t.id) :
    Calls Tryd.prog 54 #[.agg #[.slice Ar room.length cr, .slice At ts.length ct]] w (RetDB (firstAllN room ts) w) := by
  have HR := hid hR
  have HT := hid h
  have HID := hid hids
  obtain ⟨W, hW⟩ : ∃ W, W = w.alloc (.cells #[.slice Ar room.length cr, .slice At ts.length ct] 72) := ⟨_, rfl⟩
  have hbx : W.heap[w.heap.size]? = some (.cells #[.slice Ar room.length cr, .slice At ts.length ct] 72 (0, 0)) := by rw [hW]; exact heap_alloc_new _ _
  have q0 := obj_cell hbx (i := 0) rfl
  have q1 := obj_cell hbx (i := 1) rfl
  have hEW : Ext w W := by rw [hW]; exact Ext.alloc _ _
  have HEW := hid hEW
  clear hR h hids hbx hEW
  rw [hW] at q0 q1
  go_enter Tryd.func54, Tryd.ntmps54
  go_wp2_with (go_at_call 79; rw [← hW]; refine (iFirstAll _ _ room ts _ (RI.ext HR.out HEW.out) (RT.ext HT.out HEW.out) HID.out).mono ?_; rintro e w2 ⟨v2, rfl, hB2, hE2⟩; have HB2 := hid (hB2.low HEW.out.size); have HE2 := hid (HEW.out.trans hE2); clear hB2 hE2)
  go_ret
  exact ⟨_, rfl, HB2.out, HE2.out⟩
theorem iPackBest (room : List Int) (ts : List TaskD) (Ar : Option Addr) (cr : Nat) (At : Option Addr) (ct : Nat) (w : World) (hR : RI w (.slice Ar room.length cr) room) (h : RT w (.slice At ts.length ct) ts) (hids : ∀ t ∈ ts, IdR t.id) :
    Calls Tryd.prog 55 #[.agg #[.slice Ar room.length cr, .slice At ts.length ct]] w (RetDB (bestAllN room ts) w) := by
  have HR := hid hR
  have HT := hid h
  have HID := hid hids
  obtain ⟨W, hW⟩ : ∃ W, W = w.alloc (.cells #[.slice Ar room.length cr, .slice At ts.length ct] 72) := ⟨_, rfl⟩
  have hbx : W.heap[w.heap.size]? = some (.cells #[.slice Ar room.length cr, .slice At ts.length ct] 72 (0, 0)) := by rw [hW]; exact heap_alloc_new _ _
  have q0 := obj_cell hbx (i := 0) rfl
  have q1 := obj_cell hbx (i := 1) rfl
  have hEW : Ext w W := by rw [hW]; exact Ext.alloc _ _
  have HEW := hid hEW
  clear hR h hids hbx hEW
  rw [hW] at q0 q1
  go_enter Tryd.func55, Tryd.ntmps55
  go_wp2_with (go_at_call 80; rw [← hW]; refine (iBestAll _ _ room ts _ (RI.ext HR.out HEW.out) (RT.ext HT.out HEW.out) HID.out).mono ?_; rintro e w2 ⟨v2, rfl, hB2, hE2⟩; have HB2 := hid (hB2.low HEW.out.size); have HE2 := hid (HEW.out.trans hE2); clear hB2 hE2)
  go_ret
  exact ⟨_, rfl, HB2.out, HE2.out⟩
theorem iPackDown (room : List Int) (ts : List TaskD) (Ar : Option Addr) (cr : Nat) (At : Option Addr) (ct : Nat) (w : World) (hR : RI w (.slice Ar room.length cr) room) (h : RT w (.slice At ts.length ct) ts) (hids : ∀ t ∈ ts, IdR t.id) :
    Calls Tryd.prog 56 #[.agg #[.slice Ar room.length cr, .slice At ts.length ct]] w (RetDB (downAllN room ts) w) := by
  have HR := hid hR
  have HT := hid h
  have HID := hid hids
  obtain ⟨W, hW⟩ : ∃ W, W = w.alloc (.cells #[.slice Ar room.length cr, .slice At ts.length ct] 72) := ⟨_, rfl⟩
  have hbx : W.heap[w.heap.size]? = some (.cells #[.slice Ar room.length cr, .slice At ts.length ct] 72 (0, 0)) := by rw [hW]; exact heap_alloc_new _ _
  have q0 := obj_cell hbx (i := 0) rfl
  have q1 := obj_cell hbx (i := 1) rfl
  have hEW : Ext w W := by rw [hW]; exact Ext.alloc _ _
  have HEW := hid hEW
  clear hR h hids hbx hEW
  rw [hW] at q0 q1
  go_enter Tryd.func56, Tryd.ntmps56
  go_wp2_with (go_at_call 81; rw [← hW]; refine (iDownAll _ _ room ts _ (RI.ext HR.out HEW.out) (RT.ext HT.out HEW.out) HID.out).mono ?_; rintro e w2 ⟨v2, rfl, hB2, hE2⟩; have HB2 := hid (hB2.low HEW.out.size); have HE2 := hid (HEW.out.trans hE2); clear hB2 hE2)
  go_ret
  exact ⟨_, rfl, HB2.out, HE2.out⟩
theorem iPackDownBest (room : List Int) (ts : List TaskD) (Ar : Option Addr) (cr : Nat) (At : Option Addr) (ct : Nat) (w : World) (hR : RI w (.slice Ar room.length cr) room) (h : RT w (.slice At ts.length ct) ts) (hids : ∀ t ∈ ts, IdR t.id) :
    Calls Tryd.prog 57 #[.agg #[.slice Ar room.length cr, .slice At ts.length ct]] w (RetDB (downBestN room ts) w) := by
  have HR := hid hR
  have HT := hid h
  have HID := hid hids
  obtain ⟨W, hW⟩ : ∃ W, W = w.alloc (.cells #[.slice Ar room.length cr, .slice At ts.length ct] 72) := ⟨_, rfl⟩
  have hbx : W.heap[w.heap.size]? = some (.cells #[.slice Ar room.length cr, .slice At ts.length ct] 72 (0, 0)) := by rw [hW]; exact heap_alloc_new _ _
  have q0 := obj_cell hbx (i := 0) rfl
  have q1 := obj_cell hbx (i := 1) rfl
  have hEW : Ext w W := by rw [hW]; exact Ext.alloc _ _
  have HEW := hid hEW
  clear hR h hids hbx hEW
  rw [hW] at q0 q1
  go_enter Tryd.func57, Tryd.ntmps57
  go_wp2_with (go_at_call 82; rw [← hW]; refine (iDownBest _ _ room ts _ (RI.ext HR.out HEW.out) (RT.ext HT.out HEW.out) HID.out).mono ?_; rintro e w2 ⟨v2, rfl, hB2, hE2⟩; have HB2 := hid (hB2.low HEW.out.size); have HE2 := hid (HEW.out.trans hE2); clear hB2 hE2)
  go_ret
  exact ⟨_, rfl, HB2.out, HE2.out⟩

set_option maxHeartbeats 4000000 in
theorem iFewestAll (rv v : Value) (room : List Int) (ts : List TaskD) (w : World) (hR : RI w rv room) (h : RT w v ts) (hids : ∀ t ∈ ts, IdR t.id) :
    Calls Tryd.prog 28 #[rv, v] w (RetDB (fewestN room ts) w) := by
  have HR := hid hR
  have HT := hid h
  have HID := hid hids
  obtain ⟨Ar, cr, rfl, _⟩ := hR
  obtain ⟨At, ct, rfl, _⟩ := RT.get h
  clear h hids
  have hmf : ∀ (fn : Fn) (first cap : Array Value) (w : World), (Instr.makeFunc fn first cap).run Tryd.prog w = .ok (.func fn first cap) w := fun _ _ _ _ => rfl
  cases hq : tasksOk room ts with
  | false =>
    have HS := hid (fewestN_bad hq)
    go_enter Tryd.func28, Tryd.ntmps28
    go_wp2_with (go_at_call 49; refine (iTasksValid _ _ room ts _ HR.out HT.out HID.out).mono ?_; rw [hq]; rintro e w1 ⟨rfl, hE1⟩; have HE1 := hid hE1; clear hE1)
    go_ret
    exact ⟨_, rfl, by rw [HS.out]; exact DB.none_ _ _, HE1.out⟩
  | true =>
    obtain ⟨R0, hR0⟩ : ∃ R, R = firstAllN room ts := ⟨_, rfl⟩
    obtain ⟨R1, hR1⟩ : ∃ R, R = bestAllN room ts := ⟨_, rfl⟩
    obtain ⟨R2, hR2⟩ : ∃ R, R = downAllN room ts := ⟨_, rfl⟩
    obtain ⟨R3, hR3⟩ : ∃ R, R = downBestN room ts := ⟨_, rfl⟩
    have HF : Hid (fewestN room ts = fewer (fewer (fewer R0 R1) R2) R3) := hid (by rw [hR0, hR1, hR2, hR3]; rfl)
    have H0 := hid hR0
    have H1 := hid hR1
    have H2 := hid hR2
    have H3 := hid hR3
    clear hR0 hR1 hR2 hR3
    by_cases h1 : R1.length < R0.length
    · have i1 : (R1.length : Int) < (R0.length : Int) := by omega
      have e1 := hid (show fewer R0 R1 = R1 from if_pos h1)
      clear h1
      by_cases h2 : R2.length < R1.length
      · have i2 : (R2.length : Int) < (R1.length : Int) := by omega
        have e2 := hid (show fewer R1 R2 = R2 from if_pos h2)
        clear h2
        by_cases h3 : R3.length < R2.length
        · have i3 : (R3.length : Int) < (R2.length : Int) := by omega
          have e3 := hid (show fewer R2 R3 = R3 from if_pos h3)
          clear h3
          go_enter Tryd.func28, Tryd.ntmps28
          go_wp2_with (first
            | (go_at_call 49; refine (iTasksValid _ _ room ts _ HR.out HT.out HID.out).mono ?_; rw [hq]; rintro e w1 ⟨rfl, hE1⟩; obtain ⟨y0, y1, y0f, y1f, k1, k1f, _, _⟩ := box2 (heap_alloc_new w1 (.cells #[.slice none 0 0, .slice none 0 0] 72)) (.slice Ar room.length cr) (.slice At ts.length ct); have pbx := hid (heap_alloc_new w1 (.cells #[.slice Ar room.length cr, .slice At ts.length ct] 72)); have p0 : (w1.alloc (.cells #[.slice Ar room.length cr, .slice At ts.length ct] 72)).cell? ⟨w1.heap.size, 0, none⟩ = some (.slice Ar room.length cr) := obj_cell pbx.out (i := 0) rfl; have p1 : (w1.alloc (.cells #[.slice Ar room.length cr, .slice At ts.length ct] 72)).cell? ⟨w1.heap.size, 1, none⟩ = some (.slice At ts.length ct) := obj_cell pbx.out (i := 1) rfl; have HE1 := hid (hE1.trans (Ext.alloc w1 (.cells #[.slice Ar room.length cr, .slice At ts.length ct] 72))); clear hE1)
            | (go_at_call 54; refine (iPackFirst room ts Ar cr At ct _ (RI.ext HR.out HE1.out) (RT.ext HT.out HE1.out) HID.out).mono ?_; rw [← H0.out]; rintro e w2 ⟨v2, rfl, hB2, hE2⟩; obtain ⟨A2, c2, rfl⟩ := DB.form hB2; have HB0 := hid (hB2.low HE1.out.size); have HE2 := hid (HE1.out.trans hE2); have r0 : w2.cell? ⟨w1.heap.size, 0, none⟩ = some (.slice Ar room.length cr) := obj_cell (hE2.obj pbx.out) (i := 0) rfl; have r1 : w2.cell? ⟨w1.heap.size, 1, none⟩ = some (.slice At ts.length ct) := obj_cell (hE2.obj pbx.out) (i := 1) rfl; clear hB2 hE2 y0 y1 y0f y1f k1 k1f p0 p1))
          obtain ⟨w3, hw3⟩ : ∃ x, x = w2.alloc (.cells #[.func (.func 55) #[.agg #[.slice Ar room.length cr, .slice At ts.length ct]] #[], .func (.func 56) #[.agg #[.slice Ar room.length cr, .slice At ts.length ct]] #[], .func (.func 57) #[.agg #[.slice Ar room.length cr, .slice At ts.length ct]] #[]] 73) := ⟨_, rfl⟩
          have fbx : w3.heap[w2.heap.size]? = some (.cells #[.func (.func 55) #[.agg #[.slice Ar room.length cr, .slice At ts.length ct]] #[], .func (.func 56) #[.agg #[.slice Ar room.length cr, .slice At ts.length ct]] #[], .func (.func 57) #[.agg #[.slice Ar room.length cr, .slice At ts.length ct]] #[]] 73 (0, 0)) := by rw [hw3]; exact heap_alloc_new _ _
          have hE3 : Ext w2 w3 := by rw [hw3]; exact Ext.alloc _ _
          rw [← hw3]
          have KF : Hid (∀ w', Ext w3 w' → w'.cell? ⟨w2.heap.size, 0, none⟩ = some (.func (.func 55) #[.agg #[.slice Ar room.length cr, .slice At ts.length ct]] #[]) ∧ w'.cell? ⟨w2.heap.size, 1, none⟩ = some (.func (.func 56) #[.agg #[.slice Ar room.length cr, .slice At ts.length ct]] #[]) ∧ w'.cell? ⟨w2.heap.size, 2, none⟩ = some (.func (.func 57) #[.agg #[.slice Ar room.length cr, .slice At ts.length ct]] #[])) := hid fun w' hw => ⟨obj_cell (hw.obj fbx) (i := 0) rfl, obj_cell (hw.obj fbx) (i := 1) rfl, obj_cell (hw.obj fbx) (i := 2) rfl⟩
          have HB0 := hid (DB.ext HB0.out hE3)
          have HE3 := hid (HE2.out.trans hE3)
          have HG3 : Hid (Ext w3 w3) := hid (Ext.refl _)
          obtain ⟨f0, f1, f2⟩ := KF.out _ HG3.out
          clear fbx hE3 hw3 r0 r1 pbx hmf
          refine wp_loop_rounds 4 ?_
          rw [rounds_succ]
          go_wp2_with (first
            | (go_at_call 55; refine (iPackBest room ts Ar cr At ct _ (RI.ext HR.out HE3.out) (RT.ext HT.out HE3.out) HID.out).mono ?_; rw [← H1.out]; rintro e w4 ⟨v4, rfl, hB4, hE4⟩; obtain ⟨A4, c4, rfl⟩ := DB.form hB4; have HB0 := hid (DB.ext HB0.out hE4); have HB1 := hid (hB4.low HE3.out.size); have HE4 := hid (HE3.out.trans hE4); have HG4 := hid (HG3.out.trans hE4); obtain ⟨f0, f1, f2⟩ := KF.out _ HG4.out; clear hB4 hE4))
          rw [rounds_succ]
          go_wp2_with (first
            | (go_at_call 56; refine (iPackDown room ts Ar cr At ct _ (RI.ext HR.out HE4.out) (RT.ext HT.out HE4.out) HID.out).mono ?_; rw [← H2.out]; rintro e w5 ⟨v5, rfl, hB5, hE5⟩; obtain ⟨A5, c5, rfl⟩ := DB.form hB5; have HB0 := hid (DB.ext HB0.out hE5); have HB1 := hid (DB.ext HB1.out hE5); have HB2 := hid (hB5.low HE4.out.size); have HE5 := hid (HE4.out.trans hE5); have HG5 := hid (HG4.out.trans hE5); obtain ⟨f0, f1, f2⟩ := KF.out _ HG5.out; clear hB5 hE5))
          rw [rounds_succ]
          go_wp2_with (first
            | (go_at_call 57; refine (iPackDownBest room ts Ar cr At ct _ (RI.ext HR.out HE5.out) (RT.ext HT.out HE5.out) HID.out).mono ?_; rw [← H3.out]; rintro e w6 ⟨v6, rfl, hB6, hE6⟩; obtain ⟨A6, c6, rfl⟩ := DB.form hB6; have HB0 := hid (DB.ext HB0.out hE6); have HB1 := hid (DB.ext HB1.out hE6); have HB2 := hid (DB.ext HB2.out hE6); have HB3 := hid (hB6.low HE5.out.size); have HE6 := hid (HE5.out.trans hE6); have HG6 := hid (HG5.out.trans hE6); obtain ⟨f0, f1, f2⟩ := KF.out _ HG6.out; clear hB6 hE6))
          rw [rounds_succ]
          go_wp2
          go_ret
          exact ⟨_, rfl, by rw [HF.out, e1.out, e2.out, e3.out]; exact HB3.out, HE6.out⟩
        · have i3 : ¬ (R3.length : Int) < (R2.length : Int) := by omega
          have e3 := hid (show fewer R2 R3 = R2 from if_neg h3)
          clear h3
          go_enter Tryd.func28, Tryd.ntmps28
          go_wp2_with (first
            | (go_at_call 49; refine (iTasksValid _ _ room ts _ HR.out HT.out HID.out).mono ?_; rw [hq]; rintro e w1 ⟨rfl, hE1⟩; obtain ⟨y0, y1, y0f, y1f, k1, k1f, _, _⟩ := box2 (heap_alloc_new w1 (.cells #[.slice none 0 0, .slice none 0 0] 72)) (.slice Ar room.length cr) (.slice At ts.length ct); have pbx := hid (heap_alloc_new w1 (.cells #[.slice Ar room.length cr, .slice At ts.length ct] 72)); have p0 : (w1.alloc (.cells #[.slice Ar room.length cr, .slice At ts.length ct] 72)).cell? ⟨w1.heap.size, 0, none⟩ = some (.slice Ar room.length cr) := obj_cell pbx.out (i := 0) rfl; have p1 : (w1.alloc (.cells #[.slice Ar room.length cr, .slice At ts.length ct] 72)).cell? ⟨w1.heap.size, 1, none⟩ = some (.slice At ts.length ct) := obj_cell pbx.out (i := 1) rfl; have HE1 := hid (hE1.trans (Ext.alloc w1 (.cells #[.slice Ar room.length cr, .slice At ts.length ct] 72))); clear hE1)
            | (go_at_call 54; refine (iPackFirst room ts Ar cr At ct _ (RI.ext HR.out HE1.out) (RT.ext HT.out HE1.out) HID.out).mono ?_; rw [← H0.out]; rintro e w2 ⟨v2, rfl, hB2, hE2⟩; obtain ⟨A2, c2, rfl⟩ := DB.form hB2; have HB0 := hid (hB2.low HE1.out.size); have HE2 := hid (HE1.out.trans hE2); have r0 : w2.cell? ⟨w1.heap.size, 0, none⟩ = some (.slice Ar room.length cr) := obj_cell (hE2.obj pbx.out) (i := 0) rfl; have r1 : w2.cell? ⟨w1.heap.size, 1, none⟩ = some (.slice At ts.length ct) := obj_cell (hE2.obj pbx.out) (i := 1) rfl; clear hB2 hE2 y0 y1 y0f y1f k1 k1f p0 p1))
          obtain ⟨w3, hw3⟩ : ∃ x, x = w2.alloc (.cells #[.func (.func 55) #[.agg #[.slice Ar room.length cr, .slice At ts.length ct]] #[], .func (.func 56) #[.agg #[.slice Ar room.length cr, .slice At ts.length ct]] #[], .func (.func 57) #[.agg #[.slice Ar room.length cr, .slice At ts.length ct]] #[]] 73) := ⟨_, rfl⟩
          have fbx : w3.heap[w2.heap.size]? = some (.cells #[.func (.func 55) #[.agg #[.slice Ar room.length cr, .slice At ts.length ct]] #[], .func (.func 56) #[.agg #[.slice Ar room.length cr, .slice At ts.length ct]] #[], .func (.func 57) #[.agg #[.slice Ar room.length cr, .slice At ts.length ct]] #[]] 73 (0, 0)) := by rw [hw3]; exact heap_alloc_new _ _
          have hE3 : Ext w2 w3 := by rw [hw3]; exact Ext.alloc _ _
          rw [← hw3]
          have KF : Hid (∀ w', Ext w3 w' → w'.cell? ⟨w2.heap.size, 0, none⟩ = some (.func (.func 55) #[.agg #[.slice Ar room.length cr, .slice At ts.length ct]] #[]) ∧ w'.cell? ⟨w2.heap.size, 1, none⟩ = some (.func (.func 56) #[.agg #[.slice Ar room.length cr, .slice At ts.length ct]] #[]) ∧ w'.cell? ⟨w2.heap.size, 2, none⟩ = some (.func (.func 57) #[.agg #[.slice Ar room.length cr, .slice At ts.length ct]] #[])) := hid fun w' hw => ⟨obj_cell (hw.obj fbx) (i := 0) rfl, obj_cell (hw.obj fbx) (i := 1) rfl, obj_cell (hw.obj fbx) (i := 2) rfl⟩
          have HB0 := hid (DB.ext HB0.out hE3)
          have HE3 := hid (HE2.out.trans hE3)
          have HG3 : Hid (Ext w3 w3) := hid (Ext.refl _)
          obtain ⟨f0, f1, f2⟩ := KF.out _ HG3.out
          clear fbx hE3 hw3 r0 r1 pbx hmf
          refine wp_loop_rounds 4 ?_
          rw [rounds_succ]
          go_wp2_with (first
            | (go_at_call 55; refine (iPackBest room ts Ar cr At ct _ (RI.ext HR.out HE3.out) (RT.ext HT.out HE3.out) HID.out).mono ?_; rw [← H1.out]; rintro e w4 ⟨v4, rfl, hB4, hE4⟩; obtain ⟨A4, c4, rfl⟩ := DB.form hB4; have HB0 := hid (DB.ext HB0.out hE4); have HB1 := hid (hB4.low HE3.out.size); have HE4 := hid (HE3.out.trans hE4); have HG4 := hid (HG3.out.trans hE4); obtain ⟨f0, f1, f2⟩ := KF.out _ HG4.out; clear hB4 hE4))
          rw [rounds_succ]
          go_wp2_with (first
            | (go_at_call 56; refine (iPackDown room ts Ar cr At ct _ (RI.ext HR.out HE4.out) (RT.ext HT.out HE4.out) HID.out).mono ?_; rw [← H2.out]; rintro e w5 ⟨v5, rfl, hB5, hE5⟩; obtain ⟨A5, c5, rfl⟩ := DB.form hB5; have HB0 := hid (DB.ext HB0.out hE5); have HB1 := hid (DB.ext HB1.out hE5); have HB2 := hid (hB5.low HE4.out.size); have HE5 := hid (HE4.out.trans hE5); have HG5 := hid (HG4.out.trans hE5); obtain ⟨f0, f1, f2⟩ := KF.out _ HG5.out; clear hB5 hE5))
          rw [rounds_succ]
          go_wp2_with (first
            | (go_at_call 57; refine (iPackDownBest room ts Ar cr At ct _ (RI.ext HR.out HE5.out) (RT.ext HT.out HE5.out) HID.out).mono ?_; rw [← H3.out]; rintro e w6 ⟨v6, rfl, hB6, hE6⟩; obtain ⟨A6, c6, rfl⟩ := DB.form hB6; have HB0 := hid (DB.ext HB0.out hE6); have HB1 := hid (DB.ext HB1.out hE6); have HB2 := hid (DB.ext HB2.out hE6); have HB3 := hid (hB6.low HE5.out.size); have HE6 := hid (HE5.out.trans hE6); have HG6 := hid (HG5.out.trans hE6); obtain ⟨f0, f1, f2⟩ := KF.out _ HG6.out; clear hB6 hE6))
          rw [rounds_succ]
          go_wp2
          go_ret
          exact ⟨_, rfl, by rw [HF.out, e1.out, e2.out, e3.out]; exact HB2.out, HE6.out⟩
      · have i2 : ¬ (R2.length : Int) < (R1.length : Int) := by omega
        have e2 := hid (show fewer R1 R2 = R1 from if_neg h2)
        clear h2
        by_cases h3 : R3.length < R1.length
        · have i3 : (R3.length : Int) < (R1.length : Int) := by omega
          have e3 := hid (show fewer R1 R3 = R3 from if_pos h3)
          clear h3
          go_enter Tryd.func28, Tryd.ntmps28
          go_wp2_with (first
            | (go_at_call 49; refine (iTasksValid _ _ room ts _ HR.out HT.out HID.out).mono ?_; rw [hq]; rintro e w1 ⟨rfl, hE1⟩; obtain ⟨y0, y1, y0f, y1f, k1, k1f, _, _⟩ := box2 (heap_alloc_new w1 (.cells #[.slice none 0 0, .slice none 0 0] 72)) (.slice Ar room.length cr) (.slice At ts.length ct); have pbx := hid (heap_alloc_new w1 (.cells #[.slice Ar room.length cr, .slice At ts.length ct] 72)); have p0 : (w1.alloc (.cells #[.slice Ar room.length cr, .slice At ts.length ct] 72)).cell? ⟨w1.heap.size, 0, none⟩ = some (.slice Ar room.length cr) := obj_cell pbx.out (i := 0) rfl; have p1 : (w1.alloc (.cells #[.slice Ar room.length cr, .slice At ts.length ct] 72)).cell? ⟨w1.heap.size, 1, none⟩ = some (.slice At ts.length ct) := obj_cell pbx.out (i := 1) rfl; have HE1 := hid (hE1.trans (Ext.alloc w1 (.cells #[.slice Ar room.length cr, .slice At ts.length ct] 72))); clear hE1)
            | (go_at_call 54; refine (iPackFirst room ts Ar cr At ct _ (RI.ext HR.out HE1.out) (RT.ext HT.out HE1.out) HID.out).mono ?_; rw [← H0.out]; rintro e w2 ⟨v2, rfl, hB2, hE2⟩; obtain ⟨A2, c2, rfl⟩ := DB.form hB2; have HB0 := hid (hB2.low HE1.out.size); have HE2 := hid (HE1.out.trans hE2); have r0 : w2.cell? ⟨w1.heap.size, 0, none⟩ = some (.slice Ar room.length cr) := obj_cell (hE2.obj pbx.out) (i := 0) rfl; have r1 : w2.cell? ⟨w1.heap.size, 1, none⟩ = some (.slice At ts.length ct) := obj_cell (hE2.obj pbx.out) (i := 1) rfl; clear hB2 hE2 y0 y1 y0f y1f k1 k1f p0 p1))
          obtain ⟨w3, hw3⟩ : ∃ x, x = w2.alloc (.cells #[.func (.func 55) #[.agg #[.slice Ar room.length cr, .slice At ts.length ct]] #[], .func (.func 56) #[.agg #[.slice Ar room.length cr, .slice At ts.length ct]] #[], .func (.func 57) #[.agg #[.slice Ar room.length cr, .slice At ts.length ct]] #[]] 73) := ⟨_, rfl⟩
          have fbx : w3.heap[w2.heap.size]? = some (.cells #[.func (.func 55) #[.agg #[.slice Ar room.length cr, .slice At ts.length ct]] #[], .func (.func 56) #[.agg #[.slice Ar room.length cr, .slice At ts.length ct]] #[], .func (.func 57) #[.agg #[.slice Ar room.length cr, .slice At ts.length ct]] #[]] 73 (0, 0)) := by rw [hw3]; exact heap_alloc_new _ _
          have hE3 : Ext w2 w3 := by rw [hw3]; exact Ext.alloc _ _
          rw [← hw3]
          have KF : Hid (∀ w', Ext w3 w' → w'.cell? ⟨w2.heap.size, 0, none⟩ = some (.func (.func 55) #[.agg #[.slice Ar room.length cr, .slice At ts.length ct]] #[]) ∧ w'.cell? ⟨w2.heap.size, 1, none⟩ = some (.func (.func 56) #[.agg #[.slice Ar room.length cr, .slice At ts.length ct]] #[]) ∧ w'.cell? ⟨w2.heap.size, 2, none⟩ = some (.func (.func 57) #[.agg #[.slice Ar room.length cr, .slice At ts.length ct]] #[])) := hid fun w' hw => ⟨obj_cell (hw.obj fbx) (i := 0) rfl, obj_cell (hw.obj fbx) (i := 1) rfl, obj_cell (hw.obj fbx) (i := 2) rfl⟩
          have HB0 := hid (DB.ext HB0.out hE3)
          have HE3 := hid (HE2.out.trans hE3)
          have HG3 : Hid (Ext w3 w3) := hid (Ext.refl _)
          obtain ⟨f0, f1, f2⟩ := KF.out _ HG3.out
          clear fbx hE3 hw3 r0 r1 pbx hmf
          refine wp_loop_rounds 4 ?_
          rw [rounds_succ]
          go_wp2_with (first
            | (go_at_call 55; refine (iPackBest room ts Ar cr At ct _ (RI.ext HR.out HE3.out) (RT.ext HT.out HE3.out) HID.out).mono ?_; rw [← H1.out]; rintro e w4 ⟨v4, rfl, hB4, hE4⟩; obtain ⟨A4, c4, rfl⟩ := DB.form hB4; have HB0 := hid (DB.ext HB0.out hE4); have HB1 := hid (hB4.low HE3.out.size); have HE4 := hid (HE3.out.trans hE4); have HG4 := hid (HG3.out.trans hE4); obtain ⟨f0, f1, f2⟩ := KF.out _ HG4.out; clear hB4 hE4))
          rw [rounds_succ]
          go_wp2_with (first
            | (go_at_call 56; refine (iPackDown room ts Ar cr At ct _ (RI.ext HR.out HE4.out) (RT.ext HT.out HE4.out) HID.out).mono ?_; rw [← H2.out]; rintro e w5 ⟨v5, rfl, hB5, hE5⟩; obtain ⟨A5, c5, rfl⟩ := DB.form hB5; have HB0 := hid (DB.ext HB0.out hE5); have HB1 := hid (DB.ext HB1.out hE5); have HB2 := hid (hB5.low HE4.out.size); have HE5 := hid (HE4.out.trans hE5); have HG5 := hid (HG4.out.trans hE5); obtain ⟨f0, f1, f2⟩ := KF.out _ HG5.out; clear hB5 hE5))
          rw [rounds_succ]
          go_wp2_with (first
            | (go_at_call 57; refine (iPackDownBest room ts Ar cr At ct _ (RI.ext HR.out HE5.out) (RT.ext HT.out HE5.out) HID.out).mono ?_; rw [← H3.out]; rintro e w6 ⟨v6, rfl, hB6, hE6⟩; obtain ⟨A6, c6, rfl⟩ := DB.form hB6; have HB0 := hid (DB.ext HB0.out hE6); have HB1 := hid (DB.ext HB1.out hE6); have HB2 := hid (DB.ext HB2.out hE6); have HB3 := hid (hB6.low HE5.out.size); have HE6 := hid (HE5.out.trans hE6); have HG6 := hid (HG5.out.trans hE6); obtain ⟨f0, f1, f2⟩ := KF.out _ HG6.out; clear hB6 hE6))
          rw [rounds_succ]
          go_wp2
          go_ret
          exact ⟨_, rfl, by rw [HF.out, e1.out, e2.out, e3.out]; exact HB3.out, HE6.out⟩
        · have i3 : ¬ (R3.length : Int) < (R1.length : Int) := by omega
          have e3 := hid (show fewer R1 R3 = R1 from if_neg h3)
          clear h3
          go_enter Tryd.func28, Tryd.ntmps28
          go_wp2_with (first
            | (go_at_call 49; refine (iTasksValid _ _ room ts _ HR.out HT.out HID.out).mono ?_; rw [hq]; rintro e w1 ⟨rfl, hE1⟩; obtain ⟨y0, y1, y0f, y1f, k1, k1f, _, _⟩ := box2 (heap_alloc_new w1 (.cells #[.slice none 0 0, .slice none 0 0] 72)) (.slice Ar room.length cr) (.slice At ts.length ct); have pbx := hid (heap_alloc_new w1 (.cells #[.slice Ar room.length cr, .slice At ts.length ct] 72)); have p0 : (w1.alloc (.cells #[.slice Ar room.length cr, .slice At ts.length ct] 72)).cell? ⟨w1.heap.size, 0, none⟩ = some (.slice Ar room.length cr) := obj_cell pbx.out (i := 0) rfl; have p1 : (w1.alloc (.cells #[.slice Ar room.length cr, .slice At ts.length ct] 72)).cell? ⟨w1.heap.size, 1, none⟩ = some (.slice At ts.length ct) := obj_cell pbx.out (i := 1) rfl; have HE1 := hid (hE1.trans (Ext.alloc w1 (.cells #[.slice Ar room.length cr, .slice At ts.length ct] 72))); clear hE1)
            | (go_at_call 54; refine (iPackFirst room ts Ar cr At ct _ (RI.ext HR.out HE1.out) (RT.ext HT.out HE1.out) HID.out).mono ?_; rw [← H0.out]; rintro e w2 ⟨v2, rfl, hB2, hE2⟩; obtain ⟨A2, c2, rfl⟩ := DB.form hB2; have HB0 := hid (hB2.low HE1.out.size); have HE2 := hid (HE1.out.trans hE2); have r0 : w2.cell? ⟨w1.heap.size, 0, none⟩ = some (.slice Ar room.length cr) := obj_cell (hE2.obj pbx.out) (i := 0) rfl; have r1 : w2.cell? ⟨w1.heap.size, 1, none⟩ = some (.slice At ts.length ct) := obj_cell (hE2.obj pbx.out) (i := 1) rfl; clear hB2 hE2 y0 y1 y0f y1f k1 k1f p0 p1))
          obtain ⟨w3, hw3⟩ : ∃ x, x = w2.alloc (.cells #[.func (.func 55) #[.agg #[.slice Ar room.length cr, .slice At ts.length ct]] #[], .func (.func 56) #[.agg #[.slice Ar room.length cr, .slice At ts.length ct]] #[], .func (.func 57) #[.agg #[.slice Ar room.length cr, .slice At ts.length ct]] #[]] 73) := ⟨_, rfl⟩
          have fbx : w3.heap[w2.heap.size]? = some (.cells #[.func (.func 55) #[.agg #[.slice Ar room.length cr, .slice At ts.length ct]] #[], .func (.func 56) #[.agg #[.slice Ar room.length cr, .slice At ts.length ct]] #[], .func (.func 57) #[.agg #[.slice Ar room.length cr, .slice At ts.length ct]] #[]] 73 (0, 0)) := by rw [hw3]; exact heap_alloc_new _ _
          have hE3 : Ext w2 w3 := by rw [hw3]; exact Ext.alloc _ _
          rw [← hw3]
          have KF : Hid (∀ w', Ext w3 w' → w'.cell? ⟨w2.heap.size, 0, none⟩ = some (.func (.func 55) #[.agg #[.slice Ar room.length cr, .slice At ts.length ct]] #[]) ∧ w'.cell? ⟨w2.heap.size, 1, none⟩ = some (.func (.func 56) #[.agg #[.slice Ar room.length cr, .slice At ts.length ct]] #[]) ∧ w'.cell? ⟨w2.heap.size, 2, none⟩ = some (.func (.func 57) #[.agg #[.slice Ar room.length cr, .slice At ts.length ct]] #[])) := hid fun w' hw => ⟨obj_cell (hw.obj fbx) (i := 0) rfl, obj_cell (hw.obj fbx) (i := 1) rfl, obj_cell (hw.obj fbx) (i := 2) rfl⟩
          have HB0 := hid (DB.ext HB0.out hE3)
          have HE3 := hid (HE2.out.trans hE3)
          have HG3 : Hid (Ext w3 w3) := hid (Ext.refl _)
          obtain ⟨f0, f1, f2⟩ := KF.out _ HG3.out
          clear fbx hE3 hw3 r0 r1 pbx hmf
          refine wp_loop_rounds 4 ?_
          rw [rounds_succ]
          go_wp2_with (first
            | (go_at_call 55; refine (iPackBest room ts Ar cr At ct _ (RI.ext HR.out HE3.out) (RT.ext HT.out HE3.out) HID.out).mono ?_; rw [← H1.out]; rintro e w4 ⟨v4, rfl, hB4, hE4⟩; obtain ⟨A4, c4, rfl⟩ := DB.form hB4; have HB0 := hid (DB.ext HB0.out hE4); have HB1 := hid (hB4.low HE3.out.size); have HE4 := hid (HE3.out.trans hE4); have HG4 := hid (HG3.out.trans hE4); obtain ⟨f0, f1, f2⟩ := KF.out _ HG4.out; clear hB4 hE4))
          rw [rounds_succ]
          go_wp2_with (first
            | (go_at_call 56; refine (iPackDown room ts Ar cr At ct _ (RI.ext HR.out HE4.out) (RT.ext HT.out HE4.out) HID.out).mono ?_; rw [← H2.out]; rintro e w5 ⟨v5, rfl, hB5, hE5⟩; obtain ⟨A5, c5, rfl⟩ := DB.form hB5; have HB0 := hid (DB.ext HB0.out hE5); have HB1 := hid (DB.ext HB1.out hE5); have HB2 := hid (hB5.low HE4.out.size); have HE5 := hid (HE4.out.trans hE5); have HG5 := hid (HG4.out.trans hE5); obtain ⟨f0, f1, f2⟩ := KF.out _ HG5.out; clear hB5 hE5))
          rw [rounds_succ]
          go_wp2_with (first
            | (go_at_call 57; refine (iPackDownBest room ts Ar cr At ct _ (RI.ext HR.out HE5.out) (RT.ext HT.out HE5.out) HID.out).mono ?_; rw [← H3.out]; rintro e w6 ⟨v6, rfl, hB6, hE6⟩; obtain ⟨A6, c6, rfl⟩ := DB.form hB6; have HB0 := hid (DB.ext HB0.out hE6); have HB1 := hid (DB.ext HB1.out hE6); have HB2 := hid (DB.ext HB2.out hE6); have HB3 := hid (hB6.low HE5.out.size); have HE6 := hid (HE5.out.trans hE6); have HG6 := hid (HG5.out.trans hE6); obtain ⟨f0, f1, f2⟩ := KF.out _ HG6.out; clear hB6 hE6))
          rw [rounds_succ]
          go_wp2
          go_ret
          exact ⟨_, rfl, by rw [HF.out, e1.out, e2.out, e3.out]; exact HB1.out, HE6.out⟩
    · have i1 : ¬ (R1.length : Int) < (R0.length : Int) := by omega
      have e1 := hid (show fewer R0 R1 = R0 from if_neg h1)
      clear h1
      by_cases h2 : R2.length < R0.length
      · have i2 : (R2.length : Int) < (R0.length : Int) := by omega
        have e2 := hid (show fewer R0 R2 = R2 from if_pos h2)
        clear h2
        by_cases h3 : R3.length < R2.length
        · have i3 : (R3.length : Int) < (R2.length : Int) := by omega
          have e3 := hid (show fewer R2 R3 = R3 from if_pos h3)
          clear h3
          go_enter Tryd.func28, Tryd.ntmps28
          go_wp2_with (first
            | (go_at_call 49; refine (iTasksValid _ _ room ts _ HR.out HT.out HID.out).mono ?_; rw [hq]; rintro e w1 ⟨rfl, hE1⟩; obtain ⟨y0, y1, y0f, y1f, k1, k1f, _, _⟩ := box2 (heap_alloc_new w1 (.cells #[.slice none 0 0, .slice none 0 0] 72)) (.slice Ar room.length cr) (.slice At ts.length ct); have pbx := hid (heap_alloc_new w1 (.cells #[.slice Ar room.length cr, .slice At ts.length ct] 72)); have p0 : (w1.alloc (.cells #[.slice Ar room.length cr, .slice At ts.length ct] 72)).cell? ⟨w1.heap.size, 0, none⟩ = some (.slice Ar room.length cr) := obj_cell pbx.out (i := 0) rfl; have p1 : (w1.alloc (.cells #[.slice Ar room.length cr, .slice At ts.length ct] 72)).cell? ⟨w1.heap.size, 1, none⟩ = some (.slice At ts.length ct) := obj_cell pbx.out (i := 1) rfl; have HE1 := hid (hE1.trans (Ext.alloc w1 (.cells #[.slice Ar room.length cr, .slice At ts.length ct] 72))); clear hE1)
            | (go_at_call 54; refine (iPackFirst room ts Ar cr At ct _ (RI.ext HR.out HE1.out) (RT.ext HT.out HE1.out) HID.out).mono ?_; rw [← H0.out]; rintro e w2 ⟨v2, rfl, hB2, hE2⟩; obtain ⟨A2, c2, rfl⟩ := DB.form hB2; have HB0 := hid (hB2.low HE1.out.size); have HE2 := hid (HE1.out.trans hE2); have r0 : w2.cell? ⟨w1.heap.size, 0, none⟩ = some (.slice Ar room.length cr) := obj_cell (hE2.obj pbx.out) (i := 0) rfl; have r1 : w2.cell? ⟨w1.heap.size, 1, none⟩ = some (.slice At ts.length ct) := obj_cell (hE2.obj pbx.out) (i := 1) rfl; clear hB2 hE2 y0 y1 y0f y1f k1 k1f p0 p1))
          obtain ⟨w3, hw3⟩ : ∃ x, x = w2.alloc (.cells #[.func (.func 55) #[.agg #[.slice Ar room.length cr, .slice At ts.length ct]] #[], .func (.func 56) #[.agg #[.slice Ar room.length cr, .slice At ts.length ct]] #[], .func (.func 57) #[.agg #[.slice Ar room.length cr, .slice At ts.length ct]] #[]] 73) := ⟨_, rfl⟩
          have fbx : w3.heap[w2.heap.size]? = some (.cells #[.func (.func 55) #[.agg #[.slice Ar room.length cr, .slice At ts.length ct]] #[], .func (.func 56) #[.agg #[.slice Ar room.length cr, .slice At ts.length ct]] #[], .func (.func 57) #[.agg #[.slice Ar room.length cr, .slice At ts.length ct]] #[]] 73 (0, 0)) := by rw [hw3]; exact heap_alloc_new _ _
          have hE3 : Ext w2 w3 := by rw [hw3]; exact Ext.alloc _ _
          rw [← hw3]
          have KF : Hid (∀ w', Ext w3 w' → w'.cell? ⟨w2.heap.size, 0, none⟩ = some (.func (.func 55) #[.agg #[.slice Ar room.length cr, .slice At ts.length ct]] #[]) ∧ w'.cell? ⟨w2.heap.size, 1, none⟩ = some (.func (.func 56) #[.agg #[.slice Ar room.length cr, .slice At ts.length ct]] #[]) ∧ w'.cell? ⟨w2.heap.size, 2, none⟩ = some (.func (.func 57) #[.agg #[.slice Ar room.length cr, .slice At ts.length ct]] #[])) := hid fun w' hw => ⟨obj_cell (hw.obj fbx) (i := 0) rfl, obj_cell (hw.obj fbx) (i := 1) rfl, obj_cell (hw.obj fbx) (i := 2) rfl⟩
          have HB0 := hid (DB.ext HB0.out hE3)
          have HE3 := hid (HE2.out.trans hE3)
          have HG3 : Hid (Ext w3 w3) := hid (Ext.refl _)
          obtain ⟨f0, f1, f2⟩ := KF.out _ HG3.out
          clear fbx hE3 hw3 r0 r1 pbx hmf
          refine wp_loop_rounds 4 ?_
          rw [rounds_succ]
          go_wp2_with (first
            | (go_at_call 55; refine (iPackBest room ts Ar cr At ct _ (RI.ext HR.out HE3.out) (RT.ext HT.out HE3.out) HID.out).mono ?_; rw [← H1.out]; rintro e w4 ⟨v4, rfl, hB4, hE4⟩; obtain ⟨A4, c4, rfl⟩ := DB.form hB4; have HB0 := hid (DB.ext HB0.out hE4); have HB1 := hid (hB4.low HE3.out.size); have HE4 := hid (HE3.out.trans hE4); have HG4 := hid (HG3.out.trans hE4); obtain ⟨f0, f1, f2⟩ := KF.out _ HG4.out; clear hB4 hE4))
          rw [rounds_succ]
          go_wp2_with (first
            | (go_at_call 56; refine (iPackDown room ts Ar cr At ct _ (RI.ext HR.out HE4.out) (RT.ext HT.out HE4.out) HID.out).mono ?_; rw [← H2.out]; rintro e w5 ⟨v5, rfl, hB5, hE5⟩; obtain ⟨A5, c5, rfl⟩ := DB.form hB5; have HB0 := hid (DB.ext HB0.out hE5); have HB1 := hid (DB.ext HB1.out hE5); have HB2 := hid (hB5.low HE4.out.size); have HE5 := hid (HE4.out.trans hE5); have HG5 := hid (HG4.out.trans hE5); obtain ⟨f0, f1, f2⟩ := KF.out _ HG5.out; clear hB5 hE5))
          rw [rounds_succ]
          go_wp2_with (first
            | (go_at_call 57; refine (iPackDownBest room ts Ar cr At ct _ (RI.ext HR.out HE5.out) (RT.ext HT.out HE5.out) HID.out).mono ?_; rw [← H3.out]; rintro e w6 ⟨v6, rfl, hB6, hE6⟩; obtain ⟨A6, c6, rfl⟩ := DB.form hB6; have HB0 := hid (DB.ext HB0.out hE6); have HB1 := hid (DB.ext HB1.out hE6); have HB2 := hid (DB.ext HB2.out hE6); have HB3 := hid (hB6.low HE5.out.size); have HE6 := hid (HE5.out.trans hE6); have HG6 := hid (HG5.out.trans hE6); obtain ⟨f0, f1, f2⟩ := KF.out _ HG6.out; clear hB6 hE6))
          rw [rounds_succ]
          go_wp2
          go_ret
          exact ⟨_, rfl, by rw [HF.out, e1.out, e2.out, e3.out]; exact HB3.out, HE6.out⟩
        · have i3 : ¬ (R3.length : Int) < (R2.length : Int) := by omega
          have e3 := hid (show fewer R2 R3 = R2 from if_neg h3)
          clear h3
          go_enter Tryd.func28, Tryd.ntmps28
          go_wp2_with (first
            | (go_at_call 49; refine (iTasksValid _ _ room ts _ HR.out HT.out HID.out).mono ?_; rw [hq]; rintro e w1 ⟨rfl, hE1⟩; obtain ⟨y0, y1, y0f, y1f, k1, k1f, _, _⟩ := box2 (heap_alloc_new w1 (.cells #[.slice none 0 0, .slice none 0 0] 72)) (.slice Ar room.length cr) (.slice At ts.length ct); have pbx := hid (heap_alloc_new w1 (.cells #[.slice Ar room.length cr, .slice At ts.length ct] 72)); have p0 : (w1.alloc (.cells #[.slice Ar room.length cr, .slice At ts.length ct] 72)).cell? ⟨w1.heap.size, 0, none⟩ = some (.slice Ar room.length cr) := obj_cell pbx.out (i := 0) rfl; have p1 : (w1.alloc (.cells #[.slice Ar room.length cr, .slice At ts.length ct] 72)).cell? ⟨w1.heap.size, 1, none⟩ = some (.slice At ts.length ct) := obj_cell pbx.out (i := 1) rfl; have HE1 := hid (hE1.trans (Ext.alloc w1 (.cells #[.slice Ar room.length cr, .slice At ts.length ct] 72))); clear hE1)
            | (go_at_call 54; refine (iPackFirst room ts Ar cr At ct _ (RI.ext HR.out HE1.out) (RT.ext HT.out HE1.out) HID.out).mono ?_; rw [← H0.out]; rintro e w2 ⟨v2, rfl, hB2, hE2⟩; obtain ⟨A2, c2, rfl⟩ := DB.form hB2; have HB0 := hid (hB2.low HE1.out.size); have HE2 := hid (HE1.out.trans hE2); have r0 : w2.cell? ⟨w1.heap.size, 0, none⟩ = some (.slice Ar room.length cr) := obj_cell (hE2.obj pbx.out) (i := 0) rfl; have r1 : w2.cell? ⟨w1.heap.size, 1, none⟩ = some (.slice At ts.length ct) := obj_cell (hE2.obj pbx.out) (i := 1) rfl; clear hB2 hE2 y0 y1 y0f y1f k1 k1f p0 p1))
          obtain ⟨w3, hw3⟩ : ∃ x, x = w2.alloc (.cells #[.func (.func 55) #[.agg #[.slice Ar room.length cr, .slice At ts.length ct]] #[], .func (.func 56) #[.agg #[.slice Ar room.length cr, .slice At ts.length ct]] #[], .func (.func 57) #[.agg #[.slice Ar room.length cr, .slice At ts.length ct]] #[]] 73) := ⟨_, rfl⟩
          have fbx : w3.heap[w2.heap.size]? = some (.cells #[.func (.func 55) #[.agg #[.slice Ar room.length cr, .slice At ts.length ct]] #[], .func (.func 56) #[.agg #[.slice Ar room.length cr, .slice At ts.length ct]] #[], .func (.func 57) #[.agg #[.slice Ar room.length cr, .slice At ts.length ct]] #[]] 73 (0, 0)) := by rw [hw3]; exact heap_alloc_new _ _
          have hE3 : Ext w2 w3 := by rw [hw3]; exact Ext.alloc _ _
          rw [← hw3]
          have KF : Hid (∀ w', Ext w3 w' → w'.cell? ⟨w2.heap.size, 0, none⟩ = some (.func (.func 55) #[.agg #[.slice Ar room.length cr, .slice At ts.length ct]] #[]) ∧ w'.cell? ⟨w2.heap.size, 1, none⟩ = some (.func (.func 56) #[.agg #[.slice Ar room.length cr, .slice At ts.length ct]] #[]) ∧ w'.cell? ⟨w2.heap.size, 2, none⟩ = some (.func (.func 57) #[.agg #[.slice Ar room.length cr, .slice At ts.length ct]] #[])) := hid fun w' hw => ⟨obj_cell (hw.obj fbx) (i := 0) rfl, obj_cell (hw.obj fbx) (i := 1) rfl, obj_cell (hw.obj fbx) (i := 2) rfl⟩
          have HB0 := hid (DB.ext HB0.out hE3)
          have HE3 := hid (HE2.out.trans hE3)
          have HG3 : Hid (Ext w3 w3) := hid (Ext.refl _)
          obtain ⟨f0, f1, f2⟩ := KF.out _ HG3.out
          clear fbx hE3 hw3 r0 r1 pbx hmf
          refine wp_loop_rounds 4 ?_
          rw [rounds_succ]
          go_wp2_with (first
            | (go_at_call 55; refine (iPackBest room ts Ar cr At ct _ (RI.ext HR.out HE3.out) (RT.ext HT.out HE3.out) HID.out).mono ?_; rw [← H1.out]; rintro e w4 ⟨v4, rfl, hB4, hE4⟩; obtain ⟨A4, c4, rfl⟩ := DB.form hB4; have HB0 := hid (DB.ext HB0.out hE4); have HB1 := hid (hB4.low HE3.out.size); have HE4 := hid (HE3.out.trans hE4); have HG4 := hid (HG3.out.trans hE4); obtain ⟨f0, f1, f2⟩ := KF.out _ HG4.out; clear hB4 hE4))
          rw [rounds_succ]
          go_wp2_with (first
            | (go_at_call 56; refine (iPackDown room ts Ar cr At ct _ (RI.ext HR.out HE4.out) (RT.ext HT.out HE4.out) HID.out).mono ?_; rw [← H2.out]; rintro e w5 ⟨v5, rfl, hB5, hE5⟩; obtain ⟨A5, c5, rfl⟩ := DB.form hB5; have HB0 := hid (DB.ext HB0.out hE5); have HB1 := hid (DB.ext HB1.out hE5); have HB2 := hid (hB5.low HE4.out.size); have HE5 := hid (HE4.out.trans hE5); have HG5 := hid (HG4.out.trans hE5); obtain ⟨f0, f1, f2⟩ := KF.out _ HG5.out; clear hB5 hE5))
          rw [rounds_succ]
          go_wp2_with (first
            | (go_at_call 57; refine (iPackDownBest room ts Ar cr At ct _ (RI.ext HR.out HE5.out) (RT.ext HT.out HE5.out) HID.out).mono ?_; rw [← H3.out]; rintro e w6 ⟨v6, rfl, hB6, hE6⟩; obtain ⟨A6, c6, rfl⟩ := DB.form hB6; have HB0 := hid (DB.ext HB0.out hE6); have HB1 := hid (DB.ext HB1.out hE6); have HB2 := hid (DB.ext HB2.out hE6); have HB3 := hid (hB6.low HE5.out.size); have HE6 := hid (HE5.out.trans hE6); have HG6 := hid (HG5.out.trans hE6); obtain ⟨f0, f1, f2⟩ := KF.out _ HG6.out; clear hB6 hE6))
          rw [rounds_succ]
          go_wp2
          go_ret
          exact ⟨_, rfl, by rw [HF.out, e1.out, e2.out, e3.out]; exact HB2.out, HE6.out⟩
      · have i2 : ¬ (R2.length : Int) < (R0.length : Int) := by omega
        have e2 := hid (show fewer R0 R2 = R0 from if_neg h2)
        clear h2
        by_cases h3 : R3.length < R0.length
        · have i3 : (R3.length : Int) < (R0.length : Int) := by omega
          have e3 := hid (show fewer R0 R3 = R3 from if_pos h3)
          clear h3
          go_enter Tryd.func28, Tryd.ntmps28
          go_wp2_with (first
            | (go_at_call 49; refine (iTasksValid _ _ room ts _ HR.out HT.out HID.out).mono ?_; rw [hq]; rintro e w1 ⟨rfl, hE1⟩; obtain ⟨y0, y1, y0f, y1f, k1, k1f, _, _⟩ := box2 (heap_alloc_new w1 (.cells #[.slice none 0 0, .slice none 0 0] 72)) (.slice Ar room.length cr) (.slice At ts.length ct); have pbx := hid (heap_alloc_new w1 (.cells #[.slice Ar room.length cr, .slice At ts.length ct] 72)); have p0 : (w1.alloc (.cells #[.slice Ar room.length cr, .slice At ts.length ct] 72)).cell? ⟨w1.heap.size, 0, none⟩ = some (.slice Ar room.length cr) := obj_cell pbx.out (i := 0) rfl; have p1 : (w1.alloc (.cells #[.slice Ar room.length cr, .slice At ts.length ct] 72)).cell? ⟨w1.heap.size, 1, none⟩ = some (.slice At ts.length ct) := obj_cell pbx.out (i := 1) rfl; have HE1 := hid (hE1.trans (Ext.alloc w1 (.cells #[.slice Ar room.length cr, .slice At ts.length ct] 72))); clear hE1)
            | (go_at_call 54; refine (iPackFirst room ts Ar cr At ct _ (RI.ext HR.out HE1.out) (RT.ext HT.out HE1.out) HID.out).mono ?_; rw [← H0.out]; rintro e w2 ⟨v2, rfl, hB2, hE2⟩; obtain ⟨A2, c2, rfl⟩ := DB.form hB2; have HB0 := hid (hB2.low HE1.out.size); have HE2 := hid (HE1.out.trans hE2); have r0 : w2.cell? ⟨w1.heap.size, 0, none⟩ = some (.slice Ar room.length cr) := obj_cell (hE2.obj pbx.out) (i := 0) rfl; have r1 : w2.cell? ⟨w1.heap.size, 1, none⟩ = some (.slice At ts.length ct) := obj_cell (hE2.obj pbx.out) (i := 1) rfl; clear hB2 hE2 y0 y1 y0f y1f k1 k1f p0 p1))
          obtain ⟨w3, hw3⟩ : ∃ x, x = w2.alloc (.cells #[.func (.func 55) #[.agg #[.slice Ar room.length cr, .slice At ts.length ct]] #[], .func (.func 56) #[.agg #[.slice Ar room.length cr, .slice At ts.length ct]] #[], .func (.func 57) #[.agg #[.slice Ar room.length cr, .slice At ts.length ct]] #[]] 73) := ⟨_, rfl⟩
          have fbx : w3.heap[w2.heap.size]? = some (.cells #[.func (.func 55) #[.agg #[.slice Ar room.length cr, .slice At ts.length ct]] #[], .func (.func 56) #[.agg #[.slice Ar room.length cr, .slice At ts.length ct]] #[], .func (.func 57) #[.agg #[.slice Ar room.length cr, .slice At ts.length ct]] #[]] 73 (0, 0)) := by rw [hw3]; exact heap_alloc_new _ _
          have hE3 : Ext w2 w3 := by rw [hw3]; exact Ext.alloc _ _
          rw [← hw3]
          have KF : Hid (∀ w', Ext w3 w' → w'.cell? ⟨w2.heap.size, 0, none⟩ = some (.func (.func 55) #[.agg #[.slice Ar room.length cr, .slice At ts.length ct]] #[]) ∧ w'.cell? ⟨w2.heap.size, 1, none⟩ = some (.func (.func 56) #[.agg #[.slice Ar room.length cr, .slice At ts.length ct]] #[]) ∧ w'.cell? ⟨w2.heap.size, 2, none⟩ = some (.func (.func 57) #[.agg #[.slice Ar room.length cr, .slice At ts.length ct]] #[])) := hid fun w' hw => ⟨obj_cell (hw.obj fbx) (i := 0) rfl, obj_cell (hw.obj fbx) (i := 1) rfl, obj_cell (hw.obj fbx) (i := 2) rfl⟩
          have HB0 := hid (DB.ext HB0.out hE3)
          have HE3 := hid (HE2.out.trans hE3)
          have HG3 : Hid (Ext w3 w3) := hid (Ext.refl _)
          obtain ⟨f0, f1, f2⟩ := KF.out _ HG3.out
          clear fbx hE3 hw3 r0 r1 pbx hmf
          refine wp_loop_rounds 4 ?_
          rw [rounds_succ]
          go_wp2_with (first
            | (go_at_call 55; refine (iPackBest room ts Ar cr At ct _ (RI.ext HR.out HE3.out) (RT.ext HT.out HE3.out) HID.out).mono ?_; rw [← H1.out]; rintro e w4 ⟨v4, rfl, hB4, hE4⟩; obtain ⟨A4, c4, rfl⟩ := DB.form hB4; have HB0 := hid (DB.ext HB0.out hE4); have HB1 := hid (hB4.low HE3.out.size); have HE4 := hid (HE3.out.trans hE4); have HG4 := hid (HG3.out.trans hE4); obtain ⟨f0, f1, f2⟩ := KF.out _ HG4.out; clear hB4 hE4))
          rw [rounds_succ]
          go_wp2_with (first
            | (go_at_call 56; refine (iPackDown room ts Ar cr At ct _ (RI.ext HR.out HE4.out) (RT.ext HT.out HE4.out) HID.out).mono ?_; rw [← H2.out]; rintro e w5 ⟨v5, rfl, hB5, hE5⟩; obtain ⟨A5, c5, rfl⟩ := DB.form hB5; have HB0 := hid (DB.ext HB0.out hE5); have HB1 := hid (DB.ext HB1.out hE5); have HB2 := hid (hB5.low HE4.out.size); have HE5 := hid (HE4.out.trans hE5); have HG5 := hid (HG4.out.trans hE5); obtain ⟨f0, f1, f2⟩ := KF.out _ HG5.out; clear hB5 hE5))
          rw [rounds_succ]
          go_wp2_with (first
            | (go_at_call 57; refine (iPackDownBest room ts Ar cr At ct _ (RI.ext HR.out HE5.out) (RT.ext HT.out HE5.out) HID.out).mono ?_; rw [← H3.out]; rintro e w6 ⟨v6, rfl, hB6, hE6⟩; obtain ⟨A6, c6, rfl⟩ := DB.form hB6; have HB0 := hid (DB.ext HB0.out hE6); have HB1 := hid (DB.ext HB1.out hE6); have HB2 := hid (DB.ext HB2.out hE6); have HB3 := hid (hB6.low HE5.out.size); have HE6 := hid (HE5.out.trans hE6); have HG6 := hid (HG5.out.trans hE6); obtain ⟨f0, f1, f2⟩ := KF.out _ HG6.out; clear hB6 hE6))
          rw [rounds_succ]
          go_wp2
          go_ret
          exact ⟨_, rfl, by rw [HF.out, e1.out, e2.out, e3.out]; exact HB3.out, HE6.out⟩
        · have i3 : ¬ (R3.length : Int) < (R0.length : Int) := by omega
          have e3 := hid (show fewer R0 R3 = R0 from if_neg h3)
          clear h3
          go_enter Tryd.func28, Tryd.ntmps28
          go_wp2_with (first
            | (go_at_call 49; refine (iTasksValid _ _ room ts _ HR.out HT.out HID.out).mono ?_; rw [hq]; rintro e w1 ⟨rfl, hE1⟩; obtain ⟨y0, y1, y0f, y1f, k1, k1f, _, _⟩ := box2 (heap_alloc_new w1 (.cells #[.slice none 0 0, .slice none 0 0] 72)) (.slice Ar room.length cr) (.slice At ts.length ct); have pbx := hid (heap_alloc_new w1 (.cells #[.slice Ar room.length cr, .slice At ts.length ct] 72)); have p0 : (w1.alloc (.cells #[.slice Ar room.length cr, .slice At ts.length ct] 72)).cell? ⟨w1.heap.size, 0, none⟩ = some (.slice Ar room.length cr) := obj_cell pbx.out (i := 0) rfl; have p1 : (w1.alloc (.cells #[.slice Ar room.length cr, .slice At ts.length ct] 72)).cell? ⟨w1.heap.size, 1, none⟩ = some (.slice At ts.length ct) := obj_cell pbx.out (i := 1) rfl; have HE1 := hid (hE1.trans (Ext.alloc w1 (.cells #[.slice Ar room.length cr, .slice At ts.length ct] 72))); clear hE1)
            | (go_at_call 54; refine (iPackFirst room ts Ar cr At ct _ (RI.ext HR.out HE1.out) (RT.ext HT.out HE1.out) HID.out).mono ?_; rw [← H0.out]; rintro e w2 ⟨v2, rfl, hB2, hE2⟩; obtain ⟨A2, c2, rfl⟩ := DB.form hB2; have HB0 := hid (hB2.low HE1.out.size); have HE2 := hid (HE1.out.trans hE2); have r0 : w2.cell? ⟨w1.heap.size, 0, none⟩ = some (.slice Ar room.length cr) := obj_cell (hE2.obj pbx.out) (i := 0) rfl; have r1 : w2.cell? ⟨w1.heap.size, 1, none⟩ = some (.slice At ts.length ct) := obj_cell (hE2.obj pbx.out) (i := 1) rfl; clear hB2 hE2 y0 y1 y0f y1f k1 k1f p0 p1))
          obtain ⟨w3, hw3⟩ : ∃ x, x = w2.alloc (.cells #[.func (.func 55) #[.agg #[.slice Ar room.length cr, .slice At ts.length ct]] #[], .func (.func 56) #[.agg #[.slice Ar room.length cr, .slice At ts.length ct]] #[], .func (.func 57) #[.agg #[.slice Ar room.length cr, .slice At ts.length ct]] #[]] 73) := ⟨_, rfl⟩
          have fbx : w3.heap[w2.heap.size]? = some (.cells #[.func (.func 55) #[.agg #[.slice Ar room.length cr, .slice At ts.length ct]] #[], .func (.func 56) #[.agg #[.slice Ar room.length cr, .slice At ts.length ct]] #[], .func (.func 57) #[.agg #[.slice Ar room.length cr, .slice At ts.length ct]] #[]] 73 (0, 0)) := by rw [hw3]; exact heap_alloc_new _ _
          have hE3 : Ext w2 w3 := by rw [hw3]; exact Ext.alloc _ _
          rw [← hw3]
          have KF : Hid (∀ w', Ext w3 w' → w'.cell? ⟨w2.heap.size, 0, none⟩ = some (.func (.func 55) #[.agg #[.slice Ar room.length cr, .slice At ts.length ct]] #[]) ∧ w'.cell? ⟨w2.heap.size, 1, none⟩ = some (.func (.func 56) #[.agg #[.slice Ar room.length cr, .slice At ts.length ct]] #[]) ∧ w'.cell? ⟨w2.heap.size, 2, none⟩ = some (.func (.func 57) #[.agg #[.slice Ar room.length cr, .slice At ts.length ct]] #[])) := hid fun w' hw => ⟨obj_cell (hw.obj fbx) (i := 0) rfl, obj_cell (hw.obj fbx) (i := 1) rfl, obj_cell (hw.obj fbx) (i := 2) rfl⟩
          have HB0 := hid (DB.ext HB0.out hE3)
          have HE3 := hid (HE2.out.trans hE3)
          have HG3 : Hid (Ext w3 w3) := hid (Ext.refl _)
          obtain ⟨f0, f1, f2⟩ := KF.out _ HG3.out
          clear fbx hE3 hw3 r0 r1 pbx hmf
          refine wp_loop_rounds 4 ?_
          rw [rounds_succ]
          go_wp2_with (first
            | (go_at_call 55; refine (iPackBest room ts Ar cr At ct _ (RI.ext HR.out HE3.out) (RT.ext HT.out HE3.out) HID.out).mono ?_; rw [← H1.out]; rintro e w4 ⟨v4, rfl, hB4, hE4⟩; obtain ⟨A4, c4, rfl⟩ := DB.form hB4; have HB0 := hid (DB.ext HB0.out hE4); have HB1 := hid (hB4.low HE3.out.size); have HE4 := hid (HE3.out.trans hE4); have HG4 := hid (HG3.out.trans hE4); obtain ⟨f0, f1, f2⟩ := KF.out _ HG4.out; clear hB4 hE4))
          rw [rounds_succ]
          go_wp2_with (first
            | (go_at_call 56; refine (iPackDown room ts Ar cr At ct _ (RI.ext HR.out HE4.out) (RT.ext HT.out HE4.out) HID.out).mono ?_; rw [← H2.out]; rintro e w5 ⟨v5, rfl, hB5, hE5⟩; obtain ⟨A5, c5, rfl⟩ := DB.form hB5; have HB0 := hid (DB.ext HB0.out hE5); have HB1 := hid (DB.ext HB1.out hE5); have HB2 := hid (hB5.low HE4.out.size); have HE5 := hid (HE4.out.trans hE5); have HG5 := hid (HG4.out.trans hE5); obtain ⟨f0, f1, f2⟩ := KF.out _ HG5.out; clear hB5 hE5))
          rw [rounds_succ]
          go_wp2_with (first
            | (go_at_call 57; refine (iPackDownBest room ts Ar cr At ct _ (RI.ext HR.out HE5.out) (RT.ext HT.out HE5.out) HID.out).mono ?_; rw [← H3.out]; rintro e w6 ⟨v6, rfl, hB6, hE6⟩; obtain ⟨A6, c6, rfl⟩ := DB.form hB6; have HB0 := hid (DB.ext HB0.out hE6); have HB1 := hid (DB.ext HB1.out hE6); have HB2 := hid (DB.ext HB2.out hE6); have HB3 := hid (hB6.low HE5.out.size); have HE6 := hid (HE5.out.trans hE6); have HG6 := hid (HG5.out.trans hE6); obtain ⟨f0, f1, f2⟩ := KF.out _ HG6.out; clear hB6 hE6))
          rw [rounds_succ]
          go_wp2
          go_ret
          exact ⟨_, rfl, by rw [HF.out, e1.out, e2.out, e3.out]; exact HB0.out, HE6.out⟩

end Go.Proofs.YtllchacophapoaaDoor
