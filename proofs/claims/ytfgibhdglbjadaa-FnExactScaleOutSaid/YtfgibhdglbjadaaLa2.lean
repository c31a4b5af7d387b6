/- The laws' copies of tasks, nodes and clusters. -/
import Derived.Test.YtfgibhdglbjadaaLa1
namespace Go.Proofs.Ytfgibhdglbjadaa
open Go.RowKit
set_option maxRecDepth 4000

theorem Own.frozen_ {α : Type} {e : TypeId} {size : Nat} {E : Enc α} {w : World} {base g n c : Nat} {xs : List α} (h : Own e size E w base (.slice (some ⟨g, 0, none⟩) n c) xs) (i : Nat) : w.frozen? ⟨g, i, none⟩ = false := by
  obtain ⟨cells, ho, _⟩ := h
  rcases ho.2 with ⟨h1, _⟩ | ⟨g', cap, cur, h1, _, hg, _⟩
  · cases h1
  · injection h1 with h1 _ _
    injection h1 with h1
    injection h1 with h1 _ _
    subst h1
    exact obj_frozen hg i
theorem OT.at_ {w : World} {base g n c : Nat} {xs : List TaskD} (h : OT w base (.slice (some ⟨g, 0, none⟩) n c) xs) {j : Nat} {x : TaskD} (hj : xs[j]? = some x) :
    ∃ An cn, w.cell? ⟨g, j * 2, none⟩ = some (.int .i64 x.id) ∧ w.cell? ⟨g, j * 2 + 1, none⟩ = some (.slice An x.need.length cn) ∧ w.frozen? ⟨g, j * 2, none⟩ = false ∧ w.frozen? ⟨g, j * 2 + 1, none⟩ = false ∧ base ≤ g := by
  obtain ⟨A, c', hv, _, _, hg⟩ := RT.get h.read
  have hlt : j < xs.length := (List.getElem?_eq_some_iff.1 hj).1
  obtain ⟨b, o, y, An, cn, hA, he, c1, c2, _⟩ := hg j hlt
  injection hv with h1 h2 h3
  subst hA
  injection h1 with h1
  injection h1 with h1 h4 _
  subst h1 h4
  have : y = x := by have := he.out; rw [hj] at this; injection this with this; exact this.symm
  subst this
  exact ⟨An, cn, by simpa using c1, by simpa using c2, h.frozen_ _, h.frozen_ _, (h.lt g rfl).1⟩
theorem OT.set2 {w : World} {base g n c : Nat} {xs : List TaskD} (h : OT w base (.slice (some ⟨g, 0, none⟩) n c) xs) {j : Nat} {x : TaskD} (hj : xs[j]? = some x) (y : TaskD) (v : Value) (hv : RI w v y.need) :
    OT ((w.setCell ⟨g, j * 2, none⟩ (.int .i64 y.id)).setCell ⟨g, j * 2 + 1, none⟩ v) base (.slice (some ⟨g, 0, none⟩) n c) (xs.set j y) := by
  have hlt : j < xs.length := (List.getElem?_eq_some_iff.1 hj).1
  obtain ⟨h1, s1⟩ := Own.set ET.ok ET.ne h hj (i := 0) (u := .int .i64 y.id) (x' := ⟨y.id, x.need⟩) (by omega) (fun w' hw cs hl ⟨nv, he, hr⟩ => ⟨nv, by rw [he]; rfl, hr.same (hw.mono (fun t ht => ht))⟩)
  obtain ⟨h2, _⟩ := Own.set ET.ok ET.ne h1 (j := j) (i := 1) (x := ⟨y.id, x.need⟩) (u := v) (x' := y) (by rw [List.getElem?_set_self hlt]) (by omega) (fun w' hw cs hl ⟨nv, he, hr⟩ => ⟨v, by rw [he]; rfl, RI.same (RI.same hv (s1.mono (fun t ht => ET.ne t ht))) (hw.mono (fun t ht => ht))⟩)
  rw [List.set_set] at h2
  exact h2
theorem OU.at_ {w : World} {base g n c : Nat} {xs : List UnitD} (h : OU w base (.slice (some ⟨g, 0, none⟩) n c) xs) {j : Nat} {x : UnitD} (hj : xs[j]? = some x) :
    ∃ An cn, w.cell? ⟨g, j * 2, none⟩ = some (.bool x.opened) ∧ w.cell? ⟨g, j * 2 + 1, none⟩ = some (.slice An x.tasks.length cn) ∧ w.frozen? ⟨g, j * 2, none⟩ = false ∧ w.frozen? ⟨g, j * 2 + 1, none⟩ = false ∧ base ≤ g := by
  obtain ⟨A, c', hv, _, _, hg⟩ := RU.get h.read
  have hlt : j < xs.length := (List.getElem?_eq_some_iff.1 hj).1
  obtain ⟨b, o, y, An, cn, hA, he, c1, c2, _⟩ := hg j hlt
  injection hv with h1 h2 h3
  subst hA
  injection h1 with h1
  injection h1 with h1 h4 _
  subst h1 h4
  have : y = x := by have := he.out; rw [hj] at this; injection this with this; exact this.symm
  subst this
  exact ⟨An, cn, by simpa using c1, by simpa using c2, h.frozen_ _, h.frozen_ _, (h.lt g rfl).1⟩
theorem OU.set2 {w : World} {base g n c : Nat} {xs : List UnitD} (h : OU w base (.slice (some ⟨g, 0, none⟩) n c) xs) {j : Nat} {x : UnitD} (hj : xs[j]? = some x) (y : UnitD) (v : Value) (hv : RT w v y.tasks) :
    OU ((w.setCell ⟨g, j * 2, none⟩ (.bool y.opened)).setCell ⟨g, j * 2 + 1, none⟩ v) base (.slice (some ⟨g, 0, none⟩) n c) (xs.set j y) := by
  have hlt : j < xs.length := (List.getElem?_eq_some_iff.1 hj).1
  obtain ⟨h1, s1⟩ := Own.set EU.ok EU.ne h hj (i := 0) (u := .bool y.opened) (x' := ⟨y.opened, x.tasks⟩) (by omega) (fun w' hw cs hl ⟨nv, he, hr⟩ => ⟨nv, by rw [he]; rfl, hr.same (hw.mono (fun t ht => ht))⟩)
  obtain ⟨h2, _⟩ := Own.set EU.ok EU.ne h1 (j := j) (i := 1) (x := ⟨y.opened, x.tasks⟩) (u := v) (x' := y) (by rw [List.getElem?_set_self hlt]) (by omega) (fun w' hw cs hl ⟨nv, he, hr⟩ => ⟨v, by rw [he]; rfl, RT.same (RT.same hv (s1.mono (fun t ht => EU.ne t ht))) (hw.mono (fun t ht => ht))⟩)
  rw [List.set_set] at h2
  exact h2

set_option maxHeartbeats 1000000 in
theorem lToTask (x : TaskD) (v : Value) (w : World) (h : XI w v x.need) (hl : x.need.length ≤ 4000000) :
    Calls Try.prog 155 #[.agg #[.int .i64 x.id, v]] w fun e w' => ∃ v', e = .returned (.agg #[.int .i64 x.id, v']) ∧ OI w' w.heap.size v' x.need ∧ Ext w w' := by
  have h0 := h
  obtain ⟨A, c, rfl, _⟩ := h
  have hX : Ext w (((w.alloc (.cells #[.int .i64 x.id, .slice A x.need.length c] 165)).alloc (.cells #[.int .i64 0, .slice none 0 0] 64)).alloc (.cells #[.int .i64 x.id, .slice none 0 0] 64)) :=
    ((Ext.alloc _ _).trans (Ext.alloc _ _)).trans (Ext.alloc _ _)
  have g1 : (((w.alloc (.cells #[.int .i64 x.id, .slice A x.need.length c] 165)).alloc (.cells #[.int .i64 0, .slice none 0 0] 64)).alloc (.cells #[.int .i64 x.id, .slice none 0 0] 64)).heap[w.heap.size]? = some (.cells #[.int .i64 x.id, .slice A x.need.length c] 165 (0, 0)) :=
    (Ext.alloc _ _).obj ((Ext.alloc _ _).obj (heap_alloc_new _ _))
  have g2 : (((w.alloc (.cells #[.int .i64 x.id, .slice A x.need.length c] 165)).alloc (.cells #[.int .i64 0, .slice none 0 0] 64)).alloc (.cells #[.int .i64 x.id, .slice none 0 0] 64)).heap[w.heap.size + 1]? = some (.cells #[.int .i64 0, .slice none 0 0] 64 (0, 0)) :=
    (Ext.alloc _ _).obj (heap_new (by simp))
  have g3 : (((w.alloc (.cells #[.int .i64 x.id, .slice A x.need.length c] 165)).alloc (.cells #[.int .i64 0, .slice none 0 0] 64)).alloc (.cells #[.int .i64 x.id, .slice none 0 0] 64)).heap[w.heap.size + 1 + 1]? = some (.cells #[.int .i64 x.id, .slice none 0 0] 64 (0, 0)) :=
    heap_new (by simp)
  have HX := hid hX
  have G2 := hid g2
  have G3 := hid g3
  have b0 := cell_new w #[.int .i64 x.id, .slice A x.need.length c] 165 0
  simp only [List.getElem?_toArray, List.getElem?_cons_zero] at b0
  have b1 := obj_cell g1 (i := 1) rfl
  clear hX g1 g2 g3
  go_enter Try.func155, Try.ntmps155
  go_wp2_with (go_at_call 31; refine (lToInts _ x.need _ (XI.ext h0 HX.out) hl).mono ?_; rintro e w1 ⟨v1, rfl, hO1, hE1⟩; obtain ⟨A1, c1, rfl, hf1, hf2⟩ := hO1.form; have p2 := hE1.obj G2.out; have p3 := hE1.obj G3.out; have HO1 := hid (Own.low hO1 HX.out.size); have HE1 := hid (HX.out.trans hE1); clear hO1 hE1; have q1 := obj_cell p3 (i := 1) rfl; have q1f := obj_frozen p3 1; have x3 := obj_set p3 1 (.slice A1 x.need.length c1); have x2 := obj_far p2 (p := ⟨w.heap.size + 1 + 1, 1, none⟩) (by show w.heap.size + 1 ≠ w.heap.size + 1 + 1; omega) (.slice A1 x.need.length c1); have z0 := obj_cell x3 (i := 0) rfl; have z1 := obj_cell x3 (i := 1) rfl; have y0 := obj_cell x2 (i := 0) rfl; have y1 := obj_cell x2 (i := 1) rfl; have y0f := obj_frozen x2 0; have y1f := obj_frozen x2 1; have k := obj_set x2 0 (.int .i64 x.id); have k1 := obj_cell k (i := 1) rfl; have k1f := obj_frozen k 1; have r := obj_set2 x2 (.int .i64 x.id) (.slice A1 x.need.length c1); have r0 := obj_cell r (i := 0) rfl; have r1 := obj_cell r (i := 1) rfl)
  have hlt := HE1.out.size
  have hE2 : Ext w (((w1.setCell ⟨w.heap.size + 1 + 1, 1, none⟩ (.slice A1 x.need.length c1)).setCell ⟨w.heap.size + 1, 0, none⟩ (.int .i64 x.id)).setCell ⟨w.heap.size + 1, 1, none⟩ (.slice A1 x.need.length c1)) :=
    Below.setCell (Below.setCell (Below.setCell HE1.out (by show w.heap.size ≤ w.heap.size + 1 + 1; omega) _) (by show w.heap.size ≤ w.heap.size + 1; omega) _) (by show w.heap.size ≤ w.heap.size + 1; omega) _
  have hsm := ((SameT.setCell (p := ⟨w.heap.size + 1 + 1, 1, none⟩) p3 (.slice A1 x.need.length c1) (T := fun t => t ≠ 64) (fun t ht => ht)).trans (SameT.setCell (p := ⟨w.heap.size + 1, 0, none⟩) x2 (.int .i64 x.id) (T := fun t => t ≠ 64) (fun t ht => ht))).trans (SameT.setCell (p := ⟨w.heap.size + 1, 1, none⟩) k (.slice A1 x.need.length c1) (T := fun t => t ≠ 64) (fun t ht => ht))
  refine bodyPost_ret (v := .agg #[.int .i64 x.id, .slice A1 x.need.length c1]) (by simp [results, Try.results155, go_sem, r0, r1]) rfl ⟨_, rfl, ?_, hE2⟩
  exact Own.same EI.ok HO1.out (hsm.mono (by rintro t (rfl | h) <;> first | decide | exact h.elim))

set_option maxHeartbeats 1000000 in
theorem lToTasks (v : Value) (xs : List TaskD) (w : World) (h : XT w v xs) (hl : xs.length ≤ 4000000) (hn : ∀ t ∈ xs, t.need.length ≤ 4000000) :
    Calls Try.prog 142 #[v] w fun e w' => ∃ v', e = .returned v' ∧ OT w' w.heap.size v' xs ∧ Ext w w' := by
  obtain ⟨A, c, rfl, hc, hc', hr⟩ := h.get
  clear h
  obtain ⟨i0_task, hi0_task, hz0_task, hz1_task, hz2_task⟩ := info_parts info_task
  go_enter Try.func142, Try.ntmps142
  go_wp2_with (at_make; refine wpList_make_full _ rfl _ _ 54 rfl w.heap.size 64 i0_task _ 2 Try.underlying54 hi0_task hz0_task hz1_task _ _ _ _ xs.length rfl rfl rfl rfl (by rw [hz2_task]; omega) (by unfold maxLen; omega) (Nat.le_refl _) ?_; intro w1 hO1 hg1; have HE1 : Hid (Ext w w1) := hid (Below.grown (Ext.refl _) hg1 (Nat.le_refl _) (fun k hk => by cases hk)); have HO1 : Hid (OT w1 w.heap.size (.slice (some ⟨w.heap.size, 0, none⟩) xs.length xs.length) (List.replicate xs.length ⟨0, []⟩)) := hid (Own.full (E := ET) (size := 2) (z := .agg #[.int .i64 0, .slice none 0 0]) ⟨0, []⟩ (by rfl) ⟨.slice none 0 0, rfl, RSl.nil_ _ _ _ _ _ _ (by omega)⟩ hO1); clear hO1 hg1)
  go_loopw [4] (fun i wr => ∃ k : Nat, k ≤ xs.length ∧ i = .int .i64 k ∧ OT wr w.heap.size (.slice (some ⟨w.heap.size, 0, none⟩) xs.length xs.length) (xs.take k ++ List.replicate (xs.length - k) ⟨0, []⟩) ∧ Ext w wr) (fun i _ => xs.length - (intOf i).toNat)
  case atStart => exact ⟨0, Nat.zero_le _, rfl, by simpa using HO1.out, HE1.out⟩
  case round =>
    obtain ⟨k, hk, rfl, hO, hE⟩ := hrel
    by_cases hlt : k < xs.length
    · obtain ⟨b1, o1, x1, An, cn, rfl, e1, c1, c2, hn⟩ := hr k hlt
      have i1 : (k : Int) < (xs.length : Int) := by omega
      have c1r := hE.cell c1
      have c2r := hE.cell c2
      have HO := hid hO
      have HN := hid (XI.ext hn hE)
      have HM := hid (List.mem_of_getElem? e1.out)
      clear c1 c2 hO hn
      go_wp2_with (go_at_call 155; refine (lToTask x1 _ _ HN.out (hn x1 HM.out)).mono ?_; rintro e w2 ⟨v2, rfl, hO2, hE2⟩; obtain ⟨A2, c2, rfl, hf1, hf2⟩ := hO2.form; have HO2 := hid hO2; have HE2 := hid hE2; have HO := hid (HO.out.ext ET.ok hE2); obtain ⟨Ao, co, s0, s1, s0f, s1f, sg⟩ := OT.at_ HO.out (pad_at xs ⟨0, []⟩ rfl hlt); clear hO2 hE2)
      go_roundw
      case rel =>
        have hs := OT.set2 HO.out (pad_at xs ⟨0, []⟩ rfl hlt) x1 (.slice A2 x1.need.length c2) HO2.out.read
        rw [pad_set rfl e1.out] at hs
        exact ⟨k + 1, by omega, by go_num, hs, Below.setCell (Below.setCell (hE.trans HE2.out) (Nat.le_refl _) _) (Nat.le_refl _) _⟩
      case measure => simp [intOf]; omega
    · go_wp2
      go_ret
      have hk' : k = xs.length := by omega
      subst hk'
      rw [pad_end] at hO
      exact ⟨_, rfl, hO, hE⟩

set_option maxHeartbeats 1000000 in
theorem lToUnit (x : UnitD) (v : Value) (w : World) (h : XT w v x.tasks) (hl : x.tasks.length ≤ 4000000) (hn : ∀ t ∈ x.tasks, t.need.length ≤ 4000000) :
    Calls Try.prog 109 #[.agg #[.bool x.opened, v]] w fun e w' => ∃ v', e = .returned (.agg #[.bool x.opened, v']) ∧ OT w' w.heap.size v' x.tasks ∧ Ext w w' := by
  have h0 := h
  obtain ⟨A, c, rfl, _⟩ := h
  have hX : Ext w (((w.alloc (.cells #[.bool x.opened, .slice A x.tasks.length c] 121)).alloc (.cells #[.bool false, .slice none 0 0] 56)).alloc (.cells #[.bool x.opened, .slice none 0 0] 56)) :=
    ((Ext.alloc _ _).trans (Ext.alloc _ _)).trans (Ext.alloc _ _)
  have g1 : (((w.alloc (.cells #[.bool x.opened, .slice A x.tasks.length c] 121)).alloc (.cells #[.bool false, .slice none 0 0] 56)).alloc (.cells #[.bool x.opened, .slice none 0 0] 56)).heap[w.heap.size]? = some (.cells #[.bool x.opened, .slice A x.tasks.length c] 121 (0, 0)) :=
    (Ext.alloc _ _).obj ((Ext.alloc _ _).obj (heap_alloc_new _ _))
  have g2 : (((w.alloc (.cells #[.bool x.opened, .slice A x.tasks.length c] 121)).alloc (.cells #[.bool false, .slice none 0 0] 56)).alloc (.cells #[.bool x.opened, .slice none 0 0] 56)).heap[w.heap.size + 1]? = some (.cells #[.bool false, .slice none 0 0] 56 (0, 0)) :=
    (Ext.alloc _ _).obj (heap_new (by simp))
  have g3 : (((w.alloc (.cells #[.bool x.opened, .slice A x.tasks.length c] 121)).alloc (.cells #[.bool false, .slice none 0 0] 56)).alloc (.cells #[.bool x.opened, .slice none 0 0] 56)).heap[w.heap.size + 1 + 1]? = some (.cells #[.bool x.opened, .slice none 0 0] 56 (0, 0)) :=
    heap_new (by simp)
  have HX := hid hX
  have G2 := hid g2
  have G3 := hid g3
  have b0 := cell_new w #[.bool x.opened, .slice A x.tasks.length c] 121 0
  simp only [List.getElem?_toArray, List.getElem?_cons_zero] at b0
  have b1 := obj_cell g1 (i := 1) rfl
  clear hX g1 g2 g3
  go_enter Try.func109, Try.ntmps109
  go_wp2_with (go_at_call 142; refine (lToTasks _ x.tasks _ (XT.ext h0 HX.out) hl hn).mono ?_; rintro e w1 ⟨v1, rfl, hO1, hE1⟩; obtain ⟨A1, c1, rfl, hf1, hf2⟩ := hO1.form; have p2 := hE1.obj G2.out; have p3 := hE1.obj G3.out; have HO1 := hid (Own.low hO1 HX.out.size); have HE1 := hid (HX.out.trans hE1); clear hO1 hE1; have q1 := obj_cell p3 (i := 1) rfl; have q1f := obj_frozen p3 1; have x3 := obj_set p3 1 (.slice A1 x.tasks.length c1); have x2 := obj_far p2 (p := ⟨w.heap.size + 1 + 1, 1, none⟩) (by show w.heap.size + 1 ≠ w.heap.size + 1 + 1; omega) (.slice A1 x.tasks.length c1); have z0 := obj_cell x3 (i := 0) rfl; have z1 := obj_cell x3 (i := 1) rfl; have y0 := obj_cell x2 (i := 0) rfl; have y1 := obj_cell x2 (i := 1) rfl; have y0f := obj_frozen x2 0; have y1f := obj_frozen x2 1; have k := obj_set x2 0 (.bool x.opened); have k1 := obj_cell k (i := 1) rfl; have k1f := obj_frozen k 1; have r := obj_set2 x2 (.bool x.opened) (.slice A1 x.tasks.length c1); have r0 := obj_cell r (i := 0) rfl; have r1 := obj_cell r (i := 1) rfl)
  have hlt := HE1.out.size
  have hE2 : Ext w (((w1.setCell ⟨w.heap.size + 1 + 1, 1, none⟩ (.slice A1 x.tasks.length c1)).setCell ⟨w.heap.size + 1, 0, none⟩ (.bool x.opened)).setCell ⟨w.heap.size + 1, 1, none⟩ (.slice A1 x.tasks.length c1)) :=
    Below.setCell (Below.setCell (Below.setCell HE1.out (by show w.heap.size ≤ w.heap.size + 1 + 1; omega) _) (by show w.heap.size ≤ w.heap.size + 1; omega) _) (by show w.heap.size ≤ w.heap.size + 1; omega) _
  have hsm := ((SameT.setCell (p := ⟨w.heap.size + 1 + 1, 1, none⟩) p3 (.slice A1 x.tasks.length c1) (T := fun t => t ≠ 56) (fun t ht => ht)).trans (SameT.setCell (p := ⟨w.heap.size + 1, 0, none⟩) x2 (.bool x.opened) (T := fun t => t ≠ 56) (fun t ht => ht))).trans (SameT.setCell (p := ⟨w.heap.size + 1, 1, none⟩) k (.slice A1 x.tasks.length c1) (T := fun t => t ≠ 56) (fun t ht => ht))
  refine bodyPost_ret (v := .agg #[.bool x.opened, .slice A1 x.tasks.length c1]) (by simp [results, Try.results109, go_sem, r0, r1]) rfl ⟨_, rfl, ?_, hE2⟩
  exact Own.same ET.ok HO1.out (hsm.mono (by rintro t (rfl | rfl) <;> decide))

set_option maxHeartbeats 1000000 in
theorem lToUnits (v : Value) (xs : List UnitD) (w : World) (h : XU w v xs) (hl : xs.length ≤ 4000000) (hn : ∀ u ∈ xs, u.tasks.length ≤ 4000000 ∧ ∀ t ∈ u.tasks, t.need.length ≤ 4000000) :
    Calls Try.prog 64 #[v] w fun e w' => ∃ v', e = .returned v' ∧ OU w' w.heap.size v' xs ∧ Ext w w' := by
  obtain ⟨A, c, rfl, hc, hc', hr⟩ := h.get
  clear h
  obtain ⟨i0_unit, hi0_unit, hz0_unit, hz1_unit, hz2_unit⟩ := info_parts info_unit
  go_enter Try.func64, Try.ntmps64
  go_wp2_with (at_make; refine wpList_make_full _ rfl _ _ 24 rfl w.heap.size 56 i0_unit _ 2 Try.underlying24 hi0_unit hz0_unit hz1_unit _ _ _ _ xs.length rfl rfl rfl rfl (by rw [hz2_unit]; omega) (by unfold maxLen; omega) (Nat.le_refl _) ?_; intro w1 hO1 hg1; have HE1 : Hid (Ext w w1) := hid (Below.grown (Ext.refl _) hg1 (Nat.le_refl _) (fun k hk => by cases hk)); have HO1 : Hid (OU w1 w.heap.size (.slice (some ⟨w.heap.size, 0, none⟩) xs.length xs.length) (List.replicate xs.length ⟨false, []⟩)) := hid (Own.full (E := EU) (size := 2) (z := .agg #[.bool false, .slice none 0 0]) ⟨false, []⟩ (by rfl) ⟨.slice none 0 0, rfl, RSl.nil_ _ _ _ _ _ _ (by omega)⟩ hO1); clear hO1 hg1)
  go_loopw [4] (fun i wr => ∃ k : Nat, k ≤ xs.length ∧ i = .int .i64 k ∧ OU wr w.heap.size (.slice (some ⟨w.heap.size, 0, none⟩) xs.length xs.length) (xs.take k ++ List.replicate (xs.length - k) ⟨false, []⟩) ∧ Ext w wr) (fun i _ => xs.length - (intOf i).toNat)
  case atStart => exact ⟨0, Nat.zero_le _, rfl, by simpa using HO1.out, HE1.out⟩
  case round =>
    obtain ⟨k, hk, rfl, hO, hE⟩ := hrel
    by_cases hlt : k < xs.length
    · obtain ⟨b1, o1, x1, An, cn, rfl, e1, c1, c2, hn⟩ := hr k hlt
      have i1 : (k : Int) < (xs.length : Int) := by omega
      have c1r := hE.cell c1
      have c2r := hE.cell c2
      have HO := hid hO
      have HN := hid (XT.ext hn hE)
      have HM := hid (List.mem_of_getElem? e1.out)
      clear c1 c2 hO hn
      go_wp2_with (go_at_call 109; refine (lToUnit x1 _ _ HN.out (hn x1 HM.out).1 (hn x1 HM.out).2).mono ?_; rintro e w2 ⟨v2, rfl, hO2, hE2⟩; obtain ⟨A2, c2, rfl, hf1, hf2⟩ := hO2.form; have HO2 := hid hO2; have HE2 := hid hE2; have HO := hid (HO.out.ext EU.ok hE2); obtain ⟨Ao, co, s0, s1, s0f, s1f, sg⟩ := OU.at_ HO.out (pad_at xs ⟨false, []⟩ rfl hlt); clear hO2 hE2)
      go_roundw
      case rel =>
        have hs := OU.set2 HO.out (pad_at xs ⟨false, []⟩ rfl hlt) x1 (.slice A2 x1.tasks.length c2) HO2.out.read
        rw [pad_set rfl e1.out] at hs
        exact ⟨k + 1, by omega, by go_num, hs, Below.setCell (Below.setCell (hE.trans HE2.out) (Nat.le_refl _) _) (Nat.le_refl _) _⟩
      case measure => simp [intOf]; omega
    · go_wp2
      go_ret
      have hk' : k = xs.length := by omega
      subst hk'
      rw [pad_end] at hO
      exact ⟨_, rfl, hO, hE⟩

end Go.Proofs.Ytfgibhdglbjadaa
