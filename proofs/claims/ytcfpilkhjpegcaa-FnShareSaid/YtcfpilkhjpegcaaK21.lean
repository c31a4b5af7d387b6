/- The laws' copies of what came in. -/
import Derived.Test.YtcfpilkhjpegcaaK6
namespace Go.Proofs.Ytcfpilkhjpegcaa
open Go.RowKit
set_option maxRecDepth 4000

theorem pad_at {α : Type} (xs : List α) (z : α) {k n : Nat} (hn : n = xs.length) (hk : k < n) : (xs.take k ++ List.replicate (n - k) z)[k]? = some z := by
  have hl : (xs.take k).length = k := by rw [List.length_take]; omega
  rw [List.getElem?_append_right (by omega), hl, Nat.sub_self, List.getElem?_replicate, if_pos (by omega)]
theorem pad_set {α : Type} {xs : List α} {z x : α} {k n : Nat} (hn : n = xs.length) (hx : xs[k]? = some x) : (xs.take k ++ List.replicate (n - k) z).set k x = xs.take (k + 1) ++ List.replicate (n - (k + 1)) z := by
  have hk : k < xs.length := (List.getElem?_eq_some_iff.1 hx).1
  have hl : (xs.take k).length = k := by rw [List.length_take]; omega
  rw [List.set_append_right _ _ (by omega), hl, Nat.sub_self, take_snoc hx, List.append_assoc]
  have : n - k = (n - (k + 1)) + 1 := by omega
  rw [this, List.replicate_succ]
  rfl
theorem pad_len {α : Type} (xs : List α) (z : α) {k n : Nat} (hn : n = xs.length) (hk : k ≤ n) : (xs.take k ++ List.replicate (n - k) z).length = n := by
  rw [List.length_append, List.length_take, List.length_replicate]; omega
theorem pad_end {α : Type} (xs : List α) (z : α) : xs.take xs.length ++ List.replicate (xs.length - xs.length) z = xs := by simp

set_option maxHeartbeats 1000000 in
theorem lToInts (v : Value) (xs : List Int) (w : World) (h : XI w v xs) (hl : xs.length ≤ 4000000) :
    Calls Try.prog 45 #[v] w fun e w' => ∃ v', e = .returned v' ∧ OI w' w.heap.size v' xs ∧ Ext w w' := by
  obtain ⟨A, c, rfl, hc, hc', hr⟩ := h.get
  clear h
  obtain ⟨i0_int, hi0_int, hz0_int, hz1_int, hz2_int⟩ := info_parts info_int
  go_enter Try.func45, Try.ntmps45
  go_wp2_with (at_make; refine wpList_make_full _ rfl _ _ 23 rfl w.heap.size 3 i0_int _ 1 Try.underlying23 hi0_int hz0_int hz1_int _ _ _ _ xs.length rfl rfl rfl rfl (by rw [hz2_int]; omega) (by unfold maxLen; omega) (Nat.le_refl _) ?_; intro w1 hO1 hg1; have HE1 : Hid (Ext w w1) := hid (Below.grown (Ext.refl _) hg1 (Nat.le_refl _) (fun k hk => by cases hk)); have HO1 : Hid (OI w1 w.heap.size (.slice (some ⟨w.heap.size, 0, none⟩) xs.length xs.length) (List.replicate xs.length 0)) := hid (Own.full (z := .int .i64 0) 0 rfl (by unfold EI; rfl) hO1); clear hO1 hg1)
  go_loopw [4] (fun i wr => ∃ k : Nat, k ≤ xs.length ∧ i = .int .i64 k ∧ OI wr w.heap.size (.slice (some ⟨w.heap.size, 0, none⟩) xs.length xs.length) (xs.take k ++ List.replicate (xs.length - k) 0) ∧ Ext w wr) (fun i _ => xs.length - (intOf i).toNat)
  case atStart => exact ⟨0, Nat.zero_le _, rfl, by simpa using HO1.out, HE1.out⟩
  case round =>
    obtain ⟨k, hk, rfl, hO, hE⟩ := hrel
    by_cases hlt : k < xs.length
    · obtain ⟨b1, o1, x1, rfl, e1, c1⟩ := hr k hlt
      have i1 : (k : Int) < (xs.length : Int) := by omega
      obtain ⟨c3, f3, _⟩ := hO.at_ (j := k) (x := 0) (pad_at xs 0 rfl hlt)
      have c1r := hE.cell c1
      have HO := hid hO
      clear c1 hO
      go_wp2
      go_roundw
      case rel =>
        have hs := (OI.set HO.out (j := k) (by rw [pad_len xs 0 rfl hk]; exact hlt) x1).1
        rw [pad_set rfl e1.out] at hs
        exact ⟨k + 1, by omega, by go_num, hs, Below.setCell hE (Nat.le_refl _) _⟩
      case measure => simp [intOf]; omega
    · go_wp2
      go_ret
      have hk' : k = xs.length := by omega
      subst hk'
      rw [pad_end] at hO
      exact ⟨_, rfl, hO, hE⟩

end Go.Proofs.Ytcfpilkhjpegcaa

/- The laws' copies of tasks, nodes and clusters. -/
namespace Go.Proofs.Ytcfpilkhjpegcaa
open Go.RowKit
set_option maxRecDepth 4000

theorem Own.frozen_ {α : Type} {e : TypeId} {size : Nat} {E : Enc α} {w : World} {base g n c : Nat} {xs : List α} (h : Own e size E w base (.slice (some ⟨g, 0, none⟩) n c) xs) (i : Nat) : w.frozen? ⟨g, i, none⟩ = false := by
  obtain ⟨cells, ho, _⟩ := h
  rcases ho.2 with ⟨h1, _⟩ | ⟨g', cap, cur, h1, _, hg, _⟩
  · cases h1
  · injection h1 with h1 _ _
    injection h1 with h1
    injection h1 with h1 _ _
    subst h1
    exact obj_frozen hg i
theorem OT.at_ {w : World} {base g n c : Nat} {xs : List TaskD} (h : OT w base (.slice (some ⟨g, 0, none⟩) n c) xs) {j : Nat} {x : TaskD} (hj : xs[j]? = some x) :
    ∃ An cn, w.cell? ⟨g, j * 2, none⟩ = some (.int .i64 x.id) ∧ w.cell? ⟨g, j * 2 + 1, none⟩ = some (.slice An x.need.length cn) ∧ w.frozen? ⟨g, j * 2, none⟩ = false ∧ w.frozen? ⟨g, j * 2 + 1, none⟩ = false ∧ base ≤ g := by
  obtain ⟨A, c', hv, _, _, hg⟩ := RT.get h.read
  have hlt : j < xs.length := (List.getElem?_eq_some_iff.1 hj).1
  obtain ⟨b, o, y, An, cn, hA, he, c1, c2, _⟩ := hg j hlt
  injection hv with h1 h2 h3
  subst hA
  injection h1 with h1
  injection h1 with h1 h4 _
  subst h1 h4
  have : y = x := by have := he.out; rw [hj] at this; injection this with this; exact this.symm
  subst this
  exact ⟨An, cn, by simpa using c1, by simpa using c2, h.frozen_ _, h.frozen_ _, (h.lt g rfl).1⟩
theorem OT.set2 {w : World} {base g n c : Nat} {xs : List TaskD} (h : OT w base (.slice (some ⟨g, 0, none⟩) n c) xs) {j : Nat} {x : TaskD} (hj : xs[j]? = some x) (y : TaskD) (v : Value) (hv : RI w v y.need) :
    OT ((w.setCell ⟨g, j * 2, none⟩ (.int .i64 y.id)).setCell ⟨g, j * 2 + 1, none⟩ v) base (.slice (some ⟨g, 0, none⟩) n c) (xs.set j y) := by
  have hlt : j < xs.length := (List.getElem?_eq_some_iff.1 hj).1
  obtain ⟨h1, s1⟩ := Own.set ET.ok ET.ne h hj (i := 0) (u := .int .i64 y.id) (x' := ⟨y.id, x.need⟩) (by omega) (fun w' hw cs hl ⟨nv, he, hr⟩ => ⟨nv, by rw [he]; rfl, hr.same (hw.mono (fun t ht => ht))⟩)
  obtain ⟨h2, _⟩ := Own.set ET.ok ET.ne h1 (j := j) (i := 1) (x := ⟨y.id, x.need⟩) (u := v) (x' := y) (by rw [List.getElem?_set_self hlt]) (by omega) (fun w' hw cs hl ⟨nv, he, hr⟩ => ⟨v, by rw [he]; rfl, RI.same (RI.same hv (s1.mono (fun t ht => ET.ne t ht))) (hw.mono (fun t ht => ht))⟩)
  rw [List.set_set] at h2
  exact h2
theorem OU.at_ {w : World} {base g n c : Nat} {xs : List UnitD} (h : OU w base (.slice (some ⟨g, 0, none⟩) n c) xs) {j : Nat} {x : UnitD} (hj : xs[j]? = some x) :
    ∃ An cn, w.cell? ⟨g, j * 2, none⟩ = some (.bool x.opened) ∧ w.cell? ⟨g, j * 2 + 1, none⟩ = some (.slice An x.tasks.length cn) ∧ w.frozen? ⟨g, j * 2, none⟩ = false ∧ w.frozen? ⟨g, j * 2 + 1, none⟩ = false ∧ base ≤ g := by
  obtain ⟨A, c', hv, _, _, hg⟩ := RU.get h.read
  have hlt : j < xs.length := (List.getElem?_eq_some_iff.1 hj).1
  obtain ⟨b, o, y, An, cn, hA, he, c1, c2, _⟩ := hg j hlt
  injection hv with h1 h2 h3
  subst hA
  injection h1 with h1
  injection h1 with h1 h4 _
  subst h1 h4
  have : y = x := by have := he.out; rw [hj] at this; injection this with this; exact this.symm
  subst this
  exact ⟨An, cn, by simpa using c1, by simpa using c2, h.frozen_ _, h.frozen_ _, (h.lt g rfl).1⟩
theorem OU.set2 {w : World} {base g n c : Nat} {xs : List UnitD} (h : OU w base (.slice (some ⟨g, 0, none⟩) n c) xs) {j : Nat} {x : UnitD} (hj : xs[j]? = some x) (y : UnitD) (v : Value) (hv : RT w v y.tasks) :
    OU ((w.setCell ⟨g, j * 2, none⟩ (.bool y.opened)).setCell ⟨g, j * 2 + 1, none⟩ v) base (.slice (some ⟨g, 0, none⟩) n c) (xs.set j y) := by
  have hlt : j < xs.length := (List.getElem?_eq_some_iff.1 hj).1
  obtain ⟨h1, s1⟩ := Own.set EU.ok EU.ne h hj (i := 0) (u := .bool y.opened) (x' := ⟨y.opened, x.tasks⟩) (by omega) (fun w' hw cs hl ⟨nv, he, hr⟩ => ⟨nv, by rw [he]; rfl, hr.same (hw.mono (fun t ht => ht))⟩)
  obtain ⟨h2, _⟩ := Own.set EU.ok EU.ne h1 (j := j) (i := 1) (x := ⟨y.opened, x.tasks⟩) (u := v) (x' := y) (by rw [List.getElem?_set_self hlt]) (by omega) (fun w' hw cs hl ⟨nv, he, hr⟩ => ⟨v, by rw [he]; rfl, RT.same (RT.same hv (s1.mono (fun t ht => EU.ne t ht))) (hw.mono (fun t ht => ht))⟩)
  rw [List.set_set] at h2
  exact h2

set_option maxHeartbeats 1000000 in
theorem lToTask (x : TaskD) (v : Value) (w : World) (h : XI w v x.need) (hl : x.need.length ≤ 4000000) :
    Calls Try.prog 129 #[.agg #[.int .i64 x.id, v]] w fun e w' => ∃ v', e = .returned (.agg #[.int .i64 x.id, v']) ∧ OI w' w.heap.size v' x.need ∧ Ext w w' := by
  have h0 := h
  obtain ⟨A, c, rfl, _⟩ := h
  have hX : Ext w (((w.alloc (.cells #[.int .i64 x.id, .slice A x.need.length c] 149)).alloc (.cells #[.int .i64 0, .slice none 0 0] 80)).alloc (.cells #[.int .i64 x.id, .slice none 0 0] 80)) :=
    ((Ext.alloc _ _).trans (Ext.alloc _ _)).trans (Ext.alloc _ _)
  have g1 : (((w.alloc (.cells #[.int .i64 x.id, .slice A x.need.length c] 149)).alloc (.cells #[.int .i64 0, .slice none 0 0] 80)).alloc (.cells #[.int .i64 x.id, .slice none 0 0] 80)).heap[w.heap.size]? = some (.cells #[.int .i64 x.id, .slice A x.need.length c] 149 (0, 0)) :=
    (Ext.alloc _ _).obj ((Ext.alloc _ _).obj (heap_alloc_new _ _))
  have g2 : (((w.alloc (.cells #[.int .i64 x.id, .slice A x.need.length c] 149)).alloc (.cells #[.int .i64 0, .slice none 0 0] 80)).alloc (.cells #[.int .i64 x.id, .slice none 0 0] 80)).heap[w.heap.size + 1]? = some (.cells #[.int .i64 0, .slice none 0 0] 80 (0, 0)) :=
    (Ext.alloc _ _).obj (heap_new (by simp))
  have g3 : (((w.alloc (.cells #[.int .i64 x.id, .slice A x.need.length c] 149)).alloc (.cells #[.int .i64 0, .slice none 0 0] 80)).alloc (.cells #[.int .i64 x.id, .slice none 0 0] 80)).heap[w.heap.size + 1 + 1]? = some (.cells #[.int .i64 x.id, .slice none 0 0] 80 (0, 0)) :=
    heap_new (by simp)
  have HX := hid hX
  have G2 := hid g2
  have G3 := hid g3
  have b0 := cell_new w #[.int .i64 x.id, .slice A x.need.length c] 149 0
  simp only [List.getElem?_toArray, List.getElem?_cons_zero] at b0
  have b1 := obj_cell g1 (i := 1) rfl
  clear hX g1 g2 g3
  go_enter Try.func129, Try.ntmps129
  go_wp2_with (go_at_call 45; refine (lToInts _ x.need _ (XI.ext h0 HX.out) hl).mono ?_; rintro e w1 ⟨v1, rfl, hO1, hE1⟩; obtain ⟨A1, c1, rfl, hf1, hf2⟩ := hO1.form; have p2 := hE1.obj G2.out; have p3 := hE1.obj G3.out; have HO1 := hid (Own.low hO1 HX.out.size); have HE1 := hid (HX.out.trans hE1); clear hO1 hE1; have q1 := obj_cell p3 (i := 1) rfl; have q1f := obj_frozen p3 1; have x3 := obj_set p3 1 (.slice A1 x.need.length c1); have x2 := obj_far p2 (p := ⟨w.heap.size + 1 + 1, 1, none⟩) (by show w.heap.size + 1 ≠ w.heap.size + 1 + 1; omega) (.slice A1 x.need.length c1); have z0 := obj_cell x3 (i := 0) rfl; have z1 := obj_cell x3 (i := 1) rfl; have y0 := obj_cell x2 (i := 0) rfl; have y1 := obj_cell x2 (i := 1) rfl; have y0f := obj_frozen x2 0; have y1f := obj_frozen x2 1; have k := obj_set x2 0 (.int .i64 x.id); have k1 := obj_cell k (i := 1) rfl; have k1f := obj_frozen k 1; have r := obj_set2 x2 (.int .i64 x.id) (.slice A1 x.need.length c1); have r0 := obj_cell r (i := 0) rfl; have r1 := obj_cell r (i := 1) rfl)
  have hlt := HE1.out.size
  have hE2 : Ext w (((w1.setCell ⟨w.heap.size + 1 + 1, 1, none⟩ (.slice A1 x.need.length c1)).setCell ⟨w.heap.size + 1, 0, none⟩ (.int .i64 x.id)).setCell ⟨w.heap.size + 1, 1, none⟩ (.slice A1 x.need.length c1)) :=
    Below.setCell (Below.setCell (Below.setCell HE1.out (by show w.heap.size ≤ w.heap.size + 1 + 1; omega) _) (by show w.heap.size ≤ w.heap.size + 1; omega) _) (by show w.heap.size ≤ w.heap.size + 1; omega) _
  have hsm := ((SameT.setCell (p := ⟨w.heap.size + 1 + 1, 1, none⟩) p3 (.slice A1 x.need.length c1) (T := fun t => t ≠ 80) (fun t ht => ht)).trans (SameT.setCell (p := ⟨w.heap.size + 1, 0, none⟩) x2 (.int .i64 x.id) (T := fun t => t ≠ 80) (fun t ht => ht))).trans (SameT.setCell (p := ⟨w.heap.size + 1, 1, none⟩) k (.slice A1 x.need.length c1) (T := fun t => t ≠ 80) (fun t ht => ht))
  refine bodyPost_ret (v := .agg #[.int .i64 x.id, .slice A1 x.need.length c1]) (by simp [results, Try.results129, go_sem, r0, r1]) rfl ⟨_, rfl, ?_, hE2⟩
  exact Own.same EI.ok HO1.out (hsm.mono (by rintro t (rfl | h) <;> first | decide | exact h.elim))

set_option maxHeartbeats 1000000 in
theorem lToTasks (v : Value) (xs : List TaskD) (w : World) (h : XT w v xs) (hl : xs.length ≤ 4000000) (hn : ∀ t ∈ xs, t.need.length ≤ 4000000) :
    Calls Try.prog 112 #[v] w fun e w' => ∃ v', e = .returned v' ∧ OT w' w.heap.size v' xs ∧ Ext w w' := by
  obtain ⟨A, c, rfl, hc, hc', hr⟩ := h.get
  clear h
  obtain ⟨i0_task, hi0_task, hz0_task, hz1_task, hz2_task⟩ := info_parts info_task
  go_enter Try.func112, Try.ntmps112
  go_wp2_with (at_make; refine wpList_make_full _ rfl _ _ 42 rfl w.heap.size 80 i0_task _ 2 Try.underlying42 hi0_task hz0_task hz1_task _ _ _ _ xs.length rfl rfl rfl rfl (by rw [hz2_task]; omega) (by unfold maxLen; omega) (Nat.le_refl _) ?_; intro w1 hO1 hg1; have HE1 : Hid (Ext w w1) := hid (Below.grown (Ext.refl _) hg1 (Nat.le_refl _) (fun k hk => by cases hk)); have HO1 : Hid (OT w1 w.heap.size (.slice (some ⟨w.heap.size, 0, none⟩) xs.length xs.length) (List.replicate xs.length ⟨0, []⟩)) := hid (Own.full (E := ET) (size := 2) (z := .agg #[.int .i64 0, .slice none 0 0]) ⟨0, []⟩ (by rfl) ⟨.slice none 0 0, rfl, RSl.nil_ _ _ _ _ _ _ (by omega)⟩ hO1); clear hO1 hg1)
  go_loopw [4] (fun i wr => ∃ k : Nat, k ≤ xs.length ∧ i = .int .i64 k ∧ OT wr w.heap.size (.slice (some ⟨w.heap.size, 0, none⟩) xs.length xs.length) (xs.take k ++ List.replicate (xs.length - k) ⟨0, []⟩) ∧ Ext w wr) (fun i _ => xs.length - (intOf i).toNat)
  case atStart => exact ⟨0, Nat.zero_le _, rfl, by simpa using HO1.out, HE1.out⟩
  case round =>
    obtain ⟨k, hk, rfl, hO, hE⟩ := hrel
    by_cases hlt : k < xs.length
    · obtain ⟨b1, o1, x1, An, cn, rfl, e1, c1, c2, hn⟩ := hr k hlt
      have i1 : (k : Int) < (xs.length : Int) := by omega
      have c1r := hE.cell c1
      have c2r := hE.cell c2
      have HO := hid hO
      have HN := hid (XI.ext hn hE)
      have HM := hid (List.mem_of_getElem? e1.out)
      clear c1 c2 hO hn
      go_wp2_with (go_at_call 129; refine (lToTask x1 _ _ HN.out (hn x1 HM.out)).mono ?_; rintro e w2 ⟨v2, rfl, hO2, hE2⟩; obtain ⟨A2, c2, rfl, hf1, hf2⟩ := hO2.form; have HO2 := hid hO2; have HE2 := hid hE2; have HO := hid (HO.out.ext ET.ok hE2); obtain ⟨Ao, co, s0, s1, s0f, s1f, sg⟩ := OT.at_ HO.out (pad_at xs ⟨0, []⟩ rfl hlt); clear hO2 hE2)
      go_roundw
      case rel =>
        have hs := OT.set2 HO.out (pad_at xs ⟨0, []⟩ rfl hlt) x1 (.slice A2 x1.need.length c2) HO2.out.read
        rw [pad_set rfl e1.out] at hs
        exact ⟨k + 1, by omega, by go_num, hs, Below.setCell (Below.setCell (hE.trans HE2.out) (Nat.le_refl _) _) (Nat.le_refl _) _⟩
      case measure => simp [intOf]; omega
    · go_wp2
      go_ret
      have hk' : k = xs.length := by omega
      subst hk'
      rw [pad_end] at hO
      exact ⟨_, rfl, hO, hE⟩

set_option maxHeartbeats 1000000 in
theorem lToUnit (x : UnitD) (v : Value) (w : World) (h : XT w v x.tasks) (hl : x.tasks.length ≤ 4000000) (hn : ∀ t ∈ x.tasks, t.need.length ≤ 4000000) :
    Calls Try.prog 74 #[.agg #[.bool x.opened, v]] w fun e w' => ∃ v', e = .returned (.agg #[.bool x.opened, v']) ∧ OT w' w.heap.size v' x.tasks ∧ Ext w w' := by
  have h0 := h
  obtain ⟨A, c, rfl, _⟩ := h
  have hX : Ext w (((w.alloc (.cells #[.bool x.opened, .slice A x.tasks.length c] 103)).alloc (.cells #[.bool false, .slice none 0 0] 44)).alloc (.cells #[.bool x.opened, .slice none 0 0] 44)) :=
    ((Ext.alloc _ _).trans (Ext.alloc _ _)).trans (Ext.alloc _ _)
  have g1 : (((w.alloc (.cells #[.bool x.opened, .slice A x.tasks.length c] 103)).alloc (.cells #[.bool false, .slice none 0 0] 44)).alloc (.cells #[.bool x.opened, .slice none 0 0] 44)).heap[w.heap.size]? = some (.cells #[.bool x.opened, .slice A x.tasks.length c] 103 (0, 0)) :=
    (Ext.alloc _ _).obj ((Ext.alloc _ _).obj (heap_alloc_new _ _))
  have g2 : (((w.alloc (.cells #[.bool x.opened, .slice A x.tasks.length c] 103)).alloc (.cells #[.bool false, .slice none 0 0] 44)).alloc (.cells #[.bool x.opened, .slice none 0 0] 44)).heap[w.heap.size + 1]? = some (.cells #[.bool false, .slice none 0 0] 44 (0, 0)) :=
    (Ext.alloc _ _).obj (heap_new (by simp))
  have g3 : (((w.alloc (.cells #[.bool x.opened, .slice A x.tasks.length c] 103)).alloc (.cells #[.bool false, .slice none 0 0] 44)).alloc (.cells #[.bool x.opened, .slice none 0 0] 44)).heap[w.heap.size + 1 + 1]? = some (.cells #[.bool x.opened, .slice none 0 0] 44 (0, 0)) :=
    heap_new (by simp)
  have HX := hid hX
  have G2 := hid g2
  have G3 := hid g3
  have b0 := cell_new w #[.bool x.opened, .slice A x.tasks.length c] 103 0
  simp only [List.getElem?_toArray, List.getElem?_cons_zero] at b0
  have b1 := obj_cell g1 (i := 1) rfl
  clear hX g1 g2 g3
  go_enter Try.func74, Try.ntmps74
  go_wp2_with (go_at_call 112; refine (lToTasks _ x.tasks _ (XT.ext h0 HX.out) hl hn).mono ?_; rintro e w1 ⟨v1, rfl, hO1, hE1⟩; obtain ⟨A1, c1, rfl, hf1, hf2⟩ := hO1.form; have p2 := hE1.obj G2.out; have p3 := hE1.obj G3.out; have HO1 := hid (Own.low hO1 HX.out.size); have HE1 := hid (HX.out.trans hE1); clear hO1 hE1; have q1 := obj_cell p3 (i := 1) rfl; have q1f := obj_frozen p3 1; have x3 := obj_set p3 1 (.slice A1 x.tasks.length c1); have x2 := obj_far p2 (p := ⟨w.heap.size + 1 + 1, 1, none⟩) (by show w.heap.size + 1 ≠ w.heap.size + 1 + 1; omega) (.slice A1 x.tasks.length c1); have z0 := obj_cell x3 (i := 0) rfl; have z1 := obj_cell x3 (i := 1) rfl; have y0 := obj_cell x2 (i := 0) rfl; have y1 := obj_cell x2 (i := 1) rfl; have y0f := obj_frozen x2 0; have y1f := obj_frozen x2 1; have k := obj_set x2 0 (.bool x.opened); have k1 := obj_cell k (i := 1) rfl; have k1f := obj_frozen k 1; have r := obj_set2 x2 (.bool x.opened) (.slice A1 x.tasks.length c1); have r0 := obj_cell r (i := 0) rfl; have r1 := obj_cell r (i := 1) rfl)
  have hlt := HE1.out.size
  have hE2 : Ext w (((w1.setCell ⟨w.heap.size + 1 + 1, 1, none⟩ (.slice A1 x.tasks.length c1)).setCell ⟨w.heap.size + 1, 0, none⟩ (.bool x.opened)).setCell ⟨w.heap.size + 1, 1, none⟩ (.slice A1 x.tasks.length c1)) :=
    Below.setCell (Below.setCell (Below.setCell HE1.out (by show w.heap.size ≤ w.heap.size + 1 + 1; omega) _) (by show w.heap.size ≤ w.heap.size + 1; omega) _) (by show w.heap.size ≤ w.heap.size + 1; omega) _
  have hsm := ((SameT.setCell (p := ⟨w.heap.size + 1 + 1, 1, none⟩) p3 (.slice A1 x.tasks.length c1) (T := fun t => t ≠ 44) (fun t ht => ht)).trans (SameT.setCell (p := ⟨w.heap.size + 1, 0, none⟩) x2 (.bool x.opened) (T := fun t => t ≠ 44) (fun t ht => ht))).trans (SameT.setCell (p := ⟨w.heap.size + 1, 1, none⟩) k (.slice A1 x.tasks.length c1) (T := fun t => t ≠ 44) (fun t ht => ht))
  refine bodyPost_ret (v := .agg #[.bool x.opened, .slice A1 x.tasks.length c1]) (by simp [results, Try.results74, go_sem, r0, r1]) rfl ⟨_, rfl, ?_, hE2⟩
  exact Own.same ET.ok HO1.out (hsm.mono (by rintro t (rfl | rfl) <;> decide))

set_option maxHeartbeats 1000000 in
theorem lToUnits (v : Value) (xs : List UnitD) (w : World) (h : XU w v xs) (hl : xs.length ≤ 4000000) (hn : ∀ u ∈ xs, u.tasks.length ≤ 4000000 ∧ ∀ t ∈ u.tasks, t.need.length ≤ 4000000) :
    Calls Try.prog 46 #[v] w fun e w' => ∃ v', e = .returned v' ∧ OU w' w.heap.size v' xs ∧ Ext w w' := by
  obtain ⟨A, c, rfl, hc, hc', hr⟩ := h.get
  clear h
  obtain ⟨i0_unit, hi0_unit, hz0_unit, hz1_unit, hz2_unit⟩ := info_parts info_unit
  go_enter Try.func46, Try.ntmps46
  go_wp2_with (at_make; refine wpList_make_full _ rfl _ _ 24 rfl w.heap.size 44 i0_unit _ 2 Try.underlying24 hi0_unit hz0_unit hz1_unit _ _ _ _ xs.length rfl rfl rfl rfl (by rw [hz2_unit]; omega) (by unfold maxLen; omega) (Nat.le_refl _) ?_; intro w1 hO1 hg1; have HE1 : Hid (Ext w w1) := hid (Below.grown (Ext.refl _) hg1 (Nat.le_refl _) (fun k hk => by cases hk)); have HO1 : Hid (OU w1 w.heap.size (.slice (some ⟨w.heap.size, 0, none⟩) xs.length xs.length) (List.replicate xs.length ⟨false, []⟩)) := hid (Own.full (E := EU) (size := 2) (z := .agg #[.bool false, .slice none 0 0]) ⟨false, []⟩ (by rfl) ⟨.slice none 0 0, rfl, RSl.nil_ _ _ _ _ _ _ (by omega)⟩ hO1); clear hO1 hg1)
  go_loopw [4] (fun i wr => ∃ k : Nat, k ≤ xs.length ∧ i = .int .i64 k ∧ OU wr w.heap.size (.slice (some ⟨w.heap.size, 0, none⟩) xs.length xs.length) (xs.take k ++ List.replicate (xs.length - k) ⟨false, []⟩) ∧ Ext w wr) (fun i _ => xs.length - (intOf i).toNat)
  case atStart => exact ⟨0, Nat.zero_le _, rfl, by simpa using HO1.out, HE1.out⟩
  case round =>
    obtain ⟨k, hk, rfl, hO, hE⟩ := hrel
    by_cases hlt : k < xs.length
    · obtain ⟨b1, o1, x1, An, cn, rfl, e1, c1, c2, hn⟩ := hr k hlt
      have i1 : (k : Int) < (xs.length : Int) := by omega
      have c1r := hE.cell c1
      have c2r := hE.cell c2
      have HO := hid hO
      have HN := hid (XT.ext hn hE)
      have HM := hid (List.mem_of_getElem? e1.out)
      clear c1 c2 hO hn
      go_wp2_with (go_at_call 74; refine (lToUnit x1 _ _ HN.out (hn x1 HM.out).1 (hn x1 HM.out).2).mono ?_; rintro e w2 ⟨v2, rfl, hO2, hE2⟩; obtain ⟨A2, c2, rfl, hf1, hf2⟩ := hO2.form; have HO2 := hid hO2; have HE2 := hid hE2; have HO := hid (HO.out.ext EU.ok hE2); obtain ⟨Ao, co, s0, s1, s0f, s1f, sg⟩ := OU.at_ HO.out (pad_at xs ⟨false, []⟩ rfl hlt); clear hO2 hE2)
      go_roundw
      case rel =>
        have hs := OU.set2 HO.out (pad_at xs ⟨false, []⟩ rfl hlt) x1 (.slice A2 x1.tasks.length c2) HO2.out.read
        rw [pad_set rfl e1.out] at hs
        exact ⟨k + 1, by omega, by go_num, hs, Below.setCell (Below.setCell (hE.trans HE2.out) (Nat.le_refl _) _) (Nat.le_refl _) _⟩
      case measure => simp [intOf]; omega
    · go_wp2
      go_ret
      have hk' : k = xs.length := by omega
      subst hk'
      rw [pad_end] at hO
      exact ⟨_, rfl, hO, hE⟩

end Go.Proofs.Ytcfpilkhjpegcaa

/- The laws' copy of a cluster. -/
namespace Go.Proofs.Ytcfpilkhjpegcaa
open Go.RowKit
set_option maxRecDepth 4000

theorem notClus : ∀ t, (t = 44 ∨ t = 80 ∨ t = 3) → t ≠ 26 := by rintro t (rfl | rfl | rfl) <;> decide

/-- a cluster of the call's own, by its two values -/
def OClu (w : World) (base : Nat) (cv : Value) (C : ClusD) : Prop := ∃ rv uv, cv = .agg #[rv, uv] ∧ OI w base rv C.room ∧ OU w base uv C.units
theorem OClu.read {w : World} {base : Nat} {cv : Value} {C : ClusD} (h : OClu w base cv C) : ClusV w cv C := let ⟨rv, uv, h1, h2, h3⟩ := h; ⟨rv, uv, h1, h2.read, h3.read⟩
theorem OClu.ext {w w' : World} {base : Nat} {cv : Value} {C : ClusD} (h : OClu w base cv C) (ha : Ext w w') : OClu w' base cv C := let ⟨rv, uv, h1, h2, h3⟩ := h; ⟨rv, uv, h1, h2.ext EI.ok ha, h3.ext EU.ok ha⟩

set_option maxHeartbeats 2000000 in
theorem lToCluster (cv : Value) (C : ClusD) (w : World) (h : ClusX w cv C) (hr : C.room.length ≤ 4000000) (hu : C.units.length ≤ 4000000) (hn : ∀ u ∈ C.units, u.tasks.length ≤ 4000000 ∧ ∀ t ∈ u.tasks, t.need.length ≤ 4000000) :
    Calls Try.prog 15 #[cv] w fun e w' => ∃ v', e = .returned v' ∧ OClu w' w.heap.size v' C ∧ Ext w w' := by
  obtain ⟨rv, uv, rfl, hrv, huv⟩ := h
  have hrv0 := hrv
  have huv0 := huv
  obtain ⟨Ar, cr, rfl, _⟩ := hrv
  obtain ⟨Au, cu, rfl, _⟩ := huv
  have hX : Ext w (((w.alloc (.cells #[.slice Ar C.room.length cr, .slice Au C.units.length cu] 34)).alloc (.cells #[.slice none 0 0, .slice none 0 0] 26)).alloc (.cells #[.slice none 0 0, .slice none 0 0] 26)) :=
    ((Ext.alloc _ _).trans (Ext.alloc _ _)).trans (Ext.alloc _ _)
  have g1 : (((w.alloc (.cells #[.slice Ar C.room.length cr, .slice Au C.units.length cu] 34)).alloc (.cells #[.slice none 0 0, .slice none 0 0] 26)).alloc (.cells #[.slice none 0 0, .slice none 0 0] 26)).heap[w.heap.size]? = some (.cells #[.slice Ar C.room.length cr, .slice Au C.units.length cu] 34 (0, 0)) :=
    (Ext.alloc _ _).obj ((Ext.alloc _ _).obj (heap_alloc_new _ _))
  have g2 : (((w.alloc (.cells #[.slice Ar C.room.length cr, .slice Au C.units.length cu] 34)).alloc (.cells #[.slice none 0 0, .slice none 0 0] 26)).alloc (.cells #[.slice none 0 0, .slice none 0 0] 26)).heap[w.heap.size + 1]? = some (.cells #[.slice none 0 0, .slice none 0 0] 26 (0, 0)) :=
    (Ext.alloc _ _).obj (heap_new (by simp))
  have g3 : (((w.alloc (.cells #[.slice Ar C.room.length cr, .slice Au C.units.length cu] 34)).alloc (.cells #[.slice none 0 0, .slice none 0 0] 26)).alloc (.cells #[.slice none 0 0, .slice none 0 0] 26)).heap[w.heap.size + 1 + 1]? = some (.cells #[.slice none 0 0, .slice none 0 0] 26 (0, 0)) :=
    heap_new (by simp)
  have HX := hid hX
  have G1 := hid g1
  have G2 := hid g2
  have G3 := hid g3
  have HR := hid (XI.ext hrv0 hX)
  have HU := hid huv0
  have b0 := obj_cell g1 (i := 0) rfl
  clear hX g1 g2 g3 hrv0 huv0
  go_enter Try.func15, Try.ntmps15
  go_wp2_with (first
    | (go_at_call 45; refine (lToInts _ C.room _ HR.out hr).mono ?_; rintro e w1 ⟨v1, rfl, hO1, hE1⟩; obtain ⟨A1, c1, rfl, hf1, hf2⟩ := hO1.form; have p1 := hE1.obj G1.out; have p2 := hE1.obj G2.out; have p3 := hE1.obj G3.out; have HO1 := hid (Own.low hO1 HX.out.size); have HE1 := hid (HX.out.trans hE1); clear hO1 hE1; have q0 := obj_cell p3 (i := 0) rfl; have q0f := obj_frozen p3 0; have x1 := obj_far p1 (p := ⟨w.heap.size + 1 + 1, 0, none⟩) (by show w.heap.size ≠ w.heap.size + 1 + 1; omega) (.slice A1 C.room.length c1); have x2 := obj_far p2 (p := ⟨w.heap.size + 1 + 1, 0, none⟩) (by show w.heap.size + 1 ≠ w.heap.size + 1 + 1; omega) (.slice A1 C.room.length c1); have x3 := obj_set p3 0 (.slice A1 C.room.length c1); have y1 := obj_cell x1 (i := 1) rfl; have X2 := hid x2; have X3 := hid x3; have HE2 : Hid (Ext w (w1.setCell ⟨w.heap.size + 1 + 1, 0, none⟩ (.slice A1 C.room.length c1))) := hid (Below.setCell HE1.out (by show w.heap.size ≤ w.heap.size + 1 + 1; omega) _); have HS2 := hid (SameT.setCell (p := ⟨w.heap.size + 1 + 1, 0, none⟩) p3 (.slice A1 C.room.length c1) (T := fun t => t ≠ 26) (fun t ht => ht)); clear x1 x2 x3 p1 p2 p3)
    | (go_at_call 46; refine (lToUnits _ C.units _ (XU.ext HU.out HE2.out) hu hn).mono ?_; rintro e w3 ⟨v3, rfl, hO3, hE3⟩; obtain ⟨A3, c3, rfl, hf3, hf4⟩ := hO3.form; have p2 := hE3.obj X2.out; have p3 := hE3.obj X3.out; have HO3 := hid (Own.low hO3 HE2.out.size); have HE3 := hid (HE2.out.trans hE3); have HS3 := hid (HS2.out.trans (hE3.same (fun t => t ≠ 26))); clear hO3 hE3; have q1 := obj_cell p3 (i := 1) rfl; have q1f := obj_frozen p3 1; have x3 := obj_set p3 1 (.slice A3 C.units.length c3); have x2 := obj_far p2 (p := ⟨w.heap.size + 1 + 1, 1, none⟩) (by show w.heap.size + 1 ≠ w.heap.size + 1 + 1; omega) (.slice A3 C.units.length c3); have z0 := obj_cell x3 (i := 0) rfl; have z1 := obj_cell x3 (i := 1) rfl; have y0 := obj_cell x2 (i := 0) rfl; have y1 := obj_cell x2 (i := 1) rfl; have y0f := obj_frozen x2 0; have y1f := obj_frozen x2 1; have k := obj_set x2 0 (.slice A1 C.room.length c1); have k1 := obj_cell k (i := 1) rfl; have k1f := obj_frozen k 1; have r := obj_set2 x2 (.slice A1 C.room.length c1) (.slice A3 C.units.length c3); have r0 := obj_cell r (i := 0) rfl; have r1 := obj_cell r (i := 1) rfl))
  have hlt := HE3.out.size
  have hE4 : Ext w (((w3.setCell ⟨w.heap.size + 1 + 1, 1, none⟩ (.slice A3 C.units.length c3)).setCell ⟨w.heap.size + 1, 0, none⟩ (.slice A1 C.room.length c1)).setCell ⟨w.heap.size + 1, 1, none⟩ (.slice A3 C.units.length c3)) :=
    Below.setCell (Below.setCell (Below.setCell HE3.out (by show w.heap.size ≤ w.heap.size + 1 + 1; omega) _) (by show w.heap.size ≤ w.heap.size + 1; omega) _) (by show w.heap.size ≤ w.heap.size + 1; omega) _
  have hsm := ((SameT.setCell (p := ⟨w.heap.size + 1 + 1, 1, none⟩) p3 (.slice A3 C.units.length c3) (T := fun t => t ≠ 26) (fun t ht => ht)).trans (SameT.setCell (p := ⟨w.heap.size + 1, 0, none⟩) x2 (.slice A1 C.room.length c1) (T := fun t => t ≠ 26) (fun t ht => ht))).trans (SameT.setCell (p := ⟨w.heap.size + 1, 1, none⟩) k (.slice A3 C.units.length c3) (T := fun t => t ≠ 26) (fun t ht => ht))
  refine bodyPost_ret (v := .agg #[.slice A1 C.room.length c1, .slice A3 C.units.length c3]) (by simp [results, Try.results15, go_sem, r0, r1]) rfl ⟨_, rfl, ⟨_, _, rfl, ?_, ?_⟩, hE4⟩
  · exact Own.same EI.ok HO1.out ((HS3.out.trans hsm).mono (by rintro t (rfl | h) <;> first | decide | exact h.elim))
  · exact Own.same EU.ok HO3.out (hsm.mono notClus)

end Go.Proofs.Ytcfpilkhjpegcaa

/- How much came in. -/
namespace Go.Proofs.Ytcfpilkhjpegcaa
open Go.RowKit
set_option maxRecDepth 4000

def sumN {α : Type} (f : α → Nat) (xs : List α) : Nat := (xs.map f).sum
theorem sumN_take {α : Type} (f : α → Nat) {xs : List α} {k : Nat} {x : α} (h : xs[k]? = some x) : sumN f (xs.take (k + 1)) = sumN f (xs.take k) + f x := by
  unfold sumN
  rw [take_snoc h]
  simp
theorem sumN_mem {α : Type} (f : α → Nat) : ∀ {xs : List α} {x : α}, x ∈ xs → f x ≤ sumN f xs
  | y :: ys, x, h => by
    rcases List.mem_cons.1 h with rfl | h
    · simp [sumN]
    · have := sumN_mem f h
      simp only [sumN, List.map_cons, List.sum_cons] at this ⊢
      omega
theorem sumN_le {α : Type} {f g : α → Nat} : ∀ (xs : List α), (∀ x ∈ xs, f x ≤ g x) → sumN f xs ≤ sumN g xs
  | [], _ => by simp [sumN]
  | y :: ys, h => by
    have h1 := h y (by simp)
    have h2 := sumN_le ys (fun x hx => h x (by simp [hx]))
    simp only [sumN, List.map_cons, List.sum_cons] at h2 ⊢
    omega
def wInts (xs : List Int) : Nat := xs.length
def wTask (t : TaskD) : Nat := wInts t.need
def wTasks (ts : List TaskD) : Nat := ts.length + sumN wTask ts
def wUnit (u : UnitD) : Nat := wTasks u.tasks
def wUnits (us : List UnitD) : Nat := us.length + sumN wUnit us
def wClus (c : ClusD) : Nat := wInts c.room + wUnits c.units
def RetSz (w : World) (left : Int) (n : Nat) (e : Ending) (w' : World) : Prop := ∃ r : Int, e = .returned (.int .i64 r) ∧ Ext w w' ∧ -1 ≤ r ∧ r ≤ left ∧ (0 ≤ r → (n : Int) + r ≤ left)

theorem lSzInts (v : Value) (xs : List Int) (left : Int) (w : World) (h : XI w v xs) (h0 : 0 ≤ left) (h1 : left ≤ 2000000) :
    Calls Try.prog 43 #[v, .int .i64 left] w (RetSz w left (wInts xs)) := by
  obtain ⟨A, c, rfl, hc, hc', _⟩ := h
  by_cases hneg : left - (xs.length : Int) < 0
  · go_enter Try.func43, Try.ntmps43
    go_wp2
    go_ret
    exact ⟨-1, rfl, Ext.refl _, by omega, by omega, fun h => absurd h (by omega)⟩
  · have hneg' : ¬ left < (xs.length : Int) := by omega
    go_enter Try.func43, Try.ntmps43
    go_wp2
    go_ret
    exact ⟨left - (xs.length : Int), rfl, Ext.refl _, by omega, by omega, fun _ => by unfold wInts; omega⟩

theorem lSzTask (x : TaskD) (v : Value) (left : Int) (w : World) (h : XI w v x.need) (h0 : 0 ≤ left) (h1 : left ≤ 2000000) :
    Calls Try.prog 128 #[.agg #[.int .i64 x.id, v], .int .i64 left] w (RetSz w left (wTask x)) := by
  have h' := h
  obtain ⟨A, c, rfl, _⟩ := h
  have hX := Ext.alloc w (.cells #[.int .i64 x.id, .slice A x.need.length c] 149)
  have b1 := cell_new w #[.int .i64 x.id, .slice A x.need.length c] 149 1
  simp only [List.getElem?_toArray, List.getElem?_cons_succ, List.getElem?_cons_zero] at b1
  have HX := hid hX
  have HH := hid (XI.ext h' hX)
  clear h' hX
  go_enter Try.func128, Try.ntmps128
  go_wp2_with (go_at_call 43; refine (lSzInts _ x.need left _ HH.out h0 h1).mono ?_; rintro e w1 ⟨r, rfl, hE1, hr1, hr2, hr3⟩; have HE1 := hid (HX.out.trans hE1); have HR3 := hid hr3; clear hE1 hr3)
  · go_ret
    exact ⟨-1, rfl, HE1.out, by omega, by omega, fun h => absurd h (by omega)⟩
  · go_ret
    exact ⟨r, rfl, HE1.out, hr1, hr2, HR3.out⟩

set_option maxHeartbeats 1000000 in
theorem lSzTasks (v : Value) (xs : List TaskD) (left : Int) (w : World) (h : XT w v xs) (h0 : 0 ≤ left) (h1 : left ≤ 2000000) :
    Calls Try.prog 111 #[v, .int .i64 left] w (RetSz w left (wTasks xs)) := by
  obtain ⟨A, c, rfl, hc, hc', hr⟩ := h.get
  clear h
  by_cases hneg : left - (xs.length : Int) < 0
  · go_enter Try.func111, Try.ntmps111
    go_wp2
    go_ret
    exact ⟨-1, rfl, Ext.refl _, by omega, by omega, fun h => absurd h (by omega)⟩
  · have hneg' : ¬ left < (xs.length : Int) := by omega
    have hge : 0 ≤ left - (xs.length : Int) := by omega
    go_enter Try.func111, Try.ntmps111
    go_wp2
    go_loopw [1, 5] (fun s i wr => ∃ (k : Nat) (l : Int), k ≤ xs.length ∧ i = .int .i64 k ∧ s = .int .i64 l ∧ 0 ≤ l ∧ l ≤ 2000000 ∧ Hid ((xs.length : Int) + (sumN wTask (xs.take k) : Nat) + l ≤ left) ∧ Ext w wr) (fun _ i _ => xs.length - (intOf i).toNat)
    case atStart => exact ⟨0, left - (xs.length : Int), Nat.zero_le _, rfl, rfl, hge, by omega, hid (by simp [sumN]; omega), Ext.refl _⟩
    case round =>
      obtain ⟨k, l, hk, rfl, rfl, hl0, hl1, H, hE⟩ := hrel
      by_cases hlt : k < xs.length
      · obtain ⟨b1, o1, x1, An, cn, rfl, e1, c1, c2, hn⟩ := hr k hlt
        have i1 : (k : Int) < (xs.length : Int) := by omega
        have c1r := hE.cell c1
        have c2r := hE.cell c2
        have HN := hid (XI.ext hn hE)
        have HS := hid (sumN_take wTask e1.out)
        clear c1 c2 hn
        go_wp2_with (go_at_call 128; refine (lSzTask x1 _ l _ HN.out hl0 hl1).mono ?_; rintro e w2 ⟨r, rfl, hE2, hr1, hr2, hr3⟩; have HE2 := hid (hE.trans hE2); have HR3 := hid hr3; clear hE2 hr3)
        · go_ret
          exact ⟨-1, rfl, HE2.out, by omega, by omega, fun h => absurd h (by omega)⟩
        · have hr : 0 ≤ r := by omega
          go_roundw
          case rel => exact ⟨k + 1, r, by omega, by go_num, rfl, hr, by omega, hid (by
            have a1 := HR3.out hr
            have a2 := H.out
            rw [HS.out]
            omega), HE2.out⟩
          case measure => simp [intOf]; omega
      · go_wp2
        go_ret
        have hk' : k = xs.length := by omega
        subst hk'
        have a2 := H.out
        rw [List.take_length] at a2
        exact ⟨l, rfl, hE, by omega, by omega, fun _ => by unfold wTasks; omega⟩

theorem lSzUnit (x : UnitD) (v : Value) (left : Int) (w : World) (h : XT w v x.tasks) (h0 : 0 ≤ left) (h1 : left ≤ 2000000) :
    Calls Try.prog 73 #[.agg #[.bool x.opened, v], .int .i64 left] w (RetSz w left (wUnit x)) := by
  have h' := h
  obtain ⟨A, c, rfl, _⟩ := h
  have hX := Ext.alloc w (.cells #[.bool x.opened, .slice A x.tasks.length c] 103)
  have b1 := cell_new w #[.bool x.opened, .slice A x.tasks.length c] 103 1
  simp only [List.getElem?_toArray, List.getElem?_cons_succ, List.getElem?_cons_zero] at b1
  have HX := hid hX
  have HH := hid (XT.ext h' hX)
  clear h' hX
  go_enter Try.func73, Try.ntmps73
  go_wp2_with (go_at_call 111; refine (lSzTasks _ x.tasks left _ HH.out h0 h1).mono ?_; rintro e w1 ⟨r, rfl, hE1, hr1, hr2, hr3⟩; have HE1 := hid (HX.out.trans hE1); have HR3 := hid hr3; clear hE1 hr3)
  · go_ret
    exact ⟨-1, rfl, HE1.out, by omega, by omega, fun h => absurd h (by omega)⟩
  · go_ret
    exact ⟨r, rfl, HE1.out, hr1, hr2, HR3.out⟩

set_option maxHeartbeats 1000000 in
theorem lSzUnits (v : Value) (xs : List UnitD) (left : Int) (w : World) (h : XU w v xs) (h0 : 0 ≤ left) (h1 : left ≤ 2000000) :
    Calls Try.prog 44 #[v, .int .i64 left] w (RetSz w left (wUnits xs)) := by
  obtain ⟨A, c, rfl, hc, hc', hr⟩ := h.get
  clear h
  by_cases hneg : left - (xs.length : Int) < 0
  · go_enter Try.func44, Try.ntmps44
    go_wp2
    go_ret
    exact ⟨-1, rfl, Ext.refl _, by omega, by omega, fun h => absurd h (by omega)⟩
  · have hneg' : ¬ left < (xs.length : Int) := by omega
    have hge : 0 ≤ left - (xs.length : Int) := by omega
    go_enter Try.func44, Try.ntmps44
    go_wp2
    go_loopw [1, 5] (fun s i wr => ∃ (k : Nat) (l : Int), k ≤ xs.length ∧ i = .int .i64 k ∧ s = .int .i64 l ∧ 0 ≤ l ∧ l ≤ 2000000 ∧ Hid ((xs.length : Int) + (sumN wUnit (xs.take k) : Nat) + l ≤ left) ∧ Ext w wr) (fun _ i _ => xs.length - (intOf i).toNat)
    case atStart => exact ⟨0, left - (xs.length : Int), Nat.zero_le _, rfl, rfl, hge, by omega, hid (by simp [sumN]; omega), Ext.refl _⟩
    case round =>
      obtain ⟨k, l, hk, rfl, rfl, hl0, hl1, H, hE⟩ := hrel
      by_cases hlt : k < xs.length
      · obtain ⟨b1, o1, x1, An, cn, rfl, e1, c1, c2, hn⟩ := hr k hlt
        have i1 : (k : Int) < (xs.length : Int) := by omega
        have c1r := hE.cell c1
        have c2r := hE.cell c2
        have HN := hid (XT.ext hn hE)
        have HS := hid (sumN_take wUnit e1.out)
        clear c1 c2 hn
        go_wp2_with (go_at_call 73; refine (lSzUnit x1 _ l _ HN.out hl0 hl1).mono ?_; rintro e w2 ⟨r, rfl, hE2, hr1, hr2, hr3⟩; have HE2 := hid (hE.trans hE2); have HR3 := hid hr3; clear hE2 hr3)
        · go_ret
          exact ⟨-1, rfl, HE2.out, by omega, by omega, fun h => absurd h (by omega)⟩
        · have hr : 0 ≤ r := by omega
          go_roundw
          case rel => exact ⟨k + 1, r, by omega, by go_num, rfl, hr, by omega, hid (by
            have a1 := HR3.out hr
            have a2 := H.out
            rw [HS.out]
            omega), HE2.out⟩
          case measure => simp [intOf]; omega
      · go_wp2
        go_ret
        have hk' : k = xs.length := by omega
        subst hk'
        have a2 := H.out
        rw [List.take_length] at a2
        exact ⟨l, rfl, hE, by omega, by omega, fun _ => by unfold wUnits; omega⟩

set_option maxHeartbeats 1000000 in
theorem lSzClus (cv : Value) (C : ClusD) (left : Int) (w : World) (h : ClusX w cv C) (h0 : 0 ≤ left) (h1 : left ≤ 2000000) :
    Calls Try.prog 14 #[cv, .int .i64 left] w (RetSz w left (wClus C)) := by
  obtain ⟨rv, uv, rfl, hrv, huv⟩ := h
  have hrv0 := hrv
  have huv0 := huv
  obtain ⟨Ar, cr, rfl, _⟩ := hrv
  obtain ⟨Au, cu, rfl, _⟩ := huv
  have hX := Ext.alloc w (.cells #[.slice Ar C.room.length cr, .slice Au C.units.length cu] 34)
  have b0 := cell_new w #[.slice Ar C.room.length cr, .slice Au C.units.length cu] 34 0
  have b1 := cell_new w #[.slice Ar C.room.length cr, .slice Au C.units.length cu] 34 1
  simp only [List.getElem?_toArray, List.getElem?_cons_succ, List.getElem?_cons_zero] at b0 b1
  have HX := hid hX
  have HR := hid (XI.ext hrv0 hX)
  have HU := hid (XU.ext huv0 hX)
  clear hrv0 huv0 hX
  go_enter Try.func14, Try.ntmps14
  go_wp2_with (go_at_call 43; refine (lSzInts _ C.room left _ HR.out h0 h1).mono ?_; rintro e w1 ⟨r, rfl, hE1, hr1, hr2, hr3⟩; have b1 := hE1.cell b1; have HE1 := hid hE1; have HR3 := hid hr3; clear hE1 hr3)
  · go_ret
    exact ⟨-1, rfl, HX.out.trans HE1.out, by omega, by omega, fun h => absurd h (by omega)⟩
  · have hr : 0 ≤ r := by omega
    go_wp2_with (go_at_call 44; refine (lSzUnits _ C.units r _ (XU.ext HU.out HE1.out) hr (by omega)).mono ?_; rintro e w2 ⟨r2, rfl, hE2, hr4, hr5, hr6⟩; have HE2 := hid hE2; have HR6 := hid hr6; clear hE2 hr6)
    · go_ret
      exact ⟨-1, rfl, (HX.out.trans HE1.out).trans HE2.out, by omega, by omega, fun h => absurd h (by omega)⟩
    · go_ret
      exact ⟨r2, rfl, (HX.out.trans HE1.out).trans HE2.out, hr4, by omega, fun h => by
        have a1 := HR3.out hr
        have a2 := HR6.out h
        unfold wClus
        omega⟩

/-- what a bounded cluster is good for -/
theorem wClus_bd {C : ClusD} {M : Nat} (h : wClus C ≤ M) : C.room.length ≤ M ∧ C.units.length ≤ M ∧ (C.units.map (·.tasks)).flatten.length ≤ M ∧ ∀ u ∈ C.units, u.tasks.length ≤ M ∧ ∀ t ∈ u.tasks, t.need.length ≤ M := by
  unfold wClus wUnits wInts at h
  refine ⟨by omega, by omega, ?_, fun u hu => ?_⟩
  · have h1 : (C.units.map (·.tasks)).flatten.length = sumN (fun u => u.tasks.length) C.units := by
      rw [List.length_flatten, List.map_map]
      rfl
    have h2 : sumN (fun u => u.tasks.length) C.units ≤ sumN wUnit C.units := sumN_le _ (fun u _ => by unfold wUnit wTasks; omega)
    omega
  · have h1 := sumN_mem wUnit hu
    have e1 : wUnit u = u.tasks.length + sumN wTask u.tasks := rfl
    refine ⟨by omega, fun t ht => ?_⟩
    have h2 := sumN_mem wTask ht
    have e2 : wTask t = t.need.length := rfl
    omega

end Go.Proofs.Ytcfpilkhjpegcaa

/- The laws' tests for equal values, where they are equal. -/
namespace Go.Proofs.Ytcfpilkhjpegcaa
open Go.RowKit
set_option maxRecDepth 4000

theorem lEqInts (v u : Value) (xs : List Int) (w : World) (h : RI w v xs) (h' : RI w u xs) :
    Calls Try.prog 21 #[v, u] w (RetB w true) := by
  obtain ⟨A, c, rfl, hc, hc', hr⟩ := h.get
  obtain ⟨A', c', rfl, _, _, hr'⟩ := h'.get
  clear h h'
  go_enter Try.func21, Try.ntmps21
  go_wp2
  go_loopw [5] (fun i wr => ∃ k : Nat, k ≤ xs.length ∧ i = .int .i64 k ∧ ∃ n, wr = w.drewN n) (fun i _ => xs.length - (intOf i).toNat)
  case atStart => exact ⟨0, Nat.zero_le _, rfl, 0, rfl⟩
  case round =>
    obtain ⟨k, hk, rfl, n, rfl⟩ := hrel
    by_cases hlt : k < xs.length
    · obtain ⟨b1, o1, x1, rfl, e1, c1⟩ := hr k hlt
      obtain ⟨b2, o2, x2, rfl, e2, c2⟩ := hr' k hlt
      have hx : x2 = x1 := by have a := e1.out; rw [e2.out] at a; injection a
      subst hx
      have i1 : (k : Int) < (xs.length : Int) := by omega
      go_wp2
      go_quiet (fail)
      go_wp2
      go_roundw
      case rel => exact ⟨k + 1, by omega, by go_num, _, rfl⟩
      case measure => simp [intOf]; omega
    · go_wp2
      go_ret
      exact ⟨rfl, Ext.drewN _ _⟩

set_option maxHeartbeats 1000000 in
theorem lEqTask (x : TaskD) (v u : Value) (w : World) (h : RI w v x.need) (h' : RI w u x.need) :
    Calls Try.prog 130 #[.agg #[.int .i64 x.id, v], .agg #[.int .i64 x.id, u]] w (RetB w true) := by
  have k := h
  have k' := h'
  obtain ⟨A, c, rfl, _⟩ := h
  obtain ⟨A', c', rfl, _⟩ := h'
  have hX := (Ext.alloc w (.cells #[.int .i64 x.id, .slice A x.need.length c] 80)).trans (Ext.alloc _ (.cells #[.int .i64 x.id, .slice A' x.need.length c'] 80))
  have p0 := (Ext.alloc (w.alloc (.cells #[.int .i64 x.id, .slice A x.need.length c] 80)) (.cells #[.int .i64 x.id, .slice A' x.need.length c'] 80)).obj (heap_alloc_new w _)
  have p1 : ((w.alloc (.cells #[.int .i64 x.id, .slice A x.need.length c] 80)).alloc (.cells #[.int .i64 x.id, .slice A' x.need.length c'] 80)).heap[w.heap.size + 1]? = some (.cells #[.int .i64 x.id, .slice A' x.need.length c'] 80 (0, 0)) := heap_new (by simp)
  have a0 := obj_cell p0 (i := 0) rfl
  have a1 := obj_cell p0 (i := 1) rfl
  have a2 := obj_cell p1 (i := 0) rfl
  have a3 := obj_cell p1 (i := 1) rfl
  have HX := hid hX
  have H1 := hid (k.ext hX)
  have H2 := hid (k'.ext hX)
  clear k k' hX p0 p1
  go_enter Try.func130, Try.ntmps130
  go_wp2_with (go_at_call 21; refine (lEqInts _ _ x.need _ H1.out H2.out).mono ?_; rintro e w1 ⟨rfl, hE1⟩)
  go_ret
  exact ⟨rfl, HX.out.trans hE1⟩

set_option maxHeartbeats 1000000 in
theorem lEqTasks (v u : Value) (xs : List TaskD) (w : World) (h : RT w v xs) (h' : RT w u xs) :
    Calls Try.prog 113 #[v, u] w (RetB w true) := by
  obtain ⟨A, c, rfl, hc, hc', hr⟩ := h.get
  obtain ⟨A', c', rfl, _, _, hr'⟩ := h'.get
  clear h h'
  go_enter Try.func113, Try.ntmps113
  go_wp2
  go_loopw [5] (fun i wr => ∃ k : Nat, k ≤ xs.length ∧ i = .int .i64 k ∧ Ext w wr) (fun i _ => xs.length - (intOf i).toNat)
  case atStart => exact ⟨0, Nat.zero_le _, rfl, Ext.refl _⟩
  case round =>
    obtain ⟨k, hk, rfl, hE⟩ := hrel
    by_cases hlt : k < xs.length
    · obtain ⟨b1, o1, x1, An, cn, rfl, e1, c1, c2, hn⟩ := hr k hlt
      obtain ⟨b2, o2, x2, Am, cm, rfl, e2, d1, d2, hm⟩ := hr' k hlt
      have hx : x2 = x1 := by have a := e1.out; rw [e2.out] at a; injection a
      subst hx
      have i1 : (k : Int) < (xs.length : Int) := by omega
      have i0 : (0 : Int) ≤ (k : Int) := by omega
      have KH : Hid (∀ w', Ext wr w' → w'.cell? ⟨b1, o1 + k * 2, none⟩ = some (.int .i64 x2.id) ∧ w'.cell? ⟨b1, o1 + k * 2 + 1, none⟩ = some (.slice An x2.need.length cn) ∧ w'.cell? ⟨b2, o2 + k * 2, none⟩ = some (.int .i64 x2.id) ∧ w'.cell? ⟨b2, o2 + k * 2 + 1, none⟩ = some (.slice Am x2.need.length cm) ∧ Ext wr w') :=
        hid fun w' hw => ⟨hw.cell (hE.cell c1), hw.cell (hE.cell c2), hw.cell (hE.cell d1), hw.cell (hE.cell d2), hw⟩
      have H1 := hid (RI.ext hn hE)
      have H2 := hid (RI.ext hm hE)
      clear c1 c2 d1 d2 hn hm
      go_wp2
      go_region_held3 (fun w' => w'.cell? ⟨b1, o1 + k * 2, none⟩ = some (.int .i64 x2.id) ∧ w'.cell? ⟨b1, o1 + k * 2 + 1, none⟩ = some (.slice An x2.need.length cn) ∧ w'.cell? ⟨b2, o2 + k * 2, none⟩ = some (.int .i64 x2.id) ∧ w'.cell? ⟨b2, o2 + k * 2 + 1, none⟩ = some (.slice Am x2.need.length cm) ∧ Ext wr w')
        (first | exact KH.out _ (by assumption) | exact KH.out _ (Below.drew (Below.refl _ _)))
        ((go_at_call 130; refine (lEqTask x2 _ _ _ (RI.ext H1.out (Below.drew (Below.refl _ _))) (RI.ext H2.out (Below.drew (Below.refl _ _)))).mono ?_; rintro e w1 ⟨rfl, hE1⟩; have h01 : Ext wr w1 := Ext.trans (Below.drew (Below.refl _ _)) hE1))
      go_wp2
      go_roundw
      case rel => exact ⟨k + 1, by omega, by go_num, hE.trans h01⟩
      case measure => simp [intOf]; omega
    · go_wp2
      go_ret
      exact ⟨rfl, hE⟩

set_option maxHeartbeats 1000000 in
theorem lEqUnit (x : UnitD) (v u : Value) (w : World) (h : RT w v x.tasks) (h' : RT w u x.tasks) :
    Calls Try.prog 75 #[.agg #[.bool x.opened, v], .agg #[.bool x.opened, u]] w (RetB w true) := by
  have k := h
  have k' := h'
  obtain ⟨A, c, rfl, _⟩ := h
  obtain ⟨A', c', rfl, _⟩ := h'
  have hX := (Ext.alloc w (.cells #[.bool x.opened, .slice A x.tasks.length c] 44)).trans (Ext.alloc _ (.cells #[.bool x.opened, .slice A' x.tasks.length c'] 44))
  have p0 := (Ext.alloc (w.alloc (.cells #[.bool x.opened, .slice A x.tasks.length c] 44)) (.cells #[.bool x.opened, .slice A' x.tasks.length c'] 44)).obj (heap_alloc_new w _)
  have p1 : ((w.alloc (.cells #[.bool x.opened, .slice A x.tasks.length c] 44)).alloc (.cells #[.bool x.opened, .slice A' x.tasks.length c'] 44)).heap[w.heap.size + 1]? = some (.cells #[.bool x.opened, .slice A' x.tasks.length c'] 44 (0, 0)) := heap_new (by simp)
  have a0 := obj_cell p0 (i := 0) rfl
  have a1 := obj_cell p0 (i := 1) rfl
  have a2 := obj_cell p1 (i := 0) rfl
  have a3 := obj_cell p1 (i := 1) rfl
  have HX := hid hX
  have H1 := hid (k.ext hX)
  have H2 := hid (k'.ext hX)
  clear k k' hX p0 p1
  go_enter Try.func75, Try.ntmps75
  go_wp2_with (go_at_call 113; refine (lEqTasks _ _ x.tasks _ H1.out H2.out).mono ?_; rintro e w1 ⟨rfl, hE1⟩)
  go_ret
  exact ⟨rfl, HX.out.trans hE1⟩

set_option maxHeartbeats 1000000 in
theorem lEqUnits (v u : Value) (xs : List UnitD) (w : World) (h : RU w v xs) (h' : RU w u xs) :
    Calls Try.prog 47 #[v, u] w (RetB w true) := by
  obtain ⟨A, c, rfl, hc, hc', hr⟩ := h.get
  obtain ⟨A', c', rfl, _, _, hr'⟩ := h'.get
  clear h h'
  go_enter Try.func47, Try.ntmps47
  go_wp2
  go_loopw [5] (fun i wr => ∃ k : Nat, k ≤ xs.length ∧ i = .int .i64 k ∧ Ext w wr) (fun i _ => xs.length - (intOf i).toNat)
  case atStart => exact ⟨0, Nat.zero_le _, rfl, Ext.refl _⟩
  case round =>
    obtain ⟨k, hk, rfl, hE⟩ := hrel
    by_cases hlt : k < xs.length
    · obtain ⟨b1, o1, x1, An, cn, rfl, e1, c1, c2, hn⟩ := hr k hlt
      obtain ⟨b2, o2, x2, Am, cm, rfl, e2, d1, d2, hm⟩ := hr' k hlt
      have hx : x2 = x1 := by have a := e1.out; rw [e2.out] at a; injection a
      subst hx
      have i1 : (k : Int) < (xs.length : Int) := by omega
      have i0 : (0 : Int) ≤ (k : Int) := by omega
      have KH : Hid (∀ w', Ext wr w' → w'.cell? ⟨b1, o1 + k * 2, none⟩ = some (.bool x2.opened) ∧ w'.cell? ⟨b1, o1 + k * 2 + 1, none⟩ = some (.slice An x2.tasks.length cn) ∧ w'.cell? ⟨b2, o2 + k * 2, none⟩ = some (.bool x2.opened) ∧ w'.cell? ⟨b2, o2 + k * 2 + 1, none⟩ = some (.slice Am x2.tasks.length cm) ∧ Ext wr w') :=
        hid fun w' hw => ⟨hw.cell (hE.cell c1), hw.cell (hE.cell c2), hw.cell (hE.cell d1), hw.cell (hE.cell d2), hw⟩
      have H1 := hid (RT.ext hn hE)
      have H2 := hid (RT.ext hm hE)
      clear c1 c2 d1 d2 hn hm
      go_wp2
      go_region_held3 (fun w' => w'.cell? ⟨b1, o1 + k * 2, none⟩ = some (.bool x2.opened) ∧ w'.cell? ⟨b1, o1 + k * 2 + 1, none⟩ = some (.slice An x2.tasks.length cn) ∧ w'.cell? ⟨b2, o2 + k * 2, none⟩ = some (.bool x2.opened) ∧ w'.cell? ⟨b2, o2 + k * 2 + 1, none⟩ = some (.slice Am x2.tasks.length cm) ∧ Ext wr w')
        (first | exact KH.out _ (by assumption) | exact KH.out _ (Below.drew (Below.refl _ _)))
        ((go_at_call 75; refine (lEqUnit x2 _ _ _ (RT.ext H1.out (Below.drew (Below.refl _ _))) (RT.ext H2.out (Below.drew (Below.refl _ _)))).mono ?_; rintro e w1 ⟨rfl, hE1⟩; have h01 : Ext wr w1 := Ext.trans (Below.drew (Below.refl _ _)) hE1))
      go_wp2
      go_roundw
      case rel => exact ⟨k + 1, by omega, by go_num, hE.trans h01⟩
      case measure => simp [intOf]; omega
    · go_wp2
      go_ret
      exact ⟨rfl, hE⟩

set_option maxHeartbeats 1000000 in
theorem lEqClus (cv cu : Value) (C : ClusD) (w : World) (h : ClusV w cv C) (h' : ClusV w cu C) :
    Calls Try.prog 16 #[cv, cu] w (RetB w true) := by
  obtain ⟨rv, uv, rfl, hr, hu⟩ := h
  obtain ⟨rv', uv', rfl, hr', hu'⟩ := h'
  have k1 := hr
  have k2 := hu
  have k3 := hr'
  have k4 := hu'
  obtain ⟨A1, c1, rfl, _⟩ := hr
  obtain ⟨A2, c2, rfl, _⟩ := hu
  obtain ⟨A3, c3, rfl, _⟩ := hr'
  obtain ⟨A4, c4, rfl, _⟩ := hu'
  have hX := (Ext.alloc w (.cells #[.slice A1 C.room.length c1, .slice A2 C.units.length c2] 26)).trans (Ext.alloc _ (.cells #[.slice A3 C.room.length c3, .slice A4 C.units.length c4] 26))
  have p0 := (Ext.alloc (w.alloc (.cells #[.slice A1 C.room.length c1, .slice A2 C.units.length c2] 26)) (.cells #[.slice A3 C.room.length c3, .slice A4 C.units.length c4] 26)).obj (heap_alloc_new w _)
  have p1 : ((w.alloc (.cells #[.slice A1 C.room.length c1, .slice A2 C.units.length c2] 26)).alloc (.cells #[.slice A3 C.room.length c3, .slice A4 C.units.length c4] 26)).heap[w.heap.size + 1]? = some (.cells #[.slice A3 C.room.length c3, .slice A4 C.units.length c4] 26 (0, 0)) := heap_new (by simp)
  have a0 := obj_cell p0 (i := 0) rfl
  have a1 := obj_cell p0 (i := 1) rfl
  have a2 := obj_cell p1 (i := 0) rfl
  have a3 := obj_cell p1 (i := 1) rfl
  have HX := hid hX
  have H1 := hid (RI.ext k1 hX)
  have H2 := hid (RU.ext k2 hX)
  have H3 := hid (RI.ext k3 hX)
  have H4 := hid (RU.ext k4 hX)
  clear k1 k2 k3 k4 hX p0 p1
  go_enter Try.func16, Try.ntmps16
  go_wp2_with (first
    | (go_at_call 21; refine (lEqInts _ _ C.room _ H1.out H3.out).mono ?_; rintro e w1 ⟨rfl, hE1⟩; have a1 := hE1.cell a1; have a3 := hE1.cell a3; have HE1 := hid hE1; clear hE1)
    | (go_at_call 47; refine (lEqUnits _ _ C.units _ (RU.ext H2.out HE1.out) (RU.ext H4.out HE1.out)).mono ?_; rintro e w2 ⟨rfl, hE2⟩; have HE2 := hid hE2; clear hE2))
  go_ret
  exact ⟨rfl, HX.out.trans (HE1.out.trans HE2.out)⟩

end Go.Proofs.Ytcfpilkhjpegcaa
