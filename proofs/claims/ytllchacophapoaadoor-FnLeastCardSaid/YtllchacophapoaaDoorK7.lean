/- The laws' copies of what came in. -/
import Derived.Test.YtllchacophapoaaDoorK4
import Derived.Test.YtllchacophapoaaDoorK2
import Derived.Test.YtllchacophapoaaDoorK3
import Derived.Test.YtllchacophapoaaDoorK5
import Derived.Test.YtllchacophapoaaDoorK6
namespace Go.Proofs.YtllchacophapoaaDoor
open Go.RowKit
set_option maxRecDepth 4000

theorem pad_at {α : Type} (xs : List α) (z : α) {k n : Nat} (hn : n = xs.length) (hk : k < n) : (xs.take k ++ List.replicate (n - k) z)[k]? = some z := by
  have hl : (xs.take k).length = k := by rw [List.length_take]; omega
  rw [List.getElem?_append_right (by omega), hl, Nat.sub_self, List.getElem?_replicate, if_pos (by omega)]
theorem pad_set {α : Type} {xs : List α} {z x : α} {k n : Nat} (hn : n = xs.length) (hx : xs[k]? = some x) : (xs.take k ++ List.replicate (n - k) z).set k x = xs.take (k + 1) ++ List.replicate (n - (k + 1)) z := by
  have hk : k < xs.length := (List.getElem?_eq_some_iff.1 hx).1
  have hl : (xs.take k).length = k := by rw [List.length_take]; omega
  rw [List.set_append_right _ _ (by omega), hl, Nat.sub_self, take_snoc hx, List.append_assoc]
  have : n - k = (n - (k + 1)) + 1 := by omega
  rw [this, List.replicate_succ]
  rfl
theorem pad_len {α : Type} (xs : List α) (z : α) {k n : Nat} (hn : n = xs.length) (hk : k ≤ n) : (xs.take k ++ List.replicate (n - k) z).length = n := by
  rw [List.length_append, List.length_take, List.length_replicate]; omega
theorem pad_end {α : Type} (xs : List α) (z : α) : xs.take xs.length ++ List.replicate (xs.length - xs.length) z = xs := by simp

set_option maxHeartbeats 1000000 in
theorem lToInts (v : Value) (xs : List Int) (w : World) (h : XI w v xs) (hl : xs.length ≤ 4000000) :
    Calls Tryd.prog 8 #[v] w fun e w' => ∃ v', e = .returned v' ∧ OI w' w.heap.size v' xs ∧ Ext w w' := by
  obtain ⟨A, c, rfl, hc, hc', hr⟩ := h.get
  clear h
  obtain ⟨i0_int, hi0_int, hz0_int, hz1_int, hz2_int⟩ := info_parts info_int
  go_enter Tryd.func8, Tryd.ntmps8
  go_wp2_with (at_make; refine wpList_make_full _ rfl _ _ 22 rfl w.heap.size 3 i0_int _ 1 Tryd.underlying22 hi0_int hz0_int hz1_int _ _ _ _ xs.length rfl rfl rfl rfl (by rw [hz2_int]; omega) (by unfold maxLen; omega) (Nat.le_refl _) ?_; intro w1 hO1 hg1; have HE1 : Hid (Ext w w1) := hid (Below.grown (Ext.refl _) hg1 (Nat.le_refl _) (fun k hk => by cases hk)); have HO1 : Hid (OI w1 w.heap.size (.slice (some ⟨w.heap.size, 0, none⟩) xs.length xs.length) (List.replicate xs.length 0)) := hid (Own.full (z := .int .i64 0) 0 rfl (by unfold EI; rfl) hO1); clear hO1 hg1)
  go_loopw [4] (fun i wr => ∃ k : Nat, k ≤ xs.length ∧ i = .int .i64 k ∧ OI wr w.heap.size (.slice (some ⟨w.heap.size, 0, none⟩) xs.length xs.length) (xs.take k ++ List.replicate (xs.length - k) 0) ∧ Ext w wr) (fun i _ => xs.length - (intOf i).toNat)
  case atStart => exact ⟨0, Nat.zero_le _, rfl, by simpa using HO1.out, HE1.out⟩
  case round =>
    obtain ⟨k, hk, rfl, hO, hE⟩ := hrel
    by_cases hlt : k < xs.length
    · obtain ⟨b1, o1, x1, rfl, e1, c1⟩ := hr k hlt
      have i1 : (k : Int) < (xs.length : Int) := by omega
      obtain ⟨c3, f3, _⟩ := hO.at_ (j := k) (x := 0) (pad_at xs 0 rfl hlt)
      have c1r := hE.cell c1
      have HO := hid hO
      clear c1 hO
      go_wp2
      go_roundw
      case rel =>
        have hs := (OI.set HO.out (j := k) (by rw [pad_len xs 0 rfl hk]; exact hlt) x1).1
        rw [pad_set rfl e1.out] at hs
        exact ⟨k + 1, by omega, by go_num, hs, Below.setCell hE (Nat.le_refl _) _⟩
      case measure => simp [intOf]; omega
    · go_wp2
      go_ret
      have hk' : k = xs.length := by omega
      subst hk'
      rw [pad_end] at hO
      exact ⟨_, rfl, hO, hE⟩

end Go.Proofs.YtllchacophapoaaDoor

/- The laws' copies of tasks, nodes and clusters. -/
namespace Go.Proofs.YtllchacophapoaaDoor
open Go.RowKit
set_option maxRecDepth 4000

theorem Own.frozen_ {α : Type} {e : TypeId} {size : Nat} {E : Enc α} {w : World} {base g n c : Nat} {xs : List α} (h : Own e size E w base (.slice (some ⟨g, 0, none⟩) n c) xs) (i : Nat) : w.frozen? ⟨g, i, none⟩ = false := by
  obtain ⟨cells, ho, _⟩ := h
  rcases ho.2 with ⟨h1, _⟩ | ⟨g', cap, cur, h1, _, hg, _⟩
  · cases h1
  · injection h1 with h1 _ _
    injection h1 with h1
    injection h1 with h1 _ _
    subst h1
    exact obj_frozen hg i
theorem OT.at_ {w : World} {base g n c : Nat} {xs : List TaskD} (h : OT w base (.slice (some ⟨g, 0, none⟩) n c) xs) {j : Nat} {x : TaskD} (hj : xs[j]? = some x) :
    ∃ An cn, w.cell? ⟨g, j * 2, none⟩ = some (.int .i64 x.id) ∧ w.cell? ⟨g, j * 2 + 1, none⟩ = some (.slice An x.need.length cn) ∧ w.frozen? ⟨g, j * 2, none⟩ = false ∧ w.frozen? ⟨g, j * 2 + 1, none⟩ = false ∧ base ≤ g := by
  obtain ⟨A, c', hv, _, _, hg⟩ := RT.get h.read
  have hlt : j < xs.length := (List.getElem?_eq_some_iff.1 hj).1
  obtain ⟨b, o, y, An, cn, hA, he, c1, c2, _⟩ := hg j hlt
  injection hv with h1 h2 h3
  subst hA
  injection h1 with h1
  injection h1 with h1 h4 _
  subst h1 h4
  have : y = x := by have := he.out; rw [hj] at this; injection this with this; exact this.symm
  subst this
  exact ⟨An, cn, by simpa using c1, by simpa using c2, h.frozen_ _, h.frozen_ _, (h.lt g rfl).1⟩
theorem OT.set2 {w : World} {base g n c : Nat} {xs : List TaskD} (h : OT w base (.slice (some ⟨g, 0, none⟩) n c) xs) {j : Nat} {x : TaskD} (hj : xs[j]? = some x) (y : TaskD) (v : Value) (hv : RI w v y.need) :
    OT ((w.setCell ⟨g, j * 2, none⟩ (.int .i64 y.id)).setCell ⟨g, j * 2 + 1, none⟩ v) base (.slice (some ⟨g, 0, none⟩) n c) (xs.set j y) := by
  have hlt : j < xs.length := (List.getElem?_eq_some_iff.1 hj).1
  obtain ⟨h1, s1⟩ := Own.set ET.ok ET.ne h hj (i := 0) (u := .int .i64 y.id) (x' := ⟨y.id, x.need⟩) (by omega) (fun w' hw cs hl ⟨nv, he, hr⟩ => ⟨nv, by rw [he]; rfl, hr.same (hw.mono (fun t ht => ht))⟩)
  obtain ⟨h2, _⟩ := Own.set ET.ok ET.ne h1 (j := j) (i := 1) (x := ⟨y.id, x.need⟩) (u := v) (x' := y) (by rw [List.getElem?_set_self hlt]) (by omega) (fun w' hw cs hl ⟨nv, he, hr⟩ => ⟨v, by rw [he]; rfl, RI.same (RI.same hv (s1.mono (fun t ht => ET.ne t ht))) (hw.mono (fun t ht => ht))⟩)
  rw [List.set_set] at h2
  exact h2
set_option maxHeartbeats 1000000 in
theorem lToTask (x : TaskD) (v : Value) (w : World) (h : XI w v x.need) (hl : x.need.length ≤ 4000000) :
    Calls Tryd.prog 32 #[.agg #[.int .i64 x.id, v]] w fun e w' => ∃ v', e = .returned (.agg #[.int .i64 x.id, v']) ∧ OI w' w.heap.size v' x.need ∧ Ext w w' := by
  have h0 := h
  obtain ⟨A, c, rfl, _⟩ := h
  have hX : Ext w (((w.alloc (.cells #[.int .i64 x.id, .slice A x.need.length c] 49)).alloc (.cells #[.int .i64 0, .slice none 0 0] 44)).alloc (.cells #[.int .i64 x.id, .slice none 0 0] 44)) :=
    ((Ext.alloc _ _).trans (Ext.alloc _ _)).trans (Ext.alloc _ _)
  have g1 : (((w.alloc (.cells #[.int .i64 x.id, .slice A x.need.length c] 49)).alloc (.cells #[.int .i64 0, .slice none 0 0] 44)).alloc (.cells #[.int .i64 x.id, .slice none 0 0] 44)).heap[w.heap.size]? = some (.cells #[.int .i64 x.id, .slice A x.need.length c] 49 (0, 0)) :=
    (Ext.alloc _ _).obj ((Ext.alloc _ _).obj (heap_alloc_new _ _))
  have g2 : (((w.alloc (.cells #[.int .i64 x.id, .slice A x.need.length c] 49)).alloc (.cells #[.int .i64 0, .slice none 0 0] 44)).alloc (.cells #[.int .i64 x.id, .slice none 0 0] 44)).heap[w.heap.size + 1]? = some (.cells #[.int .i64 0, .slice none 0 0] 44 (0, 0)) :=
    (Ext.alloc _ _).obj (heap_new (by simp))
  have g3 : (((w.alloc (.cells #[.int .i64 x.id, .slice A x.need.length c] 49)).alloc (.cells #[.int .i64 0, .slice none 0 0] 44)).alloc (.cells #[.int .i64 x.id, .slice none 0 0] 44)).heap[w.heap.size + 1 + 1]? = some (.cells #[.int .i64 x.id, .slice none 0 0] 44 (0, 0)) :=
    heap_new (by simp)
  have HX := hid hX
  have G2 := hid g2
  have G3 := hid g3
  have b0 := cell_new w #[.int .i64 x.id, .slice A x.need.length c] 49 0
  simp only [List.getElem?_toArray, List.getElem?_cons_zero] at b0
  have b1 := obj_cell g1 (i := 1) rfl
  clear hX g1 g2 g3
  go_enter Tryd.func32, Tryd.ntmps32
  go_wp2_with (go_at_call 8; refine (lToInts _ x.need _ (XI.ext h0 HX.out) hl).mono ?_; rintro e w1 ⟨v1, rfl, hO1, hE1⟩; obtain ⟨A1, c1, rfl, hf1, hf2⟩ := hO1.form; have p2 := hE1.obj G2.out; have p3 := hE1.obj G3.out; have HO1 := hid (Own.low hO1 HX.out.size); have HE1 := hid (HX.out.trans hE1); clear hO1 hE1; have q1 := obj_cell p3 (i := 1) rfl; have q1f := obj_frozen p3 1; have x3 := obj_set p3 1 (.slice A1 x.need.length c1); have x2 := obj_far p2 (p := ⟨w.heap.size + 1 + 1, 1, none⟩) (by show w.heap.size + 1 ≠ w.heap.size + 1 + 1; omega) (.slice A1 x.need.length c1); have z0 := obj_cell x3 (i := 0) rfl; have z1 := obj_cell x3 (i := 1) rfl; have y0 := obj_cell x2 (i := 0) rfl; have y1 := obj_cell x2 (i := 1) rfl; have y0f := obj_frozen x2 0; have y1f := obj_frozen x2 1; have k := obj_set x2 0 (.int .i64 x.id); have k1 := obj_cell k (i := 1) rfl; have k1f := obj_frozen k 1; have r := obj_set2 x2 (.int .i64 x.id) (.slice A1 x.need.length c1); have r0 := obj_cell r (i := 0) rfl; have r1 := obj_cell r (i := 1) rfl)
  have hlt := HE1.out.size
  have hE2 : Ext w (((w1.setCell ⟨w.heap.size + 1 + 1, 1, none⟩ (.slice A1 x.need.length c1)).setCell ⟨w.heap.size + 1, 0, none⟩ (.int .i64 x.id)).setCell ⟨w.heap.size + 1, 1, none⟩ (.slice A1 x.need.length c1)) :=
    Below.setCell (Below.setCell (Below.setCell HE1.out (by show w.heap.size ≤ w.heap.size + 1 + 1; omega) _) (by show w.heap.size ≤ w.heap.size + 1; omega) _) (by show w.heap.size ≤ w.heap.size + 1; omega) _
  have hsm := ((SameT.setCell (p := ⟨w.heap.size + 1 + 1, 1, none⟩) p3 (.slice A1 x.need.length c1) (T := fun t => t ≠ 44) (fun t ht => ht)).trans (SameT.setCell (p := ⟨w.heap.size + 1, 0, none⟩) x2 (.int .i64 x.id) (T := fun t => t ≠ 44) (fun t ht => ht))).trans (SameT.setCell (p := ⟨w.heap.size + 1, 1, none⟩) k (.slice A1 x.need.length c1) (T := fun t => t ≠ 44) (fun t ht => ht))
  refine bodyPost_ret (v := .agg #[.int .i64 x.id, .slice A1 x.need.length c1]) (by simp [results, Tryd.results32, go_sem, r0, r1]) rfl ⟨_, rfl, ?_, hE2⟩
  exact Own.same EI.ok HO1.out (hsm.mono (by rintro t (rfl | h) <;> first | decide | exact h.elim))

set_option maxHeartbeats 1000000 in
theorem lToTasks (v : Value) (xs : List TaskD) (w : World) (h : XT w v xs) (hl : xs.length ≤ 4000000) (hn : ∀ t ∈ xs, t.need.length ≤ 4000000) :
    Calls Tryd.prog 9 #[v] w fun e w' => ∃ v', e = .returned v' ∧ OT w' w.heap.size v' xs ∧ Ext w w' := by
  obtain ⟨A, c, rfl, hc, hc', hr⟩ := h.get
  clear h
  obtain ⟨i0_task, hi0_task, hz0_task, hz1_task, hz2_task⟩ := info_parts info_task
  go_enter Tryd.func9, Tryd.ntmps9
  go_wp2_with (at_make; refine wpList_make_full _ rfl _ _ 28 rfl w.heap.size 44 i0_task _ 2 Tryd.underlying28 hi0_task hz0_task hz1_task _ _ _ _ xs.length rfl rfl rfl rfl (by rw [hz2_task]; omega) (by unfold maxLen; omega) (Nat.le_refl _) ?_; intro w1 hO1 hg1; have HE1 : Hid (Ext w w1) := hid (Below.grown (Ext.refl _) hg1 (Nat.le_refl _) (fun k hk => by cases hk)); have HO1 : Hid (OT w1 w.heap.size (.slice (some ⟨w.heap.size, 0, none⟩) xs.length xs.length) (List.replicate xs.length ⟨0, []⟩)) := hid (Own.full (E := ET) (size := 2) (z := .agg #[.int .i64 0, .slice none 0 0]) ⟨0, []⟩ (by rfl) ⟨.slice none 0 0, rfl, RSl.nil_ _ _ _ _ _ _ (by omega)⟩ hO1); clear hO1 hg1)
  go_loopw [4] (fun i wr => ∃ k : Nat, k ≤ xs.length ∧ i = .int .i64 k ∧ OT wr w.heap.size (.slice (some ⟨w.heap.size, 0, none⟩) xs.length xs.length) (xs.take k ++ List.replicate (xs.length - k) ⟨0, []⟩) ∧ Ext w wr) (fun i _ => xs.length - (intOf i).toNat)
  case atStart => exact ⟨0, Nat.zero_le _, rfl, by simpa using HO1.out, HE1.out⟩
  case round =>
    obtain ⟨k, hk, rfl, hO, hE⟩ := hrel
    by_cases hlt : k < xs.length
    · obtain ⟨b1, o1, x1, An, cn, rfl, e1, c1, c2, hn⟩ := hr k hlt
      have i1 : (k : Int) < (xs.length : Int) := by omega
      have c1r := hE.cell c1
      have c2r := hE.cell c2
      have HO := hid hO
      have HN := hid (XI.ext hn hE)
      have HM := hid (List.mem_of_getElem? e1.out)
      clear c1 c2 hO hn
      go_wp2_with (go_at_call 32; refine (lToTask x1 _ _ HN.out (hn x1 HM.out)).mono ?_; rintro e w2 ⟨v2, rfl, hO2, hE2⟩; obtain ⟨A2, c2, rfl, hf1, hf2⟩ := hO2.form; have HO2 := hid hO2; have HE2 := hid hE2; have HO := hid (HO.out.ext ET.ok hE2); obtain ⟨Ao, co, s0, s1, s0f, s1f, sg⟩ := OT.at_ HO.out (pad_at xs ⟨0, []⟩ rfl hlt); clear hO2 hE2)
      go_roundw
      case rel =>
        have hs := OT.set2 HO.out (pad_at xs ⟨0, []⟩ rfl hlt) x1 (.slice A2 x1.need.length c2) HO2.out.read
        rw [pad_set rfl e1.out] at hs
        exact ⟨k + 1, by omega, by go_num, hs, Below.setCell (Below.setCell (hE.trans HE2.out) (Nat.le_refl _) _) (Nat.le_refl _) _⟩
      case measure => simp [intOf]; omega
    · go_wp2
      go_ret
      have hk' : k = xs.length := by omega
      subst hk'
      rw [pad_end] at hO
      exact ⟨_, rfl, hO, hE⟩

end Go.Proofs.YtllchacophapoaaDoor

/- The program's copies: ints, a task, tasks. -/
namespace Go.Proofs.YtllchacophapoaaDoor
open Go.RowKit
set_option maxRecDepth 4000

set_option maxHeartbeats 1000000 in
theorem iClone (v : Value) (xs : List Int) (w : World) (h : RI w v xs) (hl : xs.length ≤ 4000000) :
    Calls Tryd.prog 90 #[v] w fun e w' => ∃ v', e = .returned v' ∧ OI w' w.heap.size v' xs ∧ Ext w w' := by
  have hnil := fun (a : Option Addr) (n c n' c' : Nat) (w : World) => Lib.run_eql_slice_nil (P := Tryd.prog) w 22 3 a n c n' c' Tryd.underlying22
  have h0 := h
  obtain ⟨A, c, rfl, hc, hc', hx⟩ := h
  cases A with
  | none =>
    have hz : xs = [] := List.eq_nil_of_length_eq_zero (Nat.eq_zero_of_not_pos (fun hp => by obtain ⟨_, _, _, _, hA, _⟩ := hx hp; cases hA))
    subst hz
    clear h0 hx
    go_enter Tryd.func90, Tryd.ntmps90
    go_wp2
    go_ret
    exact ⟨_, rfl, Own.none_ _ _ _ _ _, Ext.refl _⟩
  | some a =>
    clear hx
    have HM : Hid (OI (w.alloc (.cells #[] 3)) w.heap.size (.slice (some ⟨w.heap.size, 0, none⟩) 0 0) []) := hid (Own.madeAt #[] 0 _ rfl (Nat.le_refl _) (by omega) rfl)
    have HR := hid (RI.ext h0 (Ext.alloc w (.cells #[] 3)))
    clear h0
    obtain ⟨i0_int, hi0_int, hz0_int, hz1_int, hz2_int⟩ := info_parts info_int
    go_enter Tryd.func90, Tryd.ntmps90
    go_wp2_with (at_builtin; refine wpList_append_sl _ (by rfl) _ _ 22 (by rfl) EI.ok EI.flat (w.heap.size) 3 EI.ne i0_int _ 1 8 Tryd.underlying22 hi0_int hz0_int hz1_int hz2_int rfl (by omega) _ (by rfl) _ (HM.out) _ (by rfl) _ (HR.out) (by simp; omega) (by simp; omega) ?_ ?_; (focus (first | exact Nat.le_refl _ | (simp; done) | (simp; omega) | omega)); intro v1 w1 hO1 hg1 hat1 hs1; rw [List.nil_append] at hO1; obtain ⟨A1, c1, rfl, _, _⟩ := hO1.form; have HO1 := hid hO1; have HE1 := hid (Ext.grown (Ext.alloc _ _) hg1 HM.out.lt); clear hO1 hg1 hat1 hs1)
    go_ret
    exact ⟨_, rfl, HO1.out, HE1.out⟩

set_option maxHeartbeats 1000000 in
theorem iTaskCopy (xv : Value) (x : TaskD) (w : World) (h : TaskV w xv x) (hl : x.need.length ≤ 4000000) :
    Calls Tryd.prog 70 #[xv] w fun e w' => ∃ A c, e = .returned (.agg #[.int .i64 x.id, .slice A x.need.length c]) ∧ OI w' w.heap.size (.slice A x.need.length c) x.need ∧ Ext w w' := by
  obtain ⟨nv, rfl, hn⟩ := h
  have HN := hid hn
  obtain ⟨An, cn, rfl, _⟩ := hn
  obtain ⟨W, hW⟩ : ∃ W, W = (w.alloc (.cells #[.int .i64 x.id, .slice An x.need.length cn] 44)).alloc (.cells #[.int .i64 0, .slice none 0 0] 44) := ⟨_, rfl⟩
  have hEW : Ext w W := by rw [hW]; exact (Ext.alloc _ _).trans (Ext.alloc _ _)
  have g0 : W.heap[w.heap.size]? = some (.cells #[.int .i64 x.id, .slice An x.need.length cn] 44 (0, 0)) := by rw [hW]; exact (Ext.alloc _ _).obj (heap_alloc_new w _)
  have g1 : W.heap[w.heap.size + 1]? = some (.cells #[.int .i64 0, .slice none 0 0] 44 (0, 0)) := by rw [hW]; exact heap_new (by simp)
  have HNW := hid (RI.ext HN.out hEW)
  have HEW := hid hEW
  have G1 := hid g1
  have KS : Hid (∀ w', Ext W w' → w'.cell? ⟨w.heap.size, 0, none⟩ = some (.int .i64 x.id) ∧ w'.cell? ⟨w.heap.size, 1, none⟩ = some (.slice An x.need.length cn)) := hid fun w' hw => ⟨obj_cell (hw.obj g0) (i := 0) rfl, obj_cell (hw.obj g0) (i := 1) rfl⟩
  clear hEW g0 g1
  go_enter Tryd.func70, Tryd.ntmps70
  go_wp2
  rw [← hW]
  clear hW
  refine WG.start (fun w' => w'.cell? ⟨w.heap.size, 0, none⟩ = some (.int .i64 x.id) ∧ w'.cell? ⟨w.heap.size, 1, none⟩ = some (.slice An x.need.length cn)) [6] (by kernel_rfl) (by exact KS.out _ (Below.drew (Below.refl _ _))) (fun hHeld => ?_)
  (refine WG.take (i := 0) (v := ?_) rfl (by kernel_rfl) (by kernel_rfl) (by kernel_rfl) (by kernel_rfl) (fun _ _ _ h => h) (Or.inl ⟨by rfl, ?_⟩) (by assumption) ?_; rotate_left; (intro w hSw; (try dsimp only at hSw); go_split_ands; go_simp; (try with_reducible rfl)); (try simp only [Act.put, List.setIfInBounds_toArray, List.set_cons_zero, List.set_cons_succ]))
  (refine WG.take (i := 1) (v := ?_) rfl (by kernel_rfl) (by kernel_rfl) (by kernel_rfl) (by kernel_rfl) (fun _ _ _ h => h) (Or.inl ⟨by rfl, ?_⟩) (by assumption) ?_; rotate_left; (intro w hSw; (try dsimp only at hSw); go_split_ands; go_simp; (try with_reducible rfl)); (try simp only [Act.put, List.setIfInBounds_toArray, List.set_cons_zero, List.set_cons_succ]))
  (refine WG.take (i := 2) (v := ?_) rfl (by kernel_rfl) (by kernel_rfl) (by kernel_rfl) (by kernel_rfl) (fun _ _ _ h => h) (Or.inl ⟨by rfl, ?_⟩) (by assumption) ?_; rotate_left; (intro w hSw; (try dsimp only at hSw); go_split_ands; go_simp; (try with_reducible rfl)); (try simp only [Act.put, List.setIfInBounds_toArray, List.set_cons_zero, List.set_cons_succ]))
  (refine WG.take (i := 3) (v := ?_) rfl (by kernel_rfl) (by kernel_rfl) (by kernel_rfl) (by kernel_rfl) (fun _ _ _ h => h) (Or.inl ⟨by rfl, ?_⟩) (by assumption) ?_; rotate_left; (intro w hSw; (try dsimp only at hSw); go_split_ands; go_simp; (try with_reducible rfl)); (try simp only [Act.put, List.setIfInBounds_toArray, List.set_cons_zero, List.set_cons_succ]))
  refine WG.one (i := 4) rfl (by kernel_rfl) (fun K hK => ?_)
  go_simp; refine (iClone _ x.need _ (RI.ext HNW.out (Below.drew (Below.refl _ _))) hl).mono ?_; rintro e w1 ⟨v1, rfl, hO1, hE1⟩; have hE1 : Ext W w1 := Ext.trans (Below.drew (Below.refl _ _)) hE1; obtain ⟨A1, c1, rfl, _, _⟩ := hO1.form; have HO1 := hid (hO1.low (base' := w.heap.size) HEW.out.size); have HE1 := hid hE1; clear hO1 hE1; (try dsimp only)
  refine hK.out _ _ (by exact KS.out _ HE1.out) (fun hHeld => ?_)
  clear hK K
  (try simp only [Act.put, List.setIfInBounds_toArray, List.set_cons_zero, List.set_cons_succ])
  (refine WG.take (i := 5) (v := ?_) rfl (by kernel_rfl) (by kernel_rfl) (by kernel_rfl) (by kernel_rfl) (fun _ _ _ h => h) (Or.inl ⟨by rfl, ?_⟩) (by assumption) ?_; rotate_left; (intro w hSw; (try dsimp only at hSw); go_split_ands; go_simp; (try with_reducible rfl)); (try simp only [Act.put, List.setIfInBounds_toArray, List.set_cons_zero, List.set_cons_succ]))
  obtain ⟨y0, y1, y0f, y1f, k1, k1f, hkk, hsm⟩ := box2 (HE1.out.obj G1.out) (.int .i64 x.id) (.slice A1 x.need.length c1)
  have r0 := obj_cell hkk (i := 0) rfl
  have r1 := obj_cell hkk (i := 1) rfl
  have HSM := hid hsm
  clear hkk hsm
  refine WG.last (i := 6) rfl (by kernel_rfl) (by kernel_rfl) (fun K hK => ?_)
  go_simp
  refine hK.out _ _ ?_
  clear hK K
  (try simp only [Act.put, List.setIfInBounds_toArray, List.set_cons_zero, List.set_cons_succ])
  refine WG.done (by kernel_rfl) ?_
  go_wp2
  refine bodyPost_ret (v := .agg #[.int .i64 x.id, .slice A1 x.need.length c1]) (by simp [results, Tryd.results70, go_sem, r0, r1]) rfl ?_
  exact ⟨_, _, rfl, Own.same EI.ok HO1.out (HSM.out _ (by rintro t (rfl | h) <;> first | decide | exact h.elim)), Below.setCell (Below.setCell (HEW.out.trans HE1.out) (Nat.le_succ _) _) (Nat.le_succ _) _⟩

set_option maxHeartbeats 2000000 in
theorem iCopyTasks (v : Value) (ts : List TaskD) (w : World) (h : RT w v ts) (hl : ts.length ≤ 4000000) (hn : ∀ t ∈ ts, t.need.length ≤ 4000000) :
    Calls Tryd.prog 46 #[v] w fun e w' => ∃ v', e = .returned v' ∧ OT w' w.heap.size v' ts ∧ Ext w w' := by
  obtain ⟨A, c, rfl, hc, hc', hg⟩ := RT.get h
  clear h
  obtain ⟨i0_task, hi0_task, hz0_task, hz1_task, hz2_task⟩ := info_parts info_task
  go_enter Tryd.func46, Tryd.ntmps46
  go_wp2_with (at_make; refine wpList_make_own _ rfl _ _ 28 rfl w.heap.size 44 i0_task _ 2 Tryd.underlying28 hi0_task hz0_task hz1_task _ _ _ ts.length rfl rfl rfl (by rw [hz2_task]; omega) (by unfold maxLen; omega) (by simp) ?_; intro w1 hO1 hg1; have hE1 : Ext w w1 := Below.grown (Below.refl _ _) hg1 (Nat.le_refl _) (fun k hk => by cases hk); have hO1 : OT w1 w.heap.size _ [] := ⟨[], hO1, Cells.nil_ _ _ _⟩; have HO1 := hid hO1; have HE1 := hid hE1; clear hO1 hE1 hg1)
  go_loopw [3, 11] (fun s i wr => ∃ (u : Value) (k : Nat), u = s ∧ k ≤ ts.length ∧ i = .int .i64 k ∧ Hid (OT wr w.heap.size u (ts.take k) ∧ Ext w wr)) (fun _ i _ => ts.length - (intOf i).toNat)
  case atStart => exact ⟨_, 0, rfl, Nat.zero_le _, rfl, hid ⟨HO1.out, HE1.out⟩⟩
  case round =>
    obtain ⟨u, k, hu, hk, rfl, H⟩ := hrel
    subst hu
    by_cases hlt : k < ts.length
    · obtain ⟨b, o, x, An, cn, rfl, e, c1, c2, hnx⟩ := hg k hlt
      have i1 : (k : Int) < (ts.length : Int) := by omega
      have HE := hid H.out.2
      have c1r := HE.out.cell c1
      have c2r := HE.out.cell c2
      have hsz := HE.out.size
      have HN := hid (RI.ext hnx HE.out)
      have HXL := hid (hn x (List.mem_of_getElem? e.out))
      have HTK := hid (List.length_take_le k ts)
      obtain ⟨O, hO⟩ : ∃ O : Obj, O = .cells #[.int .i64 x.id, .slice An x.need.length cn] 44 := ⟨_, rfl⟩
      have hbx : (wr.alloc O).heap[wr.heap.size]? = some O := heap_alloc_new wr _
      rw [hO] at hbx
      have q0 := obj_cell hbx (i := 0) rfl
      have q1 := obj_cell hbx (i := 1) rfl
      rw [← hO] at q0 q1
      have HEO := hid (Ext.alloc wr O)
      subst hO
      clear c1 c2 hnx hbx
      go_wp2_with (first
        | (go_at_call 70; refine (iTaskCopy _ x _ ⟨_, rfl, RI.ext HN.out HEO.out⟩ HXL.out).mono ?_; rintro e2 w2 ⟨A2, c2, rfl, hO2, hE2⟩; have hEa := (HEO.out.trans hE2).trans (Ext.alloc w2 (.cells #[.int .i64 x.id, .slice A2 x.need.length c2] 44)); have HV := hid (Own.ext ET.ok H.out.1 hEa); have HR2 := hid (RI.ext hO2.read (Ext.alloc w2 (.cells #[.int .i64 x.id, .slice A2 x.need.length c2] 44))); have HEa := hid (HE.out.trans hEa); have hsz2 := HEa.out.size; clear hO2 hE2 hEa)
        | (at_builtin; refine wpList_append_sl _ (by rfl) _ _ 28 (by rfl) ET.ok ET.flat (w.heap.size) 44 ET.ne i0_task _ 2 32 Tryd.underlying28 hi0_task hz0_task hz1_task hz2_task rfl (by omega) _ (by rfl) _ (HV.out) _ (by rfl) _ (RSl.laid (cs := [.int .i64 x.id, .slice A2 x.need.length c2]) (heap_alloc_new _ _) rfl ⟨_, rfl, HR2.out⟩) (by have := HTK.out; simp; omega) (by have := HTK.out; simp; omega) ?_ ?_; (focus (first | exact Nat.le_refl _ | (simp; done) | (simp; omega) | omega)); intro v3 w3 hO3 hg3 hat3 hs3; have HO3 := hid hO3; have HE3 := hid (Ext.grown HEa.out hg3 HV.out.lt); clear hO3 hg3 hat3 hs3))
      go_roundw
      case rel => exact ⟨_, k + 1, rfl, by omega, by go_num, hid ⟨by rw [take_snoc e.out]; exact HO3.out, HE3.out⟩⟩
      case measure => simp [intOf]; omega
    · go_wp2
      go_ret
      have hk' : k = ts.length := by omega
      have hh := H.out
      rw [hk', List.take_length] at hh
      exact ⟨_, rfl, hh.1, hh.2⟩

end Go.Proofs.YtllchacophapoaaDoor

/- The program's copy of a cluster. -/
namespace Go.Proofs.YtllchacophapoaaDoor
open Go.RowKit
set_option maxRecDepth 4000

/-- units by their cells, wherever these lie -/
def RUc (w : World) (v : Value) (us : List UnitD) : Prop := ∃ A c, v = .slice A us.length c ∧ us.length ≤ c ∧ c ≤ 9223372036854775807 ∧
    ∀ (j : Nat), j < us.length → ∃ b o x An cn, A = some ⟨b, o, none⟩ ∧ Hid (us[j]? = some x) ∧ w.cell? ⟨b, o + j * 2, none⟩ = some (.bool x.opened) ∧ w.cell? ⟨b, o + j * 2 + 1, none⟩ = some (.slice An x.tasks.length cn) ∧ RT w (.slice An x.tasks.length cn) x.tasks
theorem RUc.ext {w w' : World} {v : Value} {us : List UnitD} (h : RUc w v us) (ha : Ext w w') : RUc w' v us := by
  obtain ⟨A, c, h1, h2, h3, h⟩ := h
  refine ⟨A, c, h1, h2, h3, fun j hj => ?_⟩
  obtain ⟨b, o, x, An, cn, e1, e2, e3, e4, e5⟩ := h j hj
  exact ⟨b, o, x, An, cn, e1, e2, ha.cell e3, ha.cell e4, e5.ext ha⟩
end Go.Proofs.YtllchacophapoaaDoor

/- The program finds a task in nodes; room for one more. -/
namespace Go.Proofs.YtllchacophapoaaDoor
open Go.RowKit
set_option maxRecDepth 4000

theorem idx_has (ts : List TaskD) (id : Int) : decide (0 ≤ idxI (fun t : TaskD => t.id == id) ts) = hasId ts id := idxI_ge _ _

set_option maxHeartbeats 1000000 in
theorem iHasRoom (rv v xv : Value) (room : List Int) (b : List TaskD) (t : TaskD) (w : World) (hR : RI w rv room) (h : RT w v b) (hx : TaskV w xv t)
    (hlr : room.length = 3) (hg : GoodTs b) (hn : t.need.length = 3 ∧ Bd 1000 t.need) :
    Calls Tryd.prog 35 #[rv, v, xv] w (RetB w (l11fits room b t)) := by
  obtain ⟨nv, rfl, hnv⟩ := hx
  have hE0 := Ext.alloc w (.cells #[.int .i64 t.id, nv] 44)
  have HX := hid (hE0)
  have H1 := hid (h.ext hE0)
  have H2 := hid (hnv.ext hE0)
  have H3 := hid (hR.ext hE0)
  have HG := hid hg
  have HN := hid hn
  have HLR := hid hlr
  have HL := hid (loadL_len b)
  have HB := hid (load_bd hg)
  clear h hR hnv hg hn hlr hE0
  have KH : Hid (∀ w', Ext (w.alloc (.cells #[.int .i64 t.id, nv] 44)) w' → w'.cell? ⟨w.heap.size, 1, none⟩ = some nv ∧ Ext (w.alloc (.cells #[.int .i64 t.id, nv] 44)) w') :=
    hid fun w' hw => ⟨hw.cell (cell_new _ _ _ _), hw⟩
  go_enter Tryd.func35, Tryd.ntmps35
  go_wp2
  go_region_held3 (fun w' => w'.cell? ⟨w.heap.size, 1, none⟩ = some nv ∧ Ext (w.alloc (.cells #[.int .i64 t.id, nv] 44)) w')
    (first | exact KH.out _ (by assumption) | exact KH.out _ (Below.drew (Below.refl _ _)))
    (first
      | (go_at_call 50; refine (iLoad _ b _ (H1.out.ext (by first | assumption | exact Below.drew (Below.refl _ _))) HG.out).mono ?_; rintro e w1 ⟨v1, rfl, hv1, hE1⟩; have hv1 := hv1.read; have h01 : Ext (w.alloc (.cells #[.int .i64 t.id, nv] 44)) w1 := Ext.trans (by first | assumption | exact Below.drew (Below.refl _ _)) hE1)
      | (go_at_call 63; refine (iPlus _ _ (loadL b) t.need _ (by assumption) (H2.out.ext (by assumption)) HL.out HN.out.1 HB.out (HN.out.2.mono (by omega))).mono ?_; rintro e w2 ⟨v2, rfl, hv2, hE2⟩; have hv2 := hv2.read; have h02 : Ext (w.alloc (.cells #[.int .i64 t.id, nv] 44)) w2 := Ext.trans (by assumption) hE2)
      | (go_at_call 51; refine (iFits _ _ (addL (loadL b) t.need 1) room _ (by assumption) (H3.out.ext (by assumption)) (addL_len _ _ _) HLR.out).mono ?_; rintro e w3 ⟨rfl, n3, rfl⟩; have h03 : Ext (w.alloc (.cells #[.int .i64 t.id, nv] 44)) (w2.drewN n3) := Ext.trans (by assumption) (Ext.drewN _ _)))
  go_wp2
  go_ret
  exact ⟨rfl, HX.out.trans (by assumption)⟩

end Go.Proofs.YtllchacophapoaaDoor
