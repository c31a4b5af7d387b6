/- Sums and products of vectors; the order of tasks. -/
import Derived.Test.YtllchacophapoaaDoorK31
import Derived.Test.YtllchacophapoaaDoorK27
import Derived.Test.YtllchacophapoaaDoorSp7b
import Derived.Test.YtllchacophapoaaDoorK7
import Derived.Test.YtllchacophapoaaDoorK8
import Derived.Test.YtllchacophapoaaDoorK37
namespace Go.Proofs.YtllchacophapoaaDoor
open Go.RowKit
set_option maxRecDepth 4000

theorem sumL_snoc (xs : List Int) (x : Int) : sumL (xs ++ [x]) = sumL xs + x := by simp [sumL]
theorem sumL_succ {xs : List Int} {k : Nat} {x : Int} (h : xs[k]? = some x) : sumL (xs.take (k + 1)) = sumL (xs.take k) + x := by rw [take_snoc h, sumL_snoc]
theorem sumL_bd {xs : List Int} (h : vecOk xs = true) : ∀ k, 0 ≤ sumL (xs.take k) ∧ sumL (xs.take k) ≤ 20 * (k : Int)
  | 0 => by simp [sumL]
  | k + 1 => by
    have ih := sumL_bd h k
    cases hx : xs[k]? with
    | none =>
      have hl : xs.length ≤ k := List.getElem?_eq_none_iff.1 hx
      rw [List.take_of_length_le hl] at ih
      rw [List.take_of_length_le (by omega)]
      omega
    | some x =>
      rw [sumL_succ hx]
      have := vecOk_mem h x (List.mem_of_getElem? hx)
      omega

theorem iTotal (v : Value) (xs : List Int) (w : World) (h : RI w v xs) (hv : vecOk xs = true) : Calls Tryd.prog 140 #[v] w fun e w' => e = .returned (.int .i64 (sumL xs)) ∧ w' = w := by
  obtain ⟨A, c, rfl, h1, h2, h3⟩ := RI.get h
  clear h
  have hl := vecOk_len hv
  have HV := hid hv
  clear hv
  go_enter Tryd.func140, Tryd.ntmps140
  go_wp2
  go_loopw [3, 8] (fun s i wr => ∃ (k : Nat) (t : Int), k ≤ xs.length ∧ i = .int .i64 k ∧ s = .int .i64 t ∧ Hid (t = sumL (xs.take k)) ∧ wr = w) (fun _ i _ => xs.length - (intOf i).toNat)
  case atStart => exact ⟨0, 0, by omega, rfl, rfl, hid rfl, rfl⟩
  case round =>
    obtain ⟨k, t, hk, rfl, rfl, H, rfl⟩ := hrel
    by_cases hlt : k < xs.length
    · obtain ⟨b1, o1, x1, rfl, e1, c1⟩ := h3 k hlt
      have i1 : (k : Int) < (xs.length : Int) := by omega
      have d1 := vecOk_mem HV.out x1 (List.mem_of_getElem? e1.out)
      have d2 := sumL_bd HV.out k
      have d3 : 0 ≤ t ∧ t ≤ 20 * (k : Int) := by rw [H.out]; exact d2
      have w1 : IntKind.i64.wrap (t + x1) = t + x1 := IntWalk.i64_in _ (by omega)
      clear d1 d2 d3
      go_wp2
      go_roundw
      case rel => exact ⟨k + 1, t + x1, by omega, by go_num, rfl, hid (by rw [sumL_succ e1.out, H.out]), trivial⟩
      case measure => simp [intOf]; omega
    · have hk' : k = xs.length := by omega
      have hge : ¬ (k : Int) < (xs.length : Int) := by omega
      have hR : Hid (t = sumL xs) := hid (by rw [H.out, hk', List.take_length])
      clear hk'
      go_wp2
      go_ret
      exact ⟨ret_i hR.out, rfl⟩

def cmpT (x y : TaskD) : Int := orI (cmpI (sumL y.need) (sumL x.need)) (cmpI x.id y.id)
theorem cmpT_lt (x y : TaskD) : decide (cmpT x y < 0) = beforeT x y := by
  unfold cmpT orI cmpI beforeT
  by_cases h1 : sumL y.need < sumL x.need
  · simp [h1]
  · by_cases h2 : sumL x.need < sumL y.need
    · have : ¬ sumL x.need = sumL y.need := by omega
      simp [h1, h2, this]
    · have : sumL x.need = sumL y.need := by omega
      by_cases h3 : x.id < y.id
      · simp [this, h3]
      · by_cases h4 : y.id < x.id
        · simp [this, h3, h4]
        · simp [this, h3, h4]

set_option maxHeartbeats 2000000 in
theorem iCompare (x y : TaskD) (nx ny : Value) (w : World) (hx : RI w nx x.need) (hy : RI w ny y.need) (vx : vecOk x.need = true) (vy : vecOk y.need = true) :
    Calls Tryd.prog 137 #[.agg #[.int .i64 x.id, nx], .agg #[.int .i64 y.id, ny]] w (RetN w (cmpT x y)) := by
  have hx0 := hx
  have hy0 := hy
  obtain ⟨Ax, cx, rfl, _⟩ := RI.get hx0
  obtain ⟨Ay, cy, rfl, _⟩ := RI.get hy0
  obtain ⟨W, hW⟩ : ∃ W, W = (w.alloc (.cells #[.int .i64 x.id, .slice Ax x.need.length cx] 44)).alloc (.cells #[.int .i64 y.id, .slice Ay y.need.length cy] 44) := ⟨_, rfl⟩
  have hEW : Ext w W := by rw [hW]; exact (Ext.alloc _ _).trans (Ext.alloc _ _)
  have hx1 : W.heap[w.heap.size]? = some (.cells #[.int .i64 x.id, .slice Ax x.need.length cx] 44 (0, 0)) := by rw [hW]; exact (Ext.alloc _ _).obj (heap_alloc_new _ _)
  have hx2 : W.heap[w.heap.size + 1]? = some (.cells #[.int .i64 y.id, .slice Ay y.need.length cy] 44 (0, 0)) := by rw [hW]; exact heap_new (by simp)
  have KB : Hid (∀ w', Ext W w' → w'.cell? ⟨w.heap.size, 0, none⟩ = some (.int .i64 x.id) ∧ w'.cell? ⟨w.heap.size, 1, none⟩ = some (.slice Ax x.need.length cx) ∧ w'.cell? ⟨w.heap.size + 1, 0, none⟩ = some (.int .i64 y.id) ∧ w'.cell? ⟨w.heap.size + 1, 1, none⟩ = some (.slice Ay y.need.length cy)) := hid fun w' hw => ⟨obj_cell (hw.obj hx1) (i := 0) rfl, obj_cell (hw.obj hx1) (i := 1) rfl, obj_cell (hw.obj hx2) (i := 0) rfl, obj_cell (hw.obj hx2) (i := 1) rfl⟩
  have HEW := hid hEW
  have HDr : Hid (Ext W W.drew) := hid (Below.drew (Below.refl _ _))
  have HX := hid (RI.ext hx hEW)
  have HY := hid (RI.ext hy hEW)
  clear hx1 hx2 hEW hx hy hx0 hy0
  go_enter Tryd.func137, Tryd.ntmps137
  go_wp2
  rw [← hW]
  clear hW
  refine WG.start (fun w' => w'.cell? ⟨w.heap.size, 0, none⟩ = some (.int .i64 x.id) ∧ w'.cell? ⟨w.heap.size, 1, none⟩ = some (.slice Ax x.need.length cx) ∧ w'.cell? ⟨w.heap.size + 1, 0, none⟩ = some (.int .i64 y.id) ∧ w'.cell? ⟨w.heap.size + 1, 1, none⟩ = some (.slice Ay y.need.length cy)) [11,12,13,14] (by kernel_rfl) (by exact KB.out _ HDr.out) (fun hHeld => ?_)
  obtain ⟨pz, hpz⟩ : ∃ x, x = W.drew := ⟨_, rfl⟩
  rw [← hpz] at hHeld HDr ⊢
  clear hpz
  (refine WG.take (i := 0) (v := ?_) rfl (by kernel_rfl) (by kernel_rfl) (by kernel_rfl) (by kernel_rfl) (fun _ _ _ h => h) (Or.inl ⟨by rfl, ?_⟩) (by assumption) ?_; rotate_left; (intro w hSw; (try dsimp only at hSw); go_split_ands; go_simp; (try with_reducible rfl)); (try simp only [Act.put, List.setIfInBounds_toArray, List.set_cons_zero, List.set_cons_succ]))
  (refine WG.take (i := 1) (v := ?_) rfl (by kernel_rfl) (by kernel_rfl) (by kernel_rfl) (by kernel_rfl) (fun _ _ _ h => h) (Or.inl ⟨by rfl, ?_⟩) (by assumption) ?_; rotate_left; (intro w hSw; (try dsimp only at hSw); go_split_ands; go_simp; (try with_reducible rfl)); (try simp only [Act.put, List.setIfInBounds_toArray, List.set_cons_zero, List.set_cons_succ]))
  (refine WG.take (i := 3) (v := ?_) rfl (by kernel_rfl) (by kernel_rfl) (by kernel_rfl) (by kernel_rfl) (fun _ _ _ h => h) (Or.inl ⟨by rfl, ?_⟩) (by assumption) ?_; rotate_left; (intro w hSw; (try dsimp only at hSw); go_split_ands; go_simp; (try with_reducible rfl)); (try simp only [Act.put, List.setIfInBounds_toArray, List.set_cons_zero, List.set_cons_succ]))
  (refine WG.take (i := 4) (v := ?_) rfl (by kernel_rfl) (by kernel_rfl) (by kernel_rfl) (by kernel_rfl) (fun _ _ _ h => h) (Or.inl ⟨by rfl, ?_⟩) (by assumption) ?_; rotate_left; (intro w hSw; (try dsimp only at hSw); go_split_ands; go_simp; (try with_reducible rfl)); (try simp only [Act.put, List.setIfInBounds_toArray, List.set_cons_zero, List.set_cons_succ]))
  (refine WG.take (i := 7) (v := ?_) rfl (by kernel_rfl) (by kernel_rfl) (by kernel_rfl) (by kernel_rfl) (fun _ _ _ h => h) (Or.inl ⟨by rfl, ?_⟩) (by assumption) ?_; rotate_left; (intro w hSw; (try dsimp only at hSw); go_split_ands; go_simp; (try with_reducible rfl)); (try simp only [Act.put, List.setIfInBounds_toArray, List.set_cons_zero, List.set_cons_succ]))
  (refine WG.take (i := 8) (v := ?_) rfl (by kernel_rfl) (by kernel_rfl) (by kernel_rfl) (by kernel_rfl) (fun _ _ _ h => h) (Or.inl ⟨by rfl, ?_⟩) (by assumption) ?_; rotate_left; (intro w hSw; (try dsimp only at hSw); go_split_ands; go_simp; (try with_reducible rfl)); (try simp only [Act.put, List.setIfInBounds_toArray, List.set_cons_zero, List.set_cons_succ]))
  (refine WG.take (i := 9) (v := ?_) rfl (by kernel_rfl) (by kernel_rfl) (by kernel_rfl) (by kernel_rfl) (fun _ _ _ h => h) (Or.inl ⟨by rfl, ?_⟩) (by assumption) ?_; rotate_left; (intro w hSw; (try dsimp only at hSw); go_split_ands; go_simp; (try with_reducible rfl)); (try simp only [Act.put, List.setIfInBounds_toArray, List.set_cons_zero, List.set_cons_succ]))
  (refine WG.take (i := 10) (v := ?_) rfl (by kernel_rfl) (by kernel_rfl) (by kernel_rfl) (by kernel_rfl) (fun _ _ _ h => h) (Or.inl ⟨by rfl, ?_⟩) (by assumption) ?_; rotate_left; (intro w hSw; (try dsimp only at hSw); go_split_ands; go_simp; (try with_reducible rfl)); (try simp only [Act.put, List.setIfInBounds_toArray, List.set_cons_zero, List.set_cons_succ]))
  refine WG.one (i := 2) rfl (by kernel_rfl) (fun K hK => ?_)
  go_simp; refine (iTotal _ y.need _ (RI.ext HY.out HDr.out) vy).mono ?_; rintro e4 w4 ⟨rfl, rfl⟩; (try dsimp only)
  refine hK.out _ _ (by exact KB.out _ HDr.out) (fun hHeld => ?_)
  clear hK K
  (try simp only [Act.put, List.setIfInBounds_toArray, List.set_cons_zero, List.set_cons_succ])
  refine WG.one (i := 5) rfl (by kernel_rfl) (fun K hK => ?_)
  go_simp; refine (iTotal _ x.need _ (RI.ext HX.out HDr.out) vx).mono ?_; rintro e4 w4 ⟨rfl, rfl⟩; (try dsimp only)
  refine hK.out _ _ (by exact KB.out _ HDr.out) (fun hHeld => ?_)
  clear hK K
  (try simp only [Act.put, List.setIfInBounds_toArray, List.set_cons_zero, List.set_cons_succ])
  refine WG.one (i := 6) rfl (by kernel_rfl) (fun K hK => ?_)
  go_simp; refine (cCompare (sumL y.need) (sumL x.need) _).mono ?_; rintro e4 w4 ⟨rfl, rfl⟩; (try dsimp only)
  refine hK.out _ _ (by exact KB.out _ HDr.out) (fun hHeld => ?_)
  clear hK K
  (try simp only [Act.put, List.setIfInBounds_toArray, List.set_cons_zero, List.set_cons_succ])
  refine WG.one (i := 11) rfl (by kernel_rfl) (fun K hK => ?_)
  go_simp; refine (cCompare x.id y.id _).mono ?_; rintro e5 w5 ⟨rfl, rfl⟩; (try dsimp only)
  refine hK.out _ _ (by exact KB.out _ HDr.out) (fun hHeld => ?_)
  clear hK K
  (try simp only [Act.put, List.setIfInBounds_toArray, List.set_cons_zero, List.set_cons_succ])
  refine WG.one (i := 12) rfl (by kernel_rfl) (fun K hK => ?_)
  go_simp
  refine hK.out _ _ (by exact KB.out _ (HDr.out.trans (Ext.alloc _ _))) (fun hHeld => ?_)
  clear hK K
  (try simp only [Act.put, List.setIfInBounds_toArray, List.set_cons_zero, List.set_cons_succ])
  refine WG.last (i := 13) rfl (by kernel_rfl) (by kernel_rfl) (fun K hK => ?_)
  go_simp; refine (cOr _ (cmpI (sumL y.need) (sumL x.need)) (cmpI x.id y.id) _ (RI.lit _ [cmpI (sumL y.need) (sumL x.need), cmpI x.id y.id] (by simp))).mono ?_; rintro e6 w6 ⟨rfl, rfl⟩; (try dsimp only)
  refine hK.out _ _ ?_
  clear hK K
  (try simp only [Act.put, List.setIfInBounds_toArray, List.set_cons_zero, List.set_cons_succ])
  refine WG.last (i := 14) rfl (by kernel_rfl) (by kernel_rfl) (fun K hK => ?_)
  go_simp
  refine hK.out _ _ ?_
  clear hK K
  (try simp only [Act.put, List.setIfInBounds_toArray, List.set_cons_zero, List.set_cons_succ])
  refine WG.done (by kernel_rfl) ?_
  go_wp2
  go_ret
  exact ⟨rfl, HEW.out.trans (HDr.out.trans (Ext.alloc _ _))⟩

/-- products -/
theorem mul_bd {x y : Int} {A B : Nat} (hx : -(A : Int) ≤ x ∧ x ≤ A) (hy : -(B : Int) ≤ y ∧ y ≤ B) : -((A * B : Nat) : Int) ≤ x * y ∧ x * y ≤ ((A * B : Nat) : Int) := by
  have h1 : x.natAbs ≤ A := by omega
  have h2 : y.natAbs ≤ B := by omega
  have h3 : (x * y).natAbs ≤ A * B := by rw [Int.natAbs_mul]; exact Nat.mul_le_mul h1 h2
  omega
def dotTo (a b : List Int) (k : Nat) : Int := (List.range k).foldl (fun n i => n + a.getD i 0 * b.getD i 0) 0
theorem dotTo_succ {a b : List Int} {k : Nat} {x y : Int} (hx : a[k]? = some x) (hy : b[k]? = some y) : dotTo a b (k + 1) = dotTo a b k + x * y := by
  unfold dotTo
  rw [List.range_succ, List.foldl_append]
  simp [List.getD_eq_getElem?_getD, hx, hy]
theorem getD_bd {M : Nat} {a : List Int} (h : Bd M a) (i : Nat) : -(M : Int) ≤ a.getD i 0 ∧ a.getD i 0 ≤ M := by
  rw [List.getD_eq_getElem?_getD]
  cases hx : a[i]? with
  | none => simp
  | some x => exact h x (List.mem_of_getElem? hx)
theorem dotTo_bd {a b : List Int} (ha : Bd 20 a) (hb : Bd 2000000 b) : ∀ k : Nat, -(40000000 * (k : Int)) ≤ dotTo a b k ∧ dotTo a b k ≤ 40000000 * (k : Int)
  | 0 => by simp [dotTo]
  | k + 1 => by
    have ih := dotTo_bd ha hb k
    have e : dotTo a b (k + 1) = dotTo a b k + a.getD k 0 * b.getD k 0 := by unfold dotTo; rw [List.range_succ, List.foldl_append]; rfl
    have := mul_bd (getD_bd (M := 20) ha k) (getD_bd (M := 2000000) hb k)
    rw [e]
    omega
theorem dotTo_three (a b : List Int) : dotTo a b 3 = dotL a b := rfl

set_option maxHeartbeats 400000 in
theorem iDot (va vb : Value) (a b : List Int) (w : World) (ha : RI w va a) (hb : RI w vb b) (la : a.length = 3) (lb : b.length = 3) (na : Bd 20 a) (nb : Bd 2000000 b) :
    Calls Tryd.prog 112 #[va, vb] w fun e w' => e = .returned (.int .i64 (dotL a b)) ∧ w' = w := by
  obtain ⟨A, c, rfl, h1, h2, h3⟩ := ha.get
  obtain ⟨A', c', rfl, h1', h2', h3'⟩ := hb.get
  have Lb : a.length = b.length := by omega
  have LA := hid la
  clear la lb ha hb
  go_enter Tryd.func112, Tryd.ntmps112
  go_wp2
  go_loopw [5, 10] (fun s i wr => ∃ (k : Nat) (t : Int), k ≤ a.length ∧ i = .int .i64 k ∧ s = .int .i64 t ∧ Hid (t = dotTo a b k) ∧ wr = w) (fun _ i _ => a.length - (intOf i).toNat)
  case atStart => exact ⟨0, 0, by omega, rfl, rfl, hid rfl, rfl⟩
  case round =>
    obtain ⟨k, t, hk, rfl, rfl, H, rfl⟩ := hrel
    by_cases hlt : k < a.length
    · obtain ⟨b1, o1, x1, rfl, e1, c1⟩ := h3 k (by omega)
      obtain ⟨b2, o2, x2, rfl, e2, c2⟩ := h3' k (by omega)
      have i1 : (k : Int) < (a.length : Int) := by omega
      have i2 : (k : Int) < (b.length : Int) := by omega
      have d1 := mul_bd (A := 20) (B := 2000000) (na x1 (List.mem_of_getElem? e1.out)) (nb x2 (List.mem_of_getElem? e2.out))
      have d2 := dotTo_bd na nb k
      have d0 : k < 3 := by rw [← LA.out]; exact hlt
      rw [← H.out] at d2
      obtain ⟨z, hz⟩ : ∃ z, z = x1 * x2 := ⟨_, rfl⟩
      rw [← hz] at d1
      have w1 : IntKind.i64.wrap (x1 * x2) = z := by rw [← hz]; exact IntWalk.i64_in _ (by omega)
      have w2 : IntKind.i64.wrap (t + z) = t + z := IntWalk.i64_in _ (by omega)
      have HZ := hid hz
      clear d1 d2 d0 hz
      go_wp2
      go_roundw
      case rel => exact ⟨k + 1, t + z, by omega, by go_num, rfl, hid (by rw [dotTo_succ e1.out e2.out, H.out, HZ.out]), trivial⟩
      case measure => simp [intOf]; omega
    · have hk' : k = a.length := by omega
      have hge : ¬ (k : Int) < (a.length : Int) := by omega
      have hR : Hid (t = dotL a b) := hid (by rw [H.out, hk', LA.out, dotTo_three])
      clear hk'
      go_wp2
      go_ret
      exact ⟨ret_i hR.out, rfl⟩

end Go.Proofs.YtllchacophapoaaDoor

/- The methods of the program's queue by a pointer to it. -/

namespace Go.Proofs.YtllchacophapoaaDoor
open Go.RowKit
set_option maxRecDepth 4000

theorem qmLen {w : World} {H : Nat} {v : Value} (h : w.cell? ⟨H, 0, none⟩ = some v) : (Go.method 250 122 (.pointer (some ⟨H, 0, none⟩)) "Len").run Tryd.prog w = .ok (114, v) w := by
  have e : (Go.method 250 122 (.pointer (some ⟨H, 0, none⟩)) "Len").run Tryd.prog w = ((load ⟨H, 0, none⟩ >>= fun v => pure (114, v)) : Sem (FuncId × Value)).run Tryd.prog w := by kernel_rfl
  rw [e]
  simp [h]
theorem qmLess {w : World} {H : Nat} {v : Value} (h : w.cell? ⟨H, 0, none⟩ = some v) : (Go.method 250 122 (.pointer (some ⟨H, 0, none⟩)) "Less").run Tryd.prog w = .ok (135, v) w := by
  have e : (Go.method 250 122 (.pointer (some ⟨H, 0, none⟩)) "Less").run Tryd.prog w = ((load ⟨H, 0, none⟩ >>= fun v => pure (135, v)) : Sem (FuncId × Value)).run Tryd.prog w := by kernel_rfl
  rw [e]
  simp [h]
theorem qmSwap {w : World} {H : Nat} {v : Value} (h : w.cell? ⟨H, 0, none⟩ = some v) : (Go.method 250 122 (.pointer (some ⟨H, 0, none⟩)) "Swap").run Tryd.prog w = .ok (136, v) w := by
  have e : (Go.method 250 122 (.pointer (some ⟨H, 0, none⟩)) "Swap").run Tryd.prog w = ((load ⟨H, 0, none⟩ >>= fun v => pure (136, v)) : Sem (FuncId × Value)).run Tryd.prog w := by kernel_rfl
  rw [e]
  simp [h]
theorem qmPop {w : World} {H : Nat} : (Go.method 250 122 (.pointer (some ⟨H, 0, none⟩)) "Pop").run Tryd.prog w = .ok (142, .pointer (some ⟨H, 0, none⟩)) w := by kernel_rfl

end Go.Proofs.YtllchacophapoaaDoor

/- The queue's own methods. -/
namespace Go.Proofs.YtllchacophapoaaDoor
open Go.RowKit
set_option maxRecDepth 4000

def AllOk (xs : List TaskD) : Prop := ∀ t ∈ xs, vecOk t.need = true
theorem getD_some {xs : List TaskD} {i : Nat} (h : i < xs.length) : xs[i]? = some (xs.getD i default) := by rw [List.getD_eq_getElem?_getD, List.getElem?_eq_getElem h]; rfl

set_option maxHeartbeats 1000000 in
theorem iLess (v : Value) (xs : List TaskD) (i j : Nat) (w : World) (h : RT w v xs) (hi : i < xs.length) (hj : j < xs.length) (hv : AllOk xs) :
    Calls Tryd.prog 135 #[v, .int .i64 i, .int .i64 j] w (RetB w (beforeT (xs.getD i default) (xs.getD j default))) := by
  obtain ⟨A, c, rfl, hc, hc', hg⟩ := RT.get h
  obtain ⟨b, o, x, Ax, cx, rfl, ex, cx1, cx2, hxn⟩ := hg i hi
  obtain ⟨b', o', y, Ay, cy, hA, ey, cy1, cy2, hyn⟩ := hg j hj
  injection hA with hA
  injection hA with h1 h2 _
  subst h1 h2
  have exd : xs.getD i default = x := by have := ex.out; rw [getD_some hi] at this; injection this
  have eyd : xs.getD j default = y := by have := ey.out; rw [getD_some hj] at this; injection this
  rw [exd, eyd]
  have hx := hv x (List.mem_of_getElem? ex.out)
  have hy := hv y (List.mem_of_getElem? ey.out)
  have i1 : (i : Int) < (xs.length : Int) := by omega
  have i2 : (j : Int) < (xs.length : Int) := by omega
  have KB : Hid (∀ w', Ext w w' → w'.cell? ⟨b, o + i * 2, none⟩ = some (.int .i64 x.id) ∧ w'.cell? ⟨b, o + i * 2 + 1, none⟩ = some (.slice Ax x.need.length cx) ∧ w'.cell? ⟨b, o + j * 2, none⟩ = some (.int .i64 y.id) ∧ w'.cell? ⟨b, o + j * 2 + 1, none⟩ = some (.slice Ay y.need.length cy)) := hid fun w' hw => ⟨hw.cell cx1, hw.cell cx2, hw.cell cy1, hw.cell cy2⟩
  have HXN := hid hxn
  have HYN := hid hyn
  have HX := hid hx
  have HY := hid hy
  have HDr : Hid (Ext w w.drew) := hid (Below.drew (Below.refl _ _))
  clear hg h hxn hyn exd eyd ex ey hx hy hv hi hj cx1 cx2 cy1 cy2
  go_enter Tryd.func135, Tryd.ntmps135
  go_wp2
  refine WG.start (fun w' => w'.cell? ⟨b, o + i * 2, none⟩ = some (.int .i64 x.id) ∧ w'.cell? ⟨b, o + i * 2 + 1, none⟩ = some (.slice Ax x.need.length cx) ∧ w'.cell? ⟨b, o + j * 2, none⟩ = some (.int .i64 y.id) ∧ w'.cell? ⟨b, o + j * 2 + 1, none⟩ = some (.slice Ay y.need.length cy)) [8,9,10] (by kernel_rfl) (by exact KB.out _ HDr.out) (fun hHeld => ?_)
  obtain ⟨pz, hpz⟩ : ∃ x, x = w.drew := ⟨_, rfl⟩
  rw [← hpz] at hHeld HDr ⊢
  clear hpz
  (refine WG.take (i := 0) (v := ?_) rfl (by kernel_rfl) (by kernel_rfl) (by kernel_rfl) (by kernel_rfl) (fun _ _ _ h => h) (Or.inl ⟨by rfl, ?_⟩) (by assumption) ?_; rotate_left; (intro w hSw; (try dsimp only at hSw); go_split_ands; go_simp; (try with_reducible rfl)); (try simp only [Act.put, List.setIfInBounds_toArray, List.set_cons_zero, List.set_cons_succ]))
  (refine WG.take (i := 1) (v := ?_) rfl (by kernel_rfl) (by kernel_rfl) (by kernel_rfl) (by kernel_rfl) (fun _ _ _ h => h) (Or.inl ⟨by rfl, ?_⟩) (by assumption) ?_; rotate_left; (intro w hSw; (try dsimp only at hSw); go_split_ands; go_simp; (try with_reducible rfl)); (try simp only [Act.put, List.setIfInBounds_toArray, List.set_cons_zero, List.set_cons_succ]))
  (refine WG.take (i := 2) (v := ?_) rfl (by kernel_rfl) (by kernel_rfl) (by kernel_rfl) (by kernel_rfl) (fun _ _ _ h => h) (Or.inl ⟨by rfl, ?_⟩) (by assumption) ?_; rotate_left; (intro w hSw; (try dsimp only at hSw); go_split_ands; go_simp; (try with_reducible rfl)); (try simp only [Act.put, List.setIfInBounds_toArray, List.set_cons_zero, List.set_cons_succ]))
  (refine WG.take (i := 3) (v := ?_) rfl (by kernel_rfl) (by kernel_rfl) (by kernel_rfl) (by kernel_rfl) (fun _ _ _ h => h) (Or.inl ⟨by rfl, ?_⟩) (by assumption) ?_; rotate_left; (intro w hSw; (try dsimp only at hSw); go_split_ands; go_simp; (try with_reducible rfl)); (try simp only [Act.put, List.setIfInBounds_toArray, List.set_cons_zero, List.set_cons_succ]))
  (refine WG.take (i := 4) (v := ?_) rfl (by kernel_rfl) (by kernel_rfl) (by kernel_rfl) (by kernel_rfl) (fun _ _ _ h => h) (Or.inl ⟨by rfl, ?_⟩) (by assumption) ?_; rotate_left; (intro w hSw; (try dsimp only at hSw); go_split_ands; go_simp; (try with_reducible rfl)); (try simp only [Act.put, List.setIfInBounds_toArray, List.set_cons_zero, List.set_cons_succ]))
  (refine WG.take (i := 5) (v := ?_) rfl (by kernel_rfl) (by kernel_rfl) (by kernel_rfl) (by kernel_rfl) (fun _ _ _ h => h) (Or.inl ⟨by rfl, ?_⟩) (by assumption) ?_; rotate_left; (intro w hSw; (try dsimp only at hSw); go_split_ands; go_simp; (try with_reducible rfl)); (try simp only [Act.put, List.setIfInBounds_toArray, List.set_cons_zero, List.set_cons_succ]))
  (refine WG.take (i := 6) (v := ?_) rfl (by kernel_rfl) (by kernel_rfl) (by kernel_rfl) (by kernel_rfl) (fun _ _ _ h => h) (Or.inl ⟨by rfl, ?_⟩) (by assumption) ?_; rotate_left; (intro w hSw; (try dsimp only at hSw); go_split_ands; go_simp; (try with_reducible rfl)); (try simp only [Act.put, List.setIfInBounds_toArray, List.set_cons_zero, List.set_cons_succ]))
  (refine WG.take (i := 7) (v := ?_) rfl (by kernel_rfl) (by kernel_rfl) (by kernel_rfl) (by kernel_rfl) (fun _ _ _ h => h) (Or.inl ⟨by rfl, ?_⟩) (by assumption) ?_; rotate_left; (intro w hSw; (try dsimp only at hSw); go_split_ands; go_simp; (try with_reducible rfl)); (try simp only [Act.put, List.setIfInBounds_toArray, List.set_cons_zero, List.set_cons_succ]))
  refine WG.last (i := 8) rfl (by kernel_rfl) (by kernel_rfl) (fun K hK => ?_)
  go_simp; refine (iCompare x y _ _ _ (RI.ext HXN.out HDr.out) (RI.ext HYN.out HDr.out) HX.out HY.out).mono ?_; rintro e4 w4 ⟨rfl, hE4⟩; have HE4 := hid (HDr.out.trans hE4); clear hE4; (try dsimp only)
  refine hK.out _ _ ?_
  clear hK K
  (try simp only [Act.put, List.setIfInBounds_toArray, List.set_cons_zero, List.set_cons_succ])
  (refine WG.takeP (i := 9) (v := ?_) rfl (by kernel_rfl) (by kernel_rfl) (by kernel_rfl) (by kernel_rfl) (fun _ _ _ h => h) (Or.inl ⟨by rfl, ?_⟩) ?_; rotate_left; (intro w hSw; clear hSw; go_simp; (try with_reducible rfl)); (try simp only [Act.put, List.setIfInBounds_toArray, List.set_cons_zero, List.set_cons_succ]))
  refine WG.last (i := 10) rfl (by kernel_rfl) (by kernel_rfl) (fun K hK => ?_)
  go_simp
  refine hK.out _ _ ?_
  clear hK K
  (try simp only [Act.put, List.setIfInBounds_toArray, List.set_cons_zero, List.set_cons_succ])
  refine WG.done (by kernel_rfl) ?_
  go_wp2
  go_ret
  exact ⟨ret_b (cmpT_lt x y), HE4.out⟩

theorem OT.set2s {w : World} {base g n c : Nat} {xs : List TaskD} (h : OT w base (.slice (some ⟨g, 0, none⟩) n c) xs) {j : Nat} {x : TaskD} (hj : xs[j]? = some x) (y : TaskD) (v : Value) (hv : RI w v y.need) :
    OT ((w.setCell ⟨g, j * 2, none⟩ (.int .i64 y.id)).setCell ⟨g, j * 2 + 1, none⟩ v) base (.slice (some ⟨g, 0, none⟩) n c) (xs.set j y) ∧ SameT (fun t => t ≠ 44) w ((w.setCell ⟨g, j * 2, none⟩ (.int .i64 y.id)).setCell ⟨g, j * 2 + 1, none⟩ v) := by
  have hlt : j < xs.length := (List.getElem?_eq_some_iff.1 hj).1
  obtain ⟨h1, s1⟩ := Own.set ET.ok ET.ne h hj (i := 0) (u := .int .i64 y.id) (x' := ⟨y.id, x.need⟩) (by omega) (fun w' hw cs hl ⟨nv, he, hr⟩ => ⟨nv, by rw [he]; rfl, hr.same (hw.mono (fun t ht => ht))⟩)
  obtain ⟨h2, s2⟩ := Own.set ET.ok ET.ne h1 (j := j) (i := 1) (x := ⟨y.id, x.need⟩) (u := v) (x' := y) (by rw [List.getElem?_set_self hlt]) (by omega) (fun w' hw cs hl ⟨nv, he, hr⟩ => ⟨v, by rw [he]; rfl, RI.same (RI.same hv (s1.mono (fun t ht => ET.ne t ht))) (hw.mono (fun t ht => ht))⟩)
  rw [List.set_set] at h2
  exact ⟨h2, s1.trans s2⟩

set_option maxHeartbeats 1000000 in
theorem iSwap (base g c : Nat) (xs : List TaskD) (i j : Nat) (w : World) (h : OT w base (.slice (some ⟨g, 0, none⟩) xs.length c) xs) (hi : i < xs.length) (hj : j < xs.length) :
    Calls Tryd.prog 136 #[.slice (some ⟨g, 0, none⟩) xs.length c, .int .i64 i, .int .i64 j] w fun e w' => ∃ v, e = .returned v ∧ OT w' base (.slice (some ⟨g, 0, none⟩) xs.length c) (swapL xs i j) ∧ Touch [g] w w' := by
  obtain ⟨A, c', hv, hc, hc', hg⟩ := RT.get (show RT w _ xs from h.read)
  obtain ⟨b, o, x, Ax, cx, hA, ex, cx1, cx2, hxn⟩ := hg i hi
  obtain ⟨b', o', y, Ay, cy, hA', ey, cy1, cy2, hyn⟩ := hg j hj
  injection hv with h1 h2 h3
  subst h1
  injection hA with hA
  injection hA with h1 h2 _
  subst h1 h2
  injection hA' with hA'
  injection hA' with h1 h2 _
  subst h1 h2
  have exd : xs.getD i default = x := by have := ex.out; rw [getD_some hi] at this; injection this
  have eyd : xs.getD j default = y := by have := ey.out; rw [getD_some hj] at this; injection this
  simp only [Nat.zero_add] at cx1 cx2 cy1 cy2
  have i1 : (i : Int) < (xs.length : Int) := by omega
  have i2 : (j : Int) < (xs.length : Int) := by omega
  have KB : Hid (∀ w', Ext w w' → w'.cell? ⟨g, i * 2, none⟩ = some (.int .i64 x.id) ∧ w'.cell? ⟨g, i * 2 + 1, none⟩ = some (.slice Ax x.need.length cx) ∧ w'.cell? ⟨g, j * 2, none⟩ = some (.int .i64 y.id) ∧ w'.cell? ⟨g, j * 2 + 1, none⟩ = some (.slice Ay y.need.length cy) ∧ w'.frozen? ⟨g, i * 2, none⟩ = false ∧ w'.frozen? ⟨g, i * 2 + 1, none⟩ = false) := hid fun w' hw => ⟨hw.cell cx1, hw.cell cx2, hw.cell cy1, hw.cell cy2, (OT.at_ (Own.ext ET.ok h hw) ex.out).choose_spec.choose_spec.2.2.1, (OT.at_ (Own.ext ET.ok h hw) ex.out).choose_spec.choose_spec.2.2.2.1⟩
  have HXN := hid hxn
  have HYN := hid hyn
  have H := hid h
  have HEX := hid ex.out
  have HJL := hid hj
  have HDr : Hid (Ext w w.drew) := hid (Below.drew (Below.refl _ _))
  have HSW : Hid (swapL xs i j = (xs.set i y).set j x) := hid (by unfold swapL; rw [exd, eyd])
  clear hg h hxn hyn exd eyd ex ey hi hj cx1 cx2 cy1 cy2
  go_enter Tryd.func136, Tryd.ntmps136
  refine WG.start (fun w' => w'.cell? ⟨g, i * 2, none⟩ = some (.int .i64 x.id) ∧ w'.cell? ⟨g, i * 2 + 1, none⟩ = some (.slice Ax x.need.length cx) ∧ w'.cell? ⟨g, j * 2, none⟩ = some (.int .i64 y.id) ∧ w'.cell? ⟨g, j * 2 + 1, none⟩ = some (.slice Ay y.need.length cy) ∧ w'.frozen? ⟨g, i * 2, none⟩ = false ∧ w'.frozen? ⟨g, i * 2 + 1, none⟩ = false) [2,3,13,14,15] (by kernel_rfl) (by exact KB.out _ HDr.out) (fun hHeld => ?_)
  obtain ⟨pz, hpz⟩ : ∃ x, x = w.drew := ⟨_, rfl⟩
  rw [← hpz] at hHeld HDr ⊢
  clear hpz
  (refine WG.takeM (i := 0) (v := ?_) rfl (by kernel_rfl) (by kernel_rfl) (by kernel_rfl) (by kernel_rfl) (fun _ _ _ h => h) (Or.inl ⟨by rfl, ?_⟩) (by assumption) ?_; rotate_left; (intro w hSw; (try dsimp only at hSw); go_split_ands; go_simp; (try with_reducible rfl)); (try simp only [Act.put, List.setIfInBounds_toArray, List.set_cons_zero, List.set_cons_succ]))
  (refine WG.takeM (i := 1) (v := ?_) rfl (by kernel_rfl) (by kernel_rfl) (by kernel_rfl) (by kernel_rfl) (fun _ _ _ h => h) (Or.inl ⟨by rfl, ?_⟩) (by assumption) ?_; rotate_left; (intro w hSw; (try dsimp only at hSw); go_split_ands; go_simp; (try with_reducible rfl)); (try simp only [Act.put, List.setIfInBounds_toArray, List.set_cons_zero, List.set_cons_succ]))
  (refine WG.takeM (i := 4) (v := ?_) rfl (by kernel_rfl) (by kernel_rfl) (by kernel_rfl) (by kernel_rfl) (fun _ _ _ h => h) (Or.inl ⟨by rfl, ?_⟩) (by assumption) ?_; rotate_left; (intro w hSw; (try dsimp only at hSw); go_split_ands; go_simp; (try with_reducible rfl)); (try simp only [Act.put, List.setIfInBounds_toArray, List.set_cons_zero, List.set_cons_succ]))
  (refine WG.takeM (i := 5) (v := ?_) rfl (by kernel_rfl) (by kernel_rfl) (by kernel_rfl) (by kernel_rfl) (fun _ _ _ h => h) (Or.inl ⟨by rfl, ?_⟩) (by assumption) ?_; rotate_left; (intro w hSw; (try dsimp only at hSw); go_split_ands; go_simp; (try with_reducible rfl)); (try simp only [Act.put, List.setIfInBounds_toArray, List.set_cons_zero, List.set_cons_succ]))
  (refine WG.takeM (i := 6) (v := ?_) rfl (by kernel_rfl) (by kernel_rfl) (by kernel_rfl) (by kernel_rfl) (fun _ _ _ h => h) (Or.inl ⟨by rfl, ?_⟩) (by assumption) ?_; rotate_left; (intro w hSw; (try dsimp only at hSw); go_split_ands; go_simp; (try with_reducible rfl)); (try simp only [Act.put, List.setIfInBounds_toArray, List.set_cons_zero, List.set_cons_succ]))
  (refine WG.takeM (i := 7) (v := ?_) rfl (by kernel_rfl) (by kernel_rfl) (by kernel_rfl) (by kernel_rfl) (fun _ _ _ h => h) (Or.inl ⟨by rfl, ?_⟩) (by assumption) ?_; rotate_left; (intro w hSw; (try dsimp only at hSw); go_split_ands; go_simp; (try with_reducible rfl)); (try simp only [Act.put, List.setIfInBounds_toArray, List.set_cons_zero, List.set_cons_succ]))
  (refine WG.takeM (i := 8) (v := ?_) rfl (by kernel_rfl) (by kernel_rfl) (by kernel_rfl) (by kernel_rfl) (fun _ _ _ h => h) (Or.inl ⟨by rfl, ?_⟩) (by assumption) ?_; rotate_left; (intro w hSw; (try dsimp only at hSw); go_split_ands; go_simp; (try with_reducible rfl)); (try simp only [Act.put, List.setIfInBounds_toArray, List.set_cons_zero, List.set_cons_succ]))
  (refine WG.takeM (i := 9) (v := ?_) rfl (by kernel_rfl) (by kernel_rfl) (by kernel_rfl) (by kernel_rfl) (fun _ _ _ h => h) (Or.inl ⟨by rfl, ?_⟩) (by assumption) ?_; rotate_left; (intro w hSw; (try dsimp only at hSw); go_split_ands; go_simp; (try with_reducible rfl)); (try simp only [Act.put, List.setIfInBounds_toArray, List.set_cons_zero, List.set_cons_succ]))
  (refine WG.takeM (i := 10) (v := ?_) rfl (by kernel_rfl) (by kernel_rfl) (by kernel_rfl) (by kernel_rfl) (fun _ _ _ h => h) (Or.inl ⟨by rfl, ?_⟩) (by assumption) ?_; rotate_left; (intro w hSw; (try dsimp only at hSw); go_split_ands; go_simp; (try with_reducible rfl)); (try simp only [Act.put, List.setIfInBounds_toArray, List.set_cons_zero, List.set_cons_succ]))
  (refine WG.takeM (i := 11) (v := ?_) rfl (by kernel_rfl) (by kernel_rfl) (by kernel_rfl) (by kernel_rfl) (fun _ _ _ h => h) (Or.inl ⟨by rfl, ?_⟩) (by assumption) ?_; rotate_left; (intro w hSw; (try dsimp only at hSw); go_split_ands; go_simp; (try with_reducible rfl)); (try simp only [Act.put, List.setIfInBounds_toArray, List.set_cons_zero, List.set_cons_succ]))
  (refine WG.takeM (i := 12) (v := ?_) rfl (by kernel_rfl) (by kernel_rfl) (by kernel_rfl) (by kernel_rfl) (fun _ _ _ h => h) (Or.inl ⟨by rfl, ?_⟩) (by assumption) ?_; rotate_left; (intro w hSw; (try dsimp only at hSw); go_split_ands; go_simp; (try with_reducible rfl)); (try simp only [Act.put, List.setIfInBounds_toArray, List.set_cons_zero, List.set_cons_succ]))
  (refine WG.takeP (i := 2) (v := ?_) rfl (by kernel_rfl) (by kernel_rfl) (by kernel_rfl) (by kernel_rfl) (fun _ _ _ h => h) (Or.inl ⟨by rfl, ?_⟩) ?_; rotate_left; (intro w hSw; clear hSw; go_simp; (try with_reducible rfl)); (try simp only [Act.put, List.setIfInBounds_toArray, List.set_cons_zero, List.set_cons_succ]))
  (refine WG.takeP (i := 3) (v := ?_) rfl (by kernel_rfl) (by kernel_rfl) (by kernel_rfl) (by kernel_rfl) (fun _ _ _ h => h) (Or.inl ⟨by rfl, ?_⟩) ?_; rotate_left; (intro w hSw; clear hSw; go_simp; (try with_reducible rfl)); (try simp only [Act.put, List.setIfInBounds_toArray, List.set_cons_zero, List.set_cons_succ]))
  obtain ⟨q0, q1, q2, q3, q4, q5⟩ := KB.out _ HDr.out
  refine WG.last (i := 13) rfl (by kernel_rfl) (by kernel_rfl) (fun K hK => ?_)
  go_simp
  refine hK.out _ _ ?_
  clear hK K
  (try simp only [Act.put, List.setIfInBounds_toArray, List.set_cons_zero, List.set_cons_succ])
  obtain ⟨hO1, hS1⟩ := OT.set2s (Own.ext ET.ok H.out HDr.out) HEX.out y (.slice Ay y.need.length cy) (RI.ext HYN.out HDr.out)
  have hT1 : Touch [g] w ((pz.setCell ⟨g, i * 2, none⟩ (.int .i64 y.id)).setCell ⟨g, i * 2 + 1, none⟩ (.slice Ay y.need.length cy)) := ((Touch.ext HDr.out [g]).setCell (p := ⟨g, i * 2, none⟩) (by simp) _).setCell (p := ⟨g, i * 2 + 1, none⟩) (by simp) _
  have hX1 : RI ((pz.setCell ⟨g, i * 2, none⟩ (.int .i64 y.id)).setCell ⟨g, i * 2 + 1, none⟩ (.slice Ay y.need.length cy)) (.slice Ax x.need.length cx) x.need := (RI.ext HXN.out HDr.out).same (hS1.mono (by rintro t rfl; decide))
  clear hS1 q0 q1 q2 q3 q4 q5
  obtain ⟨w1, hw1⟩ : ∃ w1, w1 = (pz.setCell ⟨g, i * 2, none⟩ (.int .i64 y.id)).setCell ⟨g, i * 2 + 1, none⟩ (.slice Ay y.need.length cy) := ⟨_, rfl⟩
  rw [← hw1] at hO1 hT1 hX1 ⊢
  have hjl : j < (xs.set i y).length := by rw [List.length_set]; exact HJL.out
  obtain ⟨_, _, r0, r1, r2, r3, _⟩ := OT.at_ hO1 (getD_some hjl)
  have hO2 := OT.set2 hO1 (getD_some hjl) x (.slice Ax x.need.length cx) hX1
  rw [← HSW.out] at hO2
  have hT2 : Touch [g] w ((w1.setCell ⟨g, j * 2, none⟩ (.int .i64 x.id)).setCell ⟨g, j * 2 + 1, none⟩ (.slice Ax x.need.length cx)) := (hT1.setCell (p := ⟨g, j * 2, none⟩) (by simp) _).setCell (p := ⟨g, j * 2 + 1, none⟩) (by simp) _
  have HO2 := hid hO2
  have HT2 := hid hT2
  clear hO1 hT1 hX1 hO2 hT2 hw1 hjl
  (refine WG.takeP (i := 14) (v := ?_) rfl (by kernel_rfl) (by kernel_rfl) (by kernel_rfl) (by kernel_rfl) (fun _ _ _ h => h) (Or.inl ⟨by rfl, ?_⟩) ?_; rotate_left; (intro w hSw; clear hSw; go_simp; (try with_reducible rfl)); (try simp only [Act.put, List.setIfInBounds_toArray, List.set_cons_zero, List.set_cons_succ]))
  refine WG.last (i := 15) rfl (by kernel_rfl) (by kernel_rfl) (fun K hK => ?_)
  go_simp
  refine hK.out _ _ ?_
  clear hK K
  (try simp only [Act.put, List.setIfInBounds_toArray, List.set_cons_zero, List.set_cons_succ])
  refine WG.done (by kernel_rfl) ?_
  refine bodyPost_end (v := .tuple #[]) (by simp [results, Tryd.results136, go_sem]) rfl ⟨_, rfl, HO2.out, HT2.out⟩

end Go.Proofs.YtllchacophapoaaDoor

/- container/heap.down of the program's queue. (Printed by genob3.py.) -/
namespace Go.Proofs.YtllchacophapoaaDoor
open Go.RowKit
set_option maxRecDepth 4000

theorem iSwap' (base g c N : Nat) (xs : List TaskD) (i j : Nat) (a b : Int) (w : World) (ha : a = (i : Int)) (hb : b = (j : Int)) (h : OT w base (.slice (some ⟨g, 0, none⟩) N c) xs) (hN : xs.length = N) (hi : i < xs.length) (hj : j < xs.length) :
    Calls Tryd.prog 136 #[.slice (some ⟨g, 0, none⟩) N c, .int .i64 a, .int .i64 b] w fun e w' => ∃ v, e = .returned v ∧ OT w' base (.slice (some ⟨g, 0, none⟩) N c) (swapL xs i j) ∧ Touch [g] w w' := by
  subst hN ha hb
  exact iSwap base g c xs i j w h hi hj
theorem iLessI (v : Value) (xs : List TaskD) (i j : Nat) (a b : Int) (w : World) (ha : a = (i : Int)) (hb : b = (j : Int)) (h : RT w v xs) (hi : i < xs.length) (hj : j < xs.length) (hv : AllOk xs) :
    Calls Tryd.prog 135 #[v, .int .i64 a, .int .i64 b] w (RetB w (beforeT (xs.getD i default) (xs.getD j default))) := by
  subst ha hb
  exact iLess v xs i j w h hi hj hv
theorem AllOk.perm {xs ys : List TaskD} (h : AllOk xs) (hp : ys.Perm xs) : AllOk ys := fun t ht => h t (hp.mem_iff.1 ht)
theorem OT.read {w : World} {base : Nat} {v : Value} {xs : List TaskD} (h : OT w base v xs) : RT w v xs := Own.read h
/-- what down leaves -/
def RetDown (xs : List TaskD) (base g c N n i0 : Nat) (w : World) (e : Ending) (w' : World) : Prop := ∃ v zs, e = .returned v ∧ OT w' base (.slice (some ⟨g, 0, none⟩) N c) zs ∧ zs.Perm xs ∧ (∀ k, n ≤ k → zs.getD k default = xs.getD k default) ∧ Heap beforeT zs n i0 ∧ Touch [g] w w'

set_option maxHeartbeats 2000000 in
theorem hDown (H base g c N n i0 : Nat) (xs : List TaskD) (w : World) (hq : w.cell? ⟨H, 0, none⟩ = some (.slice (some ⟨g, 0, none⟩) N c)) (hg : H ≠ g) (hH : H < w.heap.size) (h : OT w base (.slice (some ⟨g, 0, none⟩) N c) xs) (hN : xs.length = N) (hN2 : N ≤ 1000000) (hn : n ≤ N) (hi0 : i0 ≤ N) (hv : AllOk xs) (hh : Heap beforeT xs n (i0 + 1)) :
    Calls Tryd.prog 117 #[.iface 122 (.pointer (some ⟨H, 0, none⟩)), .int .i64 i0, .int .i64 n] w (RetDown xs base g c N n i0 w) := by
  have KQ : Hid (∀ w', Touch [g] w w' → w'.cell? ⟨H, 0, none⟩ = some (.slice (some ⟨g, 0, none⟩) N c)) := hid fun w' hw => by
    have := hw.block H hH (by simpa using hg)
    unfold World.cell? at hq ⊢
    simp only at hq ⊢
    rw [this]
    exact hq
  have hmL : ∀ {w' : World}, w'.cell? ⟨H, 0, none⟩ = some (.slice (some ⟨g, 0, none⟩) N c) → (Go.method 250 122 (.pointer (some ⟨H, 0, none⟩)) "Less").run Tryd.prog w' = .ok (135, .slice (some ⟨g, 0, none⟩) N c) w' := qmLess
  have hmS : ∀ {w' : World}, w'.cell? ⟨H, 0, none⟩ = some (.slice (some ⟨g, 0, none⟩) N c) → (Go.method 250 122 (.pointer (some ⟨H, 0, none⟩)) "Swap").run Tryd.prog w' = .ok (136, .slice (some ⟨g, 0, none⟩) N c) w' := qmSwap
  have H0 := hid h
  have HH := hid hh
  have HV := hid hv
  have HN := hid hN
  clear hq hg hH h hN hv hh
  go_enter Tryd.func117, Tryd.ntmps117
  go_wp2
  go_loopw [7] (fun i wr => ∃ (k : Nat) (zs : List TaskD), i = .int .i64 k ∧ k ≤ N ∧ Hid (OT wr base (.slice (some ⟨g, 0, none⟩) N c) zs) ∧ Hid (HInv beforeT xs zs i0 k n) ∧ Hid (Touch [g] w wr)) (fun i _ => n - (intOf i).toNat)
  case atStart => exact ⟨i0, xs, rfl, hi0, H0, hid (HInv.start HH.out), hid (Touch.refl _ _)⟩
  case round =>
    obtain ⟨k, zs, rfl, hkN, HO, HI, HT⟩ := hrel
    have HZL : Hid (zs.length = N) := hid (HI.out.perm.length_eq.trans HN.out)
    have HAL : Hid (AllOk zs) := hid (AllOk.perm HV.out HI.out.perm)
    have hqr := KQ.out _ HT.out
    obtain ⟨J1, hJ1⟩ : ∃ J1 : Nat, J1 = 2 * k + 1 := ⟨_, rfl⟩
    obtain ⟨J2, hJ2⟩ : ∃ J2 : Nat, J2 = 2 * k + 2 := ⟨_, rfl⟩
    have TKa : Hid True := hid trivial
    by_cases hlt : J1 < n
    · have HKL : Hid (k < zs.length) := hid (by rw [HZL.out]; omega)
      have HJ1 : Hid (J1 < zs.length) := hid (by rw [HZL.out]; omega)
      have hzn : n ≤ zs.length := by rw [HZL.out]; exact hn
      by_cases hlt2 : J2 < n
      · have HJ2 : Hid (J2 < zs.length) := hid (by rw [HZL.out]; omega)
        cases hca : beforeT (zs.getD J2 default) (zs.getD J1 default) with
        | true =>
          have HMIN : Hid (∀ c, (c = 2 * k + 1 ∨ c = 2 * k + 2) → c < n → beforeT (zs.getD c default) (zs.getD J2 default) = false) := hid (fun c hc _ => by
            rcases hc with rfl | rfl
            · rw [← hJ1]; exact before_asym _ _ hca
            · rw [← hJ2]; exact before_irr _)
          have HJL : Hid (J2 < zs.length) := hid (by omega)
          cases hcb : beforeT (zs.getD J2 default) (zs.getD k default) with
          | true =>
            go_wp2_with (first
              | (go_at_call 135; clear TKa; refine (iLessI _ zs J2 J1 _ _ _ (by omega) (by omega) (OT.read HO.out) HJ2.out HJ1.out HAL.out).mono ?_; rw [hca]; rintro e wx ⟨rfl, hEx⟩; have HOx := hid (Own.ext ET.ok HO.out hEx); have HTx := hid (HT.out.trans (Touch.ext hEx [g])); have hqx := KQ.out _ HTx.out; clear hEx; have TKb : Hid True := hid trivial)
              | (go_at_call 135; clear TKb; refine (iLessI _ zs J2 k _ _ _ (by omega) (by omega) (OT.read HOx.out) HJL.out HKL.out HAL.out).mono ?_; rw [hcb]; rintro e wb ⟨rfl, hEb⟩; have HOb := hid (Own.ext ET.ok HOx.out hEb); have HTb := hid (HTx.out.trans (Touch.ext hEb [g])); have hqb := KQ.out _ HTb.out; clear hEb; have TKc : Hid True := hid trivial)
              | (go_at_call 136; refine (iSwap' base g c N zs k J2 _ _ _ (by omega) (by omega) HOb.out HZL.out HKL.out HJL.out).mono ?_; rintro e wc ⟨vc, rfl, hOc, hTc⟩; have HOc := hid hOc; have HTc := hid (HTb.out.trans hTc); clear hOc hTc))
            go_roundw
            case rel => exact ⟨J2, swapL zs k J2, by first | omega | exact congrArg (Value.int .i64) (by omega), by omega, HOc, hid (HInv.step before_asym HI.out (by omega) (by omega) (by omega) HMIN.out hcb), HTc⟩
            case measure => simp [intOf]; omega
          | false =>
            go_wp2_with (first
              | (go_at_call 135; clear TKa; refine (iLessI _ zs J2 J1 _ _ _ (by omega) (by omega) (OT.read HO.out) HJ2.out HJ1.out HAL.out).mono ?_; rw [hca]; rintro e wx ⟨rfl, hEx⟩; have HOx := hid (Own.ext ET.ok HO.out hEx); have HTx := hid (HT.out.trans (Touch.ext hEx [g])); have hqx := KQ.out _ HTx.out; clear hEx; have TKb : Hid True := hid trivial)
              | (go_at_call 135; clear TKb; refine (iLessI _ zs J2 k _ _ _ (by omega) (by omega) (OT.read HOx.out) HJL.out HKL.out HAL.out).mono ?_; rw [hcb]; rintro e wb ⟨rfl, hEb⟩; have HOb := hid (Own.ext ET.ok HOx.out hEb); have HTb := hid (HTx.out.trans (Touch.ext hEb [g])); have hqb := KQ.out _ HTb.out; clear hEb; have TKc : Hid True := hid trivial))
            go_ret
            exact ⟨_, zs, rfl, HOb.out, HI.out.perm, HI.out.rest, HInv.stop HI.out (fun c hc hn => before_trans _ _ _ hcb (HMIN.out c hc hn)), HTb.out⟩
        | false =>
          have HMIN : Hid (∀ c, (c = 2 * k + 1 ∨ c = 2 * k + 2) → c < n → beforeT (zs.getD c default) (zs.getD J1 default) = false) := hid (fun c hc _ => by
            rcases hc with rfl | rfl
            · rw [← hJ1]; exact before_irr _
            · rw [← hJ2]; exact hca)
          have HJL : Hid (J1 < zs.length) := hid (by omega)
          cases hcb : beforeT (zs.getD J1 default) (zs.getD k default) with
          | true =>
            go_wp2_with (first
              | (go_at_call 135; clear TKa; refine (iLessI _ zs J2 J1 _ _ _ (by omega) (by omega) (OT.read HO.out) HJ2.out HJ1.out HAL.out).mono ?_; rw [hca]; rintro e wx ⟨rfl, hEx⟩; have HOx := hid (Own.ext ET.ok HO.out hEx); have HTx := hid (HT.out.trans (Touch.ext hEx [g])); have hqx := KQ.out _ HTx.out; clear hEx; have TKb : Hid True := hid trivial)
              | (go_at_call 135; clear TKb; refine (iLessI _ zs J1 k _ _ _ (by omega) (by omega) (OT.read HOx.out) HJL.out HKL.out HAL.out).mono ?_; rw [hcb]; rintro e wb ⟨rfl, hEb⟩; have HOb := hid (Own.ext ET.ok HOx.out hEb); have HTb := hid (HTx.out.trans (Touch.ext hEb [g])); have hqb := KQ.out _ HTb.out; clear hEb; have TKc : Hid True := hid trivial)
              | (go_at_call 136; refine (iSwap' base g c N zs k J1 _ _ _ (by omega) (by omega) HOb.out HZL.out HKL.out HJL.out).mono ?_; rintro e wc ⟨vc, rfl, hOc, hTc⟩; have HOc := hid hOc; have HTc := hid (HTb.out.trans hTc); clear hOc hTc))
            go_roundw
            case rel => exact ⟨J1, swapL zs k J1, by first | omega | exact congrArg (Value.int .i64) (by omega), by omega, HOc, hid (HInv.step before_asym HI.out (by omega) (by omega) (by omega) HMIN.out hcb), HTc⟩
            case measure => simp [intOf]; omega
          | false =>
            go_wp2_with (first
              | (go_at_call 135; clear TKa; refine (iLessI _ zs J2 J1 _ _ _ (by omega) (by omega) (OT.read HO.out) HJ2.out HJ1.out HAL.out).mono ?_; rw [hca]; rintro e wx ⟨rfl, hEx⟩; have HOx := hid (Own.ext ET.ok HO.out hEx); have HTx := hid (HT.out.trans (Touch.ext hEx [g])); have hqx := KQ.out _ HTx.out; clear hEx; have TKb : Hid True := hid trivial)
              | (go_at_call 135; clear TKb; refine (iLessI _ zs J1 k _ _ _ (by omega) (by omega) (OT.read HOx.out) HJL.out HKL.out HAL.out).mono ?_; rw [hcb]; rintro e wb ⟨rfl, hEb⟩; have HOb := hid (Own.ext ET.ok HOx.out hEb); have HTb := hid (HTx.out.trans (Touch.ext hEb [g])); have hqb := KQ.out _ HTb.out; clear hEb; have TKc : Hid True := hid trivial))
            go_ret
            exact ⟨_, zs, rfl, HOb.out, HI.out.perm, HI.out.rest, HInv.stop HI.out (fun c hc hn => before_trans _ _ _ hcb (HMIN.out c hc hn)), HTb.out⟩
      · have HMIN : Hid (∀ c, (c = 2 * k + 1 ∨ c = 2 * k + 2) → c < n → beforeT (zs.getD c default) (zs.getD J1 default) = false) := hid (fun c hc hcn => by
            rcases hc with rfl | rfl
            · rw [← hJ1]; exact before_irr _
            · omega)
        have HOx := HO
        have HTx := HT
        have TKb := TKa
        have HJL : Hid (J1 < zs.length) := hid (by omega)
        cases hcb : beforeT (zs.getD J1 default) (zs.getD k default) with
        | true =>
          go_wp2_with (first
            | (go_at_call 135; clear TKb; refine (iLessI _ zs J1 k _ _ _ (by omega) (by omega) (OT.read HOx.out) HJL.out HKL.out HAL.out).mono ?_; rw [hcb]; rintro e wb ⟨rfl, hEb⟩; have HOb := hid (Own.ext ET.ok HOx.out hEb); have HTb := hid (HTx.out.trans (Touch.ext hEb [g])); have hqb := KQ.out _ HTb.out; clear hEb; have TKc : Hid True := hid trivial)
            | (go_at_call 136; refine (iSwap' base g c N zs k J1 _ _ _ (by omega) (by omega) HOb.out HZL.out HKL.out HJL.out).mono ?_; rintro e wc ⟨vc, rfl, hOc, hTc⟩; have HOc := hid hOc; have HTc := hid (HTb.out.trans hTc); clear hOc hTc))
          go_roundw
          case rel => exact ⟨J1, swapL zs k J1, by first | omega | exact congrArg (Value.int .i64) (by omega), by omega, HOc, hid (HInv.step before_asym HI.out (by omega) (by omega) (by omega) HMIN.out hcb), HTc⟩
          case measure => simp [intOf]; omega
        | false =>
          go_wp2_with ((go_at_call 135; clear TKb; refine (iLessI _ zs J1 k _ _ _ (by omega) (by omega) (OT.read HOx.out) HJL.out HKL.out HAL.out).mono ?_; rw [hcb]; rintro e wb ⟨rfl, hEb⟩; have HOb := hid (Own.ext ET.ok HOx.out hEb); have HTb := hid (HTx.out.trans (Touch.ext hEb [g])); have hqb := KQ.out _ HTb.out; clear hEb; have TKc : Hid True := hid trivial))
          go_ret
          exact ⟨_, zs, rfl, HOb.out, HI.out.perm, HI.out.rest, HInv.stop HI.out (fun c hc hn => before_trans _ _ _ hcb (HMIN.out c hc hn)), HTb.out⟩
    · go_wp2
      go_ret
      exact ⟨_, zs, rfl, HO.out, HI.out.perm, HI.out.rest, HInv.stop HI.out (fun c hc hn => by omega), HT.out⟩

end Go.Proofs.YtllchacophapoaaDoor
