/- Bytes of a cluster: their sum. -/
import Derived.Test.YtfgibhdglbjadaaK19
import Derived.Test.YtfgibhdglbjadaaK3
import Derived.Test.YtfgibhdglbjadaaK10
import Derived.Test.YtfgibhdglbjadaaK9
namespace Go.Proofs.Ytfgibhdglbjadaa
open Go.RowKit
set_option maxRecDepth 4000
set_option maxRecDepth 4000

def stepB (n x : Int) : Int := (31 * n + x) % 251
def sumTo (xs : List Int) (k : Nat) : Int := (xs.take k).foldl stepB 1
def byteTo (xs : List Int) (k : Nat) : Bool := (xs.take k).all fun x => inB x 0 255
def sumB (xs : List Int) : Int := if (xs.all fun x => inB x 0 255) && decide (xs.length ≤ 200) then xs.foldl stepB 1 else -1
theorem sumTo_succ {xs : List Int} {k : Nat} {x : Int} (h : xs[k]? = some x) : sumTo xs (k + 1) = stepB (sumTo xs k) x := by
  unfold sumTo; rw [take_snoc h, List.foldl_append]; rfl
theorem byteTo_succ {xs : List Int} {k : Nat} {x : Int} (h : xs[k]? = some x) : byteTo xs (k + 1) = (byteTo xs k && inB x 0 255) := by
  unfold byteTo; rw [take_snoc h]; simp
theorem stepB_bd {n x : Int} : 0 ≤ stepB n x ∧ stepB n x ≤ 250 := by unfold stepB; omega
theorem sumB_all {xs : List Int} (h : byteTo xs xs.length = true) (hl : xs.length ≤ 200) : sumB xs = sumTo xs xs.length := by
  unfold byteTo at h
  rw [List.take_length] at h
  unfold sumB sumTo
  rw [h, List.take_length]
  simp [hl]
theorem sumB_bad {xs : List Int} {k : Nat} {x : Int} (h : xs[k]? = some x) (hx : inB x 0 255 = false) : sumB xs = -1 := by
  unfold sumB
  rw [all_false_of h hx]
  rfl
theorem sumB_long {xs : List Int} (hl : ¬ xs.length ≤ 200) : sumB xs = -1 := by
  unfold sumB
  simp [hl]

section
set_option maxHeartbeats 1000000
theorem iClusterSum (v : Value) (xs : List Int) (w : World) (h : RI w v xs) :
    Calls Try.prog 35 #[v] w (RetN w (sumB xs)) := by
  obtain ⟨A, c, rfl, hc, hc', hg⟩ := RI.get h
  clear h
  by_cases hl : xs.length ≤ 200
  · have il : ¬ (200 : Int) < (xs.length : Int) := by omega
    go_enter Try.func35, Try.ntmps35
    go_wp2
    go_loopw [3, 11] (fun s i wr => ∃ (k : Nat) (n : Int), k ≤ xs.length ∧ i = .int .i64 k ∧ s = .int .i64 n ∧ Hid (n = sumTo xs k ∧ byteTo xs k = true) ∧ 0 ≤ n ∧ n ≤ 250 ∧ Ext w wr) (fun _ i _ => xs.length - (intOf i).toNat)
    case atStart => exact ⟨0, 1, Nat.zero_le _, rfl, rfl, hid ⟨rfl, rfl⟩, by omega, by omega, Ext.refl _⟩
    case round =>
      obtain ⟨k, n, hk, rfl, rfl, H, hn0, hn1, hE⟩ := hrel
      by_cases hlt : k < xs.length
      · obtain ⟨b, o, x, rfl, e, c1⟩ := hg k hlt
        have i1 : (k : Int) < (xs.length : Int) := by omega
        have c1r := hE.cell c1
        clear c1
        by_cases hx : inB x 0 255 = true
        · have hxb : 0 ≤ x ∧ x ≤ 255 := by simpa [inB] using hx
          obtain ⟨hx0, hx1⟩ := hxb
          have hs := stepB_bd (n := n) (x := x)
          obtain ⟨nx, hnx⟩ : ∃ nx, nx = stepB n x := ⟨_, rfl⟩
          rw [← hnx] at hs
          have t1 : (31 * n + x).tmod 251 = nx := by rw [Int.tmod_eq_emod_of_nonneg (by omega), hnx]; rfl
          have t2 : (31 * n + x) % 251 = nx := by rw [hnx]; rfl
          have w1 : IntKind.i64.wrap (31 * n) = 31 * n := IntWalk.i64_in _ (by omega)
          have w2 : IntKind.i64.wrap (31 * n + x) = 31 * n + x := IntWalk.i64_in _ (by omega)
          have HX := hid hnx
          clear hnx
          go_wp2_with (go_at_call 72; refine (iWithin _ _ _ _).mono ?_; rintro e1 w1' ⟨rfl, n1, rfl⟩; rw [hx])
          go_roundw
          case rel => exact ⟨k + 1, nx, by omega, by go_num, rfl, hid ⟨by rw [sumTo_succ e.out, ← H.out.1]; exact HX.out, by rw [byteTo_succ e.out, H.out.2, hx]; rfl⟩, by omega, by omega, hE.trans (Ext.drewN _ _)⟩
          case measure => simp [intOf]; omega
        · have hx : inB x 0 255 = false := by simpa using hx
          go_wp2_with (go_at_call 72; refine (iWithin _ _ _ _).mono ?_; rintro e1 w1' ⟨rfl, n1, rfl⟩; rw [hx])
          go_ret
          exact ⟨ret_i (sumB_bad e.out hx).symm, hE.trans (Ext.drewN _ _)⟩
      · go_wp2
        go_ret
        have hk' : k = xs.length := by omega
        subst hk'
        exact ⟨ret_i (by rw [sumB_all H.out.2 hl]; exact H.out.1), hE⟩
  · have il : (200 : Int) < (xs.length : Int) := by omega
    go_enter Try.func35, Try.ntmps35
    go_wp2
    go_ret
    exact ⟨ret_i (sumB_long hl).symm, Ext.refl _⟩
theorem sClusterSum (v : Value) (xs : List Int) (w : World) (h : RI w v xs) :
    Calls Try.prog 63 #[v] w (RetN w (sumB xs)) := by
  obtain ⟨A, c, rfl, hc, hc', hg⟩ := RI.get h
  clear h
  go_enter Try.func63, Try.ntmps63
  go_wp2
  go_loopw [3, 4] (fun s i wr => ∃ (k : Nat) (n : Int), k ≤ xs.length ∧ i = .int .i64 k ∧ s = .int .i64 n ∧ Hid (n = sumTo xs k ∧ byteTo xs k = true) ∧ 0 ≤ n ∧ n ≤ 250 ∧ Ext w wr) (fun _ i _ => xs.length - (intOf i).toNat)
  case atStart => exact ⟨0, 1, Nat.zero_le _, rfl, rfl, hid ⟨rfl, rfl⟩, by omega, by omega, Ext.refl _⟩
  case round =>
    obtain ⟨k, n, hk, rfl, rfl, H, hn0, hn1, hE⟩ := hrel
    by_cases hlt : k < xs.length
    · obtain ⟨b, o, x, rfl, e, c1⟩ := hg k hlt
      have i1 : (k : Int) < (xs.length : Int) := by omega
      have c1r := hE.cell c1
      have HC := hid c1r
      clear c1
      by_cases hx : inB x 0 255 = true
      · have hxb : 0 ≤ x ∧ x ≤ 255 := by simpa [inB] using hx
        obtain ⟨hx0, hx1⟩ := hxb
        have hs := stepB_bd (n := n) (x := x)
        obtain ⟨nx, hnx⟩ : ∃ nx, nx = stepB n x := ⟨_, rfl⟩
        rw [← hnx] at hs
        have t1 : (31 * n + x).tmod 251 = nx := by rw [Int.tmod_eq_emod_of_nonneg (by omega), hnx]; rfl
        have t2 : (31 * n + x) % 251 = nx := by rw [hnx]; rfl
        have w1 : IntKind.i64.wrap (31 * n) = 31 * n := IntWalk.i64_in _ (by omega)
        have w2 : IntKind.i64.wrap (31 * n + x) = 31 * n + x := IntWalk.i64_in _ (by omega)
        have HX := hid hnx
        clear hnx
        go_wp2_with (go_at_call 69; refine (sIn _ _ _ _).mono ?_; rintro e1 w1' ⟨rfl, n1, rfl⟩; rw [hx]; have c2r := (Ext.drewN wr n1).cell HC.out)
        go_roundw
        case rel => exact ⟨k + 1, nx, by omega, by go_num, rfl, hid ⟨by rw [sumTo_succ e.out, ← H.out.1]; exact HX.out, by rw [byteTo_succ e.out, H.out.2, hx]; rfl⟩, by omega, by omega, hE.trans (Ext.drewN _ _)⟩
        case measure => simp [intOf]; omega
      · have hx : inB x 0 255 = false := by simpa using hx
        go_wp2_with (go_at_call 69; refine (sIn _ _ _ _).mono ?_; rintro e1 w1' ⟨rfl, n1, rfl⟩; rw [hx])
        go_ret
        exact ⟨ret_i (sumB_bad e.out hx).symm, hE.trans (Ext.drewN _ _)⟩
    · have hk' : k = xs.length := by omega
      by_cases hl : xs.length ≤ 200
      · have il : ¬ (200 : Int) < (xs.length : Int) := by omega
        go_wp2
        go_ret
        exact ⟨ret_i (by rw [sumB_all (by rw [← hk']; exact H.out.2) hl, ← hk']; exact H.out.1), hE⟩
      · have il : (200 : Int) < (xs.length : Int) := by omega
        go_wp2
        go_ret
        exact ⟨ret_i (sumB_long hl).symm, hE⟩
end

/-- a node as bytes -/
def unitB (u : UnitD) : List Int := [(if u.opened then 1 else 0 : Int), (u.tasks.length : Int)] ++ u.tasks.flatMap (fun t => t.id :: t.need)
def bodyB (C : ClusD) : List Int := C.room ++ C.units.flatMap unitB
def bytesC (C : ClusD) : List Int := bodyB C ++ [sumB (bodyB C)]
theorem flatMap_take_succ {α β : Type} {xs : List α} {k : Nat} {x : α} (f : α → List β) (h : xs[k]? = some x) : (xs.take (k + 1)).flatMap f = (xs.take k).flatMap f ++ f x := by
  rw [take_snoc h, List.flatMap_append]
  simp
theorem flatMap_len {α β : Type} (f : α → List β) (M : Nat) : ∀ (xs : List α), (∀ x ∈ xs, (f x).length ≤ M) → (xs.flatMap f).length ≤ xs.length * M
  | [], _ => by simp
  | x :: xs, h => by
    have ih := flatMap_len f M xs (fun y hy => h y (by simp [hy]))
    have h1 := h x (by simp)
    rw [List.flatMap_cons, List.length_append, List.length_cons, Nat.add_mul]
    omega
theorem unitB_len {u : UnitD} (h : ∀ t ∈ u.tasks, t.need.length = 3) : (unitB u).length = 2 + 4 * u.tasks.length := by
  unfold unitB
  have : ∀ (ts : List TaskD), (∀ t ∈ ts, t.need.length = 3) → (ts.flatMap (fun t => t.id :: t.need)).length = 4 * ts.length := by
    intro ts
    induction ts with
    | nil => simp
    | cons t ts ih =>
      intro hh
      rw [List.flatMap_cons, List.length_append, ih (fun y hy => hh y (by simp [hy])), List.length_cons, hh t (by simp), List.length_cons]
      omega
  rw [List.length_append, this _ h]
  rfl
theorem bytes_len {C : ClusD} (h : clusOk C = true) : (bodyB C).length = 3 + 2 * C.units.length + 4 * manyN C := by
  unfold bodyB
  rw [List.length_append, vecOk_len (roomOk_vec (clusOk_room h))]
  have hu : ∀ u ∈ C.units, ∀ t ∈ u.tasks, t.need.length = 3 := fun u hu t ht => ((clusOk_unit h hu).1.2 t ht).1
  have : ∀ (us : List UnitD), (∀ u ∈ us, ∀ t ∈ u.tasks, t.need.length = 3) → (us.flatMap unitB).length = 2 * us.length + 4 * (us.map (·.tasks)).flatten.length := by
    intro us
    induction us with
    | nil => simp
    | cons u us ih =>
      intro hh
      rw [List.flatMap_cons, List.length_append, ih (fun y hy => hh y (by simp [hy])), unitB_len (hh u (by simp)), List.map_cons, List.flatten_cons, List.length_append, List.length_cons]
      omega
  rw [this _ hu]
  unfold manyN
  omega

end Go.Proofs.Ytfgibhdglbjadaa

/- The reference's bytes of a cluster. -/
namespace Go.Proofs.Ytfgibhdglbjadaa
open Go.RowKit
set_option maxRecDepth 4000

set_option maxHeartbeats 2000000 in
theorem sUnit31 (op : Bool) (An : Option Addr) (cn : Nat) (ts : List TaskD) (w : World) (h : RT w (.slice An ts.length cn) ts) (hl : ts.length ≤ 900) (hn : ∀ t ∈ ts, t.need.length = 3) :
    Calls Try.prog 62 #[.agg #[.bool op, .slice An ts.length cn]] w fun e w' => ∃ v, e = .returned v ∧ OI w' w.heap.size v (unitB ⟨op, ts⟩) ∧ Ext w w' := by
  obtain ⟨A', c', hv, hc, hc', hg⟩ := RT.get h
  injection hv with e1 _ e3
  subst e1 e3
  clear h
  obtain ⟨i0_int, hi0_int, hz0_int, hz1_int, hz2_int⟩ := info_parts info_int
  cases op
  · obtain ⟨W, hW⟩ : ∃ W, W = w.alloc (.cells #[.bool false, .slice An ts.length cn] 56) := ⟨_, rfl⟩
    have hEW : Ext w W := by rw [hW]; exact Ext.alloc _ _
    have hx : W.heap[w.heap.size]? = some (.cells #[.bool false, .slice An ts.length cn] 56 (0, 0)) := by rw [hW]; exact heap_alloc_new _ _
    have u0 := obj_cell hx (i := 0) rfl
    have u1 := obj_cell hx (i := 1) rfl
    have KU : Hid (∀ w', Ext W w' → w'.cell? ⟨w.heap.size, 1, none⟩ = some (.slice An ts.length cn)) := hid fun w' hw => obj_cell (hw.obj hx) (i := 1) rfl
    have KU0 := hid (obj_cell ((Ext.alloc W (.cells #[.int .i64 0, .int .i64 (ts.length : Int)] 3)).obj hx) (i := 0) rfl)
    have ku0 := KU0.out
    have HEW := hid hEW
    clear hEW hx
    obtain ⟨pre, hpre⟩ : ∃ pre : List Int, pre = [0, (ts.length : Int)] := ⟨_, rfl⟩
    have hrow := OI.lit W [0, (ts.length : Int)] (by simp) W.heap.size (Nat.le_refl _)
    obtain ⟨P, hP⟩ : ∃ P, P = W.alloc (.cells #[.int .i64 0, .int .i64 (ts.length : Int)] 3) := ⟨_, rfl⟩
    have hz : W.heap.size = w.heap.size + 1 := by rw [hW]; simp
    have HP0 : Hid (OI P W.heap.size (.slice (some ⟨w.heap.size + 1, 0, none⟩) 2 2) pre) := hid ((congrArg (fun n => OI P W.heap.size (.slice (some ⟨n, 0, none⟩) 2 2) pre) hz).mp (by rw [hP, hpre]; exact hrow))
    clear hz
    have HP1 : Hid (Ext W P) := hid (by rw [hP]; exact Ext.alloc _ _)
    have hub := KU.out _ (Ext.alloc W (.cells #[.int .i64 0, .int .i64 (ts.length : Int)] 3))
    have hub2 := KU.out _ (Ext.refl W)
    clear hrow
    go_enter Try.func62, Try.ntmps62
    go_wp2
    rw [← hW, ← hP]
    clear hW hP u0 u1 ku0 hub hub2
    go_loopw [3, 4] (fun s i wr => ∃ (u : Value) (k : Nat) (ys : List Int), u = s ∧ k ≤ ts.length ∧ i = .int .i64 k ∧ Hid (ys = pre ++ (ts.take k).flatMap (fun t : TaskD => t.id :: t.need)) ∧ ys.length ≤ 2 + 4 * k ∧ Hid (OI wr W.heap.size u ys ∧ Ext W wr)) (fun _ i _ => ts.length - (intOf i).toNat)
    case atStart => exact ⟨_, 0, pre, rfl, Nat.zero_le _, rfl, hid (by simp), by rw [hpre]; simp, hid ⟨HP0.out, HP1.out⟩⟩
    case round =>
      obtain ⟨u, k, ys, hu, hk, rfl, hys, hyl, H⟩ := hrel
      subst hu
      have HE := hid H.out.2
      have hub := (KU.out _ HE.out)
      by_cases hlt : k < ts.length
      · obtain ⟨b, o, x, Ax, cx, rfl, e, c1, c2, hnx⟩ := hg k hlt
        have i1 : (k : Int) < (ts.length : Int) := by omega
        have i0 : (0 : Int) ≤ (k : Int) := by omega
        have C1 := hid (HEW.out.cell c1)
        have C2 := hid (HEW.out.cell c2)
        have c1r := HE.out.cell C1.out
        have c2r := HE.out.cell C2.out
        have HNX0 := hid (RI.ext hnx HEW.out)
        have HNX := hid (RI.ext HNX0.out HE.out)
        have hxl : x.need.length = 3 := hn x (List.mem_of_getElem? e.out)
        have HXL := hid hxl
        have HV := hid (H.out.1.ext EI.ok (Ext.alloc wr (.cells #[.int .i64 x.id] 3)))
        have hsz := HE.out.size
        clear c1 c2 hnx hxl H

        go_wp2_with (first
          | (at_builtin; refine wpList_append_sl _ (by rfl) _ _ 23 (by rfl) EI.ok EI.flat (W.heap.size) 3 EI.ne i0_int _ 1 8 Try.underlying23 hi0_int hz0_int hz1_int hz2_int rfl (by omega) _ (by rfl) _ (HV1.out) _ (by rfl) _ (HNX1.out) (by have := HXL.out; simp; omega) (by have := HXL.out; simp; omega) ?_ ?_; (focus (first | exact Nat.le_refl _ | (simp; done) | (simp; omega) | omega)); intro v2 w2 hO2 hg2 hat2 hs2; have HO2 := hid hO2; have HE2 := hid (Ext.grown HE1.out hg2 HV1.out.lt); clear hO2 hg2 hat2 hs2)
          | (at_builtin; refine wpList_append_sl _ (by rfl) _ _ 23 (by rfl) EI.ok EI.flat (W.heap.size) 3 EI.ne i0_int _ 1 8 Try.underlying23 hi0_int hz0_int hz1_int hz2_int rfl (by omega) _ (by rfl) _ (HV.out) _ (by rfl) _ (RI.lit wr [x.id] (by simp)) (by simp; omega) (by simp; omega) ?_ ?_; (focus (first | exact Nat.le_refl _ | (simp; done) | (simp; omega) | omega)); intro v1 w1 hO1 hg1 hat1 hs1; have hE1 : Ext W w1 := Ext.grown (HE.out.trans (Ext.alloc wr (.cells #[.int .i64 x.id] 3))) hg1 HV.out.lt; have HE1 := hid hE1; have HV1 := hid hO1; have HNX1 := hid (RI.ext HNX0.out hE1); have c1r := hE1.cell C1.out; have c2r := hE1.cell C2.out; have hub := (KU.out _ hE1); have hsz1 := hE1.size; clear hO1 hg1 hat1 hs1 hE1))
        go_roundw
        case rel => exact ⟨_, k + 1, ys ++ [x.id] ++ x.need, rfl, by omega, by go_num, hid (by rw [flatMap_take_succ _ e.out, ← List.append_assoc, ← hys.out]; simp), by have := HXL.out; simp; omega, hid ⟨HO2.out, HE2.out⟩⟩
        case measure => simp [intOf]; omega
      · have hk' : k = ts.length := by omega
        have hy : ys = pre ++ ts.flatMap (fun t : TaskD => t.id :: t.need) := by rw [hys.out, hk', List.take_length]
        go_wp2
        go_ret
        exact ⟨_, rfl, by show OI _ _ _ (unitB ⟨false, ts⟩); rw [show unitB ⟨false, ts⟩ = pre ++ ts.flatMap (fun t : TaskD => t.id :: t.need) by rw [hpre]; rfl]; rw [← hy]; exact Own.low H.out.1 HEW.out.size, HEW.out.trans HE.out⟩
  · obtain ⟨W, hW⟩ : ∃ W, W = w.alloc (.cells #[.bool true, .slice An ts.length cn] 56) := ⟨_, rfl⟩
    have hEW : Ext w W := by rw [hW]; exact Ext.alloc _ _
    have hx : W.heap[w.heap.size]? = some (.cells #[.bool true, .slice An ts.length cn] 56 (0, 0)) := by rw [hW]; exact heap_alloc_new _ _
    have u0 := obj_cell hx (i := 0) rfl
    have u1 := obj_cell hx (i := 1) rfl
    have KU : Hid (∀ w', Ext W w' → w'.cell? ⟨w.heap.size, 1, none⟩ = some (.slice An ts.length cn)) := hid fun w' hw => obj_cell (hw.obj hx) (i := 1) rfl
    have KU0 := hid (obj_cell ((Ext.alloc W (.cells #[.int .i64 0, .int .i64 (ts.length : Int)] 3)).obj hx) (i := 0) rfl)
    have ku0 := KU0.out
    have HEW := hid hEW
    clear hEW hx
    obtain ⟨pre, hpre⟩ : ∃ pre : List Int, pre = [1, (ts.length : Int)] := ⟨_, rfl⟩
    have hrow := OI.lit W [1, (ts.length : Int)] (by simp) W.heap.size (Nat.le_refl _)
    have hrow0 := OI.lit W [0, (ts.length : Int)] (by simp) W.heap.size (Nat.le_refl _)
    obtain ⟨q0, q0f, _⟩ := OI.at_ hrow0 (j := 0) rfl
    obtain ⟨P, hP⟩ : ∃ P, P = W.alloc (.cells #[.int .i64 1, .int .i64 (ts.length : Int)] 3) := ⟨_, rfl⟩
    have hz : W.heap.size = w.heap.size + 1 := by rw [hW]; simp
    have HP0 : Hid (OI P W.heap.size (.slice (some ⟨w.heap.size + 1, 0, none⟩) 2 2) pre) := hid ((congrArg (fun n => OI P W.heap.size (.slice (some ⟨n, 0, none⟩) 2 2) pre) hz).mp (by rw [hP, hpre]; exact hrow))
    have HP1 : Hid (Ext W P) := hid (by rw [hP]; exact Ext.alloc _ _)
    rw [hz] at q0 q0f
    clear hz hrow hrow0
    have hub := KU.out _ (Ext.alloc W (.cells #[.int .i64 0, .int .i64 (ts.length : Int)] 3))
    have hub2 := KU.out _ (Ext.refl W)
    go_enter Try.func62, Try.ntmps62
    go_wp2
    rw [← hW, ← hP]
    clear hW hP u0 u1 ku0 q0 q0f hub hub2
    go_loopw [3, 4] (fun s i wr => ∃ (u : Value) (k : Nat) (ys : List Int), u = s ∧ k ≤ ts.length ∧ i = .int .i64 k ∧ Hid (ys = pre ++ (ts.take k).flatMap (fun t : TaskD => t.id :: t.need)) ∧ ys.length ≤ 2 + 4 * k ∧ Hid (OI wr W.heap.size u ys ∧ Ext W wr)) (fun _ i _ => ts.length - (intOf i).toNat)
    case atStart => exact ⟨_, 0, pre, rfl, Nat.zero_le _, rfl, hid (by simp), by rw [hpre]; simp, hid ⟨HP0.out, HP1.out⟩⟩
    case round =>
      obtain ⟨u, k, ys, hu, hk, rfl, hys, hyl, H⟩ := hrel
      subst hu
      have HE := hid H.out.2
      have hub := (KU.out _ HE.out)
      by_cases hlt : k < ts.length
      · obtain ⟨b, o, x, Ax, cx, rfl, e, c1, c2, hnx⟩ := hg k hlt
        have i1 : (k : Int) < (ts.length : Int) := by omega
        have i0 : (0 : Int) ≤ (k : Int) := by omega
        have C1 := hid (HEW.out.cell c1)
        have C2 := hid (HEW.out.cell c2)
        have c1r := HE.out.cell C1.out
        have c2r := HE.out.cell C2.out
        have HNX0 := hid (RI.ext hnx HEW.out)
        have HNX := hid (RI.ext HNX0.out HE.out)
        have hxl : x.need.length = 3 := hn x (List.mem_of_getElem? e.out)
        have HXL := hid hxl
        have HV := hid (H.out.1.ext EI.ok (Ext.alloc wr (.cells #[.int .i64 x.id] 3)))
        have hsz := HE.out.size
        clear c1 c2 hnx hxl H

        go_wp2_with (first
          | (at_builtin; refine wpList_append_sl _ (by rfl) _ _ 23 (by rfl) EI.ok EI.flat (W.heap.size) 3 EI.ne i0_int _ 1 8 Try.underlying23 hi0_int hz0_int hz1_int hz2_int rfl (by omega) _ (by rfl) _ (HV1.out) _ (by rfl) _ (HNX1.out) (by have := HXL.out; simp; omega) (by have := HXL.out; simp; omega) ?_ ?_; (focus (first | exact Nat.le_refl _ | (simp; done) | (simp; omega) | omega)); intro v2 w2 hO2 hg2 hat2 hs2; have HO2 := hid hO2; have HE2 := hid (Ext.grown HE1.out hg2 HV1.out.lt); clear hO2 hg2 hat2 hs2)
          | (at_builtin; refine wpList_append_sl _ (by rfl) _ _ 23 (by rfl) EI.ok EI.flat (W.heap.size) 3 EI.ne i0_int _ 1 8 Try.underlying23 hi0_int hz0_int hz1_int hz2_int rfl (by omega) _ (by rfl) _ (HV.out) _ (by rfl) _ (RI.lit wr [x.id] (by simp)) (by simp; omega) (by simp; omega) ?_ ?_; (focus (first | exact Nat.le_refl _ | (simp; done) | (simp; omega) | omega)); intro v1 w1 hO1 hg1 hat1 hs1; have hE1 : Ext W w1 := Ext.grown (HE.out.trans (Ext.alloc wr (.cells #[.int .i64 x.id] 3))) hg1 HV.out.lt; have HE1 := hid hE1; have HV1 := hid hO1; have HNX1 := hid (RI.ext HNX0.out hE1); have c1r := hE1.cell C1.out; have c2r := hE1.cell C2.out; have hub := (KU.out _ hE1); have hsz1 := hE1.size; clear hO1 hg1 hat1 hs1 hE1))
        go_roundw
        case rel => exact ⟨_, k + 1, ys ++ [x.id] ++ x.need, rfl, by omega, by go_num, hid (by rw [flatMap_take_succ _ e.out, ← List.append_assoc, ← hys.out]; simp), by have := HXL.out; simp; omega, hid ⟨HO2.out, HE2.out⟩⟩
        case measure => simp [intOf]; omega
      · have hk' : k = ts.length := by omega
        have hy : ys = pre ++ ts.flatMap (fun t : TaskD => t.id :: t.need) := by rw [hys.out, hk', List.take_length]
        go_wp2
        go_ret
        exact ⟨_, rfl, by show OI _ _ _ (unitB ⟨true, ts⟩); rw [show unitB ⟨true, ts⟩ = pre ++ ts.flatMap (fun t : TaskD => t.id :: t.need) by rw [hpre]; rfl]; rw [← hy]; exact Own.low H.out.1 HEW.out.size, HEW.out.trans HE.out⟩

end Go.Proofs.Ytfgibhdglbjadaa

/- The reference's bytes of a cluster, whole. -/
namespace Go.Proofs.Ytfgibhdglbjadaa
open Go.RowKit
set_option maxRecDepth 4000

theorem unitB_60 {C : ClusD} (h : clusOk C = true) {u : UnitD} (hu : u ∈ C.units) : (unitB u).length ≤ 60 ∧ u.tasks.length ≤ 900 ∧ ∀ t ∈ u.tasks, t.need.length = 3 := by
  have h1 := (clusOk_unit h hu).1
  have h3 : ∀ t ∈ u.tasks, t.need.length = 3 := fun t ht => (h1.2 t ht).1
  have h2 : u.tasks.length ≤ 14 := by
    have := tasksOk_len (binsOk_tk (clusOk_bins h))
    exact Nat.le_trans (List.Sublist.length_le (List.sublist_flatten_of_mem (L := C.units.map (·.tasks)) (List.mem_map.2 ⟨u, hu, rfl⟩))) this
  refine ⟨?_, h1.1, h3⟩
  rw [unitB_len h3]
  omega
/-- bytes, and whether the cluster is valid -/
def RetBy (w : World) (C : ClusD) (e : Ending) (w' : World) : Prop := ∃ v, e = .returned (.tuple #[v, .bool (clusOk C)]) ∧ OI w' w.heap.size v (if clusOk C then bytesC C else []) ∧ Ext w w'

set_option maxHeartbeats 2000000 in
theorem sClusterBytes (cv : Value) (C : ClusD) (w : World) (h : ClusV w cv C) (hl : C.units.length ≤ 4000000) (hfl : (C.units.map (·.tasks)).flatten.length ≤ 4000000) :
    Calls Try.prog 22 #[cv] w (RetBy w C) := by
  have hC := h
  obtain ⟨rv, uv, rfl, hr, hu⟩ := h
  have hr0 := hr
  obtain ⟨Ar, cr, rfl, _⟩ := hr
  obtain ⟨Au, cu, rfl, hcu, hcu', hg⟩ := RU.get hu
  clear hu
  obtain ⟨W, hW⟩ : ∃ W, W = w.alloc (.cells #[.slice Ar C.room.length cr, .slice Au C.units.length cu] 26) := ⟨_, rfl⟩
  have hEW : Ext w W := by rw [hW]; exact Ext.alloc _ _
  have hx : W.heap[w.heap.size]? = some (.cells #[.slice Ar C.room.length cr, .slice Au C.units.length cu] 26 (0, 0)) := by rw [hW]; exact heap_alloc_new _ _
  have c0 := obj_cell hx (i := 0) rfl
  have c1 := obj_cell hx (i := 1) rfl
  have KB : Hid (∀ w', Ext W w' → w'.cell? ⟨w.heap.size, 0, none⟩ = some (.slice Ar C.room.length cr) ∧ w'.cell? ⟨w.heap.size, 1, none⟩ = some (.slice Au C.units.length cu)) := hid fun w' hw => ⟨obj_cell (hw.obj hx) (i := 0) rfl, obj_cell (hw.obj hx) (i := 1) rfl⟩
  have HC := hid (hC.ext hEW)
  have HR := hid (RI.ext hr0 hEW)
  have HEW := hid hEW
  clear hC hEW hx hr0
  obtain ⟨i0_int, hi0_int, hz0_int, hz1_int, hz2_int⟩ := info_parts info_int
  by_cases hv : clusOk C = true
  · have hlen := (clusOk_len hv).2
    have HOK := hid hv
    have HRL := hid (vecOk_len (roomOk_vec (clusOk_room hv)))
    go_enter Try.func22, Try.ntmps22
    go_wp2_with (first
      | (go_at_call 42; rw [← hW]; refine (sClusterValid _ C _ HC.out hl hfl).mono ?_; rintro e w1 ⟨rfl, hE1⟩; rw [hv]; have hEa := hE1.trans (Ext.alloc w1 (.cells #[] 3)); obtain ⟨c0, c1⟩ := KB.out _ hEa; obtain ⟨c2, c3⟩ := KB.out _ hE1; have HEa := hid hEa; have HRa := hid (RI.ext HR.out hEa); have hsz1 := hE1.size; have HO1 := hid (show OI (w1.alloc (.cells #[] 3)) W.heap.size (.slice (some ⟨w1.heap.size, 0, none⟩) 0 0) [] from Own.made #[] 0 hE1.size (by omega) rfl); clear hE1 hEa hW)
      | (at_builtin; refine wpList_append_sl _ (by rfl) _ _ 23 (by rfl) EI.ok EI.flat (W.heap.size) 3 EI.ne i0_int _ 1 8 Try.underlying23 hi0_int hz0_int hz1_int hz2_int rfl (by omega) _ (by rfl) _ (HO1.out) _ (by rfl) _ (HRa.out) (by have := HRL.out; simp; omega) (by have := HRL.out; simp; omega) ?_ ?_; (focus (first | exact Nat.le_refl _ | (simp; done) | (simp; omega) | omega)); intro v2 w2 hO2 hg2 hat2 hs2; rw [List.nil_append] at hO2; have hE2 : Ext W w2 := Ext.grown HEa.out hg2 HO1.out.lt; obtain ⟨c0, c1⟩ := KB.out _ hE2; have HO2 := hid hO2; have HE2 := hid hE2; clear hO2 hg2 hat2 hs2 hE2))
    go_loopw [4, 5] (fun s i wr => ∃ (u : Value) (k : Nat) (ys : List Int), u = s ∧ k ≤ C.units.length ∧ i = .int .i64 k ∧ Hid (ys = C.room ++ (C.units.take k).flatMap unitB) ∧ ys.length ≤ 3 + 60 * k ∧ Hid (OI wr W.heap.size u ys ∧ Ext W wr)) (fun _ i _ => C.units.length - (intOf i).toNat)
    case atStart => exact ⟨_, 0, C.room, rfl, Nat.zero_le _, rfl, hid (by simp), by rw [HRL.out]; omega, hid ⟨HO2.out, HE2.out⟩⟩
    case round =>
      obtain ⟨u, k, ys, hu, hk, rfl, hys, hyl, H⟩ := hrel
      subst hu
      have HE := hid H.out.2
      have HU := hid H.out.1
      obtain ⟨c0, c1⟩ := KB.out _ HE.out
      have hsz := HE.out.size
      clear H
      by_cases hlt : k < C.units.length
      · obtain ⟨b1, o, x, An, cn, rfl, e, x1, x2, hnx⟩ := hg k hlt
        have i1 : (k : Int) < (C.units.length : Int) := by omega
        have i0 : (0 : Int) ≤ (k : Int) := by omega
        have x1r := (HEW.out.trans HE.out).cell x1
        have x2r := (HEW.out.trans HE.out).cell x2
        have HT := hid (RT.ext hnx (HEW.out.trans HE.out))
        have HUN := hid (unitB_60 HOK.out (List.mem_of_getElem? e.out))
        obtain ⟨op, ts⟩ := x
        clear hnx x1 x2
        go_wp2_with (first
          | (go_at_call 62; refine (sUnit31 op An cn ts _ HT.out HUN.out.2.1 HUN.out.2.2).mono ?_; rintro e3 w3 ⟨v3, rfl, hO3, hE3⟩; have HR3 := hid hO3.read; have HV3 := hid (HU.out.ext EI.ok hE3); have HE3 := hid (HE.out.trans hE3); have hsz3 := HE3.out.size; clear hO3 hE3)
          | (at_builtin; refine wpList_append_sl _ (by rfl) _ _ 23 (by rfl) EI.ok EI.flat (W.heap.size) 3 EI.ne i0_int _ 1 8 Try.underlying23 hi0_int hz0_int hz1_int hz2_int rfl (by omega) _ (by rfl) _ (HV3.out) _ (by rfl) _ (HR3.out) (by have := HUN.out.1; omega) (by have := HUN.out.1; omega) ?_ ?_; (focus (first | exact Nat.le_refl _ | (simp; done) | (simp; omega) | omega)); intro v4 w4 hO4 hg4 hat4 hs4; have HO4 := hid hO4; have HE4 := hid (Ext.grown HE3.out hg4 HV3.out.lt); clear hO4 hg4 hat4 hs4))
        go_roundw
        case rel => exact ⟨_, k + 1, ys ++ unitB ⟨op, ts⟩, rfl, by omega, by go_num, hid (by rw [flatMap_take_succ _ e.out, ← List.append_assoc, ← hys.out]), by have := HUN.out.1; rw [List.length_append]; omega, hid ⟨HO4.out, HE4.out⟩⟩
        case measure => simp [intOf]; omega
      · have hk' : k = C.units.length := by omega
        have hy : bodyB C = ys := by unfold bodyB; rw [hys.out, hk', List.take_length]
        have HY := hid hy
        have HRY := hid HU.out.read
        obtain ⟨sm, hsm⟩ : ∃ sm, sm = sumB ys := ⟨_, rfl⟩
        have HSM := hid hsm
        clear hy hsm
        go_wp2_with (first
          | (go_at_call 63; refine (sClusterSum _ ys _ HRY.out).mono ?_; rintro e3 w3 ⟨rfl, hE3⟩; rw [← HSM.out]; have HV3 := hid ((HU.out.ext EI.ok hE3).ext EI.ok (Ext.alloc w3 (.cells #[.int .i64 sm] 3))); have HE3 := hid ((HE.out.trans hE3).trans (Ext.alloc w3 (.cells #[.int .i64 sm] 3))); have hsz3 := (HE.out.trans hE3).size; clear hE3)
          | (at_builtin; refine wpList_append_sl _ (by rfl) _ _ 23 (by rfl) EI.ok EI.flat (W.heap.size) 3 EI.ne i0_int _ 1 8 Try.underlying23 hi0_int hz0_int hz1_int hz2_int rfl (by omega) _ (by rfl) _ (HV3.out) _ (by rfl) _ (RI.lit w3 [sm] (by simp)) (by simp; omega) (by simp; omega) ?_ ?_; (focus (first | exact Nat.le_refl _ | (simp; done) | (simp; omega) | omega)); intro v4 w4 hO4 hg4 hat4 hs4; have HO4 := hid hO4; have HE4 := hid (Ext.grown HE3.out hg4 HV3.out.lt); clear hO4 hg4 hat4 hs4))
        refine bodyPost_ret (v := .tuple #[v4, .bool true]) (by simp [results, Try.results22, go_sem]) rfl ?_
        refine ⟨v4, by rw [HOK.out], ?_, HEW.out.trans HE4.out⟩
        rw [if_pos HOK.out]
        unfold bytesC
        rw [HY.out, ← HSM.out]
        exact Own.low HO4.out HEW.out.size
  · have hv : clusOk C = false := by simpa using hv
    go_enter Try.func22, Try.ntmps22
    go_wp2_with (go_at_call 42; rw [← hW]; refine (sClusterValid _ C _ HC.out hl hfl).mono ?_; rintro e w1 ⟨rfl, hE1⟩; rw [hv]; have HE1 := hid hE1; clear hE1 hW)
    refine bodyPost_ret (v := .tuple #[.slice (some ⟨w1.heap.size, 0, none⟩) 0 0, .bool false]) (by simp [results, Try.results22, go_sem]) rfl ?_
    refine ⟨_, by rw [hv], ?_, (HEW.out.trans HE1.out).trans (Ext.alloc _ _)⟩
    rw [hv]
    exact Own.made #[] 0 (HEW.out.trans HE1.out).size (by omega) rfl

end Go.Proofs.Ytfgibhdglbjadaa

/- The program's bytes of a cluster. -/
namespace Go.Proofs.Ytfgibhdglbjadaa
open Go.RowKit
set_option maxRecDepth 4000

theorem RI.litAt (w : World) (xs : List Int) (hl : xs.length ≤ 1000) {H : Nat} (hH : w.heap.size = H) : RI (w.alloc (.cells (xs.map (Value.int .i64)).toArray 3)) (.slice (some ⟨H, 0, none⟩) xs.length xs.length) xs := by
  subst hH
  exact RI.lit w xs hl

set_option maxHeartbeats 4000000 in
theorem iBytesOf (cv : Value) (C : ClusD) (w : World) (h : ClusV w cv C) (hv : clusOk C = true) :
    Calls Try.prog 66 #[cv] w fun e w' => ∃ v, e = .returned v ∧ OI w' w.heap.size v (bytesC C) ∧ Ext w w' := by
  obtain ⟨rv, uv, rfl, hr, hu⟩ := h
  have hr0 := hr
  obtain ⟨Ar, cr, rfl, _⟩ := hr
  obtain ⟨Au, cu, rfl, hcu, hcu', hg⟩ := RU.get hu
  clear hu
  obtain ⟨W, hW⟩ : ∃ W, W = w.alloc (.cells #[.slice Ar C.room.length cr, .slice Au C.units.length cu] 26) := ⟨_, rfl⟩
  have hEW : Ext w W := by rw [hW]; exact Ext.alloc _ _
  have hx : W.heap[w.heap.size]? = some (.cells #[.slice Ar C.room.length cr, .slice Au C.units.length cu] 26 (0, 0)) := by rw [hW]; exact heap_alloc_new _ _
  have c0 := obj_cell hx (i := 0) rfl
  have c1 := obj_cell hx (i := 1) rfl
  have KB : Hid (∀ w', Ext W w' → w'.cell? ⟨w.heap.size, 0, none⟩ = some (.slice Ar C.room.length cr) ∧ w'.cell? ⟨w.heap.size, 1, none⟩ = some (.slice Au C.units.length cu)) := hid fun w' hw => ⟨obj_cell (hw.obj hx) (i := 0) rfl, obj_cell (hw.obj hx) (i := 1) rfl⟩
  have HR := hid (RI.ext hr0 hEW)
  have HEW := hid hEW
  have HOK := hid hv
  have hlen := (clusOk_len hv).2
  have HRL := hid (vecOk_len (roomOk_vec (clusOk_room hv)))
  clear hEW hx hr0 hv
  obtain ⟨i0_int, hi0_int, hz0_int, hz1_int, hz2_int⟩ := info_parts info_int
  go_enter Try.func66, Try.ntmps66
  go_wp2_with (go_at_call 110; rw [← hW]; refine (iClone _ C.room _ HR.out (by have := HRL.out; omega)).mono ?_; rintro e w1 ⟨v1, rfl, hO1, hE1⟩; obtain ⟨c0, c1⟩ := KB.out _ hE1; have HO1 := hid hO1; have HE1 := hid hE1; clear hO1 hE1 hW)
  go_loopw [3, 15] (fun s i wr => ∃ (u : Value) (k : Nat) (ys : List Int), u = s ∧ k ≤ C.units.length ∧ i = .int .i64 k ∧ Hid (ys = C.room ++ (C.units.take k).flatMap unitB) ∧ ys.length ≤ 3 + 60 * k ∧ Hid (OI wr W.heap.size u ys ∧ Ext W wr)) (fun _ i _ => C.units.length - (intOf i).toNat)
  case atStart => exact ⟨_, 0, C.room, rfl, Nat.zero_le _, rfl, hid (by simp), by rw [HRL.out]; omega, hid ⟨HO1.out, HE1.out⟩⟩
  case round =>
    obtain ⟨u, k, ys, hu, hk, rfl, hys, hyl, H⟩ := hrel
    subst hu
    have HE := hid H.out.2
    have HU := hid H.out.1
    have hsz := HE.out.size
    clear H
    by_cases hlt : k < C.units.length
    · obtain ⟨b1, o, x0, An, cn, rfl, e, x1, x2, hnx⟩ := hg k hlt
      have i1 : (k : Int) < (C.units.length : Int) := by omega
      have i0 : (0 : Int) ≤ (k : Int) := by omega
      have x1r := (HEW.out.trans HE.out).cell x1
      have x2r := (HEW.out.trans HE.out).cell x2
      have HUN := hid (unitB_60 HOK.out (List.mem_of_getElem? e.out))
      obtain ⟨op, ts⟩ := x0
      obtain ⟨A', c', hvt, _, _, hgt⟩ := RT.get hnx
      injection hvt with e1 _ e3
      subst e1 e3
      have htl : ts.length ≤ 14 := by
        have h1 := unitB_len HUN.out.2.2
        have h2 := HUN.out.1
        rw [h1] at h2
        have h2 : 2 + 4 * ts.length ≤ 60 := h2
        omega
      clear hnx x1 x2
      cases op
      · obtain ⟨ov, hov⟩ : ∃ ov : Int, ov = 0 := ⟨_, rfl⟩
        have hbu := heap_alloc_new wr (.cells #[.bool false, .slice An ts.length cn] 56)
        have ub0 := obj_cell hbu (i := 0) rfl
        have ub1 := obj_cell hbu (i := 1) rfl
        have HBU := hid hbu
        have hEU : Ext W ((wr.alloc (.cells #[.bool false, .slice An ts.length cn] 56)).alloc (.cells #[.int .i64 0, .int .i64 (ts.length : Int)] 3)) := (HE.out.trans (Ext.alloc _ _)).trans (Ext.alloc _ _)
        have HEU := hid hEU
        have HVU := hid ((HU.out.ext EI.ok (Ext.alloc wr (.cells #[.bool false, .slice An ts.length cn] 56))).ext EI.ok (Ext.alloc _ (.cells #[.int .i64 0, .int .i64 (ts.length : Int)] 3)))
        have ub1' := obj_cell ((Ext.alloc _ (.cells #[.int .i64 0, .int .i64 (ts.length : Int)] 3)).obj hbu) (i := 1) rfl
        clear hbu hEU
        go_wp2_with (at_builtin; refine wpList_append_sl _ (by rfl) _ _ 23 (by rfl) EI.ok EI.flat (W.heap.size) 3 EI.ne i0_int _ 1 8 Try.underlying23 hi0_int hz0_int hz1_int hz2_int rfl (by omega) _ (by rfl) _ (HVU.out) _ (by rfl) _ (RI.litAt (wr.alloc (.cells #[.bool false, .slice An ts.length cn] 56)) [0, (ts.length : Int)] (by simp) (H := wr.heap.size + 1) (by simp)) (by simp; omega) (by simp; omega) ?_ ?_; (focus (first | exact Nat.le_refl _ | (simp; done) | (simp; omega) | omega)); intro v2 w2 hO2 hg2 hat2 hs2; have hE2 : Ext W w2 := Ext.grown HEU.out hg2 HVU.out.lt; have hb2 := hs2 _ _ _ _ (by decide) ((Ext.alloc _ (.cells #[.int .i64 0, .int .i64 (ts.length : Int)] 3)).obj HBU.out); have ub2 := obj_cell hb2 (i := 1) rfl; have HO2 : Hid (OI w2 W.heap.size v2 (ys ++ [ov, (ts.length : Int)])) := hid (by rw [hov]; exact hO2); have HE2 := hid hE2; clear hO2 hg2 hat2 hs2 hE2 hb2)
        go_loopw [3, 31] (fun s i wr => ∃ (u2 : Value) (m : Nat) (zs : List Int), u2 = s ∧ m ≤ ts.length ∧ i = .int .i64 m ∧ Hid (zs = ys ++ [ov, (ts.length : Int)] ++ (ts.take m).flatMap (fun t : TaskD => t.id :: t.need)) ∧ zs.length ≤ ys.length + 2 + 4 * m ∧ Hid (OI wr W.heap.size u2 zs ∧ Ext W wr)) (fun _ i _ => ts.length - (intOf i).toNat)
        case atStart => exact ⟨_, 0, _, rfl, Nat.zero_le _, rfl, hid (by simp), by simp, hid ⟨HO2.out, HE2.out⟩⟩
        case round =>
          obtain ⟨u2, m, zs, hu2, hm, rfl, hzs, hzl, H2⟩ := hrel
          subst hu2
          have HEm := hid H2.out.2
          have HUm := hid H2.out.1
          clear H2
          by_cases hlm : m < ts.length
          · obtain ⟨bt, ot, x, Ax, cx, rfl, et, t1, t2, htx⟩ := hgt m hlm
            have i3 : (m : Int) < (ts.length : Int) := by omega
            have t1r := (HEW.out.trans HEm.out).cell t1
            have t2r := (HEW.out.trans HEm.out).cell t2
            have HTX := hid (RI.ext htx HEW.out)
            have HXL := hid (HUN.out.2.2 x (List.mem_of_getElem? et.out))
            obtain ⟨V, hV⟩ : ∃ V, V = wr.alloc (.cells #[.int .i64 x.id, .slice Ax x.need.length cx] 64) := ⟨_, rfl⟩
            have hEV : Ext wr V := by rw [hV]; exact Ext.alloc _ _
            have hVB : V.heap[wr.heap.size]? = some (.cells #[.int .i64 x.id, .slice Ax x.need.length cx] 64 (0, 0)) := by rw [hV]; exact heap_alloc_new _ _
            have HVB := hid hVB
            have HEV := hid (HEm.out.trans hEV)
            have HVO := hid ((HUm.out.ext EI.ok hEV).ext EI.ok (show Ext V V.drew from Below.drew (Below.refl _ _)))
            have hzV := HEV.out.size
            clear t1 t2 htx hEV hVB
            go_wp2
            rw [← hV]
            clear hV t1r t2r
            have KS := hid (And.intro (obj_cell HVB.out (i := 0) rfl) (obj_cell HVB.out (i := 1) rfl))
            refine WG.start (fun w' => w'.cell? ⟨wr.heap.size, 0, none⟩ = some (.int .i64 x.id) ∧ w'.cell? ⟨wr.heap.size, 1, none⟩ = some (.slice Ax x.need.length cx)) [7,8] (by kernel_rfl) (by exact KS.out) (fun hHeld => ?_)
            (refine WG.take (i := 0) (v := ?_) rfl (by kernel_rfl) (by kernel_rfl) (by kernel_rfl) (by kernel_rfl) (fun _ _ _ h => h) (Or.inl ⟨by rfl, ?_⟩) (by assumption) ?_; rotate_left; (intro w hSw; (try dsimp only at hSw); go_split_ands; go_simp; (try with_reducible rfl)); (try simp only [Act.put, List.setIfInBounds_toArray, List.set_cons_zero, List.set_cons_succ]))
            (refine WG.take (i := 1) (v := ?_) rfl (by kernel_rfl) (by kernel_rfl) (by kernel_rfl) (by kernel_rfl) (fun _ _ _ h => h) (Or.inl ⟨by rfl, ?_⟩) (by assumption) ?_; rotate_left; (intro w hSw; (try dsimp only at hSw); go_split_ands; go_simp; (try with_reducible rfl)); (try simp only [Act.put, List.setIfInBounds_toArray, List.set_cons_zero, List.set_cons_succ]))
            (refine WG.take (i := 2) (v := ?_) rfl (by kernel_rfl) (by kernel_rfl) (by kernel_rfl) (by kernel_rfl) (fun _ _ _ h => h) (Or.inl ⟨by rfl, ?_⟩) (by assumption) ?_; rotate_left; (intro w hSw; (try dsimp only at hSw); go_split_ands; go_simp; (try with_reducible rfl)); (try simp only [Act.put, List.setIfInBounds_toArray, List.set_cons_zero, List.set_cons_succ]))
            (refine WG.take (i := 5) (v := ?_) rfl (by kernel_rfl) (by kernel_rfl) (by kernel_rfl) (by kernel_rfl) (fun _ _ _ h => h) (Or.inl ⟨by rfl, ?_⟩) (by assumption) ?_; rotate_left; (intro w hSw; (try dsimp only at hSw); go_split_ands; go_simp; (try with_reducible rfl)); (try simp only [Act.put, List.setIfInBounds_toArray, List.set_cons_zero, List.set_cons_succ]))
            (refine WG.take (i := 6) (v := ?_) rfl (by kernel_rfl) (by kernel_rfl) (by kernel_rfl) (by kernel_rfl) (fun _ _ _ h => h) (Or.inl ⟨by rfl, ?_⟩) (by assumption) ?_; rotate_left; (intro w hSw; (try dsimp only at hSw); go_split_ands; go_simp; (try with_reducible rfl)); (try simp only [Act.put, List.setIfInBounds_toArray, List.set_cons_zero, List.set_cons_succ]))
            refine WG.one (i := 3) rfl (by kernel_rfl) (fun K hK => ?_)
            go_simp
            refine hK.out _ _ (by exact (And.intro (obj_cell ((Ext.alloc V.drew (.cells #[.int .i64 x.id] 3)).obj HVB.out) (i := 0) rfl) (obj_cell ((Ext.alloc V.drew (.cells #[.int .i64 x.id] 3)).obj HVB.out) (i := 1) rfl))) (fun hHeld => ?_)
            clear hK K
            (try simp only [Act.put, List.setIfInBounds_toArray, List.set_cons_zero, List.set_cons_succ])
            have HVa := hid (HVO.out.ext EI.ok (Ext.alloc V.drew (.cells #[.int .i64 x.id] 3)))
            have HEa : Hid (Ext W (V.drew.alloc (.cells #[.int .i64 x.id] 3))) := hid ((HEV.out.trans (show Ext V V.drew from Below.drew (Below.refl _ _))).trans (Ext.alloc _ _))
            refine WG.one (i := 4) rfl (by kernel_rfl) (fun K hK => ?_)
            refine step_append_sl _ (by rfl) _ _ 23 (by rfl) EI.ok EI.flat (W.heap.size) 3 EI.ne i0_int _ 1 8 Try.underlying23 hi0_int hz0_int hz1_int hz2_int rfl (by omega) _ (by rfl) _ (HVa.out) _ (by rfl) _ (RI.lit V.drew [x.id] (by simp)) (by simp; omega) (by simp; omega) ?_ ?_; (focus (first | exact Nat.le_refl _ | (simp; done) | (simp; omega) | omega)); intro v4 w4 hO4 hg4 hat4 hs4
            have hE4 : Ext W w4 := Ext.grown HEa.out hg4 HVa.out.lt
            have hb4 := hs4 _ _ _ _ (by decide) ((Ext.alloc V.drew (.cells #[.int .i64 x.id] 3)).obj HVB.out)
            have HB4 := hid hb4
            have HO4 := hid hO4
            have HE4 := hid hE4
            have hz4 := hE4.size
            have HX4 := hid (RI.ext HTX.out hE4)
            clear hO4 hg4 hat4 hs4 hE4 hb4
            refine hK.out _ _ (by exact (And.intro (obj_cell HB4.out (i := 0) rfl) (obj_cell HB4.out (i := 1) rfl))) (fun hHeld => ?_)
            clear hK K
            (try simp only [Act.put, List.setIfInBounds_toArray, List.set_cons_zero, List.set_cons_succ])
            refine WG.last (i := 7) rfl (by kernel_rfl) (by kernel_rfl) (fun K hK => ?_)
            refine step_append_sl _ (by rfl) _ _ 23 (by rfl) EI.ok EI.flat (W.heap.size) 3 EI.ne i0_int _ 1 8 Try.underlying23 hi0_int hz0_int hz1_int hz2_int rfl (by omega) _ (by rfl) _ (HO4.out) _ (by rfl) _ (HX4.out) (by have := HXL.out; simp; omega) (by have := HXL.out; simp; omega) ?_ ?_; (focus (first | exact Nat.le_refl _ | (simp; done) | (simp; omega) | omega)); intro v7 w7 hO7 hg7 hat7 hs7
            have HO7 := hid hO7
            have HE7 := hid (Ext.grown HE4.out hg7 HO4.out.lt)
            clear hO7 hg7 hat7 hs7
            refine hK.out _ _ ?_
            clear hK K
            (try simp only [Act.put, List.setIfInBounds_toArray, List.set_cons_zero, List.set_cons_succ])
            refine WG.last (i := 8) rfl (by kernel_rfl) (by kernel_rfl) (fun K hK => ?_)
            go_simp
            refine hK.out _ _ ?_
            clear hK K
            (try simp only [Act.put, List.setIfInBounds_toArray, List.set_cons_zero, List.set_cons_succ])
            refine WG.done (by kernel_rfl) ?_
            go_wp2
            go_roundw
            case rel => exact ⟨_, m + 1, zs ++ [x.id] ++ x.need, rfl, by omega, by go_num, hid (by rw [flatMap_take_succ _ et.out, ← List.append_assoc, ← hzs.out]; simp), by have := HXL.out; simp; omega, hid ⟨HO7.out, HE7.out⟩⟩
            case measure => simp [intOf]; omega
          · have hm' : m = ts.length := by omega
            have hzz : ys ++ unitB ⟨false, ts⟩ = zs := by rw [hzs.out, hm', List.take_length, List.append_assoc, hov]; rfl
            have HZZ := hid hzz
            clear hzz
            go_wp2
            go_roundw
            case rel => exact ⟨_, k + 1, ys ++ unitB ⟨false, ts⟩, rfl, by omega, by go_num, hid (by rw [flatMap_take_succ _ e.out, ← List.append_assoc, ← hys.out]), by have := HUN.out.1; rw [List.length_append]; omega, hid ⟨by rw [HZZ.out]; exact HUm.out, HEm.out⟩⟩
            case measure => simp [intOf]; omega
      · obtain ⟨ov, hov⟩ : ∃ ov : Int, ov = 1 := ⟨_, rfl⟩
        have hbu := heap_alloc_new wr (.cells #[.bool true, .slice An ts.length cn] 56)
        have ub0 := obj_cell hbu (i := 0) rfl
        have ub1 := obj_cell hbu (i := 1) rfl
        have HBU := hid hbu
        have hEU : Ext W ((wr.alloc (.cells #[.bool true, .slice An ts.length cn] 56)).alloc (.cells #[.int .i64 1, .int .i64 (ts.length : Int)] 3)) := (HE.out.trans (Ext.alloc _ _)).trans (Ext.alloc _ _)
        have HEU := hid hEU
        have HVU := hid ((HU.out.ext EI.ok (Ext.alloc wr (.cells #[.bool true, .slice An ts.length cn] 56))).ext EI.ok (Ext.alloc _ (.cells #[.int .i64 1, .int .i64 (ts.length : Int)] 3)))
        have ub1' := obj_cell ((Ext.alloc _ (.cells #[.int .i64 1, .int .i64 (ts.length : Int)] 3)).obj hbu) (i := 1) rfl
        clear hbu hEU
        go_wp2_with (at_builtin; refine wpList_append_sl _ (by rfl) _ _ 23 (by rfl) EI.ok EI.flat (W.heap.size) 3 EI.ne i0_int _ 1 8 Try.underlying23 hi0_int hz0_int hz1_int hz2_int rfl (by omega) _ (by rfl) _ (HVU.out) _ (by rfl) _ (RI.litAt (wr.alloc (.cells #[.bool true, .slice An ts.length cn] 56)) [1, (ts.length : Int)] (by simp) (H := wr.heap.size + 1) (by simp)) (by simp; omega) (by simp; omega) ?_ ?_; (focus (first | exact Nat.le_refl _ | (simp; done) | (simp; omega) | omega)); intro v2 w2 hO2 hg2 hat2 hs2; have hE2 : Ext W w2 := Ext.grown HEU.out hg2 HVU.out.lt; have hb2 := hs2 _ _ _ _ (by decide) ((Ext.alloc _ (.cells #[.int .i64 1, .int .i64 (ts.length : Int)] 3)).obj HBU.out); have ub2 := obj_cell hb2 (i := 1) rfl; have HO2 : Hid (OI w2 W.heap.size v2 (ys ++ [ov, (ts.length : Int)])) := hid (by rw [hov]; exact hO2); have HE2 := hid hE2; clear hO2 hg2 hat2 hs2 hE2 hb2)
        go_loopw [3, 31] (fun s i wr => ∃ (u2 : Value) (m : Nat) (zs : List Int), u2 = s ∧ m ≤ ts.length ∧ i = .int .i64 m ∧ Hid (zs = ys ++ [ov, (ts.length : Int)] ++ (ts.take m).flatMap (fun t : TaskD => t.id :: t.need)) ∧ zs.length ≤ ys.length + 2 + 4 * m ∧ Hid (OI wr W.heap.size u2 zs ∧ Ext W wr)) (fun _ i _ => ts.length - (intOf i).toNat)
        case atStart => exact ⟨_, 0, _, rfl, Nat.zero_le _, rfl, hid (by simp), by simp, hid ⟨HO2.out, HE2.out⟩⟩
        case round =>
          obtain ⟨u2, m, zs, hu2, hm, rfl, hzs, hzl, H2⟩ := hrel
          subst hu2
          have HEm := hid H2.out.2
          have HUm := hid H2.out.1
          clear H2
          by_cases hlm : m < ts.length
          · obtain ⟨bt, ot, x, Ax, cx, rfl, et, t1, t2, htx⟩ := hgt m hlm
            have i3 : (m : Int) < (ts.length : Int) := by omega
            have t1r := (HEW.out.trans HEm.out).cell t1
            have t2r := (HEW.out.trans HEm.out).cell t2
            have HTX := hid (RI.ext htx HEW.out)
            have HXL := hid (HUN.out.2.2 x (List.mem_of_getElem? et.out))
            obtain ⟨V, hV⟩ : ∃ V, V = wr.alloc (.cells #[.int .i64 x.id, .slice Ax x.need.length cx] 64) := ⟨_, rfl⟩
            have hEV : Ext wr V := by rw [hV]; exact Ext.alloc _ _
            have hVB : V.heap[wr.heap.size]? = some (.cells #[.int .i64 x.id, .slice Ax x.need.length cx] 64 (0, 0)) := by rw [hV]; exact heap_alloc_new _ _
            have HVB := hid hVB
            have HEV := hid (HEm.out.trans hEV)
            have HVO := hid ((HUm.out.ext EI.ok hEV).ext EI.ok (show Ext V V.drew from Below.drew (Below.refl _ _)))
            have hzV := HEV.out.size
            clear t1 t2 htx hEV hVB
            go_wp2
            rw [← hV]
            clear hV t1r t2r
            have KS := hid (And.intro (obj_cell HVB.out (i := 0) rfl) (obj_cell HVB.out (i := 1) rfl))
            refine WG.start (fun w' => w'.cell? ⟨wr.heap.size, 0, none⟩ = some (.int .i64 x.id) ∧ w'.cell? ⟨wr.heap.size, 1, none⟩ = some (.slice Ax x.need.length cx)) [7,8] (by kernel_rfl) (by exact KS.out) (fun hHeld => ?_)
            (refine WG.take (i := 0) (v := ?_) rfl (by kernel_rfl) (by kernel_rfl) (by kernel_rfl) (by kernel_rfl) (fun _ _ _ h => h) (Or.inl ⟨by rfl, ?_⟩) (by assumption) ?_; rotate_left; (intro w hSw; (try dsimp only at hSw); go_split_ands; go_simp; (try with_reducible rfl)); (try simp only [Act.put, List.setIfInBounds_toArray, List.set_cons_zero, List.set_cons_succ]))
            (refine WG.take (i := 1) (v := ?_) rfl (by kernel_rfl) (by kernel_rfl) (by kernel_rfl) (by kernel_rfl) (fun _ _ _ h => h) (Or.inl ⟨by rfl, ?_⟩) (by assumption) ?_; rotate_left; (intro w hSw; (try dsimp only at hSw); go_split_ands; go_simp; (try with_reducible rfl)); (try simp only [Act.put, List.setIfInBounds_toArray, List.set_cons_zero, List.set_cons_succ]))
            (refine WG.take (i := 2) (v := ?_) rfl (by kernel_rfl) (by kernel_rfl) (by kernel_rfl) (by kernel_rfl) (fun _ _ _ h => h) (Or.inl ⟨by rfl, ?_⟩) (by assumption) ?_; rotate_left; (intro w hSw; (try dsimp only at hSw); go_split_ands; go_simp; (try with_reducible rfl)); (try simp only [Act.put, List.setIfInBounds_toArray, List.set_cons_zero, List.set_cons_succ]))
            (refine WG.take (i := 5) (v := ?_) rfl (by kernel_rfl) (by kernel_rfl) (by kernel_rfl) (by kernel_rfl) (fun _ _ _ h => h) (Or.inl ⟨by rfl, ?_⟩) (by assumption) ?_; rotate_left; (intro w hSw; (try dsimp only at hSw); go_split_ands; go_simp; (try with_reducible rfl)); (try simp only [Act.put, List.setIfInBounds_toArray, List.set_cons_zero, List.set_cons_succ]))
            (refine WG.take (i := 6) (v := ?_) rfl (by kernel_rfl) (by kernel_rfl) (by kernel_rfl) (by kernel_rfl) (fun _ _ _ h => h) (Or.inl ⟨by rfl, ?_⟩) (by assumption) ?_; rotate_left; (intro w hSw; (try dsimp only at hSw); go_split_ands; go_simp; (try with_reducible rfl)); (try simp only [Act.put, List.setIfInBounds_toArray, List.set_cons_zero, List.set_cons_succ]))
            refine WG.one (i := 3) rfl (by kernel_rfl) (fun K hK => ?_)
            go_simp
            refine hK.out _ _ (by exact (And.intro (obj_cell ((Ext.alloc V.drew (.cells #[.int .i64 x.id] 3)).obj HVB.out) (i := 0) rfl) (obj_cell ((Ext.alloc V.drew (.cells #[.int .i64 x.id] 3)).obj HVB.out) (i := 1) rfl))) (fun hHeld => ?_)
            clear hK K
            (try simp only [Act.put, List.setIfInBounds_toArray, List.set_cons_zero, List.set_cons_succ])
            have HVa := hid (HVO.out.ext EI.ok (Ext.alloc V.drew (.cells #[.int .i64 x.id] 3)))
            have HEa : Hid (Ext W (V.drew.alloc (.cells #[.int .i64 x.id] 3))) := hid ((HEV.out.trans (show Ext V V.drew from Below.drew (Below.refl _ _))).trans (Ext.alloc _ _))
            refine WG.one (i := 4) rfl (by kernel_rfl) (fun K hK => ?_)
            refine step_append_sl _ (by rfl) _ _ 23 (by rfl) EI.ok EI.flat (W.heap.size) 3 EI.ne i0_int _ 1 8 Try.underlying23 hi0_int hz0_int hz1_int hz2_int rfl (by omega) _ (by rfl) _ (HVa.out) _ (by rfl) _ (RI.lit V.drew [x.id] (by simp)) (by simp; omega) (by simp; omega) ?_ ?_; (focus (first | exact Nat.le_refl _ | (simp; done) | (simp; omega) | omega)); intro v4 w4 hO4 hg4 hat4 hs4
            have hE4 : Ext W w4 := Ext.grown HEa.out hg4 HVa.out.lt
            have hb4 := hs4 _ _ _ _ (by decide) ((Ext.alloc V.drew (.cells #[.int .i64 x.id] 3)).obj HVB.out)
            have HB4 := hid hb4
            have HO4 := hid hO4
            have HE4 := hid hE4
            have hz4 := hE4.size
            have HX4 := hid (RI.ext HTX.out hE4)
            clear hO4 hg4 hat4 hs4 hE4 hb4
            refine hK.out _ _ (by exact (And.intro (obj_cell HB4.out (i := 0) rfl) (obj_cell HB4.out (i := 1) rfl))) (fun hHeld => ?_)
            clear hK K
            (try simp only [Act.put, List.setIfInBounds_toArray, List.set_cons_zero, List.set_cons_succ])
            refine WG.last (i := 7) rfl (by kernel_rfl) (by kernel_rfl) (fun K hK => ?_)
            refine step_append_sl _ (by rfl) _ _ 23 (by rfl) EI.ok EI.flat (W.heap.size) 3 EI.ne i0_int _ 1 8 Try.underlying23 hi0_int hz0_int hz1_int hz2_int rfl (by omega) _ (by rfl) _ (HO4.out) _ (by rfl) _ (HX4.out) (by have := HXL.out; simp; omega) (by have := HXL.out; simp; omega) ?_ ?_; (focus (first | exact Nat.le_refl _ | (simp; done) | (simp; omega) | omega)); intro v7 w7 hO7 hg7 hat7 hs7
            have HO7 := hid hO7
            have HE7 := hid (Ext.grown HE4.out hg7 HO4.out.lt)
            clear hO7 hg7 hat7 hs7
            refine hK.out _ _ ?_
            clear hK K
            (try simp only [Act.put, List.setIfInBounds_toArray, List.set_cons_zero, List.set_cons_succ])
            refine WG.last (i := 8) rfl (by kernel_rfl) (by kernel_rfl) (fun K hK => ?_)
            go_simp
            refine hK.out _ _ ?_
            clear hK K
            (try simp only [Act.put, List.setIfInBounds_toArray, List.set_cons_zero, List.set_cons_succ])
            refine WG.done (by kernel_rfl) ?_
            go_wp2
            go_roundw
            case rel => exact ⟨_, m + 1, zs ++ [x.id] ++ x.need, rfl, by omega, by go_num, hid (by rw [flatMap_take_succ _ et.out, ← List.append_assoc, ← hzs.out]; simp), by have := HXL.out; simp; omega, hid ⟨HO7.out, HE7.out⟩⟩
            case measure => simp [intOf]; omega
          · have hm' : m = ts.length := by omega
            have hzz : ys ++ unitB ⟨true, ts⟩ = zs := by rw [hzs.out, hm', List.take_length, List.append_assoc, hov]; rfl
            have HZZ := hid hzz
            clear hzz
            go_wp2
            go_roundw
            case rel => exact ⟨_, k + 1, ys ++ unitB ⟨true, ts⟩, rfl, by omega, by go_num, hid (by rw [flatMap_take_succ _ e.out, ← List.append_assoc, ← hys.out]), by have := HUN.out.1; rw [List.length_append]; omega, hid ⟨by rw [HZZ.out]; exact HUm.out, HEm.out⟩⟩
            case measure => simp [intOf]; omega
    · have hk' : k = C.units.length := by omega
      have hy : bodyB C = ys := by unfold bodyB; rw [hys.out, hk', List.take_length]
      have HY := hid hy
      have HRY := hid HU.out.read
      obtain ⟨sm, hsm⟩ : ∃ sm, sm = sumB ys := ⟨_, rfl⟩
      have HSM := hid hsm
      clear hy hsm
      go_wp2_with (first
        | (go_at_call 35; refine (iClusterSum _ ys _ HRY.out).mono ?_; rintro e3 w3 ⟨rfl, hE3⟩; rw [← HSM.out]; have HV3 := hid ((HU.out.ext EI.ok hE3).ext EI.ok (Ext.alloc w3 (.cells #[.int .i64 sm] 3))); have HE3 := hid ((HE.out.trans hE3).trans (Ext.alloc w3 (.cells #[.int .i64 sm] 3))); have hsz3 := (HE.out.trans hE3).size; clear hE3)
        | (at_builtin; refine wpList_append_sl _ (by rfl) _ _ 23 (by rfl) EI.ok EI.flat (W.heap.size) 3 EI.ne i0_int _ 1 8 Try.underlying23 hi0_int hz0_int hz1_int hz2_int rfl (by omega) _ (by rfl) _ (HV3.out) _ (by rfl) _ (RI.lit w3 [sm] (by simp)) (by simp; omega) (by simp; omega) ?_ ?_; (focus (first | exact Nat.le_refl _ | (simp; done) | (simp; omega) | omega)); intro v4 w4 hO4 hg4 hat4 hs4; have HO4 := hid hO4; have HE4 := hid (Ext.grown HE3.out hg4 HV3.out.lt); clear hO4 hg4 hat4 hs4))
      go_ret
      refine ⟨v4, rfl, ?_, HEW.out.trans HE4.out⟩
      unfold bytesC
      rw [HY.out, ← HSM.out]
      exact Own.low HO4.out HEW.out.size

theorem iClip (g n c : Nat) (w : World) (hc : n ≤ c) :
    Calls Try.prog 65 #[.slice (some ⟨g, 0, none⟩) n c] w fun e w' => e = .returned (.slice (some ⟨g, 0, none⟩) n n) ∧ w' = w := by
  have ic : (n : Int) ≤ (c : Int) := by omega
  have i0 : (0 : Int) ≤ (n : Int) := by omega
  go_enter Try.func65, Try.ntmps65
  go_wp2
  go_ret
  exact ⟨rfl, rfl⟩

end Go.Proofs.Ytfgibhdglbjadaa

/- The program's bytes of a cluster, whole; the draw. -/
namespace Go.Proofs.Ytfgibhdglbjadaa
open Go.RowKit
set_option maxRecDepth 4000

theorem bytes_pos (C : ClusD) : (bytesC C).length = (bodyB C).length + 1 := by unfold bytesC; rw [List.length_append]; rfl
theorem RI.clip {w : World} {A : Option Addr} {n c : Nat} {xs : List Int} (h : RI w (.slice A n c) xs) : RI w (.slice A n n) xs := by
  obtain ⟨A', c', hv, h1, h2, h3⟩ := h
  injection hv with e1 e2 e3
  subst e1 e2 e3
  exact ⟨A, xs.length, rfl, Nat.le_refl _, by omega, h3⟩
/-- the program's bytes: a row of the call's own, clipped -/
def RetBi (w : World) (C : ClusD) (e : Ending) (w' : World) : Prop := ∃ g c, e = .returned (.tuple #[.slice (some ⟨g, 0, none⟩) ((bodyB C).length + 1) ((bodyB C).length + 1), .bool true]) ∧ OI w' w.heap.size (.slice (some ⟨g, 0, none⟩) ((bodyB C).length + 1) c) (bytesC C) ∧ Ext w w'
set_option maxHeartbeats 1000000 in
theorem iClusterBytes (cv : Value) (C : ClusD) (w : World) (h : ClusV w cv C) (hl : C.units.length ≤ 4000000) (hfl : (C.units.map (·.tasks)).flatten.length ≤ 4000000) (hid' : ∀ t ∈ (C.units.map (·.tasks)).flatten, IdR t.id) :
    Calls Try.prog 24 #[cv] w fun e w' => (clusOk C = true → RetBi w C e w') ∧ (clusOk C = false → e = .returned (.tuple #[.slice none 0 0, .bool false]) ∧ Ext w w') := by
  have hC := h
  obtain ⟨rv, uv, rfl, hr, hu⟩ := h
  obtain ⟨Ar, cr, rfl, _⟩ := hr
  obtain ⟨Au, cu, rfl, _⟩ := hu
  obtain ⟨W, hW⟩ : ∃ W, W = w.alloc (.cells #[.slice Ar C.room.length cr, .slice Au C.units.length cu] 26) := ⟨_, rfl⟩
  have hEW : Ext w W := by rw [hW]; exact Ext.alloc _ _
  have hx : W.heap[w.heap.size]? = some (.cells #[.slice Ar C.room.length cr, .slice Au C.units.length cu] 26 (0, 0)) := by rw [hW]; exact heap_alloc_new _ _
  have c0 := obj_cell hx (i := 0) rfl
  have c1 := obj_cell hx (i := 1) rfl
  have KB : Hid (∀ w', Ext W w' → w'.cell? ⟨w.heap.size, 0, none⟩ = some (.slice Ar C.room.length cr) ∧ w'.cell? ⟨w.heap.size, 1, none⟩ = some (.slice Au C.units.length cu)) := hid fun w' hw => ⟨obj_cell (hw.obj hx) (i := 0) rfl, obj_cell (hw.obj hx) (i := 1) rfl⟩
  have HC := hid (hC.ext hEW)
  have HEW := hid hEW
  clear hC hEW hx
  by_cases hv : clusOk C = true
  · obtain ⟨n, hn⟩ : ∃ n, n = (bodyB C).length + 1 := ⟨_, rfl⟩
    have HN := hid hn
    have HP : Hid (0 < (bytesC C).length ∧ (bytesC C).length = n) := hid (by rw [bytes_pos, hn]; omega)
    clear hn
    go_enter Try.func24, Try.ntmps24
    go_wp2_with (first
      | (go_at_call 55; rw [← hW]; refine (iClusterValid _ C _ HC.out hl hfl hid').mono ?_; rintro e w1 ⟨rfl, hE1⟩; rw [hv]; obtain ⟨c0, c1⟩ := KB.out _ hE1; have HE1 := hid hE1; clear hE1 hW)
      | (go_at_call 66; refine (iBytesOf _ C _ (HC.out.ext HE1.out) hv).mono ?_; rintro e w2 ⟨v2, rfl, hO2, hE2⟩; obtain ⟨g, c, rfl, _⟩ := Own.row hO2 HP.out.1; have hcl : n ≤ c := (by obtain ⟨A', c', hv', _, hc'⟩ := hO2.form; injection hv' with _ _ e3; rw [← HP.out.2, e3]; exact hc'); rw [HP.out.2] at hO2 ⊢; have HO2 := hid hO2; have HE2 := hid (HE1.out.trans hE2); have hz := (HEW.out.trans HE1.out).size; have HZ := hid hz; clear hO2 hE2 hz)
      | (go_at_call 65; refine (iClip g n c _ hcl).mono ?_; rintro e w3 ⟨rfl, rfl⟩))
    refine bodyPost_ret (v := .tuple #[.slice (some ⟨g, 0, none⟩) n n, .bool true]) (by simp [results, Try.results24, go_sem]) rfl ?_
    refine ⟨fun _ => ?_, fun hc => by rw [hv] at hc; cases hc⟩
    refine ⟨g, c, by rw [← HN.out], ?_, HEW.out.trans HE2.out⟩
    rw [← HN.out]
    exact Own.low HO2.out HZ.out
  · have hv : clusOk C = false := by simpa using hv
    go_enter Try.func24, Try.ntmps24
    go_wp2_with (go_at_call 55; rw [← hW]; refine (iClusterValid _ C _ HC.out hl hfl hid').mono ?_; rintro e w1 ⟨rfl, hE1⟩; rw [hv]; have HE1 := hid hE1; clear hE1 hW)
    refine bodyPost_ret (v := .tuple #[.slice none 0 0, .bool false]) (by simp [results, Try.results24, go_sem]) rfl ?_
    exact ⟨fun hc => (by rw [hv] at hc; cases hc), fun _ => ⟨rfl, HEW.out.trans HE1.out⟩⟩

set_option maxHeartbeats 1000000 in
theorem dDrawBytes (v : Value) (bs : List Int) (w : World) (h : XBy w v bs) (hl : bs.length ≤ 4000000) :
    Calls Try.prog 33 #[v] w fun e w' => ∃ cv C, e = .returned cv ∧ OCl w' w.heap.size cv C ∧ SmallC C ∧ Ext w w' := by
  have HW := hid (Ext.alloc w (.cells #[.slice none 0 0, .slice none 0 0] 26))
  have HB := hid (h.ext (Ext.alloc w (.cells #[.slice none 0 0, .slice none 0 0] 26)))
  have Z0 := hid (heap_alloc_new w (.cells #[.slice none 0 0, .slice none 0 0] 26))
  clear h
  go_enter Try.func33, Try.ntmps33
  go_wp2_with (first
    | (go_at_call 52; refine (dOpen _ bs _ HB.out hl).mono ?_; rintro e w1 ⟨rfl, ⟨bv, bs', hr1⟩, hE1⟩; have HR1 := hid hr1; have HE1 := hid (HW.out.trans hE1); have Z1 := hid (hE1.obj Z0.out); obtain ⟨b, hb⟩ : ∃ b, b = (w.alloc (.cells #[.slice none 0 0, .slice none 0 0] 26)).heap.size := ⟨_, rfl⟩; have hbw : w.heap.size < b := (by rw [hb]; simp); rw [← hb] at HR1 ⊢; clear hb hr1 hE1)
    | (go_at_call 53; refine (dCluster b bv bs' 0 _ HR1.out (by omega)).mono ?_; rintro e w2 ⟨cv, C, rfl, hO2, hS2, hD2⟩; have HSC := hid hS2; obtain ⟨Ar, cr, Au, cu, rfl⟩ := hO2.form; have hZ2 := hD2.1.obj Z1.out (by omega); have HB2 : Hid (Ext w w2) := hid (Below.trans HE1.out (hD2.1.below (Nat.le_of_lt hbw) HE1.out.size)); have HO2 := hid (hO2.low HE1.out.size); obtain ⟨y0, y1, y0f, y1f, k1, k1f, hkk, hsm⟩ := box2 hZ2 (.slice Ar C.room.length cr) (.slice Au C.units.length cu); have r0 := obj_cell hkk (i := 0) rfl; have r1 := obj_cell hkk (i := 1) rfl; have HSM := hid hsm; clear hkk hO2 hS2 hD2 hsm hZ2))
  refine bodyPost_ret (v := .agg #[.slice Ar C.room.length cr, .slice Au C.units.length cu]) (by simp [results, Try.results33, go_sem, r0, r1]) rfl ?_
  exact ⟨_, _, rfl, HO2.out.same (HSM.out _ notClu), HSC.out, Below.setCell (Below.setCell HB2.out (Nat.le_refl _) _) (Nat.le_refl _) _⟩

end Go.Proofs.Ytfgibhdglbjadaa
