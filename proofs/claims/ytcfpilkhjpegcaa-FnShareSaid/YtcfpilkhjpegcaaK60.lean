/- The program's sum of vectors, in company. -/
import Derived.Test.YtcfpilkhjpegcaaK59
namespace Go.Proofs.Ytcfpilkhjpegcaa
open Go Go.Conc Go.ConcN Go.RowKit

section
variable {Wg C n : Nat} {K : Nat → Prop} {ci : Nat} {W : Nat → Prop} {w : World} {Stop : (Nat → Prop) → Goroutine → World → Prop}
  {b : Frame} {a : Act} {ops : Array Oper} {i : Nat} {rest : List Nat} {o : Oper} {k : List Item} {cs : List Frame} {mT : Nat} {ats : Array TypeId} {args : Array Operand}

/-- The numbers so far. -/
def rowAt (xs ys : List Int) (kk : Nat) : Array Value := ((addTo xs ys 1 kk ++ List.replicate (3 - kk) 0).map (Value.int .i64)).toArray
theorem rowAt_size (xs ys : List Int) {kk : Nat} (h : kk ≤ 3) : (rowAt xs ys kk).size = 3 := by simp [rowAt, addTo_len]; omega
theorem rowAt_zero (xs ys : List Int) {kk : Nat} (h : kk < 3) : (rowAt xs ys kk)[kk]? = some (.int .i64 0) := by
  simp only [rowAt, List.getElem?_toArray, List.getElem?_map, zero_at xs ys 1 h]
  rfl
theorem rowAt_set {xs ys : List Int} {kk : Nat} {x y : Int} (h : kk < 3) (hx : xs[kk]? = some x) (hy : ys[kk]? = some y) : (rowAt xs ys kk).setIfInBounds kk (.int .i64 (x + y)) = rowAt xs ys (kk + 1) := by
  have := zero_set h hx hy 1 (x + y) (by omega)
  simp only [rowAt, List.setIfInBounds_toArray, ← this, List.map_set]
/-- The loop's round. -/
noncomputable def plusLoop : Code := codeAt (Try.f66.body.getD .skip) [1, 1, 0, 1, 0, 0]
noncomputable def plusEnd : Code := codeAt (Try.f66.body.getD .skip) [1, 1, 1]

set_option maxRecDepth 100000 in
set_option maxHeartbeats 8000000 in
theorem plusLoopG {va vb : Value} {xs ys : List Int} {r : Nat} (ho : ops[i]? = some o)
    (ha : VecK K W w va xs) (hb : VecK K W w vb ys) (hla : xs.length = 3) (hlb : ys.length = 3) (ba : Bd 1000000 xs) (bb : Bd 1000000 ys)
    (hT : ∀ r W' w', (KR lk.tWg Wg C n K ci) W w [(r, ((addL xs ys 1).map (Value.int .i64)).toArray, 3)] W' w' → (GoesG Try.prog false (RWk lk.tWg Wg C n K ci) (DWk C n K ci) Stop) mT W' (G (b.at (a.put o.dst (.slice (some ⟨r, 0, none⟩) 3 3)) (.inRegion ops rest :: k)) cs) w') :
    ∀ (rem kk : Nat) (W' : Nat → Prop) (w' : World) (T : Array Value), kk + rem = 3 → T.size = 27 → T.getD 0 undef = va → T.getD 1 undef = vb → T.getD 5 undef = .slice (some ⟨r, 0, none⟩) 3 3 → T.getD 8 undef = .slice (some ⟨r, 0, none⟩) 3 3 → T.getD 9 undef = .int .i64 3 → T.getD 10 undef = .int .i64 kk →
      (KR lk.tWg Wg C n K ci) W w [(r, rowAt xs ys kk, 3)] W' w' → (GoesG Try.prog false (RWk lk.tWg Wg C n K ci) (DWk C n K ci) Stop) (mT + 20 + 60 * rem) W' (G ((base 66).at ⟨T, []⟩ [.code plusLoop, .inLoop plusLoop, .inBlock 0, .code plusEnd]) (b.at a (.inRegion ops (i :: rest) :: k) :: cs)) w' := by
  intro rem
  induction rem with
  | zero =>
    intro kk W' w' T hk hs s0 s1 s5 s8 s9 s10 hF
    obtain rfl : kk = 3 := by omega
    obtain ⟨v0 , v1 , v2 , v3 , v4 , v5 , v6 , v7 , v8 , v9 , v10 , v11 , v12 , v13 , v14 , v15 , v16 , v17 , v18 , v19 , v20 , v21 , v22 , v23 , v24 , v25 , v26, rfl⟩ := array27 T hs
    simp only [Array.getD_eq_getD_getElem?, List.getElem?_toArray, List.getElem?_cons_succ, List.getElem?_cons_zero, Option.getD_some] at s0 s1 s5 s8 s9 s10
    subst s0 s1 s5 s8 s9 s10
    simp only [plusLoop, plusEnd, codeAt, Try.f66, Option.getD_some]
    ((refine GoesG.step rfl (fun _ hz₁ => ?_); replace hF := KR.rely hF hz₁; clear hz₁); rw [stepG_seq]; simp only [goes_go, grow_self]; refine ⟨DWk.idle, ?_⟩)
    ((refine GoesG.step rfl (fun _ hz₁ => ?_); replace hF := KR.rely hF hz₁; clear hz₁); rw [stepG_region]; simp only [goes_go, grow_self, List.size_toArray, List.length_cons, List.length_nil, Nat.zero_add, List.range, List.range.loop]; refine ⟨DWk.idle, ?_⟩)
    ((refine GoesG.step rfl (fun _ hz₁ => ?_); replace hF := KR.rely hF hz₁; clear hz₁); refine goes_oper_k rfl rfl (by decide) (fun Kz hKz => ?_); go_simp; refine hKz _ _ ⟨?_, ?_⟩; (focus (rw [listed_nil (by simp [go_sem, *])]; exact DWk.idle)); clear hKz Kz; simp only [grow_self])
    ((refine GoesG.step rfl (fun _ hz₁ => ?_); replace hF := KR.rely hF hz₁; clear hz₁); rw [stepG_region_end]; simp only [goes_go, grow_self]; refine ⟨DWk.idle, ?_⟩)
    ((refine GoesG.step rfl (fun _ hz₁ => ?_); replace hF := KR.rely hF hz₁; clear hz₁); rw [stepG_seq]; simp only [goes_go, grow_self]; refine ⟨DWk.idle, ?_⟩)
    ((refine GoesG.step rfl (fun _ hz₁ => ?_); replace hF := KR.rely hF hz₁; clear hz₁); rw [stepG_cond (t := false) (by first | rfl | (simp [Act.eval]; done) | (simp [Act.eval]; omega))]; simp only [goes_go, grow_self, Bool.false_eq_true, ↓reduceIte]; refine ⟨DWk.idle, ?_⟩)
    ((refine GoesG.step rfl (fun _ hz₁ => ?_); replace hF := KR.rely hF hz₁; clear hz₁); refine goes_exit rfl ?_; simp only [grow_self]; refine ⟨DWk.idle, ?_⟩)
    ((refine GoesG.step rfl (fun _ hz₁ => ?_); replace hF := KR.rely hF hz₁; clear hz₁); rw [stepG_seq]; simp only [goes_go, grow_self]; refine ⟨DWk.idle, ?_⟩)
    ((refine GoesG.step rfl (fun _ hz₁ => ?_); replace hF := KR.rely hF hz₁; clear hz₁); rw [stepG_region]; simp only [goes_go, grow_self, List.size_toArray, List.length_cons, List.length_nil, Nat.reduceAdd, Nat.zero_add, List.range, List.range.loop]; refine ⟨DWk.idle, ?_⟩)
    ((refine GoesG.step rfl (fun _ hz₁ => ?_); replace hF := KR.rely hF hz₁; clear hz₁); refine goes_oper_k rfl rfl (by decide) (fun Kz hKz => ?_); go_simp; refine hKz _ _ ⟨?_, ?_⟩; (focus (rw [listed_nil (by simp [go_sem, *])]; exact DWk.idle)); clear hKz Kz; simp only [grow_self])
    ((refine GoesG.step rfl (fun _ hz₁ => ?_); replace hF := KR.rely hF hz₁; clear hz₁); refine goes_oper_k rfl rfl (by decide) (fun Kz hKz => ?_); go_simp; refine hKz _ _ ⟨?_, ?_⟩; (focus (rw [listed_nil (by simp [go_sem, *])]; exact DWk.idle)); clear hKz Kz; simp only [grow_self])
    ((refine GoesG.step rfl (fun _ hz₁ => ?_); replace hF := KR.rely hF hz₁; clear hz₁); rw [stepG_region_end]; simp only [goes_go, grow_self]; refine ⟨DWk.idle, ?_⟩)
    ((refine GoesG.step rfl (fun _ hz₁ => ?_); replace hF := KR.rely hF hz₁; clear hz₁); rw [stepG_ret']; simp only [goes_go, grow_self]; refine ⟨DWk.idle, ?_⟩)
    (refine GoesG.step rfl (fun _ hz₁ => ?_); replace hF := KR.rely hF hz₁; clear hz₁)
    refine goes_leave1 rfl rfl Try.func66 rfl ⟨DWk.idle, ?_⟩
    simp only [grow_self]
    rw [show (ops[i]?).bind (·.dst) = o.dst by rw [ho]; rfl]
    have e : rowAt xs ys 3 = ((addL xs ys 1).map (Value.int .i64)).toArray := by simp [rowAt, addL]
    rw [e] at hF
    exact (hT _ _ _ hF).le (by omega)
  | succ rem ih =>
    intro kk W' w' T hk hs s0 s1 s5 s8 s9 s10 hF
    have hk3 : kk < 3 := by omega
    have i3 : (kk : Int) < 3 := by omega
    obtain ⟨x, hx⟩ : ∃ x, xs[kk]? = some x := ⟨_, List.getElem?_eq_getElem (by omega)⟩
    obtain ⟨y, hy⟩ : ∃ y, ys[kk]? = some y := ⟨_, List.getElem?_eq_getElem (by omega)⟩
    have d1 := ba x (List.mem_of_getElem? hx)
    have d2 := bb y (List.mem_of_getElem? hy)
    have hw1 : IntKind.i64.wrap (x + y) = x + y := IntWalk.i64_in _ (by omega)
    have hw2 : IntKind.i64.wrap ((kk : Int) + 1) = (kk : Int) + 1 := IntWalk.i64_in _ (by omega)
    obtain ⟨v0 , v1 , v2 , v3 , v4 , v5 , v6 , v7 , v8 , v9 , v10 , v11 , v12 , v13 , v14 , v15 , v16 , v17 , v18 , v19 , v20 , v21 , v22 , v23 , v24 , v25 , v26, rfl⟩ := array27 T hs
    simp only [Array.getD_eq_getD_getElem?, List.getElem?_toArray, List.getElem?_cons_succ, List.getElem?_cons_zero, Option.getD_some] at s0 s1 s5 s8 s9 s10
    subst s0 s1 s5 s8 s9 s10
    rw [Nat.mul_succ, ← Nat.add_assoc]
    have step1 : ∀ a' w', PSl v0 v1 (.slice (some ⟨r, 0, none⟩) 3 3) kk a' → (KR lk.tWg Wg C n K ci) W w [(r, (rowAt xs ys kk).setIfInBounds kk (.int .i64 (x + y)), 3)] W' w' →
        (GoesG Try.prog false (RWk lk.tWg Wg C n K ci) (DWk C n K ci) Stop) (mT + 20 + 60 * rem + 10) W' (G ((base 66).at a' [.inBlock 1, .code (codeAt plusLoop [1, 1, 1]), .inLoop plusLoop, .inBlock 0, .code plusEnd]) (b.at a (.inRegion ops (i :: rest) :: k) :: cs)) w' := by
      intro a' w' hS hF
      obtain ⟨T', ds⟩ := a'
      obtain ⟨rfl, hs', s0, s1, s5, s6, s8, s9, s10⟩ := hS
      simp only at hs' s0 s1 s5 s6 s8 s9 s10
      obtain ⟨u0 , u1 , u2 , u3 , u4 , u5 , u6 , u7 , u8 , u9 , u10 , u11 , u12 , u13 , u14 , u15 , u16 , u17 , u18 , u19 , u20 , u21 , u22 , u23 , u24 , u25 , u26, rfl⟩ := array27 T' hs'
      simp only [Array.getD_eq_getD_getElem?, List.getElem?_toArray, List.getElem?_cons_succ, List.getElem?_cons_zero, Option.getD_some] at s0 s1 s5 s6 s8 s9 s10
      subst s0 s1 s5 s6 s8 s9 s10
      rw [rowAt_set hk3 hx hy] at hF
      have hgo := fun W' w' T' h1 h2 h3 h4 h5 h6 h7 h8 => ih (kk + 1) W' w' T' (by omega) h1 h2 h3 h4 h5 h6 h7 h8
      simp only [plusLoop, plusEnd, codeAt, Try.f66, Option.getD_some] at hgo ⊢
      ((refine GoesG.step rfl (fun _ hz₁ => ?_); replace hF := KR.rely hF hz₁; clear hz₁); rw [stepG_inBlock]; simp only [goes_go, grow_self]; refine ⟨DWk.idle, ?_⟩)
      ((refine GoesG.step rfl (fun _ hz₁ => ?_); replace hF := KR.rely hF hz₁; clear hz₁); rw [stepG_region]; simp only [goes_go, grow_self, List.size_toArray, List.length_cons, List.length_nil, Nat.reduceAdd, Nat.zero_add, List.range, List.range.loop]; refine ⟨DWk.idle, ?_⟩)
      ((refine GoesG.step rfl (fun _ hz₁ => ?_); replace hF := KR.rely hF hz₁; clear hz₁); refine goes_oper_k rfl rfl (by decide) (fun Kz hKz => ?_); go_simp; refine hKz _ _ ⟨?_, ?_⟩; (focus (rw [listed_nil (by simp [go_sem, *])]; exact DWk.idle)); clear hKz Kz; simp only [grow_self])
      ((refine GoesG.step rfl (fun _ hz₁ => ?_); replace hF := KR.rely hF hz₁; clear hz₁); refine goes_oper_k rfl rfl (by decide) (fun Kz hKz => ?_); go_simp; refine hKz _ _ ⟨?_, ?_⟩; (focus (rw [listed_nil (by simp [go_sem, *])]; exact DWk.idle)); clear hKz Kz; simp only [grow_self])
      ((refine GoesG.step rfl (fun _ hz₁ => ?_); replace hF := KR.rely hF hz₁; clear hz₁); rw [stepG_region_end]; simp only [goes_go, grow_self]; refine ⟨DWk.idle, ?_⟩)
      ((refine GoesG.step rfl (fun _ hz₁ => ?_); replace hF := KR.rely hF hz₁; clear hz₁); rw [stepG_inLoop]; simp only [goes_go, grow_self]; refine ⟨DWk.idle, ?_⟩)
      exact (hgo _ _ _ rfl rfl rfl rfl rfl rfl (by simp) hF).le (by omega)
    have hreg' := fun (a1 : Act) (w1 : World) hS hF => plusRegion (k := [.inBlock 1, .code (codeAt plusLoop [1, 1, 1]), .inLoop plusLoop, .inBlock 0, .code plusEnd]) (cs := b.at a (.inRegion ops (i :: rest) :: k) :: cs) (Stop := Stop) (Wg := Wg) (C := C) (n := n) (ci := ci) (r := r) (a := a1) (w := w1) ha hb hx hy hw1 hk3 (rowAt_size xs ys (by omega)) hla hlb (rowAt_zero xs ys hk3) (W := W') hS hF step1
    clear step1 ih
    simp only [plusLoop, plusEnd, codeAt, Try.f66, Option.getD_some] at hreg' ⊢
    ((refine GoesG.step rfl (fun _ hz₁ => ?_); replace hF := KR.rely hF hz₁; clear hz₁); rw [stepG_seq]; simp only [goes_go, grow_self]; refine ⟨DWk.idle, ?_⟩)
    ((refine GoesG.step rfl (fun _ hz₁ => ?_); replace hF := KR.rely hF hz₁; clear hz₁); rw [stepG_region]; simp only [goes_go, grow_self, List.size_toArray, List.length_cons, List.length_nil, Nat.zero_add, List.range, List.range.loop]; refine ⟨DWk.idle, ?_⟩)
    ((refine GoesG.step rfl (fun _ hz₁ => ?_); replace hF := KR.rely hF hz₁; clear hz₁); refine goes_oper_k rfl rfl (by decide) (fun Kz hKz => ?_); go_simp; refine hKz _ _ ⟨?_, ?_⟩; (focus (rw [listed_nil (by simp [go_sem, *])]; exact DWk.idle)); clear hKz Kz; simp only [grow_self])
    ((refine GoesG.step rfl (fun _ hz₁ => ?_); replace hF := KR.rely hF hz₁; clear hz₁); rw [stepG_region_end]; simp only [goes_go, grow_self]; refine ⟨DWk.idle, ?_⟩)
    ((refine GoesG.step rfl (fun _ hz₁ => ?_); replace hF := KR.rely hF hz₁; clear hz₁); rw [stepG_seq]; simp only [goes_go, grow_self]; refine ⟨DWk.idle, ?_⟩)
    ((refine GoesG.step rfl (fun _ hz₁ => ?_); replace hF := KR.rely hF hz₁; clear hz₁); rw [stepG_cond (t := true) (by first | rfl | (simp [Act.eval]; done) | (simp [Act.eval]; omega))]; simp only [goes_go, grow_self, ↓reduceIte]; refine ⟨DWk.idle, ?_⟩)
    ((refine GoesG.step rfl (fun _ hz₁ => ?_); replace hF := KR.rely hF hz₁; clear hz₁); rw [stepG_skip]; simp only [goes_go, grow_self]; refine ⟨DWk.idle, ?_⟩)
    ((refine GoesG.step rfl (fun _ hz₁ => ?_); replace hF := KR.rely hF hz₁; clear hz₁); rw [stepG_seq]; simp only [goes_go, grow_self]; refine ⟨DWk.idle, ?_⟩)
    ((refine GoesG.step rfl (fun _ hz₁ => ?_); replace hF := KR.rely hF hz₁; clear hz₁); rw [stepG_block]; simp only [goes_go, grow_self]; refine ⟨DWk.idle, ?_⟩)
    ((refine GoesG.step rfl (fun _ hz₁ => ?_); replace hF := KR.rely hF hz₁; clear hz₁); rw [stepG_seq]; simp only [goes_go, grow_self]; refine ⟨DWk.idle, ?_⟩)
    ((refine GoesG.step rfl (fun _ hz₁ => ?_); replace hF := KR.rely hF hz₁; clear hz₁); rw [stepG_region]; simp only [goes_go, grow_self, List.size_toArray, List.length_cons, List.length_nil, Nat.reduceAdd, Nat.zero_add, List.range, List.range.loop]; refine ⟨DWk.idle, ?_⟩)
    ((refine GoesG.step rfl (fun _ hz₁ => ?_); replace hF := KR.rely hF hz₁; clear hz₁); refine goes_oper_k rfl rfl (by decide) (fun Kz hKz => ?_); go_simp; refine hKz _ _ ⟨?_, ?_⟩; (focus (rw [listed_nil (by simp [go_sem, *])]; exact DWk.idle)); clear hKz Kz; simp only [grow_self])
    ((refine GoesG.step rfl (fun _ hz₁ => ?_); replace hF := KR.rely hF hz₁; clear hz₁); refine goes_oper_k rfl rfl (by decide) (fun Kz hKz => ?_); go_simp; refine hKz _ _ ⟨?_, ?_⟩; (focus (rw [listed_nil (by simp [go_sem, *])]; exact DWk.idle)); clear hKz Kz; simp only [grow_self])
    ((refine GoesG.step rfl (fun _ hz₁ => ?_); replace hF := KR.rely hF hz₁; clear hz₁); rw [stepG_region_end]; simp only [goes_go, grow_self]; refine ⟨DWk.idle, ?_⟩)
    exact (hreg' _ _ ⟨rfl, rfl, rfl, rfl, rfl, rfl, rfl, rfl, rfl⟩ hF).le (by omega)
end
end Go.Proofs.Ytcfpilkhjpegcaa

/- The program's sum of vectors, in company: the call. -/
namespace Go.Proofs.Ytcfpilkhjpegcaa
open Go Go.Conc Go.ConcN Go.RowKit

section
variable {Wg C n : Nat} {K : Nat → Prop} {ci : Nat} {W : Nat → Prop} {w : World} {Stop : (Nat → Prop) → Goroutine → World → Prop}
  {b : Frame} {a : Act} {ops : Array Oper} {i : Nat} {rest : List Nat} {o : Oper} {k : List Item} {cs : List Frame} {mT : Nat} {ats : Array TypeId} {args : Array Operand}

set_option maxRecDepth 100000 in
set_option maxHeartbeats 4000000 in
theorem plusG {va vb : Value} {xs ys : List Int} (ho : ops[i]? = some o) (hw : Region.wanted o (yielded ops a.tmps) = true) (hk : b.kind ≠ .early) (hop : o.op = .call { callee := .value (.func 66), args := args, argTypes := ats })
    (hargs : args.map a.eval = #[va, vb]) (ha : VecK K W w va xs) (hb : VecK K W w vb ys) (hla : xs.length = 3) (hlb : ys.length = 3) (ba : Bd 1000000 xs) (bb : Bd 1000000 ys)
    (hF : (KR lk.tWg Wg C n K ci) W w [] W w)
    (hT : ∀ r W' w', (KR lk.tWg Wg C n K ci) W w [(r, ((addL xs ys 1).map (Value.int .i64)).toArray, 3)] W' w' → (GoesG Try.prog false (RWk lk.tWg Wg C n K ci) (DWk C n K ci) Stop) mT W' (G (b.at (a.put o.dst (.slice (some ⟨r, 0, none⟩) 3 3)) (.inRegion ops rest :: k)) cs) w') :
    (GoesG Try.prog false (RWk lk.tWg Wg C n K ci) (DWk C n K ci) Stop) (mT + 240) W (G (b.at a (.inRegion ops (i :: rest) :: k)) cs) w := by
  have hmk := hmk3
  have hme := hmk3E
  have hloop := fun r W' w' T h1 h2 h3 h4 h5 h6 h7 h8 => plusLoopG (r := r) ho ha hb hla hlb ba bb hT 3 0 W' w' T (by omega) h1 h2 h3 h4 h5 h6 h7 h8
  simp only [plusLoop, plusEnd, codeAt, Try.f66, Option.getD_some] at hloop
  (refine GoesG.step rfl (fun _ hz₁ => ?_); replace hF := KR.rely hF hz₁; clear hz₁)
  refine goes_call ho hw hk hop Try.func66 (by kernel_rfl) rfl ⟨DWk.idle, ?_⟩
  simp only [grow_self, hargs]
  walk_nrmf Try.f66
  ((refine GoesG.step rfl (fun _ hz₁ => ?_); replace hF := KR.rely hF hz₁; clear hz₁); rw [stepG_seq]; simp only [goes_go, grow_self]; refine ⟨DWk.idle, ?_⟩)
  ((refine GoesG.step rfl (fun _ hz₁ => ?_); replace hF := KR.rely hF hz₁; clear hz₁); rw [stepG_region]; simp only [goes_go, grow_self, List.size_toArray, List.length_cons, List.length_nil, Nat.zero_add, List.range, List.range.loop]; refine ⟨DWk.idle, ?_⟩)
  ((refine GoesG.step rfl (fun _ hz₁ => ?_); replace hF := KR.rely hF hz₁; clear hz₁); refine goes_oper_k rfl rfl (by decide) (fun Kz hKz => ?_); go_simp; refine hKz _ _ ⟨?_, ?_⟩; (focus (rw [listed_nil (by simp [go_sem, *])]; exact DWk.idle)); clear hKz Kz; simp only [grow_self])
  ((refine GoesG.step rfl (fun _ hz₁ => ?_); replace hF := KR.rely hF hz₁; clear hz₁); rw [stepG_region_end]; simp only [goes_go, grow_self]; refine ⟨DWk.idle, ?_⟩)
  ((refine GoesG.step rfl (fun _ hz₁ => ?_); replace hF := KR.rely hF hz₁; clear hz₁); rw [stepG_seq]; simp only [goes_go, grow_self]; refine ⟨DWk.idle, ?_⟩)
  ((refine GoesG.step rfl (fun _ hz₁ => ?_); replace hF := KR.rely hF hz₁; clear hz₁); rw [stepG_region]; simp only [goes_go, grow_self, List.size_toArray, List.length_cons, List.length_nil, Nat.reduceAdd, Nat.zero_add, List.range, List.range.loop]; refine ⟨DWk.idle, ?_⟩)
  ((refine GoesG.step rfl (fun _ hz₁ => ?_); replace hF := KR.rely hF hz₁; clear hz₁); (skip); refine goes_oper_k rfl rfl (by decide) (fun Kz hKz => ?_); go_simp; refine hKz _ _ ⟨?_, ?_⟩; (focus (refine DWk.alloc _ (Nat.lt_of_lt_of_le (KR.hC hF) (KR.rel hF).size) (fun ez hez => ?_); have hmz := mem_listed hez; simp [go_sem, *] at hmz; try exact hmz)); clear hKz Kz)
  replace hF := hF.alloc #[.int .i64 0, .int .i64 0, .int .i64 0] 3
  ((refine GoesG.step rfl (fun _ hz₁ => ?_); replace hF := KR.rely hF hz₁; clear hz₁); refine goes_oper_k rfl rfl (by decide) (fun Kz hKz => ?_); go_simp; refine hKz _ _ ⟨?_, ?_⟩; (focus (rw [listed_nil (by simp [go_sem, *])]; exact DWk.idle)); clear hKz Kz; simp only [grow_self])
  ((refine GoesG.step rfl (fun _ hz₁ => ?_); replace hF := KR.rely hF hz₁; clear hz₁); rw [stepG_region_end]; simp only [goes_go, grow_self]; refine ⟨DWk.idle, ?_⟩)
  ((refine GoesG.step rfl (fun _ hz₁ => ?_); replace hF := KR.rely hF hz₁; clear hz₁); rw [stepG_seq]; simp only [goes_go, grow_self]; refine ⟨DWk.idle, ?_⟩)
  ((refine GoesG.step rfl (fun _ hz₁ => ?_); replace hF := KR.rely hF hz₁; clear hz₁); rw [stepG_seq]; simp only [goes_go, grow_self]; refine ⟨DWk.idle, ?_⟩)
  ((refine GoesG.step rfl (fun _ hz₁ => ?_); replace hF := KR.rely hF hz₁; clear hz₁); rw [stepG_region]; simp only [goes_go, grow_self, List.size_toArray, List.length_cons, List.length_nil, Nat.reduceAdd, Nat.zero_add, List.range, List.range.loop]; refine ⟨DWk.idle, ?_⟩)
  ((refine GoesG.step rfl (fun _ hz₁ => ?_); replace hF := KR.rely hF hz₁; clear hz₁); refine goes_oper_k rfl rfl (by decide) (fun Kz hKz => ?_); go_simp; refine hKz _ _ ⟨?_, ?_⟩; (focus (rw [listed_nil (by simp [go_sem, *])]; exact DWk.idle)); clear hKz Kz; simp only [grow_self])
  ((refine GoesG.step rfl (fun _ hz₁ => ?_); replace hF := KR.rely hF hz₁; clear hz₁); refine goes_oper_k rfl rfl (by decide) (fun Kz hKz => ?_); go_simp; refine hKz _ _ ⟨?_, ?_⟩; (focus (rw [listed_nil (by simp [go_sem, *])]; exact DWk.idle)); clear hKz Kz; simp only [grow_self])
  ((refine GoesG.step rfl (fun _ hz₁ => ?_); replace hF := KR.rely hF hz₁; clear hz₁); refine goes_oper_k rfl rfl (by decide) (fun Kz hKz => ?_); go_simp; refine hKz _ _ ⟨?_, ?_⟩; (focus (rw [listed_nil (by simp [go_sem, *])]; exact DWk.idle)); clear hKz Kz; simp only [grow_self])
  ((refine GoesG.step rfl (fun _ hz₁ => ?_); replace hF := KR.rely hF hz₁; clear hz₁); rw [stepG_region_end]; simp only [goes_go, grow_self]; refine ⟨DWk.idle, ?_⟩)
  ((refine GoesG.step rfl (fun _ hz₁ => ?_); replace hF := KR.rely hF hz₁; clear hz₁); rw [stepG_block]; simp only [goes_go, grow_self]; refine ⟨DWk.idle, ?_⟩)
  ((refine GoesG.step rfl (fun _ hz₁ => ?_); replace hF := KR.rely hF hz₁; clear hz₁); rw [stepG_loop]; simp only [goes_go, grow_self]; refine ⟨DWk.idle, ?_⟩)
  exact (hloop _ _ _ _ rfl rfl rfl rfl rfl rfl rfl hF).le (by omega)
end
end Go.Proofs.Ytcfpilkhjpegcaa

/- The program's load of a bin, in company. -/
namespace Go.Proofs.Ytcfpilkhjpegcaa
open Go Go.Conc Go.ConcN Go.RowKit

/-- Tasks that may be read. -/
def TasksK (K : Nat → Prop) (w : World) (v : Value) (ts : List TaskD) : Prop :=
  ∃ A c, v = .slice A ts.length c ∧ ts.length ≤ c ∧ c ≤ 9223372036854775807 ∧ ∀ j t, ts[j]? = some t → ∃ b o An cn, A = some ⟨b, o, none⟩ ∧ K b ∧ w.cell? ⟨b, o + j * 2, none⟩ = some (.int .i64 t.id) ∧ w.cell? ⟨b, o + j * 2 + 1, none⟩ = some (.slice (some An) t.need.length cn) ∧
    VecK K (fun _ => False) w (.slice (some An) t.need.length cn) t.need

section
variable {Wg C n : Nat} {K : Nat → Prop} {ci : Nat} {W : Nat → Prop} {w : World} {Stop : (Nat → Prop) → Goroutine → World → Prop}
  {b : Frame} {a : Act} {ops : Array Oper} {i : Nat} {rest : List Nat} {o : Oper} {k : List Item} {cs : List Frame} {mT : Nat} {ats : Array TypeId} {args : Array Operand}

theorem VecK.since {W0 : Nat → Prop} {w0 : World} {l : List (Nat × Array Value × TypeId)} {v : Value} {xs : List Int} (h : KR lk.tWg Wg C n K ci W0 w0 l W w) (hv : VecK K (fun _ => False) w0 v xs) : VecK K W w v xs := by
  obtain ⟨b, o, c, e, h1, h2, h3, h4⟩ := hv
  have hb : K b := h3.resolve_right id
  exact ⟨b, o, c, e, h1, h2, .inl hb, fun j x hx => h.cell (.inl hb) (h4 j x hx)⟩
theorem VecK.row {W0 : Nat → Prop} {w0 : World} {l : List (Nat × Array Value × TypeId)} {r : Nat} {t : TypeId} {xs : List Int} (h : KR lk.tWg Wg C n K ci W0 w0 l W w) (hx : (r, (xs.map (Value.int .i64)).toArray, t) ∈ l) (hl : xs.length = 3) : VecK K W w (.slice (some ⟨r, 0, none⟩) 3 3) xs := by
  refine ⟨r, 0, 3, by rw [hl], by omega, by omega, .inr (h.rows _ hx).2.1, fun j x hj => ?_⟩
  rw [Nat.zero_add]
  exact (h.row hx (by simp [hj])).1
/-- The sum so far. -/
def sumRow (ts : List TaskD) (k : Nat) : Array Value := ((loadL (ts.take k)).map (Value.int .i64)).toArray
noncomputable def loadLoop : Code := codeAt (Try.f49.body.getD .skip) [1, 1, 0, 1, 0, 0]
noncomputable def loadEnd : Code := codeAt (Try.f49.body.getD .skip) [1, 1, 1]
theorem array19 (T : Array Value) (h : T.size = 19) : ∃ v0 v1 v2 v3 v4 v5 v6 v7 v8 v9 v10 v11 v12 v13 v14 v15 v16 v17 v18, T = #[v0, v1, v2, v3, v4, v5, v6, v7, v8, v9, v10, v11, v12, v13, v14, v15, v16, v17, v18] := by
  obtain ⟨l⟩ := T
  match l, h with
  | [v0, v1, v2, v3, v4, v5, v6, v7, v8, v9, v10, v11, v12, v13, v14, v15, v16, v17, v18], _ => exact ⟨v0, v1, v2, v3, v4, v5, v6, v7, v8, v9, v10, v11, v12, v13, v14, v15, v16, v17, v18, rfl⟩

set_option maxRecDepth 100000 in
set_option maxHeartbeats 8000000 in
theorem loadLoopG {v : Value} {ts : List TaskD} (ho : ops[i]? = some o) (hv : TasksK K w v ts) (hg : GoodTs ts)
    (hT : ∀ r W' w', (KR lk.tWg Wg C n K ci) W w [(r, ((loadL ts).map (Value.int .i64)).toArray, 3)] W' w' → (GoesG Try.prog false (RWk lk.tWg Wg C n K ci) (DWk C n K ci) Stop) mT W' (G (b.at (a.put o.dst (.slice (some ⟨r, 0, none⟩) 3 3)) (.inRegion ops rest :: k)) cs) w') :
    ∀ (rem kk r : Nat) (W' : Nat → Prop) (w' : World) (T : Array Value), kk + rem = ts.length → T.size = 19 → T.getD 3 undef = .slice (some ⟨r, 0, none⟩) 3 3 → T.getD 7 undef = v → T.getD 8 undef = .int .i64 ts.length → T.getD 9 undef = .int .i64 kk →
      (KR lk.tWg Wg C n K ci) W w [(r, sumRow ts kk, 3)] W' w' → (GoesG Try.prog false (RWk lk.tWg Wg C n K ci) (DWk C n K ci) Stop) (mT + 20 + 300 * rem) W' (G ((base 49).at ⟨T, []⟩ [.code loadLoop, .inLoop loadLoop, .inBlock 0, .code loadEnd]) (b.at a (.inRegion ops (i :: rest) :: k) :: cs)) w' := by
  intro rem
  induction rem with
  | zero =>
    intro kk r W' w' T hk hs s3 s7 s8 s9 hF
    obtain rfl : kk = ts.length := by omega
    obtain ⟨v0, v1, v2, v3, v4, v5, v6, v7, v8, v9, v10, v11, v12, v13, v14, v15, v16, v17, v18, rfl⟩ := array19 T hs
    simp only [Array.getD_eq_getD_getElem?, List.getElem?_toArray, List.getElem?_cons_succ, List.getElem?_cons_zero, Option.getD_some] at s3 s7 s8 s9
    subst s3 s7 s8 s9
    simp only [loadLoop, loadEnd, codeAt, Try.f49, Option.getD_some]
    ((refine GoesG.step rfl (fun _ hz₁ => ?_); replace hF := KR.rely hF hz₁; clear hz₁); rw [stepG_seq]; simp only [goes_go, grow_self]; refine ⟨DWk.idle, ?_⟩)
    ((refine GoesG.step rfl (fun _ hz₁ => ?_); replace hF := KR.rely hF hz₁; clear hz₁); rw [stepG_region]; simp only [goes_go, grow_self, List.size_toArray, List.length_cons, List.length_nil, Nat.zero_add, List.range, List.range.loop]; refine ⟨DWk.idle, ?_⟩)
    ((refine GoesG.step rfl (fun _ hz₁ => ?_); replace hF := KR.rely hF hz₁; clear hz₁); refine goes_oper_k rfl rfl (by decide) (fun Kz hKz => ?_); go_simp; refine hKz _ _ ⟨?_, ?_⟩; (focus (rw [listed_nil (by simp [go_sem, *])]; exact DWk.idle)); clear hKz Kz; simp only [grow_self])
    ((refine GoesG.step rfl (fun _ hz₁ => ?_); replace hF := KR.rely hF hz₁; clear hz₁); rw [stepG_region_end]; simp only [goes_go, grow_self]; refine ⟨DWk.idle, ?_⟩)
    ((refine GoesG.step rfl (fun _ hz₁ => ?_); replace hF := KR.rely hF hz₁; clear hz₁); rw [stepG_seq]; simp only [goes_go, grow_self]; refine ⟨DWk.idle, ?_⟩)
    ((refine GoesG.step rfl (fun _ hz₁ => ?_); replace hF := KR.rely hF hz₁; clear hz₁); rw [stepG_cond (t := false) (by first | rfl | (simp [Act.eval]; done) | (simp [Act.eval]; omega))]; simp only [goes_go, grow_self, Bool.false_eq_true, ↓reduceIte]; refine ⟨DWk.idle, ?_⟩)
    ((refine GoesG.step rfl (fun _ hz₁ => ?_); replace hF := KR.rely hF hz₁; clear hz₁); refine goes_exit rfl ?_; simp only [grow_self]; refine ⟨DWk.idle, ?_⟩)
    ((refine GoesG.step rfl (fun _ hz₁ => ?_); replace hF := KR.rely hF hz₁; clear hz₁); rw [stepG_seq]; simp only [goes_go, grow_self]; refine ⟨DWk.idle, ?_⟩)
    ((refine GoesG.step rfl (fun _ hz₁ => ?_); replace hF := KR.rely hF hz₁; clear hz₁); rw [stepG_region]; simp only [goes_go, grow_self, List.size_toArray, List.length_cons, List.length_nil, Nat.reduceAdd, Nat.zero_add, List.range, List.range.loop]; refine ⟨DWk.idle, ?_⟩)
    ((refine GoesG.step rfl (fun _ hz₁ => ?_); replace hF := KR.rely hF hz₁; clear hz₁); refine goes_oper_k rfl rfl (by decide) (fun Kz hKz => ?_); go_simp; refine hKz _ _ ⟨?_, ?_⟩; (focus (rw [listed_nil (by simp [go_sem, *])]; exact DWk.idle)); clear hKz Kz; simp only [grow_self])
    ((refine GoesG.step rfl (fun _ hz₁ => ?_); replace hF := KR.rely hF hz₁; clear hz₁); refine goes_oper_k rfl rfl (by decide) (fun Kz hKz => ?_); go_simp; refine hKz _ _ ⟨?_, ?_⟩; (focus (rw [listed_nil (by simp [go_sem, *])]; exact DWk.idle)); clear hKz Kz; simp only [grow_self])
    ((refine GoesG.step rfl (fun _ hz₁ => ?_); replace hF := KR.rely hF hz₁; clear hz₁); rw [stepG_region_end]; simp only [goes_go, grow_self]; refine ⟨DWk.idle, ?_⟩)
    ((refine GoesG.step rfl (fun _ hz₁ => ?_); replace hF := KR.rely hF hz₁; clear hz₁); rw [stepG_ret']; simp only [goes_go, grow_self]; refine ⟨DWk.idle, ?_⟩)
    (refine GoesG.step rfl (fun _ hz₁ => ?_); replace hF := KR.rely hF hz₁; clear hz₁)
    refine goes_leave1 rfl rfl Try.func49 rfl ⟨DWk.idle, ?_⟩
    simp only [grow_self]
    rw [show (ops[i]?).bind (·.dst) = o.dst by rw [ho]; rfl]
    rw [sumRow, List.take_length] at hF
    exact (hT _ _ _ hF).le (by omega)
  | succ rem ih =>
    intro kk r W' w' T hk hs s3 s7 s8 s9 hF
    have hlt : kk < ts.length := by omega
    have i1 : (kk : Int) < (ts.length : Int) := by omega
    obtain ⟨x, hx⟩ : ∃ x, ts[kk]? = some x := ⟨_, List.getElem?_eq_getElem hlt⟩
    have hgx := hg.2 x (List.mem_of_getElem? hx)
    have hgl := hg.1
    have hw2 : IntKind.i64.wrap ((kk : Int) + 1) = (kk : Int) + 1 := IntWalk.i64_in _ (by omega)
    obtain ⟨A, c, rfl, l1, l2, hr⟩ := hv
    obtain ⟨bb, oo, An, cn, rfl, hKb, c1, c2, hn⟩ := hr kk x hx
    obtain ⟨v0, v1, v2, v3, v4, v5, v6, v7, v8, v9, v10, v11, v12, v13, v14, v15, v16, v17, v18, rfl⟩ := array19 T hs
    simp only [Array.getD_eq_getD_getElem?, List.getElem?_toArray, List.getElem?_cons_succ, List.getElem?_cons_zero, Option.getD_some] at s3 s7 s8 s9
    subst s3 s7 s8 s9
    rw [Nat.mul_succ, ← Nat.add_assoc]
    have hgo := fun r W' w' T' h1 h2 h3 h4 h5 h6 => ih (kk + 1) r W' w' T' (by omega) h1 h2 h3 h4 h5 h6
    clear ih
    simp only [loadLoop, loadEnd, codeAt, Try.f49, Option.getD_some] at hgo ⊢
    ((refine GoesG.step rfl (fun _ hz₁ => ?_); replace hF := KR.rely hF hz₁; clear hz₁); rw [stepG_seq]; simp only [goes_go, grow_self]; refine ⟨DWk.idle, ?_⟩)
    ((refine GoesG.step rfl (fun _ hz₁ => ?_); replace hF := KR.rely hF hz₁; clear hz₁); rw [stepG_region]; simp only [goes_go, grow_self, List.size_toArray, List.length_cons, List.length_nil, Nat.zero_add, List.range, List.range.loop]; refine ⟨DWk.idle, ?_⟩)
    ((refine GoesG.step rfl (fun _ hz₁ => ?_); replace hF := KR.rely hF hz₁; clear hz₁); refine goes_oper_k rfl rfl (by decide) (fun Kz hKz => ?_); go_simp; refine hKz _ _ ⟨?_, ?_⟩; (focus (rw [listed_nil (by simp [go_sem, *])]; exact DWk.idle)); clear hKz Kz; simp only [grow_self])
    ((refine GoesG.step rfl (fun _ hz₁ => ?_); replace hF := KR.rely hF hz₁; clear hz₁); rw [stepG_region_end]; simp only [goes_go, grow_self]; refine ⟨DWk.idle, ?_⟩)
    ((refine GoesG.step rfl (fun _ hz₁ => ?_); replace hF := KR.rely hF hz₁; clear hz₁); rw [stepG_seq]; simp only [goes_go, grow_self]; refine ⟨DWk.idle, ?_⟩)
    ((refine GoesG.step rfl (fun _ hz₁ => ?_); replace hF := KR.rely hF hz₁; clear hz₁); rw [stepG_cond (t := true) (by first | rfl | (simp [Act.eval]; done) | (simp [Act.eval]; omega))]; simp only [goes_go, grow_self, ↓reduceIte]; refine ⟨DWk.idle, ?_⟩)
    ((refine GoesG.step rfl (fun _ hz₁ => ?_); replace hF := KR.rely hF hz₁; clear hz₁); rw [stepG_skip]; simp only [goes_go, grow_self]; refine ⟨DWk.idle, ?_⟩)
    ((refine GoesG.step rfl (fun _ hz₁ => ?_); replace hF := KR.rely hF hz₁; clear hz₁); rw [stepG_seq]; simp only [goes_go, grow_self]; refine ⟨DWk.idle, ?_⟩)
    ((refine GoesG.step rfl (fun _ hz₁ => ?_); replace hF := KR.rely hF hz₁; clear hz₁); rw [stepG_block]; simp only [goes_go, grow_self]; refine ⟨DWk.idle, ?_⟩)
    ((refine GoesG.step rfl (fun _ hz₁ => ?_); replace hF := KR.rely hF hz₁; clear hz₁); rw [stepG_seq]; simp only [goes_go, grow_self]; refine ⟨DWk.idle, ?_⟩)
    ((refine GoesG.step rfl (fun _ hz₁ => ?_); replace hF := KR.rely hF hz₁; clear hz₁); rw [stepG_region]; simp only [goes_go, grow_self, List.size_toArray, List.length_cons, List.length_nil, Nat.reduceAdd, Nat.zero_add, List.range, List.range.loop]; refine ⟨DWk.idle, ?_⟩)
    ((refine GoesG.step rfl (fun _ hz₁ => ?_); replace hF := KR.rely hF hz₁; clear hz₁); refine goes_oper_k rfl rfl (by decide) (fun Kz hKz => ?_); go_simp; refine hKz _ _ ⟨?_, ?_⟩; (focus (rw [listed_nil (by simp [go_sem, *])]; exact DWk.idle)); clear hKz Kz; simp only [grow_self])
    (refine GoesG.step rfl (fun _ hz₁ => ?_); replace hF := KR.rely hF hz₁; clear hz₁)
    have k1 := hF.cell (.inl hKb) c1
    have k2 := hF.cell (.inl hKb) c2
    refine goes_oper_k rfl rfl (by decide) (fun K' hK' => ?_)
    go_simp
    refine hK' _ _ ⟨?_, ?_⟩
    · refine DWk.reads (fun e he => ?_)
      have hm := mem_listed he
      simp [go_sem, *] at hm
      rcases hm with rfl | rfl <;> exact ⟨_, rfl, .inl hKb⟩
    clear hK' K' k1 k2
    simp only [grow_self]
    ((refine GoesG.step rfl (fun _ hz₁ => ?_); replace hF := KR.rely hF hz₁; clear hz₁); (skip); refine goes_oper_k rfl rfl (by decide) (fun Kz hKz => ?_); go_simp; refine hKz _ _ ⟨?_, ?_⟩; (focus (refine DWk.alloc _ (Nat.lt_of_lt_of_le (KR.hC hF) (KR.rel hF).size) (fun ez hez => ?_); have hmz := mem_listed hez; simp [go_sem, *] at hmz; try exact hmz)); clear hKz Kz)
    replace hF := hF.alloc #[.int .i64 0, .slice none 0 0] 80
    (refine GoesG.step rfl (fun _ hz₁ => ?_); replace hF := KR.rely hF hz₁; clear hz₁)
    obtain ⟨k1, f1⟩ := hF.row (List.mem_cons_self ..) (k := 0) rfl
    obtain ⟨k2, f2⟩ := hF.row (List.mem_cons_self ..) (k := 1) rfl
    refine goes_oper_k rfl rfl (by decide) (fun K' hK' => ?_)
    go_simp
    obtain ⟨g1, g2, _⟩ := hF.rows _ (List.mem_cons_self ..)
    refine hK' _ _ ⟨DWk.store2 g2 (hF.own g1).2.2.1 fun e he => ?_, ?_⟩
    · have hm := mem_listed he
      simp [go_sem, storedEv, *] at hm
      rcases hm with rfl | rfl <;> exact ⟨_, rfl, rfl⟩
    clear hK' K' k1 k2 f1 f2 g1 g2
    rw [grow_same ((aside_setCell _ _ _).size.trans (aside_setCell _ _ _).size)]
    replace hF := (hF.set (k := 0) (.int .i64 x.id)).set (k := 1) (.slice (some An) 3 cn)
    simp only [List.setIfInBounds_toArray, List.set_cons_zero, List.set_cons_succ] at hF
    ((refine GoesG.step rfl (fun _ hz₁ => ?_); replace hF := KR.rely hF hz₁; clear hz₁); rw [stepG_region_end]; simp only [goes_go, grow_self]; refine ⟨DWk.idle, ?_⟩)
    ((refine GoesG.step rfl (fun _ hz₁ => ?_); replace hF := KR.rely hF hz₁; clear hz₁); rw [stepG_region]; simp only [goes_go, grow_self, List.size_toArray, List.length_cons, List.length_nil, Nat.reduceAdd, Nat.zero_add, List.range, List.range.loop]; refine ⟨DWk.idle, ?_⟩)
    ((refine GoesG.step rfl (fun _ hz₁ => ?_); replace hF := KR.rely hF hz₁; clear hz₁); refine goes_oper_k rfl rfl (by decide) (fun Kz hKz => ?_); go_simp; refine hKz _ _ ⟨?_, ?_⟩; (focus (rw [listed_nil (by simp [go_sem, *])]; exact DWk.idle)); clear hKz Kz; simp only [grow_self])
    ((refine GoesG.step rfl (fun _ hz₁ => ?_); replace hF := KR.rely hF hz₁; clear hz₁); refine goes_oper_k rfl rfl (by decide) (fun Kz hKz => ?_); go_simp; refine hKz _ _ ⟨?_, ?_⟩; (focus (rw [listed_nil (by simp [go_sem, *])]; exact DWk.idle)); clear hKz Kz; simp only [grow_self])
    ((refine GoesG.step rfl (fun _ hz₁ => ?_); replace hF := KR.rely hF hz₁; clear hz₁); (obtain ⟨k1, _⟩ := hF.row (List.mem_cons_self ..) (k := 1) rfl); refine goes_oper_k rfl rfl (by decide) (fun Kz hKz => ?_); go_simp; refine hKz _ _ ⟨?_, ?_⟩; (focus (refine DWk.reads (fun ez hez => ?_); have hmz := mem_listed hez; simp [go_sem, *] at hmz; subst hmz; exact ⟨_, rfl, (.inr (hF.rows _ (List.mem_cons_self ..)).2.1)⟩)); clear hKz Kz; simp only [grow_self])
    have hn3 : VecK K (fun _ => False) w (.slice (some An) 3 cn) x.need := by rw [hgx.1] at hn; exact hn
    have b1 : Bd 1000000 (loadL (ts.take kk)) := load_bd (GoodTs.take hg kk)
    refine GoesG.le (n := mT + 20 + 300 * rem + 20 + 240) (by omega) ?_
    refine plusG (va := .slice (some ⟨r, 0, none⟩) 3 3) (vb := .slice (some An) 3 cn) rfl rfl (by decide) rfl (by walk_nrm) (VecK.row hF (xs := loadL (ts.take kk)) (t := 3) (List.mem_cons_of_mem _ (List.mem_cons_self ..)) (loadL_len _)) (VecK.since hF hn3) (loadL_len _) hgx.1 b1 (hgx.2.mono (by omega)) hF.here fun r' W1 w1 hF1 => ?_
    replace hF := (hF.call hF1).top
    clear hF1
    rw [← loadL_take_succ hx] at hF
    walk_nrm
    ((refine GoesG.step rfl (fun _ hz₁ => ?_); replace hF := KR.rely hF hz₁; clear hz₁); refine goes_oper_k rfl rfl (by decide) (fun Kz hKz => ?_); go_simp; refine hKz _ _ ⟨?_, ?_⟩; (focus (rw [listed_nil (by simp [go_sem, *])]; exact DWk.idle)); clear hKz Kz; simp only [grow_self])
    ((refine GoesG.step rfl (fun _ hz₁ => ?_); replace hF := KR.rely hF hz₁; clear hz₁); rw [stepG_region_end]; simp only [goes_go, grow_self]; refine ⟨DWk.idle, ?_⟩)
    ((refine GoesG.step rfl (fun _ hz₁ => ?_); replace hF := KR.rely hF hz₁; clear hz₁); rw [stepG_inBlock]; simp only [goes_go, grow_self]; refine ⟨DWk.idle, ?_⟩)
    ((refine GoesG.step rfl (fun _ hz₁ => ?_); replace hF := KR.rely hF hz₁; clear hz₁); rw [stepG_region]; simp only [goes_go, grow_self, List.size_toArray, List.length_cons, List.length_nil, Nat.reduceAdd, Nat.zero_add, List.range, List.range.loop]; refine ⟨DWk.idle, ?_⟩)
    ((refine GoesG.step rfl (fun _ hz₁ => ?_); replace hF := KR.rely hF hz₁; clear hz₁); refine goes_oper_k rfl rfl (by decide) (fun Kz hKz => ?_); go_simp; refine hKz _ _ ⟨?_, ?_⟩; (focus (rw [listed_nil (by simp [go_sem, *])]; exact DWk.idle)); clear hKz Kz; simp only [grow_self])
    ((refine GoesG.step rfl (fun _ hz₁ => ?_); replace hF := KR.rely hF hz₁; clear hz₁); refine goes_oper_k rfl rfl (by decide) (fun Kz hKz => ?_); go_simp; refine hKz _ _ ⟨?_, ?_⟩; (focus (rw [listed_nil (by simp [go_sem, *])]; exact DWk.idle)); clear hKz Kz; simp only [grow_self])
    ((refine GoesG.step rfl (fun _ hz₁ => ?_); replace hF := KR.rely hF hz₁; clear hz₁); rw [stepG_region_end]; simp only [goes_go, grow_self]; refine ⟨DWk.idle, ?_⟩)
    ((refine GoesG.step rfl (fun _ hz₁ => ?_); replace hF := KR.rely hF hz₁; clear hz₁); rw [stepG_inLoop]; simp only [goes_go, grow_self]; refine ⟨DWk.idle, ?_⟩)
    exact (hgo _ _ _ _ rfl rfl rfl rfl (by simp) hF).le (by omega)

set_option maxRecDepth 100000 in
set_option maxHeartbeats 4000000 in
theorem loadG {v : Value} {ts : List TaskD} (ho : ops[i]? = some o) (hw : Region.wanted o (yielded ops a.tmps) = true) (hk : b.kind ≠ .early) (hop : o.op = .call { callee := .value (.func 49), args := args, argTypes := ats })
    (hargs : args.map a.eval = #[v]) (hv : TasksK K w v ts) (hg : GoodTs ts) (hF : (KR lk.tWg Wg C n K ci) W w [] W w)
    (hT : ∀ r W' w', (KR lk.tWg Wg C n K ci) W w [(r, ((loadL ts).map (Value.int .i64)).toArray, 3)] W' w' → (GoesG Try.prog false (RWk lk.tWg Wg C n K ci) (DWk C n K ci) Stop) mT W' (G (b.at (a.put o.dst (.slice (some ⟨r, 0, none⟩) 3 3)) (.inRegion ops rest :: k)) cs) w') :
    (GoesG Try.prog false (RWk lk.tWg Wg C n K ci) (DWk C n K ci) Stop) (mT + 60 + 300 * ts.length) W (G (b.at a (.inRegion ops (i :: rest) :: k)) cs) w := by
  have hloop := fun r W' w' T h1 h2 h3 h4 h5 h6 => loadLoopG ho hv hg hT ts.length 0 r W' w' T (by omega) h1 h2 h3 h4 h5 h6
  obtain ⟨A, c, rfl, l1, l2, hr⟩ := hv
  simp only [loadLoop, loadEnd, codeAt, Try.f49, Option.getD_some] at hloop
  refine GoesG.le (n := mT + 20 + 300 * ts.length + 16 + 12 + 6) (by omega) ?_
  (refine GoesG.step rfl (fun _ hz₁ => ?_); replace hF := KR.rely hF hz₁; clear hz₁)
  refine goes_call ho hw hk hop Try.func49 (by kernel_rfl) rfl ⟨DWk.idle, ?_⟩
  simp only [grow_self, hargs]
  walk_nrmf Try.f49
  ((refine GoesG.step rfl (fun _ hz₁ => ?_); replace hF := KR.rely hF hz₁; clear hz₁); rw [stepG_seq]; simp only [goes_go, grow_self]; refine ⟨DWk.idle, ?_⟩)
  ((refine GoesG.step rfl (fun _ hz₁ => ?_); replace hF := KR.rely hF hz₁; clear hz₁); rw [stepG_region]; simp only [goes_go, grow_self, List.size_toArray, List.length_cons, List.length_nil, Nat.zero_add, List.range, List.range.loop]; refine ⟨DWk.idle, ?_⟩)
  ((refine GoesG.step rfl (fun _ hz₁ => ?_); replace hF := KR.rely hF hz₁; clear hz₁); refine goes_oper_k rfl rfl (by decide) (fun Kz hKz => ?_); go_simp; refine hKz _ _ ⟨?_, ?_⟩; (focus (rw [listed_nil (by simp [go_sem, *])]; exact DWk.idle)); clear hKz Kz; simp only [grow_self])
  ((refine GoesG.step rfl (fun _ hz₁ => ?_); replace hF := KR.rely hF hz₁; clear hz₁); rw [stepG_region_end]; simp only [goes_go, grow_self]; refine ⟨DWk.idle, ?_⟩)
  ((refine GoesG.step rfl (fun _ hz₁ => ?_); replace hF := KR.rely hF hz₁; clear hz₁); rw [stepG_seq]; simp only [goes_go, grow_self]; refine ⟨DWk.idle, ?_⟩)
  refine GoesG.le (n := mT + 20 + 300 * ts.length + 15 + 12 + 1) (by omega) ?_
  ((refine GoesG.step rfl (fun _ hz₁ => ?_); replace hF := KR.rely hF hz₁; clear hz₁); rw [stepG_region]; simp only [goes_go, grow_self, List.size_toArray, List.length_cons, List.length_nil, Nat.reduceAdd, Nat.zero_add, List.range, List.range.loop]; refine ⟨DWk.idle, ?_⟩)
  refine zerosG rfl rfl (by decide) rfl hF.here fun r' W1 w1 hF1 => ?_
  replace hF := (hF.call hF1).top
  clear hF1
  walk_nrm
  ((refine GoesG.step rfl (fun _ hz₁ => ?_); replace hF := KR.rely hF hz₁; clear hz₁); refine goes_oper_k rfl rfl (by decide) (fun Kz hKz => ?_); go_simp; refine hKz _ _ ⟨?_, ?_⟩; (focus (rw [listed_nil (by simp [go_sem, *])]; exact DWk.idle)); clear hKz Kz; simp only [grow_self])
  ((refine GoesG.step rfl (fun _ hz₁ => ?_); replace hF := KR.rely hF hz₁; clear hz₁); rw [stepG_region_end]; simp only [goes_go, grow_self]; refine ⟨DWk.idle, ?_⟩)
  ((refine GoesG.step rfl (fun _ hz₁ => ?_); replace hF := KR.rely hF hz₁; clear hz₁); rw [stepG_seq]; simp only [goes_go, grow_self]; refine ⟨DWk.idle, ?_⟩)
  ((refine GoesG.step rfl (fun _ hz₁ => ?_); replace hF := KR.rely hF hz₁; clear hz₁); rw [stepG_seq]; simp only [goes_go, grow_self]; refine ⟨DWk.idle, ?_⟩)
  ((refine GoesG.step rfl (fun _ hz₁ => ?_); replace hF := KR.rely hF hz₁; clear hz₁); rw [stepG_region]; simp only [goes_go, grow_self, List.size_toArray, List.length_cons, List.length_nil, Nat.reduceAdd, Nat.zero_add, List.range, List.range.loop]; refine ⟨DWk.idle, ?_⟩)
  ((refine GoesG.step rfl (fun _ hz₁ => ?_); replace hF := KR.rely hF hz₁; clear hz₁); refine goes_oper_k rfl rfl (by decide) (fun Kz hKz => ?_); go_simp; refine hKz _ _ ⟨?_, ?_⟩; (focus (rw [listed_nil (by simp [go_sem, *])]; exact DWk.idle)); clear hKz Kz; simp only [grow_self])
  ((refine GoesG.step rfl (fun _ hz₁ => ?_); replace hF := KR.rely hF hz₁; clear hz₁); refine goes_oper_k rfl rfl (by decide) (fun Kz hKz => ?_); go_simp; refine hKz _ _ ⟨?_, ?_⟩; (focus (rw [listed_nil (by simp [go_sem, *])]; exact DWk.idle)); clear hKz Kz; simp only [grow_self])
  ((refine GoesG.step rfl (fun _ hz₁ => ?_); replace hF := KR.rely hF hz₁; clear hz₁); refine goes_oper_k rfl rfl (by decide) (fun Kz hKz => ?_); go_simp; refine hKz _ _ ⟨?_, ?_⟩; (focus (rw [listed_nil (by simp [go_sem, *])]; exact DWk.idle)); clear hKz Kz; simp only [grow_self])
  ((refine GoesG.step rfl (fun _ hz₁ => ?_); replace hF := KR.rely hF hz₁; clear hz₁); rw [stepG_region_end]; simp only [goes_go, grow_self]; refine ⟨DWk.idle, ?_⟩)
  ((refine GoesG.step rfl (fun _ hz₁ => ?_); replace hF := KR.rely hF hz₁; clear hz₁); rw [stepG_block]; simp only [goes_go, grow_self]; refine ⟨DWk.idle, ?_⟩)
  ((refine GoesG.step rfl (fun _ hz₁ => ?_); replace hF := KR.rely hF hz₁; clear hz₁); rw [stepG_loop]; simp only [goes_go, grow_self]; refine ⟨DWk.idle, ?_⟩)
  exact (hloop _ _ _ _ rfl rfl rfl rfl rfl hF).le (by omega)
end
end Go.Proofs.Ytcfpilkhjpegcaa
