/- The program holds the functions of sync.WaitGroup. -/
import Derived.Test.YtcfpilkhjpegcaaK4
import Derived.Test.YtcfpilkhjpegcaaK58
namespace Go.Proofs.Ytcfpilkhjpegcaa
open Go.RowKit
set_option maxRecDepth 4000

abbrev lk : Go.Conc.Lib.WgLink := { add := 67, done := 69, wait := 70, relMerge := 92, disable := 93, enable := 94, inBubble := 95, associate := 96, fatal := 97, uOr := 98, uAdd := 99, raceRead := 100, uLoad := 101, uStore := 102, disassociate := 103, semrelease := 104, acquire := 105, isAssociated := 106, uCas := 107, raceWrite := 108, semacquire := 109, orU64 := 123, addU64 := 124, loadU64 := 125, storeU64 := 126, casU64 := 127, tWgP := 118, tUP := 120, tAssoc := 122, tWg := 97, tAU := 94, tU64 := 92, tUint := 126, tU32 := 95, tPU32 := 127, tPAU := 142, tPU64 := 144, tNoCopy := 89, tANoCopy := 90, tAlign64 := 91 }
theorem wgl : Go.Conc.Lib.WgLib Try.prog lk :=
  ⟨Try.func67, Try.func69, Try.func70, Try.func92, Try.func93, Try.func94, Try.func95, Try.func96, Try.func97, Try.func98, Try.func99, Try.func100, Try.func101, Try.func102, Try.func103, Try.func104, Try.func105, Try.func106, Try.func107, Try.func108, Try.func109, Try.func123, Try.func124, Try.func125, Try.func126, Try.func127, Try.underlying118, Try.runUnderlying118, Try.sizeOf118, Try.isAgg118, Try.zeroValue118, Try.underlying120, Try.runUnderlying120, Try.sizeOf120, Try.isAgg120, Try.zeroValue120, Try.underlying122, Try.runUnderlying122, Try.sizeOf122, Try.isAgg122, Try.zeroValue122, Try.underlying97, Try.runUnderlying97, Try.sizeOf97, Try.isAgg97, Try.zeroValue97, Try.underlying94, Try.runUnderlying94, Try.sizeOf94, Try.isAgg94, Try.zeroValue94, Try.underlying92, Try.runUnderlying92, Try.sizeOf92, Try.isAgg92, Try.zeroValue92, Try.underlying126, Try.runUnderlying126, Try.sizeOf126, Try.isAgg126, Try.zeroValue126, Try.underlying95, Try.runUnderlying95, Try.sizeOf95, Try.isAgg95, Try.zeroValue95, Try.underlying127, Try.runUnderlying127, Try.sizeOf127, Try.isAgg127, Try.zeroValue127, Try.underlying142, Try.runUnderlying142, Try.sizeOf142, Try.isAgg142, Try.zeroValue142, Try.underlying144, Try.runUnderlying144, Try.sizeOf144, Try.isAgg144, Try.zeroValue144, Try.underlying0, Try.runUnderlying0, Try.sizeOf0, Try.isAgg0, Try.zeroValue0, Try.underlying3, Try.runUnderlying3, Try.sizeOf3, Try.isAgg3, Try.zeroValue3, Try.underlying4, Try.runUnderlying4, Try.sizeOf4, Try.isAgg4, Try.zeroValue4, Try.underlying9, Try.runUnderlying9, Try.sizeOf9, Try.isAgg9, Try.zeroValue9, Try.underlying20, Try.runUnderlying20, Try.sizeOf20, Try.isAgg20, Try.zeroValue20, Try.underlying21, Try.runUnderlying21, Try.sizeOf21, Try.isAgg21, Try.zeroValue21, (by kernel_rfl), (by kernel_rfl)⟩
/-- The payload's cells are vectors. -/
instance : Go.ConcR.Payload := ⟨55⟩
end Go.Proofs.Ytcfpilkhjpegcaa

/- The program's zeros, sums of vectors, in company. -/
namespace Go.Proofs.Ytcfpilkhjpegcaa
open Go Go.Conc Go.ConcN Go.RowKit

theorem hmk3E (w : World) : (Instr.makeSlice 55 (.int .i64 3) (.int .i64 3)).events Try.prog w #[] = #[] := by kernel_rfl

section
variable {Wg C n : Nat} {K : Nat → Prop} {ci : Nat} {W : Nat → Prop} {w : World} {Stop : (Nat → Prop) → Goroutine → World → Prop}
  {b : Frame} {a : Act} {ops : Array Oper} {i : Nat} {rest : List Nat} {o : Oper} {k : List Item} {cs : List Frame} {mT : Nat} {ats : Array TypeId}

set_option maxRecDepth 100000 in
theorem zerosG (ho : ops[i]? = some o) (hw : Region.wanted o (yielded ops a.tmps) = true) (hk : b.kind ≠ .early) (hop : o.op = .call { callee := .value (.func 65), args := #[], argTypes := ats })
    (hF : (KR lk.tWg Wg C n K ci) W w [] W w)
    (hT : ∀ r W' w', (KR lk.tWg Wg C n K ci) W w [(r, #[.int .i64 0, .int .i64 0, .int .i64 0], 3)] W' w' → (GoesG Try.prog false (RWk lk.tWg Wg C n K ci) (DWk C n K ci) Stop) mT W' (G (b.at (a.put o.dst (.slice (some ⟨r, 0, none⟩) 3 3)) (.inRegion ops rest :: k)) cs) w') :
    (GoesG Try.prog false (RWk lk.tWg Wg C n K ci) (DWk C n K ci) Stop) (mT + 12) W (G (b.at a (.inRegion ops (i :: rest) :: k)) cs) w := by
  (refine GoesG.step rfl (fun _ hz₁ => ?_); replace hF := KR.rely hF hz₁; clear hz₁)
  refine goes_call ho hw hk hop Try.func65 (by kernel_rfl) rfl ⟨DWk.idle, ?_⟩
  simp only [grow_self]
  have hmk := hmk3
  have hme := hmk3E
  walk_nrmf Try.f65
  ((refine GoesG.step rfl (fun _ hz₁ => ?_); replace hF := KR.rely hF hz₁; clear hz₁); rw [stepG_seq]; simp only [goes_go, grow_self]; refine ⟨DWk.idle, ?_⟩)
  ((refine GoesG.step rfl (fun _ hz₁ => ?_); replace hF := KR.rely hF hz₁; clear hz₁); rw [stepG_region]; simp only [goes_go, grow_self, List.size_toArray, List.length_cons, List.length_nil, Nat.zero_add, List.range, List.range.loop]; refine ⟨DWk.idle, ?_⟩)
  ((refine GoesG.step rfl (fun _ hz₁ => ?_); replace hF := KR.rely hF hz₁; clear hz₁); refine goes_oper_k rfl rfl (by decide) (fun Kz hKz => ?_); go_simp; refine hKz _ _ ⟨?_, ?_⟩; (focus (rw [listed_nil (by simp [go_sem, *])]; exact DWk.idle)); clear hKz Kz; simp only [grow_self])
  ((refine GoesG.step rfl (fun _ hz₁ => ?_); replace hF := KR.rely hF hz₁; clear hz₁); rw [stepG_region_end]; simp only [goes_go, grow_self]; refine ⟨DWk.idle, ?_⟩)
  ((refine GoesG.step rfl (fun _ hz₁ => ?_); replace hF := KR.rely hF hz₁; clear hz₁); rw [stepG_seq]; simp only [goes_go, grow_self]; refine ⟨DWk.idle, ?_⟩)
  ((refine GoesG.step rfl (fun _ hz₁ => ?_); replace hF := KR.rely hF hz₁; clear hz₁); rw [stepG_region]; simp only [goes_go, grow_self, List.size_toArray, List.length_cons, List.length_nil, Nat.reduceAdd, Nat.zero_add, List.range, List.range.loop]; refine ⟨DWk.idle, ?_⟩)
  ((refine GoesG.step rfl (fun _ hz₁ => ?_); replace hF := KR.rely hF hz₁; clear hz₁); (skip); refine goes_oper_k rfl rfl (by decide) (fun Kz hKz => ?_); go_simp; refine hKz _ _ ⟨?_, ?_⟩; (focus (refine DWk.alloc _ (Nat.lt_of_lt_of_le (KR.hC hF) (KR.rel hF).size) (fun ez hez => ?_); have hmz := mem_listed hez; simp [go_sem, *] at hmz; try exact hmz)); clear hKz Kz)
  replace hF := hF.alloc #[.int .i64 0, .int .i64 0, .int .i64 0] 3
  ((refine GoesG.step rfl (fun _ hz₁ => ?_); replace hF := KR.rely hF hz₁; clear hz₁); refine goes_oper_k rfl rfl (by decide) (fun Kz hKz => ?_); go_simp; refine hKz _ _ ⟨?_, ?_⟩; (focus (rw [listed_nil (by simp [go_sem, *])]; exact DWk.idle)); clear hKz Kz; simp only [grow_self])
  ((refine GoesG.step rfl (fun _ hz₁ => ?_); replace hF := KR.rely hF hz₁; clear hz₁); rw [stepG_region_end]; simp only [goes_go, grow_self]; refine ⟨DWk.idle, ?_⟩)
  ((refine GoesG.step rfl (fun _ hz₁ => ?_); replace hF := KR.rely hF hz₁; clear hz₁); rw [stepG_ret']; simp only [goes_go, grow_self]; refine ⟨DWk.idle, ?_⟩)
  (refine GoesG.step rfl (fun _ hz₁ => ?_); replace hF := KR.rely hF hz₁; clear hz₁)
  refine goes_leave1 rfl rfl Try.func65 rfl ⟨DWk.idle, ?_⟩
  simp only [grow_self]
  rw [show (ops[i]?).bind (·.dst) = o.dst by rw [ho]; rfl]
  exact hT _ _ _ hF
end
end Go.Proofs.Ytcfpilkhjpegcaa

/- The program's sums of vectors, in company. -/
namespace Go.Proofs.Ytcfpilkhjpegcaa
open Go Go.Conc Go.ConcN Go.RowKit

/-- A piece of a function's text, by its place. -/
def codeAt : Code → List Nat → Code
  | c, [] => c
  | .seq x _, 0 :: l => codeAt x l
  | .seq _ y, _ :: l => codeAt y l
  | .block _ x, _ :: l => codeAt x l
  | .loop x, _ :: l => codeAt x l
  | .cond _ x _, 0 :: l => codeAt x l
  | .cond _ _ y, _ :: l => codeAt y l
  | c, _ => c

/-- A vector that may be read. -/
def VecK (K W : Nat → Prop) (w : World) (v : Value) (xs : List Int) : Prop :=
  ∃ b o c, v = .slice (some ⟨b, o, none⟩) xs.length c ∧ xs.length ≤ c ∧ c ≤ 9223372036854775807 ∧ (K b ∨ W b) ∧ ∀ j x, xs[j]? = some x → w.cell? ⟨b, o + j, none⟩ = some (.int .i64 x)

theorem array27 (T : Array Value) (h : T.size = 27) : ∃ v0 v1 v2 v3 v4 v5 v6 v7 v8 v9 v10 v11 v12 v13 v14 v15 v16 v17 v18 v19 v20 v21 v22 v23 v24 v25 v26, T = #[v0, v1, v2, v3, v4, v5, v6, v7, v8, v9, v10, v11, v12, v13, v14, v15, v16, v17, v18, v19, v20, v21, v22, v23, v24, v25, v26] := by
  obtain ⟨l⟩ := T
  match l, h with
  | [v0, v1, v2, v3, v4, v5, v6, v7, v8, v9, v10, v11, v12, v13, v14, v15, v16, v17, v18, v19, v20, v21, v22, v23, v24, v25, v26], _ => exact ⟨v0, v1, v2, v3, v4, v5, v6, v7, v8, v9, v10, v11, v12, v13, v14, v15, v16, v17, v18, v19, v20, v21, v22, v23, v24, v25, v26, rfl⟩

section
variable {P : Program} {ty : TypeId} {Wg C n : Nat} {K : Nat → Prop} {ci : Nat} {W : Nat → Prop} {w : World} {Stop : (Nat → Prop) → Goroutine → World → Prop}
  {b : Frame} {a : Act} {ops : Array Oper} {i : Nat} {rest : List Nat} {o : Oper} {k : List Item} {cs : List Frame} {m : Nat} [Go.ConcR.Payload]

/-- An operation that at most reads. -/
theorem GoesG.value {v : Value} (ho : ops[i]? = some o) (hw : Region.wanted o (yielded ops a.tmps) = true) (hk : b.kind ≠ .early) (hr : ∀ w₁, RWk ty Wg C n K ci W w w₁ → (execOp a.eval o).run P w₁ = .ok (.value v) w₁)
    (he : ∀ w₁, RWk ty Wg C n K ci W w w₁ → ∀ e ∈ (execOp a.eval o).events P w₁ #[], ∃ ad : Addr, e = ⟨.cell ad, false, false⟩ ∧ (K ad.block ∨ W ad.block))
    (hn : GoesG P false (RWk ty Wg C n K ci) (DWk C n K ci) Stop m W (G (b.at (a.put o.dst v) (.inRegion ops rest :: k)) cs) w) : GoesG P false (RWk ty Wg C n K ci) (DWk C n K ci) Stop (m + 1) W (G (b.at a (.inRegion ops (i :: rest) :: k)) cs) w :=
  GoesG.step rfl fun w₁ h₁ => by
    rw [stepG_value ho hw hk (hr w₁ h₁), goes_go, grow_self]
    exact ⟨DWk.reads fun e hm => he w₁ h₁ e (mem_listed hm), hn.rely (fun _ _ _ _ x y => x.trans y) h₁⟩
end

/-! ### the sum's drawn region -/
section
variable {Wg C n : Nat} {K : Nat → Prop} {ci : Nat} {Stop : (Nat → Prop) → Goroutine → World → Prop}

/-- The operations of a region. -/
def opsOf : Code → Array Oper
  | .region _ ops _ => ops
  | _ => #[]
noncomputable def plusOps : Array Oper := opsOf (codeAt (Try.f66.body.getD .skip) [1, 1, 0, 1, 0, 0, 1, 1, 0, 0, 1])

/-- What the round keeps beside the region's own temporaries. -/
structure PSl (va vb sl : Value) (kk : Nat) (a : Act) : Prop where
  defers : a.defers = []
  size : a.tmps.size = 27
  s0 : a.tmps.getD 0 undef = va
  s1 : a.tmps.getD 1 undef = vb
  s5 : a.tmps.getD 5 undef = sl
  s6 : a.tmps.getD 6 undef = .int .i64 kk
  s8 : a.tmps.getD 8 undef = sl
  s9 : a.tmps.getD 9 undef = .int .i64 3
  s10 : a.tmps.getD 10 undef = .int .i64 kk

theorem getD_setU {T : Array Value} {i j : Nat} (v : Value) (h : i ≠ j) : (T.setIfInBounds i v).getD j undef = T.getD j undef := by
  simp only [Array.getD_eq_getD_getElem?]
  rw [Array.getElem?_setIfInBounds_ne h]
theorem getD_setU_same {T : Array Value} {i : Nat} (v : Value) (h : i < T.size) : (T.setIfInBounds i v).getD i undef = v := by
  simp [Array.getD_eq_getD_getElem?, h]
theorem PSl.put {va vb sl : Value} {kk : Nat} {a : Act} (h : PSl va vb sl kk a) {t : Nat} (ht : 12 < t) (v : Value) : PSl va vb sl kk (a.put (some t) v) := by
  obtain ⟨h1, h2, h3, h4, h5, h6, h7, h8, h9⟩ := h
  refine ⟨h1, by simpa [Act.put] using h2, ?_, ?_, ?_, ?_, ?_, ?_, ?_⟩ <;> (simp only [Act.put]; rw [getD_setU _ (by omega)]; assumption)

/-- What each operation of the region yields. -/
def pval (va vb : Value) (ba oa bb ob r kk : Nat) (x y : Int) : Nat → Value
  | 0 => .slice (some ⟨r, 0, none⟩) 3 3
  | 1 => .int .i64 kk
  | 2 => va
  | 3 => .int .i64 kk
  | 4 => .pointer (some ⟨ba, oa + kk, none⟩)
  | 5 => .int .i64 x
  | 6 => vb
  | 7 => .int .i64 kk
  | 8 => .pointer (some ⟨bb, ob + kk, none⟩)
  | 9 => .int .i64 y
  | 10 => .int .i64 (x + y)
  | 11 => .pointer (some ⟨r, kk, none⟩)
  | _ => undef

set_option maxRecDepth 100000 in
set_option maxHeartbeats 4000000 in
theorem plusRegion {va vb : Value} {xs ys : List Int} {W0 W : Nat → Prop} {w0 w : World} {r kk : Nat} {row : Array Value} {x y : Int} {a : Act} {k : List Item} {cs : List Frame} {mT : Nat}
    (ha : VecK K W0 w0 va xs) (hb : VecK K W0 w0 vb ys) (hx : xs[kk]? = some x) (hy : ys[kk]? = some y) (hs : IntKind.i64.wrap (x + y) = x + y) (hk3 : kk < 3) (hrow : row.size = 3) (hla : xs.length = 3) (hlb : ys.length = 3) {z : Value} (hz : row[kk]? = some z)
    (hS : PSl va vb (.slice (some ⟨r, 0, none⟩) 3 3) kk a) (hF : (KR lk.tWg Wg C n K ci) W0 w0 [(r, row, 3)] W w)
    (hT : ∀ a' w', PSl va vb (.slice (some ⟨r, 0, none⟩) 3 3) kk a' → (KR lk.tWg Wg C n K ci) W0 w0 [(r, row.setIfInBounds kk (.int .i64 (x + y)), 3)] W w' → (GoesG Try.prog false (RWk lk.tWg Wg C n K ci) (DWk C n K ci) Stop) mT W (G ((base 66).at a' k) cs) w') :
    (GoesG Try.prog false (RWk lk.tWg Wg C n K ci) (DWk C n K ci) Stop) (mT + 1 + 1 * 13 + 1) W (G ((base 66).at a (.code (codeAt (Try.f66.body.getD .skip) [1, 1, 0, 1, 0, 0, 1, 1, 0, 0, 1]) :: k)) cs) w := by
  obtain ⟨ba, oa, ca, rfl, a1, a2, a3, a4⟩ := ha
  obtain ⟨bb, ob, cb, rfl, b1, b2, b3, b4⟩ := hb
  have i1 : (kk : Int) < (xs.length : Int) := by omega
  have i2 : (kk : Int) < (ys.length : Int) := by omega
  have i3 : (kk : Int) < 3 := by omega
  have cx := a4 kk x hx
  have cy := b4 kk y hy
  have e : codeAt (Try.f66.body.getD .skip) [1, 1, 0, 1, 0, 0, 1, 1, 0, 0, 1] = .region 5 plusOps true := by kernel_rfl
  rw [e]
  have hsz : plusOps.size = 13 := by kernel_rfl
  refine GoesG.draw (by kernel_rfl) (fun W w => DWk.draw W w) fun w₁ h₁ t => ?_
  replace hF := (hF.rely h₁).draw
  clear h₁ e
  let Inv : Array Bool → Act → (Nat → Prop) → World → Prop := fun l a W' w' => W' = W ∧ PSl (.slice (some ⟨ba, oa, none⟩) xs.length ca) (.slice (some ⟨bb, ob, none⟩) ys.length cb) (.slice (some ⟨r, 0, none⟩) 3 3) kk a ∧ (∀ j, j < 12 → l.getD j false = true → a.tmps.getD (13 + j) undef = pval (.slice (some ⟨ba, oa, none⟩) xs.length ca) (.slice (some ⟨bb, ob, none⟩) ys.length cb) ba oa bb ob r kk x y j) ∧
    ∃ z', (KR lk.tWg Wg C n K ci) W0 w0 [(r, row.setIfInBounds kk z', 3)] W' w' ∧ (l.getD 12 false = true → z' = .int .i64 (x + y))
  have key := GoesG.drawn (P := Try.prog) (main := false) (R := RWk lk.tWg Wg C n K ci) (Dg := DWk C n K ci) (Stop := Stop) (ops := plusOps) (b := base 66) (k := k) (cs := cs) Inv 1 (mT + 1) (by kernel_rfl) ?step ?done
  case done =>
    intro l a' W' w' hl hall ⟨e1, hS', _, z', hF', hz'⟩
    subst e1
    rw [hz' (hall 12 (by omega))] at hF'
    ((refine GoesG.step rfl (fun _ hz₁ => ?_); replace hF' := KR.rely hF' hz₁; clear hz₁); rw [stepG_region_end]; simp only [goes_go, grow_self]; refine ⟨DWk.idle, ?_⟩)
    exact hT _ _ hS' hF'
  case step =>
    intro l a' W' w' i o rest n' hl ho h0 hdep ⟨e1, hS', hv, z', hF', hz'⟩ hnext
    subst e1
    have hi13 : i < 13 := by
      have := (Array.getElem?_eq_some_iff.1 ho).1
      omega
    have vstep : ∀ (v : Value), i < 12 → v = pval (.slice (some ⟨ba, oa, none⟩) xs.length ca) (.slice (some ⟨bb, ob, none⟩) ys.length cb) ba oa bb ob r kk x y i → o.dst = some (13 + i) → Region.wanted o (yielded plusOps a'.tmps) = true →
        (∀ w₁, RWk lk.tWg Wg C n K ci W' w' w₁ → (execOp a'.eval o).run Try.prog w₁ = .ok (.value v) w₁) → (∀ w₁, RWk lk.tWg Wg C n K ci W' w' w₁ → ∀ e ∈ (execOp a'.eval o).events Try.prog w₁ #[], ∃ ad : Addr, e = ⟨.cell ad, false, false⟩ ∧ (K ad.block ∨ W' ad.block)) →
        (GoesG Try.prog false (RWk lk.tWg Wg C n K ci) (DWk C n K ci) Stop) (n' + 1) W' (G ((base 66).at a' (.inRegion plusOps (i :: rest) :: k)) cs) w' := by
      intro v hi hv' hd hw hr he
      refine GoesG.value ho hw (by decide) hr he (hnext _ _ _ ⟨rfl, ?_, ?_, z', hF', fun h => hz' ?_⟩)
      · rw [hd]; exact hS'.put (by omega) v
      · intro j hj hl'
        rw [hd]
        simp only [Act.put]
        by_cases e : j = i
        · subst e; rw [getD_setU_same _ (by rw [hS'.size]; omega)]; exact hv'
        · rw [getD_setU _ (by omega)]
          refine hv j hj ?_
          simpa [Array.getD_eq_getD_getElem?, Array.getElem?_setIfInBounds_ne (Ne.symm e)] using hl'
      · simpa [Array.getD_eq_getD_getElem?, Array.getElem?_setIfInBounds_ne (show i ≠ 12 by omega)] using h
    have ho1 := ho
    have hi : i = 0 ∨ i = 1 ∨ i = 2 ∨ i = 3 ∨ i = 4 ∨ i = 5 ∨ i = 6 ∨ i = 7 ∨ i = 8 ∨ i = 9 ∨ i = 10 ∨ i = 11 ∨ i = 12 := by omega
    simp only [plusOps, opsOf, codeAt, Try.f66, Option.getD_some] at ho1
    rcases hi with rfl | rfl | rfl | rfl | rfl | rfl | rfl | rfl | rfl | rfl | rfl | rfl | rfl <;> simp only [List.getElem?_toArray, List.getElem?_cons_zero, List.getElem?_cons_succ, Option.some.injEq] at ho1 <;> subst ho1
    · have e5 : a'.eval (.tmp 5) = .slice (some ⟨r, 0, none⟩) 3 3 := hS'.s5
      generalize a'.eval = ev at e5 vstep
      refine vstep _ (by omega) rfl rfl rfl (fun w₁ h₁ => ?_) (fun w₁ h₁ e he => ?_)
      · (go_simp; try rfl)
      · simp [go_sem, *] at he
    · have e6 : a'.eval (.tmp 6) = .int .i64 kk := hS'.s6
      generalize a'.eval = ev at e6 vstep
      refine vstep _ (by omega) rfl rfl rfl (fun w₁ h₁ => ?_) (fun w₁ h₁ e he => ?_)
      · (go_simp; try rfl)
      · simp [go_sem, *] at he
    · have e0 : a'.eval (.tmp 0) = .slice (some ⟨ba, oa, none⟩) xs.length ca := hS'.s0
      generalize a'.eval = ev at e0 vstep
      refine vstep _ (by omega) rfl rfl rfl (fun w₁ h₁ => ?_) (fun w₁ h₁ e he => ?_)
      · (go_simp; try rfl)
      · simp [go_sem, *] at he
    · have e6 : a'.eval (.tmp 6) = .int .i64 kk := hS'.s6
      generalize a'.eval = ev at e6 vstep
      refine vstep _ (by omega) rfl rfl rfl (fun w₁ h₁ => ?_) (fun w₁ h₁ e he => ?_)
      · (go_simp; try rfl)
      · simp [go_sem, *] at he
    · have e15 : a'.eval (.tmp 15) = .slice (some ⟨ba, oa, none⟩) xs.length ca := hv 2 (by omega) (hdep { on := 2, ground := .data } (by simp) rfl)
      have e16 : a'.eval (.tmp 16) = .int .i64 kk := hv 3 (by omega) (hdep { on := 3, ground := .data } (by simp) rfl)
      generalize a'.eval = ev at e15 e16 vstep
      refine vstep _ (by omega) rfl rfl rfl (fun w₁ h₁ => ?_) (fun w₁ h₁ e he => ?_)
      · (go_simp; try rfl)
      · simp [go_sem, *] at he
    · have e17 : a'.eval (.tmp 17) = .pointer (some ⟨ba, oa + kk, none⟩) := hv 4 (by omega) (hdep { on := 4, ground := .data } (by simp) rfl)
      generalize a'.eval = ev at e17 vstep
      refine vstep _ (by omega) rfl rfl rfl (fun w₁ h₁ => ?_) (fun w₁ h₁ e he => ?_)
      · have c1 := (hF'.rely h₁).cell a3 cx; (go_simp; try rfl)
      · have c1 := (hF'.rely h₁).cell a3 cx
        simp [go_sem, *] at he
        subst he
        exact ⟨_, rfl, a3.imp id (hF'.sub _)⟩
    · have e1 : a'.eval (.tmp 1) = .slice (some ⟨bb, ob, none⟩) ys.length cb := hS'.s1
      generalize a'.eval = ev at e1 vstep
      refine vstep _ (by omega) rfl rfl rfl (fun w₁ h₁ => ?_) (fun w₁ h₁ e he => ?_)
      · (go_simp; try rfl)
      · simp [go_sem, *] at he
    · have e6 : a'.eval (.tmp 6) = .int .i64 kk := hS'.s6
      generalize a'.eval = ev at e6 vstep
      refine vstep _ (by omega) rfl rfl rfl (fun w₁ h₁ => ?_) (fun w₁ h₁ e he => ?_)
      · (go_simp; try rfl)
      · simp [go_sem, *] at he
    · have e19 : a'.eval (.tmp 19) = .slice (some ⟨bb, ob, none⟩) ys.length cb := hv 6 (by omega) (hdep { on := 6, ground := .data } (by simp) rfl)
      have e20 : a'.eval (.tmp 20) = .int .i64 kk := hv 7 (by omega) (hdep { on := 7, ground := .data } (by simp) rfl)
      generalize a'.eval = ev at e19 e20 vstep
      refine vstep _ (by omega) rfl rfl rfl (fun w₁ h₁ => ?_) (fun w₁ h₁ e he => ?_)
      · (go_simp; try rfl)
      · simp [go_sem, *] at he
    · have e21 : a'.eval (.tmp 21) = .pointer (some ⟨bb, ob + kk, none⟩) := hv 8 (by omega) (hdep { on := 8, ground := .data } (by simp) rfl)
      generalize a'.eval = ev at e21 vstep
      refine vstep _ (by omega) rfl rfl rfl (fun w₁ h₁ => ?_) (fun w₁ h₁ e he => ?_)
      · have c1 := (hF'.rely h₁).cell b3 cy; (go_simp; try rfl)
      · have c1 := (hF'.rely h₁).cell b3 cy
        simp [go_sem, *] at he
        subst he
        exact ⟨_, rfl, b3.imp id (hF'.sub _)⟩
    · have e18 : a'.eval (.tmp 18) = .int .i64 x := hv 5 (by omega) (hdep { on := 5, ground := .data } (by simp) rfl)
      have e22 : a'.eval (.tmp 22) = .int .i64 y := hv 9 (by omega) (hdep { on := 9, ground := .data } (by simp) rfl)
      generalize a'.eval = ev at e18 e22 vstep
      refine vstep _ (by omega) rfl rfl rfl (fun w₁ h₁ => ?_) (fun w₁ h₁ e he => ?_)
      · (go_simp; try rfl)
      · simp [go_sem, *] at he
    · have e13 : a'.eval (.tmp 13) = .slice (some ⟨r, 0, none⟩) 3 3 := hv 0 (by omega) (hdep { on := 0, ground := .data } (by simp) rfl)
      have e14 : a'.eval (.tmp 14) = .int .i64 kk := hv 1 (by omega) (hdep { on := 1, ground := .data } (by simp) rfl)
      generalize a'.eval = ev at e13 e14 vstep
      refine vstep _ (by omega) rfl rfl rfl (fun w₁ h₁ => ?_) (fun w₁ h₁ e he => ?_)
      · (go_simp; try rfl)
      · simp [go_sem, *] at he
    · have e23 : a'.eval (.tmp 23) = .int .i64 (x + y) := hv 10 (by omega) (hdep { on := 10, ground := .data } (by simp) rfl)
      have e24 : a'.eval (.tmp 24) = .pointer (some ⟨r, kk, none⟩) := hv 11 (by omega) (hdep { on := 11, ground := .data } (by simp) rfl)
      refine GoesG.step rfl (fun w₁ h₁ => ?_)
      have hF1 := hF'.rely h₁
      have hrr : (row.setIfInBounds kk z')[kk]? = some z' := by rw [Array.getElem?_setIfInBounds_self_of_lt (by omega)]
      obtain ⟨c3, f3⟩ := hF1.row (List.mem_cons_self ..) hrr
      refine goes_oper_k ho rfl (by decide) (fun K' hK => ?_)
      generalize hev : a'.eval = ev at e23 e24 ⊢
      go_simp
      obtain ⟨g1, g2, _⟩ := hF1.rows _ (List.mem_cons_self ..)
      refine hK _ _ ⟨DWk.store g2 (hF1.own g1).2.2.1 fun e he => ?_, ?_⟩
      · have hm := mem_listed he
        rw [hev] at hm
        simp [go_sem, storedEv, *] at hm
        subst hm
        exact ⟨_, rfl, rfl⟩
      rw [grow_same (aside_setCell w₁ ⟨r, kk, none⟩ _).size]
      refine hnext _ _ _ ⟨rfl, hS', fun j hj hl' => hv j hj ?_, .int .i64 (x + y), ?_, fun _ => rfl⟩
      · simpa [Array.getD_eq_getD_getElem?, Array.getElem?_setIfInBounds_ne (show 12 ≠ j by omega)] using hl'
      · have := hF1.set (k := kk) (.int .i64 (x + y))
        rwa [Array.setIfInBounds_setIfInBounds] at this
  have h13 : (Array.replicate 13 false).toList.count false = 13 := by decide
  have := key 13 t (Array.replicate 13 false) a W { w₁ with drawn := w₁.drawn + 1 } (by rw [hsz]; rfl) h13 ⟨rfl, hS, fun j hj h => ?_, z, ?_, fun h => ?_⟩
  · unfold Region.linearise
    rw [hsz]
    exact this
  · exfalso
    revert h
    simp [Array.getD]
  · have : row.setIfInBounds kk z = row := by
      apply Array.ext_getElem?
      intro j
      by_cases e : kk = j
      · subst e; rw [Array.getElem?_setIfInBounds_self_of_lt (by omega)]; exact hz.symm
      · rw [Array.getElem?_setIfInBounds_ne e]
    rw [this]
    exact hF
  · exfalso
    revert h
    simp [Array.getD]
end
end Go.Proofs.Ytcfpilkhjpegcaa
