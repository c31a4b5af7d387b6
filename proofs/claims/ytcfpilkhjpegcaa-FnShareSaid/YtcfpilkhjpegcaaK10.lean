/- The program's copies: ints, a task, tasks. -/
import Derived.Test.YtcfpilkhjpegcaaK9
import Derived.Test.YtcfpilkhjpegcaaK4
import Derived.Test.YtcfpilkhjpegcaaK2
import Derived.Test.YtcfpilkhjpegcaaK3
import Derived.Test.YtcfpilkhjpegcaaK7
import Derived.Laws.CopyRow
import Derived.Laws.CopyOwn
namespace Go.Proofs.Ytcfpilkhjpegcaa
open Go.RowKit
set_option maxRecDepth 4000

end Go.Proofs.Ytcfpilkhjpegcaa

/- The program's copy of a cluster. -/
namespace Go.Proofs.Ytcfpilkhjpegcaa
open Go.RowKit
set_option maxRecDepth 4000

/-- units by their cells, wherever these lie -/
def RUc (w : World) (v : Value) (us : List UnitD) : Prop := ∃ A c, v = .slice A us.length c ∧ us.length ≤ c ∧ c ≤ 9223372036854775807 ∧
    ∀ (j : Nat), j < us.length → ∃ b o x An cn, A = some ⟨b, o, none⟩ ∧ Hid (us[j]? = some x) ∧ w.cell? ⟨b, o + j * 2, none⟩ = some (.bool x.opened) ∧ w.cell? ⟨b, o + j * 2 + 1, none⟩ = some (.slice An x.tasks.length cn) ∧ RT w (.slice An x.tasks.length cn) x.tasks
theorem RUc.ext {w w' : World} {v : Value} {us : List UnitD} (h : RUc w v us) (ha : Ext w w') : RUc w' v us := by
  obtain ⟨A, c, h1, h2, h3, h⟩ := h
  refine ⟨A, c, h1, h2, h3, fun j hj => ?_⟩
  obtain ⟨b, o, x, An, cn, e1, e2, e3, e4, e5⟩ := h j hj
  exact ⟨b, o, x, An, cn, e1, e2, ha.cell e3, ha.cell e4, e5.ext ha⟩
theorem RUc.of {w : World} {v : Value} {us : List UnitD} (h : RU w v us) : RUc w v us := RU.get h

end Go.Proofs.Ytcfpilkhjpegcaa

/- The program's host: its block, and how it is filled. -/
namespace Go.Proofs.Ytcfpilkhjpegcaa
open Go.RowKit
set_option maxRecDepth 4000

theorem run_copy_sz (P : Program) (w : World) (dT sT ty elem : TypeId) (g o dLen dCap : Nat) (a : Addr) (sLen sCap : Nat) (cur : Array Value) (t : TypeId) (cs : List Value) (i : TypeInfo) (s : Nat)
    (hu : P.underlying dT = some (.slice elem)) (hi : P.info? elem = some i) (hs : i.size = s)
    (hg : w.heap[g]? = some (.cells cur t (0, 0))) (hn : cs.length = Nat.min sLen dLen * s)
    (hsrc : ∀ j v, cs[j]? = some v → w.cell? (a.add j) = some v) (hfit : o + cs.length ≤ cur.size) (h1 : ∀ v ∈ cs, v.oneCell' = true) :
    (Builtin.copy_ #[dT, sT] ty #[.slice (some ⟨g, o, none⟩) dLen dCap, .slice (some a) sLen sCap]).run P w =
      .ok (goInt (Nat.min sLen dLen)) (w.setRow g (cur.toList.take o ++ cs ++ cur.toList.drop (o + cs.length)).toArray) := by
  have hl := run_loadCells_list (P := P) w a cs hsrc
  have hst := run_storeCells_at P g o t cs 0 cur w hg (by simpa using hfit) h1
  simp [Builtin.copy_, run_underlying hu, Builtin.lenOf, Builtin.firstCells, sizeOf, typeInfo, hi, hs, ← hn, hl, hst]
theorem step_copy_sz {P : Program} {ops : Array Oper} {o : Oper} {a : Act} {w : World} {K : Act → World → Prop} {Q : Exit → Act → World → Prop} {X : Prop} (hgd : o.guard = none) (d s : Operand) (dT sT : TypeId)
    (ho : o.op = .call { callee := .builtin .copy, args := #[d, s], argTypes := #[dT, sT] }) (elem : TypeId) (i : TypeInfo) (sz : Nat) (hu : P.underlying dT = some (.slice elem)) (hi : P.info? elem = some i) (hs : i.size = sz)
    (g off dLen dCap : Nat) (ad : Addr) (sLen sCap : Nat) (hd : a.eval d = .slice (some ⟨g, off, none⟩) dLen dCap) (hsv : a.eval s = .slice (some ad) sLen sCap)
    (cur : List Value) (t : TypeId) (hg : w.heap[g]? = some (.cells cur.toArray t (0, 0))) (cs : List Value) (hn : cs.length = Nat.min sLen dLen * sz)
    (hsrc : ∀ j v, cs[j]? = some v → w.cell? (ad.add j) = some v) (hfit : off + cs.length ≤ cur.length) (h1 : ∀ v ∈ cs, v.oneCell' = true)
    (h : K (a.put o.dst (goInt (Nat.min sLen dLen))) (w.setRow g (cur.take off ++ cs ++ cur.drop (off + cs.length)).toArray)) :
    if Region.wanted o (yielded ops a.tmps) = true then Oper.wp P o a w K Q else X := by
  have hw : Region.wanted o (yielded ops a.tmps) = true := by simp [Region.wanted, hgd]
  rw [if_pos hw]
  have hrun := run_copy_sz P w dT sT o.type elem g off dLen dCap ad sLen sCap cur.toArray t cs i sz hu hi hs hg hn hsrc (by simpa using hfit) h1
  unfold Oper.wp execOp
  simp only [ho, resolve, invoke, builtin, Sem.run_bind, Sem.run_pure, Result.andThen_ok, List.map_toArray, List.map_cons, List.map_nil, hd, hsv, hrun]
  exact h

/-- what a row of the call's own holds, cell by cell -/
theorem Own.src {α : Type} {e : TypeId} {size : Nat} {E : Enc α} {w : World} {base g n c : Nat} {xs : List α} (h : Own e size E w base (.slice (some ⟨g, 0, none⟩) n c) xs) : ∃ cells, Cells size E w cells xs ∧ ∀ j v, cells[j]? = some v → w.cell? ((⟨g, 0, none⟩ : Addr).add j) = some v := by
  obtain ⟨cells, ho, hc⟩ := h
  refine ⟨cells, hc, fun j v hj => ?_⟩
  rcases ho.2 with ⟨h1, _⟩ | ⟨g', cap, cur, h1, _, hg, hl, hm, _, ht⟩
  · cases h1
  · injection h1 with h1 _ _
    injection h1 with h1
    injection h1 with h1 _ _
    subst h1
    have ha : (⟨g, 0, none⟩ : Addr).add j = ⟨g, j, none⟩ := by unfold Addr.add; split <;> simp_all
    rw [ha, cell_of_row w g j cur e (0, 0) hg]
    rw [← ht, List.getElem?_take] at hj
    split at hj
    · simpa using hj
    · cases hj
theorem Cells.flat {α : Type} {size : Nat} {E : Enc α} (hf : E.Flat) (hs : 0 < size) {w : World} {cells : List Value} {xs : List α} (h : Cells size E w cells xs) : ∀ v ∈ cells, v.oneCell' = true := by
  intro u hu
  obtain ⟨k, hk⟩ := List.getElem?_of_mem hu
  have hk' : k < xs.length * size := by rw [← h.1]; exact (List.getElem?_eq_some_iff.1 hk).1
  have hj : k / size < xs.length := Nat.div_lt_of_lt_mul (by rw [Nat.mul_comm]; exact hk')
  obtain ⟨cs, hl, he, hcc⟩ := h.2 (k / size) xs[k / size] (List.getElem?_eq_getElem hj)
  have hm : k % size < cs.length := by rw [hl]; exact Nat.mod_lt _ hs
  have := hcc (k % size) cs[k % size] (List.getElem?_eq_getElem hm)
  rw [Nat.mul_comm, Nat.div_add_mod, hk] at this
  injection this with this
  subst this
  exact hf _ _ _ he _ (List.getElem_mem hm)
/-- nodes that are not there -/
def zerosU (m : Nat) : List Value := (List.replicate m [Value.bool false, .slice none 0 0]).flatten
theorem zerosU_succ (m : Nat) : zerosU (m + 1) = [Value.bool false, .slice none 0 0] ++ zerosU m := by simp [zerosU, List.replicate_succ]
theorem zerosU_drop : ∀ (k m : Nat), (zerosU (m + k)).drop (k * 2) = zerosU m
  | 0, m => by simp
  | k + 1, m => by
    rw [show m + (k + 1) = (m + k) + 1 by omega, zerosU_succ, show (k + 1) * 2 = 2 + k * 2 by omega, ← List.drop_drop]
    exact zerosU_drop k m
theorem zerosU_cells (base : Nat) (w : World) : ∀ m, Cells 2 (EUV base) w (zerosU m) (List.replicate m ((⟨false, []⟩ : UnitD), (.slice none 0 0 : Value)))
  | 0 => Cells.nil_ _ _ _
  | m + 1 => by
    rw [zerosU_succ, List.replicate_succ, ← List.singleton_append]
    exact Cells.app (Cells.one rfl ⟨rfl, Own.none_ _ _ _ _ _⟩) (zerosU_cells base w m)
theorem SameT.setRow {w : World} {g : Nat} {cur cs : Array Value} {e : TypeId} {fr : Nat × Nat} (hg : w.heap[g]? = some (.cells cur e fr)) {T : TypeId → Prop} (hT : ∀ t, T t → t ≠ e) : SameT T w (w.setRow g cs) := by
  intro k cur' t fr' ht hk
  by_cases h : k = g
  · subst h
    rw [hg] at hk
    injection hk with hk
    injection hk with _ h2 _
    exact absurd h2.symm (hT t ht)
  · rw [setRow_other w g k cs h]; exact hk
end Go.Proofs.Ytcfpilkhjpegcaa

/- The program's host, read and written. -/
namespace Go.Proofs.Ytcfpilkhjpegcaa
open Go.RowKit
set_option maxRecDepth 4000

theorem Gr.stored {b : Nat} {w x : World} (h : Gr b w x) {g : Nat} (hg : w.heap.size ≤ g) (i : Nat) (u : Value) : Gr b w (x.setCell ⟨g, i, none⟩ u) :=
  ⟨by simpa [World.setCell] using h.os, by simpa [World.setCell] using h.tape, by simpa [World.setCell] using h.output, by simpa [World.setCell] using h.size, fun k hk hn => (Below.heap_setCell _ _ _ _ (by show k ≠ g; omega)).trans (h.block k hk hn)⟩
theorem Ext.of_gr {b : Nat} {w w' : World} (h : Gr b w w') (hb : w'.heap[b]? = w.heap[b]?) : Ext w w' :=
  ⟨h.os, h.tape, h.output, h.size, fun k hk => by
    by_cases hkb : k = b
    · subst hkb; exact hb
    · exact h.block k hk (by intro he; injection he with he; exact hkb he)⟩
section
variable {w w' : World} {H base : Nat} {C : ClusD} {ps : List (UnitD × Value)} {rv : Value} {cells : List Value} {l : Int}
end
theorem Below.drew_ {w : World} : Ext w w.drew := Below.drew (Below.refl _ _)

end Go.Proofs.Ytcfpilkhjpegcaa
