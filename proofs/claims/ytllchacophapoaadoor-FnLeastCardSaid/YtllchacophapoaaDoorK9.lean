/- Nodes all of whose rows are the call's own. -/
import Derived.Test.YtllchacophapoaaDoorK7
import Derived.Test.YtllchacophapoaaDoorK8
import Derived.Test.YtllchacophapoaaDoorK6
import Derived.Test.YtllchacophapoaaDoorK4
import Derived.Test.YtllchacophapoaaDoorK3
import Derived.Laws.CopyRow
import Derived.Laws.CopyOwn
namespace Go.Proofs.YtllchacophapoaaDoor
open Go.RowKit
set_option maxRecDepth 4000

/-- a node, with the values of its rows -/
structure BinW where
  tv : Value
  qs : List (TaskD × Value)
def BinW.d (u : BinW) : List TaskD := u.qs.map (·.1)
def EDB (base : Nat) : Enc BinW := fun w cs u => cs = [u.tv] ∧ ODT w base u.tv u.qs
theorem EDB.ok (base : Nat) : (EDB base).Ok (fun t => t = 44 ∨ t = 3) := fun _ _ _ _ ⟨h, hr⟩ ha => ⟨h, hr.same (EDT.ok base) ha⟩
theorem EDB.flat (base : Nat) : (EDB base).Flat := fun _ _ _ ⟨h, hr⟩ u hu => by
  obtain ⟨A, c, hv, _⟩ := hr.form
  rw [h] at hu; simp at hu; subst hu
  rw [hv]; rfl
theorem EDB.ne : ∀ t, (fun t => t = 44 ∨ t = 3) t → t ≠ 28 := by rintro t (rfl | rfl) <;> decide
abbrev ODB (w : World) (base : Nat) (v : Value) (us : List BinW) : Prop := Own 28 1 (EDB base) w base v us
theorem ODB.read {w : World} {base : Nat} {v : Value} {us : List BinW} (h : ODB w base v us) : RB w v (us.map BinW.d) := (Own.read h).map fun _ p ⟨h1, h2⟩ => ⟨p.tv, h1, h2.read⟩
theorem ODB.low {w : World} {base base' : Nat} {v : Value} {us : List BinW} (h : ODB w base v us) (hb : base' ≤ base) : ODB w base' v us :=
  Own.low (base' := base') (Own.far2 (E' := EDB base') h rfl (fun _ _ => rfl) (fun j cs x y hx hy he => by
    rw [hx] at hy
    injection hy with hy
    subst hy
    exact ⟨he.1, ODT.low he.2 hb⟩)) hb
theorem ODB.tasks {w : World} {base : Nat} {v : Value} {us : List BinW} (h : ODB w base v us) {u : BinW} (hu : u ∈ us) : ODT w base u.tv u.qs := by
  obtain ⟨cells, _, hc⟩ := h
  obtain ⟨k, hk⟩ := List.getElem?_of_mem hu
  obtain ⟨cs, _, he, _⟩ := hc.2 k u hk
  exact he.2
def rowBs (us : List BinW) : List Nat := us.filterMap fun u => u.tv.ownBlock
def binNs (us : List BinW) : List Nat := us.flatMap fun u => needBs u.qs
theorem rowBs_app (a b : List BinW) : rowBs (a ++ b) = rowBs a ++ rowBs b := by unfold rowBs; rw [List.filterMap_append]
theorem binNs_app (a b : List BinW) : binNs (a ++ b) = binNs a ++ binNs b := by unfold binNs; rw [List.flatMap_append]
theorem rowBs_one (p : BinW) : rowBs [p] = p.tv.ownBlock.toList := by
  unfold rowBs
  cases h : p.tv.ownBlock <;> simp [h]
theorem binNs_one (p : BinW) : binNs [p] = needBs p.qs := by unfold binNs; simp
theorem ODB.tlt {w : World} {base : Nat} {v : Value} {us : List BinW} (h : ODB w base v us) : ∀ g ∈ rowBs us, base ≤ g ∧ g < w.heap.size := by
  intro g hg
  obtain ⟨u, hu, hb⟩ := List.mem_filterMap.1 hg
  exact Own.lt (h.tasks hu) g hb
theorem ODB.ilt {w : World} {base : Nat} {v : Value} {us : List BinW} (h : ODB w base v us) : ∀ g ∈ binNs us, base ≤ g ∧ g < w.heap.size := by
  intro g hg
  obtain ⟨u, hu, hb⟩ := List.mem_flatMap.1 hg
  exact ODT.lt (h.tasks hu) g hb
theorem ODB.far {w w' : World} {base : Nat} {v : Value} {us : List BinW} (h : ODB w base v us) (hb : ∀ k, v.ownBlock = some k → w'.heap[k]? = w.heap[k]?) (hg : ∀ g ∈ rowBs us, w'.heap[g]? = w.heap[g]?) (hi : ∀ g ∈ binNs us, w'.heap[g]? = w.heap[g]?) : ODB w' base v us :=
  Own.far h hb (fun _ u hu ⟨he, ht⟩ => ⟨he, ODT.far ht (fun k hk => hg k (List.mem_filterMap.2 ⟨u, hu, hk⟩)) (fun g hm => hi g (List.mem_flatMap.2 ⟨u, hu, hm⟩))⟩)
theorem rows_apart {us : List BinW} (h : (rowBs us).Nodup) {i k : Nat} {p q : BinW} (hi : us[i]? = some p) (hk : us[k]? = some q) (hik : i ≠ k) {a : Nat} (ha : p.tv.ownBlock = some a) : q.tv.ownBlock ≠ some a := by
  intro hb
  unfold rowBs at h
  rw [List.nodup_iff_pairwise_ne, List.pairwise_filterMap, List.pairwise_iff_getElem] at h
  obtain ⟨li, ei⟩ := List.getElem?_eq_some_iff.1 hi
  obtain ⟨lk, ek⟩ := List.getElem?_eq_some_iff.1 hk
  rcases Nat.lt_or_gt_of_ne hik with hlt | hlt
  · exact h i k li lk hlt a (by rw [ei]; exact ha) a (by rw [ek]; exact hb) rfl
  · exact h k i lk li hlt a (by rw [ek]; exact hb) a (by rw [ei]; exact ha) rfl
/-- a node's row in the row of nodes -/
theorem ODB.at_ {w : World} {base g n c : Nat} {us : List BinW} (h : ODB w base (.slice (some ⟨g, 0, none⟩) n c) us) {k : Nat} {u : BinW} (hk : us[k]? = some u) :
    w.cell? ⟨g, k, none⟩ = some u.tv ∧ w.frozen? ⟨g, k, none⟩ = false ∧ ODT w base u.tv u.qs ∧ u.tv.ownBlock ≠ some g := by
  obtain ⟨cs, _, ⟨he, hn⟩, hc⟩ := Own.at_ h hk
  subst he
  exact ⟨by simpa using hc 0 _ rfl, h.frozen_ _, hn, fun e => Own.block_ne (by decide) hn h e rfl⟩
/-- one node's row has turned, and the node takes it -/
theorem ODB.turn {w w' : World} {base g n c : Nat} {us : List BinW} (h : ODB w base (.slice (some ⟨g, 0, none⟩) n c) us) (hnd : (rowBs us).Nodup) {k : Nat} {u : BinW} (hk : us[k]? = some u) (hg : ∀ q, q < w.heap.size → u.tv.ownBlock ≠ some q → w'.heap[q]? = w.heap[q]?) {y : BinW} (ht : ODT w' base y.tv y.qs) :
    ODB (w'.setCell ⟨g, k, none⟩ y.tv) base (.slice (some ⟨g, 0, none⟩) n c) (us.set k y) ∧ SameT (fun t => t ≠ 28) w' (w'.setCell ⟨g, k, none⟩ y.tv) := by
  have h0 := h
  have hug := (ODB.at_ h hk).2.2.2
  have hug2 := (ODB.at_ h hk).2.2.1
  obtain ⟨cells, ho, hc⟩ := h
  have hn : n = us.length := by
    rcases ho.2 with ⟨h1, _⟩ | ⟨g', cap, cur, h1, _⟩
    · cases h1
    · injection h1
  subst hn
  rcases ho.2 with ⟨h1, _⟩ | ⟨g', cap, cur, h1, hb, hh, hr⟩
  · cases h1
  have h1' := h1
  injection h1 with h1 _ _
  injection h1 with h1
  injection h1 with h1 _ _
  subst h1
  have hh' : w'.heap[g]? = some (.cells cur 28 (0, 0)) := (hg g (obj_lt hh) hug).trans hh
  have ho' : w'.ownsRow base 28 1 (.slice (some ⟨g, 0, none⟩) us.length c) us.length cells := ⟨ho.1, .inr ⟨g, cap, cur, h1', hb, hh', hr⟩⟩
  have hs2 : SameT (fun t => t ≠ 28) w' (w'.setCell ⟨g, k, none⟩ y.tv) := SameT.setCell (p := ⟨g, k, none⟩) hh' y.tv (fun t ht => ht)
  have hst := ho'.stored k y.tv
  refine ⟨⟨cells.set k y.tv, by rw [List.length_set]; exact hst.1, ?_⟩, hs2⟩
  have hcx := Cells.setx (i := 0) (u := y.tv) (x' := y) (w' := w'.setCell ⟨g, k, none⟩ y.tv) hc hk (by omega) (fun i z cs hik hz ⟨he, hty⟩ => ⟨he, ?_⟩) (fun cs hl ⟨he, _⟩ => ⟨by rw [he]; rfl, Own.same (EDT.ok base) ht (hs2.mono (by rintro t (rfl | rfl) <;> decide))⟩)
  · simpa using hcx
  · have key : ∀ a, a < w.heap.size → a ≠ g → u.tv.ownBlock ≠ some a → (w'.setCell ⟨g, k, none⟩ y.tv).heap[a]? = w.heap[a]? := fun a hl hag hua => (Below.heap_setCell _ _ _ _ hag).trans (hg a hl hua)
    refine ODT.far hty (fun a ha => key a (Own.lt hty a ha).2 (fun e => Own.block_ne (by decide) hty h0 ha (by rw [e]; rfl)) (fun e => rows_apart hnd hz hk hik ha e)) (fun a ha => ?_)
    obtain ⟨p, hp, hpb⟩ := List.mem_filterMap.1 ha
    exact key a (ODT.lt hty a ha).2 (fun e => Own.block_ne (by decide) (hty.need hp) h0 hpb (by rw [e]; rfl)) (fun e => Own.block_ne (by decide) (hty.need hp) hug2 hpb e)
theorem mem_pair {us : List BinW} {bs : List (List TaskD)} (h : us.map BinW.d = bs) {k : Nat} {b : List TaskD} (hk : bs[k]? = some b) : ∃ u, us[k]? = some u ∧ u.d = b := by
  rw [← h, List.getElem?_map] at hk
  cases hp : us[k]? with
  | none => rw [hp] at hk; cases hk
  | some p => rw [hp] at hk; exact ⟨p, rfl, by simpa using hk⟩

end Go.Proofs.YtllchacophapoaaDoor

/- The program's host: its block, and how it is filled. -/
namespace Go.Proofs.YtllchacophapoaaDoor
open Go.RowKit
set_option maxRecDepth 4000

theorem run_copy_sz (P : Program) (w : World) (dT sT ty elem : TypeId) (g o dLen dCap : Nat) (a : Addr) (sLen sCap : Nat) (cur : Array Value) (t : TypeId) (cs : List Value) (i : TypeInfo) (s : Nat)
    (hu : P.underlying dT = some (.slice elem)) (hi : P.info? elem = some i) (hs : i.size = s)
    (hg : w.heap[g]? = some (.cells cur t (0, 0))) (hn : cs.length = Nat.min sLen dLen * s)
    (hsrc : ∀ j v, cs[j]? = some v → w.cell? (a.add j) = some v) (hfit : o + cs.length ≤ cur.size) (h1 : ∀ v ∈ cs, v.oneCell' = true) :
    (Builtin.copy_ #[dT, sT] ty #[.slice (some ⟨g, o, none⟩) dLen dCap, .slice (some a) sLen sCap]).run P w =
      .ok (goInt (Nat.min sLen dLen)) (w.setRow g (cur.toList.take o ++ cs ++ cur.toList.drop (o + cs.length)).toArray) := by
  have hl := run_loadCells_list (P := P) w a cs hsrc
  have hst := run_storeCells_at P g o t cs 0 cur w hg (by simpa using hfit) h1
  simp [Builtin.copy_, run_underlying hu, Builtin.lenOf, Builtin.firstCells, sizeOf, typeInfo, hi, hs, ← hn, hl, hst]
theorem step_copy_sz {P : Program} {ops : Array Oper} {o : Oper} {a : Act} {w : World} {K : Act → World → Prop} {Q : Exit → Act → World → Prop} {X : Prop} (hgd : o.guard = none) (d s : Operand) (dT sT : TypeId)
    (ho : o.op = .call { callee := .builtin .copy, args := #[d, s], argTypes := #[dT, sT] }) (elem : TypeId) (i : TypeInfo) (sz : Nat) (hu : P.underlying dT = some (.slice elem)) (hi : P.info? elem = some i) (hs : i.size = sz)
    (g off dLen dCap : Nat) (ad : Addr) (sLen sCap : Nat) (hd : a.eval d = .slice (some ⟨g, off, none⟩) dLen dCap) (hsv : a.eval s = .slice (some ad) sLen sCap)
    (cur : List Value) (t : TypeId) (hg : w.heap[g]? = some (.cells cur.toArray t (0, 0))) (cs : List Value) (hn : cs.length = Nat.min sLen dLen * sz)
    (hsrc : ∀ j v, cs[j]? = some v → w.cell? (ad.add j) = some v) (hfit : off + cs.length ≤ cur.length) (h1 : ∀ v ∈ cs, v.oneCell' = true)
    (h : K (a.put o.dst (goInt (Nat.min sLen dLen))) (w.setRow g (cur.take off ++ cs ++ cur.drop (off + cs.length)).toArray)) :
    if Region.wanted o (yielded ops a.tmps) = true then Oper.wp P o a w K Q else X := by
  have hw : Region.wanted o (yielded ops a.tmps) = true := by simp [Region.wanted, hgd]
  rw [if_pos hw]
  have hrun := run_copy_sz P w dT sT o.type elem g off dLen dCap ad sLen sCap cur.toArray t cs i sz hu hi hs hg hn hsrc (by simpa using hfit) h1
  unfold Oper.wp execOp
  simp only [ho, resolve, invoke, builtin, Sem.run_bind, Sem.run_pure, Result.andThen_ok, List.map_toArray, List.map_cons, List.map_nil, hd, hsv, hrun]
  exact h

/-- what a row of the call's own holds, cell by cell -/
theorem Own.src {α : Type} {e : TypeId} {size : Nat} {E : Enc α} {w : World} {base g n c : Nat} {xs : List α} (h : Own e size E w base (.slice (some ⟨g, 0, none⟩) n c) xs) : ∃ cells, Cells size E w cells xs ∧ ∀ j v, cells[j]? = some v → w.cell? ((⟨g, 0, none⟩ : Addr).add j) = some v := by
  obtain ⟨cells, ho, hc⟩ := h
  refine ⟨cells, hc, fun j v hj => ?_⟩
  rcases ho.2 with ⟨h1, _⟩ | ⟨g', cap, cur, h1, _, hg, hl, hm, _, ht⟩
  · cases h1
  · injection h1 with h1 _ _
    injection h1 with h1
    injection h1 with h1 _ _
    subst h1
    have ha : (⟨g, 0, none⟩ : Addr).add j = ⟨g, j, none⟩ := by unfold Addr.add; split <;> simp_all
    rw [ha, cell_of_row w g j cur e (0, 0) hg]
    rw [← ht, List.getElem?_take] at hj
    split at hj
    · simpa using hj
    · cases hj
theorem Cells.flat {α : Type} {size : Nat} {E : Enc α} (hf : E.Flat) (hs : 0 < size) {w : World} {cells : List Value} {xs : List α} (h : Cells size E w cells xs) : ∀ v ∈ cells, v.oneCell' = true := by
  intro u hu
  obtain ⟨k, hk⟩ := List.getElem?_of_mem hu
  have hk' : k < xs.length * size := by rw [← h.1]; exact (List.getElem?_eq_some_iff.1 hk).1
  have hj : k / size < xs.length := Nat.div_lt_of_lt_mul (by rw [Nat.mul_comm]; exact hk')
  obtain ⟨cs, hl, he, hcc⟩ := h.2 (k / size) xs[k / size] (List.getElem?_eq_getElem hj)
  have hm : k % size < cs.length := by rw [hl]; exact Nat.mod_lt _ hs
  have := hcc (k % size) cs[k % size] (List.getElem?_eq_getElem hm)
  rw [Nat.mul_comm, Nat.div_add_mod, hk] at this
  injection this with this
  subst this
  exact hf _ _ _ he _ (List.getElem_mem hm)
/-- nodes that are not there -/
def zerosU (m : Nat) : List Value := (List.replicate m [Value.bool false, .slice none 0 0]).flatten
theorem zerosU_succ (m : Nat) : zerosU (m + 1) = [Value.bool false, .slice none 0 0] ++ zerosU m := by simp [zerosU, List.replicate_succ]
theorem zerosU_drop : ∀ (k m : Nat), (zerosU (m + k)).drop (k * 2) = zerosU m
  | 0, m => by simp
  | k + 1, m => by
    rw [show m + (k + 1) = (m + k) + 1 by omega, zerosU_succ, show (k + 1) * 2 = 2 + k * 2 by omega, ← List.drop_drop]
    exact zerosU_drop k m
theorem SameT.setRow {w : World} {g : Nat} {cur cs : Array Value} {e : TypeId} {fr : Nat × Nat} (hg : w.heap[g]? = some (.cells cur e fr)) {T : TypeId → Prop} (hT : ∀ t, T t → t ≠ e) : SameT T w (w.setRow g cs) := by
  intro k cur' t fr' ht hk
  by_cases h : k = g
  · subst h
    rw [hg] at hk
    injection hk with hk
    injection hk with _ h2 _
    exact absurd h2.symm (hT t ht)
  · rw [setRow_other w g k cs h]; exact hk
end Go.Proofs.YtllchacophapoaaDoor

/- slices.Delete of one task. -/
namespace Go.Proofs.YtllchacophapoaaDoor
open Go.RowKit
set_option maxRecDepth 4000

theorem step_append_row {P : Program} {ops : Array Oper} {o : Oper} {a : Act} {w : World} {K : Act → World → Prop} {Q : Exit → Act → World → Prop} {X : Prop} (hgd : o.guard = none) (s x : Operand) (t : TypeId)
    (ho : o.op = .call { callee := .builtin .append, args := #[s, x], argTypes := #[t, t] }) (e : TypeId) (i : TypeInfo) (size : Nat) (h1 : P.underlying t = some (.slice e)) (h2 : P.info? e = some i) (h4 : i.size = size)
    (g n cap : Nat) (hs : a.eval s = .slice (some ⟨g, 0, none⟩) n cap) (ad : Addr) (m c : Nat) (news : List Value) (hx : a.eval x = .slice (some ad) m c) (hl : news.length = m * size) (hc : ∀ j u, news[j]? = some u → w.cell? (ad.add j) = some u) (h1c : ∀ u ∈ news, u.oneCell' = true)
    (hroom : n + m ≤ cap) (cur : List Value) (hg : w.heap[g]? = some (.cells cur.toArray e (0, 0))) (hfit : n * size + news.length ≤ cur.length)
    (hK : K (a.put o.dst (.slice (some ⟨g, 0, none⟩) (n + m) cap)) (w.setRow g (cur.take (n * size) ++ news ++ cur.drop (n * size + news.length)).toArray)) :
    if Region.wanted o (yielded ops a.tmps) = true then Oper.wp P o a w K Q else X := by
  have hw : Region.wanted o (yielded ops a.tmps) = true := by simp [Region.wanted, hgd]
  rw [if_pos hw]
  subst h4
  have hrun := run_append_room (P := P) w t o.type e i h1 h2 g n cap cur.toArray hg ad m c news hl hc h1c hroom (by simpa using hfit)
  unfold Oper.wp execOp
  simp only [ho, resolve, invoke, builtin, Sem.run_bind, Sem.run_pure, Result.andThen_ok, List.map_toArray, List.map_cons, List.map_nil, hs, hx, hrun]
  exact hK
theorem run_clear_row {P : Program} (w : World) (t e ty : TypeId) (z : Value) (ht : P.underlying t = some (.slice e)) (hv : ∀ w, (zeroValue e).run P w = .ok z w) (zs : List Value) (hz : (Builtin.zeroCells z.cells 1).toList = zs) (h1 : ∀ v ∈ zs, v.oneCell' = true) (g off c : Nat) (cur : List Value)
    (hg : w.heap[g]? = some (.cells cur.toArray e (0, 0))) (hfit : off + zs.length ≤ cur.length) :
    (Builtin.clear_ #[t] ty #[.slice (some ⟨g, off, none⟩) 1 c]).run P w = .ok (.tuple #[]) (w.setRow g (cur.take off ++ zs ++ cur.drop (off + zs.length)).toArray) := by
  have hst := run_storeCells_at P g off e zs 0 cur.toArray w hg (by simpa using hfit) h1
  simp only [Nat.add_zero] at hst
  simp [Builtin.clear_, run_underlying ht, hv, hz, hst]
theorem Cells.take {α : Type} {size : Nat} {E : Enc α} {w : World} {cells : List Value} {xs : List α} (h : Cells size E w cells xs) (k : Nat) : Cells size E w (cells.take (k * size)) (xs.take k) := by
  refine ⟨by rw [List.length_take, List.length_take, h.1]; rcases Nat.le_total k xs.length with hk | hk <;> simp [Nat.min_eq_left, Nat.min_eq_right, hk, Nat.mul_le_mul_right], fun j x hj => ?_⟩
  rw [List.getElem?_take] at hj
  split at hj
  · rename_i hjk
    obtain ⟨cs, hl, he, hc⟩ := h.2 j x hj
    refine ⟨cs, hl, he, fun i u hu => ?_⟩
    have hi : i < size := by rw [← hl]; exact (List.getElem?_eq_some_iff.1 hu).1
    have : j * size + i < k * size := by
      have : (j + 1) * size ≤ k * size := Nat.mul_le_mul_right _ hjk
      rw [Nat.add_mul] at this
      omega
    rw [List.getElem?_take, if_pos this]
    exact hc i u hu
  · cases hj
theorem Cells.drop {α : Type} {size : Nat} {E : Enc α} {w : World} {cells : List Value} {xs : List α} (h : Cells size E w cells xs) (k : Nat) : Cells size E w (cells.drop (k * size)) (xs.drop k) := by
  refine ⟨by rw [List.length_drop, List.length_drop, h.1, Nat.sub_mul], fun j x hj => ?_⟩
  rw [List.getElem?_drop] at hj
  obtain ⟨cs, hl, he, hc⟩ := h.2 (k + j) x hj
  refine ⟨cs, hl, he, fun i u hu => ?_⟩
  rw [List.getElem?_drop, ← hc i u hu, Nat.add_mul, Nat.add_assoc]
/-- a row is set -/
theorem obj_row {w : World} {g : Nat} {cur cs : Array Value} {e : TypeId} (hg : w.heap[g]? = some (.cells cur e (0, 0))) : (w.setRow g cs).heap[g]? = some (.cells cs e (0, 0)) := by
  simp [World.setRow, Array.getElem?_modify, hg]
theorem Gr.row {b : Nat} {w x : World} (h : Gr b w x) (cs : Array Value) : Gr b w (x.setRow b cs) :=
  ⟨by simpa [World.setRow] using h.os, by simpa [World.setRow] using h.tape, by simpa [World.setRow] using h.output, by simpa [World.setRow] using h.size, fun k hk hn => (setRow_other x b k cs (by intro he; exact hn (by rw [he]))).trans (h.block k hk hn)⟩

end Go.Proofs.YtllchacophapoaaDoor

/- slices.Delete of one task, rows apart; the program's copies of nodes. -/
namespace Go.Proofs.YtllchacophapoaaDoor
open Go.RowKit
set_option maxRecDepth 4000

set_option maxHeartbeats 2000000 in
theorem iCopyBinsD (v : Value) (bs : List (List TaskD)) (w : World) (h : RB w v bs) (hl : bs.length ≤ 4000000) (hb : ∀ b ∈ bs, b.length ≤ 4000000 ∧ ∀ t ∈ b, t.need.length ≤ 4000000) :
    Calls Tryd.prog 36 #[v] w fun e w' => ∃ v' us, e = .returned v' ∧ ODB w' w.heap.size v' us ∧ us.map BinW.d = bs ∧ (rowBs us).Nodup ∧ (binNs us).Nodup ∧ Ext w w' := by
  obtain ⟨A, c, rfl, hc, hc', hr⟩ := RB.get h
  clear h
  obtain ⟨i0_bin, hi0_bin, hz0_bin, hz1_bin, hz2_bin⟩ := info_parts info_bin
  go_enter Tryd.func36, Tryd.ntmps36
  go_wp2_with (at_make; refine wpList_make_own _ rfl _ _ 25 rfl w.heap.size 28 i0_bin _ 1 Tryd.underlying25 hi0_bin hz0_bin hz1_bin _ _ _ bs.length rfl rfl rfl (by rw [hz2_bin]; omega) (by unfold maxLen; omega) (by simp) ?_; intro w1 hO1 hg1; have hE1 : Ext w w1 := Below.grown (Below.refl _ _) hg1 (Nat.le_refl _) (fun k hk => by cases hk); have hO1 : ODB w1 w.heap.size _ [] := ⟨[], hO1, Cells.nil_ _ _ _⟩; have HO1 := hid hO1; have HE1 := hid hE1; clear hO1 hE1 hg1)
  go_loopw [3, 11] (fun s i wr => ∃ (u : Value) (k : Nat) (us : List BinW), u = s ∧ k ≤ bs.length ∧ i = .int .i64 k ∧ Hid (ODB wr w.heap.size u us ∧ us.map BinW.d = bs.take k ∧ (rowBs us).Nodup ∧ (binNs us).Nodup ∧ Ext w wr)) (fun _ i _ => bs.length - (intOf i).toNat)
  case atStart => exact ⟨_, 0, [], rfl, Nat.zero_le _, rfl, hid ⟨HO1.out, rfl, by simp [rowBs], by simp [binNs], HE1.out⟩⟩
  case round =>
    obtain ⟨u, k, us, hu, hk, rfl, H⟩ := hrel
    subst hu
    by_cases hlt : k < bs.length
    · obtain ⟨b, o, x, An, cn, rfl, e, c1, hnx⟩ := hr k hlt
      have i1 : (k : Int) < (bs.length : Int) := by omega
      have HE := hid H.out.2.2.2.2
      have c1r := HE.out.cell c1
      have HN := hid (RT.ext hnx HE.out)
      have HXB := hid (hb x (List.mem_of_getElem? e.out))
      have HUL : Hid (us.length ≤ 4000000) := hid (by have := congrArg List.length H.out.2.1; rw [List.length_map, List.length_take] at this; omega)
      have HBT := hid (ODB.tlt H.out.1)
      have HBI := hid (ODB.ilt H.out.1)
      clear c1 hnx
      go_wp2_with (first
        | (go_at_call 46; refine (iCopyTasksD _ x _ HN.out HXB.out.1 HXB.out.2).mono ?_; rintro e1 w2 ⟨tv, qs, rfl, htv, hqm, hqn, hEt⟩; obtain ⟨At, ct, htf, hct, hct'⟩ := htv.form; have hql : qs.length = x.length := (by rw [← hqm, List.length_map]); rw [hql] at htf; subst htf; clear hql; have hEa := hEt.trans (Ext.alloc w2 (.cells #[.slice At x.length ct] 28)); have HTF : Hid ((∀ a, (Value.slice At x.length ct).ownBlock = some a → wr.heap.size ≤ a) ∧ ∀ a ∈ needBs qs, wr.heap.size ≤ a) := hid ⟨fun a ha => (Own.lt htv a ha).1, fun a ha => (ODT.lt htv a ha).1⟩; have HTV := hid (ODT.low (base' := w.heap.size) (Own.ext (EDT.ok _) htv (Ext.alloc w2 (.cells #[.slice At x.length ct] 28))) HE.out.size); have HQM := hid hqm; have HQN := hid hqn; have HV := hid (Own.ext (EDB.ok _) H.out.1 hEa); have HEa := hid (HE.out.trans hEa); have hsz2 : w.heap.size ≤ w2.heap.size := (HE.out.trans hEt).size; clear htv hqm hqn hEt hEa)
        | (at_builtin; refine wpList_append_sl _ (by rfl) _ _ 25 (by rfl) (EDB.ok _) (EDB.flat _) (w.heap.size) 28 EDB.ne i0_bin _ 1 24 Tryd.underlying25 hi0_bin hz0_bin hz1_bin hz2_bin rfl (by omega) _ (by rfl) _ (HV.out) _ (by rfl) _ (RSl.laid (cs := [.slice At x.length ct]) (x := (⟨.slice At x.length ct, qs⟩ : BinW)) (heap_alloc_new _ _) rfl ⟨rfl, HTV.out⟩) (by have := HUL.out; simp; omega) (by have := HUL.out; simp; omega) ?_ ?_; (focus (first | exact Nat.le_refl _ | (simp; done) | (simp; omega) | omega)); intro v3 w3 hO3 hg3 hat3 hs3; have HO3 := hid hO3; have HE3 := hid (Ext.grown HEa.out hg3 HV.out.lt); clear hO3 hg3 hat3 hs3))
      go_roundw
      case rel => exact ⟨_, k + 1, us ++ [⟨.slice At x.length ct, qs⟩], rfl, by omega, by go_num, hid ⟨HO3.out, by rw [List.map_append, H.out.2.1, take_snoc e.out]; show _ ++ [qs.map (·.1)] = _; rw [HQM.out], by rw [rowBs_app, rowBs_one]; exact nodup_fresh H.out.2.2.1 (optList_nodup _) (fun a ha => (HBT.out a ha).2) (fun a ha => HTF.out.1 a (by simpa using ha)), by rw [binNs_app, binNs_one]; exact nodup_fresh H.out.2.2.2.1 HQN.out (fun a ha => (HBI.out a ha).2) HTF.out.2, HE3.out⟩⟩
      case measure => simp [intOf]; omega
    · go_wp2
      go_ret
      have hk' : k = bs.length := by omega
      have hm := H.out.2.1
      rw [hk', List.take_length] at hm
      exact ⟨_, us, rfl, H.out.1, hm, H.out.2.2.1, H.out.2.2.2.1, H.out.2.2.2.2⟩

end Go.Proofs.YtllchacophapoaaDoor

/- Rows of nodes: one task from one node into another; the rows stay apart. -/
namespace Go.Proofs.YtllchacophapoaaDoor
open Go.RowKit
set_option maxRecDepth 4000

theorem nodup_setB : ∀ (us : List BinW) (k : Nat) (q : BinW), (rowBs us).Nodup → (∀ g, q.tv.ownBlock = some g → g ∉ rowBs us) → (rowBs (us.set k q)).Nodup
  | [], _, _, _, _ => by simp [rowBs]
  | p :: us, 0, q, hn, hq => by
    have e : ∀ (p : BinW) us, rowBs (p :: us) = p.tv.ownBlock.toList ++ rowBs us := fun p us => by
      rw [show p :: us = [p] ++ us from rfl, rowBs_app, rowBs_one]
    rw [List.set_cons_zero, e]
    rw [e] at hn
    refine List.nodup_append.2 ⟨optList_nodup _, (List.nodup_append.1 hn).2.1, fun x hx y hy he => ?_⟩
    subst he
    have hx : q.tv.ownBlock = some x := by simpa using hx
    exact hq x hx (by rw [e]; exact List.mem_append_right _ hy)
  | p :: us, k + 1, q, hn, hq => by
    have e : ∀ (p : BinW) us, rowBs (p :: us) = p.tv.ownBlock.toList ++ rowBs us := fun p us => by
      rw [show p :: us = [p] ++ us from rfl, rowBs_app, rowBs_one]
    rw [List.set_cons_succ, e]
    rw [e] at hn
    have h1 := List.nodup_append.1 hn
    refine List.nodup_append.2 ⟨h1.1, nodup_setB us k q h1.2.1 (fun g hg hm => hq g hg (by rw [e]; exact List.mem_append_right _ hm)), fun x hx y hy he => ?_⟩
    subst he
    obtain ⟨u, hu, hb⟩ := List.mem_filterMap.1 hy
    rcases List.mem_or_eq_of_mem_set hu with hu | hu
    · exact h1.2.2 x hx x (List.mem_filterMap.2 ⟨u, hu, hb⟩) rfl
    · subst hu
      exact hq x hb (by rw [e]; exact List.mem_append_left _ hx)
/-- its block is the one that it was, or new -/
theorem nodup_appB {us : List BinW} (hnd : (rowBs us).Nodup) {k H : Nat} {u y : BinW} (hk : us[k]? = some u) (hv : y.tv.ownBlock = u.tv.ownBlock ∨ y.tv.ownBlock = some H) (hH : ∀ g ∈ rowBs us, g < H) : (rowBs (us.set k y)).Nodup := by
  rcases hv with hv | hv
  · have e : ∀ qs : List BinW, rowBs qs = (qs.map (fun p => p.tv.ownBlock)).filterMap id := fun qs => by unfold rowBs; rw [List.filterMap_map]; rfl
    have e2 : rowBs (us.set k y) = rowBs us := by
      rw [e, e, List.map_set]
      congr 1
      exact set_same (x := y.tv.ownBlock) (by rw [List.getElem?_map, hk, hv]; rfl)
    rw [e2]; exact hnd
  · exact nodup_setB us k _ hnd (fun g hg hm => by
      rw [hv] at hg
      injection hg with hg
      have := hH g hm
      omega)
theorem binNs_eq (us : List BinW) : binNs us = needBs (us.map BinW.qs).flatten := by
  induction us with
  | nil => rfl
  | cons u us ih => rw [show u :: us = [u] ++ us from rfl, binNs_app, binNs_one, ih, List.map_append, List.flatten_append, needBs_app]; simp
theorem binNs_move {us : List BinW} {f t k : Nat} {u c : BinW} {p : TaskD × Value} (hu : us[f]? = some u) (hc : us[t]? = some c) (hne : t ≠ f) (hp : u.qs[k]? = some p) (v1 v2 : Value) :
    (binNs ((us.set f ⟨v1, u.qs.eraseIdx k⟩).set t ⟨v2, c.qs ++ [p]⟩)).Perm (binNs us) := by
  rw [binNs_eq, binNs_eq, List.map_set, List.map_set]
  unfold needBs
  refine List.Perm.filterMap _ ?_
  exact (flatten_set_perm _ t c.qs p (by rw [List.getElem?_set_ne (Ne.symm hne), List.getElem?_map, hc]; rfl)).trans (flatten_set_erase (us.map BinW.qs) f k u.qs p (by rw [List.getElem?_map, hu]; rfl) hp)
theorem d_erase (u : BinW) (v : Value) (k : Nat) : BinW.d ⟨v, u.qs.eraseIdx k⟩ = u.d.eraseIdx k := by
  unfold BinW.d
  rw [List.eraseIdx_eq_take_drop_succ, List.eraseIdx_eq_take_drop_succ, List.map_append, List.map_take, List.map_drop]
theorem d_move {us : List BinW} {bs : List (List TaskD)} (hb : us.map BinW.d = bs) {f t k : Nat} {u c : BinW} {p : TaskD × Value} (v1 v2 : Value) :
    ((us.set f ⟨v1, u.qs.eraseIdx k⟩).set t ⟨v2, c.qs ++ [p]⟩).map BinW.d = (bs.set f (u.d.eraseIdx k)).set t (c.d ++ [p.1]) := by
  rw [List.map_set, List.map_set, hb, d_erase]
  congr 1
  unfold BinW.d
  simp
theorem idxI_of {α : Type} {p : α → Bool} {xs : List α} {k : Nat} (h : xs.findIdx? p = some k) : idxI p xs = (k : Int) := by unfold idxI; rw [h]
theorem Own.blk {α : Type} {e : TypeId} {size : Nat} {E : Enc α} {w : World} {base g n c : Nat} {xs : List α} (h : Own e size E w base (.slice (some ⟨g, 0, none⟩) n c) xs) : ∃ cur, w.heap[g]? = some (.cells cur e (0, 0)) := by
  obtain ⟨cells, ho, _⟩ := h
  rcases ho.2 with ⟨h1, _⟩ | ⟨g', cap, cur, h1, _, hh, _⟩
  · cases h1
  · injection h1 with h1 _ _
    injection h1 with h1
    injection h1 with h1 _ _
    subst h1
    exact ⟨cur, hh⟩
end Go.Proofs.YtllchacophapoaaDoor

/- The program's move between nodes. -/
namespace Go.Proofs.YtllchacophapoaaDoor
open Go.RowKit
set_option maxRecDepth 4000

end Go.Proofs.YtllchacophapoaaDoor

/- errors.Is of a sentinel and of nil (after the kit's worked family over errors.Is). -/
namespace Go.Proofs.YtllchacophapoaaDoor

end Go.Proofs.YtllchacophapoaaDoor
