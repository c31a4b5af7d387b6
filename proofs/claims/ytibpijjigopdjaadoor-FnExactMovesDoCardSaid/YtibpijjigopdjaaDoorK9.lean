/- Nodes all of whose rows are the call's own. -/
import Derived.Test.YtibpijjigopdjaaDoorK7
import Derived.Test.YtibpijjigopdjaaDoorK8
import Derived.Test.YtibpijjigopdjaaDoorK6
import Derived.Test.YtibpijjigopdjaaDoorK4
import Derived.Test.YtibpijjigopdjaaDoorK3
import Derived.Laws.CopyRow
import Derived.Laws.CopyOwn
import Derived.LaidEql
import Derived.Stop.Asserts
namespace Go.Proofs.YtibpijjigopdjaaDoor
open Go.RowKit
set_option maxRecDepth 4000

/-- a node, with the values of its rows -/
structure BinW where
  tv : Value
  qs : List (TaskD × Value)
def BinW.d (u : BinW) : List TaskD := u.qs.map (·.1)
def EDB (base : Nat) : Enc BinW := fun w cs u => cs = [u.tv] ∧ ODT w base u.tv u.qs
theorem EDB.ok (base : Nat) : (EDB base).Ok (fun t => t = 44 ∨ t = 3) := fun _ _ _ _ ⟨h, hr⟩ ha => ⟨h, hr.same (EDT.ok base) ha⟩
theorem EDB.flat (base : Nat) : (EDB base).Flat := fun _ _ _ ⟨h, hr⟩ u hu => by
  obtain ⟨A, c, hv, _⟩ := hr.form
  rw [h] at hu; simp at hu; subst hu
  rw [hv]; rfl
theorem EDB.ne : ∀ t, (fun t => t = 44 ∨ t = 3) t → t ≠ 41 := by rintro t (rfl | rfl) <;> decide
abbrev ODB (w : World) (base : Nat) (v : Value) (us : List BinW) : Prop := Own 41 1 (EDB base) w base v us
theorem ODB.read {w : World} {base : Nat} {v : Value} {us : List BinW} (h : ODB w base v us) : RB w v (us.map BinW.d) := (Own.read h).map fun _ p ⟨h1, h2⟩ => ⟨p.tv, h1, h2.read⟩
theorem ODB.low {w : World} {base base' : Nat} {v : Value} {us : List BinW} (h : ODB w base v us) (hb : base' ≤ base) : ODB w base' v us :=
  Own.low (base' := base') (Own.far2 (E' := EDB base') h rfl (fun _ _ => rfl) (fun j cs x y hx hy he => by
    rw [hx] at hy
    injection hy with hy
    subst hy
    exact ⟨he.1, ODT.low he.2 hb⟩)) hb
theorem ODB.tasks {w : World} {base : Nat} {v : Value} {us : List BinW} (h : ODB w base v us) {u : BinW} (hu : u ∈ us) : ODT w base u.tv u.qs := by
  obtain ⟨cells, _, hc⟩ := h
  obtain ⟨k, hk⟩ := List.getElem?_of_mem hu
  obtain ⟨cs, _, he, _⟩ := hc.2 k u hk
  exact he.2
def rowBs (us : List BinW) : List Nat := us.filterMap fun u => u.tv.ownBlock
def binNs (us : List BinW) : List Nat := us.flatMap fun u => needBs u.qs
theorem rowBs_app (a b : List BinW) : rowBs (a ++ b) = rowBs a ++ rowBs b := by unfold rowBs; rw [List.filterMap_append]
theorem binNs_app (a b : List BinW) : binNs (a ++ b) = binNs a ++ binNs b := by unfold binNs; rw [List.flatMap_append]
theorem rowBs_one (p : BinW) : rowBs [p] = p.tv.ownBlock.toList := by
  unfold rowBs
  cases h : p.tv.ownBlock <;> simp [h]
theorem binNs_one (p : BinW) : binNs [p] = needBs p.qs := by unfold binNs; simp
theorem ODB.tlt {w : World} {base : Nat} {v : Value} {us : List BinW} (h : ODB w base v us) : ∀ g ∈ rowBs us, base ≤ g ∧ g < w.heap.size := by
  intro g hg
  obtain ⟨u, hu, hb⟩ := List.mem_filterMap.1 hg
  exact Own.lt (h.tasks hu) g hb
theorem ODB.ilt {w : World} {base : Nat} {v : Value} {us : List BinW} (h : ODB w base v us) : ∀ g ∈ binNs us, base ≤ g ∧ g < w.heap.size := by
  intro g hg
  obtain ⟨u, hu, hb⟩ := List.mem_flatMap.1 hg
  exact ODT.lt (h.tasks hu) g hb
theorem ODB.far {w w' : World} {base : Nat} {v : Value} {us : List BinW} (h : ODB w base v us) (hb : ∀ k, v.ownBlock = some k → w'.heap[k]? = w.heap[k]?) (hg : ∀ g ∈ rowBs us, w'.heap[g]? = w.heap[g]?) (hi : ∀ g ∈ binNs us, w'.heap[g]? = w.heap[g]?) : ODB w' base v us :=
  Own.far h hb (fun _ u hu ⟨he, ht⟩ => ⟨he, ODT.far ht (fun k hk => hg k (List.mem_filterMap.2 ⟨u, hu, hk⟩)) (fun g hm => hi g (List.mem_flatMap.2 ⟨u, hu, hm⟩))⟩)
theorem rows_apart {us : List BinW} (h : (rowBs us).Nodup) {i k : Nat} {p q : BinW} (hi : us[i]? = some p) (hk : us[k]? = some q) (hik : i ≠ k) {a : Nat} (ha : p.tv.ownBlock = some a) : q.tv.ownBlock ≠ some a := by
  intro hb
  unfold rowBs at h
  rw [List.nodup_iff_pairwise_ne, List.pairwise_filterMap, List.pairwise_iff_getElem] at h
  obtain ⟨li, ei⟩ := List.getElem?_eq_some_iff.1 hi
  obtain ⟨lk, ek⟩ := List.getElem?_eq_some_iff.1 hk
  rcases Nat.lt_or_gt_of_ne hik with hlt | hlt
  · exact h i k li lk hlt a (by rw [ei]; exact ha) a (by rw [ek]; exact hb) rfl
  · exact h k i lk li hlt a (by rw [ek]; exact hb) a (by rw [ei]; exact ha) rfl
/-- a node's row in the row of nodes -/
theorem ODB.at_ {w : World} {base g n c : Nat} {us : List BinW} (h : ODB w base (.slice (some ⟨g, 0, none⟩) n c) us) {k : Nat} {u : BinW} (hk : us[k]? = some u) :
    w.cell? ⟨g, k, none⟩ = some u.tv ∧ w.frozen? ⟨g, k, none⟩ = false ∧ ODT w base u.tv u.qs ∧ u.tv.ownBlock ≠ some g := by
  obtain ⟨cs, _, ⟨he, hn⟩, hc⟩ := Own.at_ h hk
  subst he
  exact ⟨by simpa using hc 0 _ rfl, h.frozen_ _, hn, fun e => Own.block_ne (by decide) hn h e rfl⟩
/-- one node's row has turned, and the node takes it -/
theorem ODB.turn {w w' : World} {base g n c : Nat} {us : List BinW} (h : ODB w base (.slice (some ⟨g, 0, none⟩) n c) us) (hnd : (rowBs us).Nodup) {k : Nat} {u : BinW} (hk : us[k]? = some u) (hg : ∀ q, q < w.heap.size → u.tv.ownBlock ≠ some q → w'.heap[q]? = w.heap[q]?) {y : BinW} (ht : ODT w' base y.tv y.qs) :
    ODB (w'.setCell ⟨g, k, none⟩ y.tv) base (.slice (some ⟨g, 0, none⟩) n c) (us.set k y) ∧ SameT (fun t => t ≠ 41) w' (w'.setCell ⟨g, k, none⟩ y.tv) := by
  have h0 := h
  have hug := (ODB.at_ h hk).2.2.2
  have hug2 := (ODB.at_ h hk).2.2.1
  obtain ⟨cells, ho, hc⟩ := h
  have hn : n = us.length := by
    rcases ho.2 with ⟨h1, _⟩ | ⟨g', cap, cur, h1, _⟩
    · cases h1
    · injection h1
  subst hn
  rcases ho.2 with ⟨h1, _⟩ | ⟨g', cap, cur, h1, hb, hh, hr⟩
  · cases h1
  have h1' := h1
  injection h1 with h1 _ _
  injection h1 with h1
  injection h1 with h1 _ _
  subst h1
  have hh' : w'.heap[g]? = some (.cells cur 41 (0, 0)) := (hg g (obj_lt hh) hug).trans hh
  have ho' : w'.ownsRow base 41 1 (.slice (some ⟨g, 0, none⟩) us.length c) us.length cells := ⟨ho.1, .inr ⟨g, cap, cur, h1', hb, hh', hr⟩⟩
  have hs2 : SameT (fun t => t ≠ 41) w' (w'.setCell ⟨g, k, none⟩ y.tv) := SameT.setCell (p := ⟨g, k, none⟩) hh' y.tv (fun t ht => ht)
  have hst := ho'.stored k y.tv
  refine ⟨⟨cells.set k y.tv, by rw [List.length_set]; exact hst.1, ?_⟩, hs2⟩
  have hcx := Cells.setx (i := 0) (u := y.tv) (x' := y) (w' := w'.setCell ⟨g, k, none⟩ y.tv) hc hk (by omega) (fun i z cs hik hz ⟨he, hty⟩ => ⟨he, ?_⟩) (fun cs hl ⟨he, _⟩ => ⟨by rw [he]; rfl, Own.same (EDT.ok base) ht (hs2.mono (by rintro t (rfl | rfl) <;> decide))⟩)
  · simpa using hcx
  · have key : ∀ a, a < w.heap.size → a ≠ g → u.tv.ownBlock ≠ some a → (w'.setCell ⟨g, k, none⟩ y.tv).heap[a]? = w.heap[a]? := fun a hl hag hua => (Below.heap_setCell _ _ _ _ hag).trans (hg a hl hua)
    refine ODT.far hty (fun a ha => key a (Own.lt hty a ha).2 (fun e => Own.block_ne (by decide) hty h0 ha (by rw [e]; rfl)) (fun e => rows_apart hnd hz hk hik ha e)) (fun a ha => ?_)
    obtain ⟨p, hp, hpb⟩ := List.mem_filterMap.1 ha
    exact key a (ODT.lt hty a ha).2 (fun e => Own.block_ne (by decide) (hty.need hp) h0 hpb (by rw [e]; rfl)) (fun e => Own.block_ne (by decide) (hty.need hp) hug2 hpb e)
theorem mem_pair {us : List BinW} {bs : List (List TaskD)} (h : us.map BinW.d = bs) {k : Nat} {b : List TaskD} (hk : bs[k]? = some b) : ∃ u, us[k]? = some u ∧ u.d = b := by
  rw [← h, List.getElem?_map] at hk
  cases hp : us[k]? with
  | none => rw [hp] at hk; cases hk
  | some p => rw [hp] at hk; exact ⟨p, rfl, by simpa using hk⟩

end Go.Proofs.YtibpijjigopdjaaDoor

/- The program's host: its block, and how it is filled. -/
namespace Go.Proofs.YtibpijjigopdjaaDoor
open Go.RowKit
set_option maxRecDepth 4000

theorem run_copy_sz (P : Program) (w : World) (dT sT ty elem : TypeId) (g o dLen dCap : Nat) (a : Addr) (sLen sCap : Nat) (cur : Array Value) (t : TypeId) (cs : List Value) (i : TypeInfo) (s : Nat)
    (hu : P.underlying dT = some (.slice elem)) (hi : P.info? elem = some i) (hs : i.size = s)
    (hg : w.heap[g]? = some (.cells cur t (0, 0))) (hn : cs.length = Nat.min sLen dLen * s)
    (hsrc : ∀ j v, cs[j]? = some v → w.cell? (a.add j) = some v) (hfit : o + cs.length ≤ cur.size) (h1 : ∀ v ∈ cs, v.oneCell' = true) :
    (Builtin.copy_ #[dT, sT] ty #[.slice (some ⟨g, o, none⟩) dLen dCap, .slice (some a) sLen sCap]).run P w =
      .ok (goInt (Nat.min sLen dLen)) (w.setRow g (cur.toList.take o ++ cs ++ cur.toList.drop (o + cs.length)).toArray) := by
  have hl := run_loadCells_list (P := P) w a cs hsrc
  have hst := run_storeCells_at P g o t cs 0 cur w hg (by simpa using hfit) h1
  simp [Builtin.copy_, run_underlying hu, Builtin.lenOf, Builtin.firstCells, sizeOf, typeInfo, hi, hs, ← hn, hl, hst]
theorem step_copy_sz {P : Program} {ops : Array Oper} {o : Oper} {a : Act} {w : World} {K : Act → World → Prop} {Q : Exit → Act → World → Prop} {X : Prop} (hgd : o.guard = none) (d s : Operand) (dT sT : TypeId)
    (ho : o.op = .call { callee := .builtin .copy, args := #[d, s], argTypes := #[dT, sT] }) (elem : TypeId) (i : TypeInfo) (sz : Nat) (hu : P.underlying dT = some (.slice elem)) (hi : P.info? elem = some i) (hs : i.size = sz)
    (g off dLen dCap : Nat) (ad : Addr) (sLen sCap : Nat) (hd : a.eval d = .slice (some ⟨g, off, none⟩) dLen dCap) (hsv : a.eval s = .slice (some ad) sLen sCap)
    (cur : List Value) (t : TypeId) (hg : w.heap[g]? = some (.cells cur.toArray t (0, 0))) (cs : List Value) (hn : cs.length = Nat.min sLen dLen * sz)
    (hsrc : ∀ j v, cs[j]? = some v → w.cell? (ad.add j) = some v) (hfit : off + cs.length ≤ cur.length) (h1 : ∀ v ∈ cs, v.oneCell' = true)
    (h : K (a.put o.dst (goInt (Nat.min sLen dLen))) (w.setRow g (cur.take off ++ cs ++ cur.drop (off + cs.length)).toArray)) :
    if Region.wanted o (yielded ops a.tmps) = true then Oper.wp P o a w K Q else X := by
  have hw : Region.wanted o (yielded ops a.tmps) = true := by simp [Region.wanted, hgd]
  rw [if_pos hw]
  have hrun := run_copy_sz P w dT sT o.type elem g off dLen dCap ad sLen sCap cur.toArray t cs i sz hu hi hs hg hn hsrc (by simpa using hfit) h1
  unfold Oper.wp execOp
  simp only [ho, resolve, invoke, builtin, Sem.run_bind, Sem.run_pure, Result.andThen_ok, List.map_toArray, List.map_cons, List.map_nil, hd, hsv, hrun]
  exact h

/-- what a row of the call's own holds, cell by cell -/
theorem Own.src {α : Type} {e : TypeId} {size : Nat} {E : Enc α} {w : World} {base g n c : Nat} {xs : List α} (h : Own e size E w base (.slice (some ⟨g, 0, none⟩) n c) xs) : ∃ cells, Cells size E w cells xs ∧ ∀ j v, cells[j]? = some v → w.cell? ((⟨g, 0, none⟩ : Addr).add j) = some v := by
  obtain ⟨cells, ho, hc⟩ := h
  refine ⟨cells, hc, fun j v hj => ?_⟩
  rcases ho.2 with ⟨h1, _⟩ | ⟨g', cap, cur, h1, _, hg, hl, hm, _, ht⟩
  · cases h1
  · injection h1 with h1 _ _
    injection h1 with h1
    injection h1 with h1 _ _
    subst h1
    have ha : (⟨g, 0, none⟩ : Addr).add j = ⟨g, j, none⟩ := by unfold Addr.add; split <;> simp_all
    rw [ha, cell_of_row w g j cur e (0, 0) hg]
    rw [← ht, List.getElem?_take] at hj
    split at hj
    · simpa using hj
    · cases hj
theorem Cells.flat {α : Type} {size : Nat} {E : Enc α} (hf : E.Flat) (hs : 0 < size) {w : World} {cells : List Value} {xs : List α} (h : Cells size E w cells xs) : ∀ v ∈ cells, v.oneCell' = true := by
  intro u hu
  obtain ⟨k, hk⟩ := List.getElem?_of_mem hu
  have hk' : k < xs.length * size := by rw [← h.1]; exact (List.getElem?_eq_some_iff.1 hk).1
  have hj : k / size < xs.length := Nat.div_lt_of_lt_mul (by rw [Nat.mul_comm]; exact hk')
  obtain ⟨cs, hl, he, hcc⟩ := h.2 (k / size) xs[k / size] (List.getElem?_eq_getElem hj)
  have hm : k % size < cs.length := by rw [hl]; exact Nat.mod_lt _ hs
  have := hcc (k % size) cs[k % size] (List.getElem?_eq_getElem hm)
  rw [Nat.mul_comm, Nat.div_add_mod, hk] at this
  injection this with this
  subst this
  exact hf _ _ _ he _ (List.getElem_mem hm)
/-- nodes that are not there -/
def zerosU (m : Nat) : List Value := (List.replicate m [Value.bool false, .slice none 0 0]).flatten
theorem zerosU_succ (m : Nat) : zerosU (m + 1) = [Value.bool false, .slice none 0 0] ++ zerosU m := by simp [zerosU, List.replicate_succ]
theorem zerosU_drop : ∀ (k m : Nat), (zerosU (m + k)).drop (k * 2) = zerosU m
  | 0, m => by simp
  | k + 1, m => by
    rw [show m + (k + 1) = (m + k) + 1 by omega, zerosU_succ, show (k + 1) * 2 = 2 + k * 2 by omega, ← List.drop_drop]
    exact zerosU_drop k m
theorem SameT.setRow {w : World} {g : Nat} {cur cs : Array Value} {e : TypeId} {fr : Nat × Nat} (hg : w.heap[g]? = some (.cells cur e fr)) {T : TypeId → Prop} (hT : ∀ t, T t → t ≠ e) : SameT T w (w.setRow g cs) := by
  intro k cur' t fr' ht hk
  by_cases h : k = g
  · subst h
    rw [hg] at hk
    injection hk with hk
    injection hk with _ h2 _
    exact absurd h2.symm (hT t ht)
  · rw [setRow_other w g k cs h]; exact hk
end Go.Proofs.YtibpijjigopdjaaDoor

/- slices.Delete of one task. -/
namespace Go.Proofs.YtibpijjigopdjaaDoor
open Go.RowKit
set_option maxRecDepth 4000

theorem step_append_row {P : Program} {ops : Array Oper} {o : Oper} {a : Act} {w : World} {K : Act → World → Prop} {Q : Exit → Act → World → Prop} {X : Prop} (hgd : o.guard = none) (s x : Operand) (t : TypeId)
    (ho : o.op = .call { callee := .builtin .append, args := #[s, x], argTypes := #[t, t] }) (e : TypeId) (i : TypeInfo) (size : Nat) (h1 : P.underlying t = some (.slice e)) (h2 : P.info? e = some i) (h4 : i.size = size)
    (g n cap : Nat) (hs : a.eval s = .slice (some ⟨g, 0, none⟩) n cap) (ad : Addr) (m c : Nat) (news : List Value) (hx : a.eval x = .slice (some ad) m c) (hl : news.length = m * size) (hc : ∀ j u, news[j]? = some u → w.cell? (ad.add j) = some u) (h1c : ∀ u ∈ news, u.oneCell' = true)
    (hroom : n + m ≤ cap) (cur : List Value) (hg : w.heap[g]? = some (.cells cur.toArray e (0, 0))) (hfit : n * size + news.length ≤ cur.length)
    (hK : K (a.put o.dst (.slice (some ⟨g, 0, none⟩) (n + m) cap)) (w.setRow g (cur.take (n * size) ++ news ++ cur.drop (n * size + news.length)).toArray)) :
    if Region.wanted o (yielded ops a.tmps) = true then Oper.wp P o a w K Q else X := by
  have hw : Region.wanted o (yielded ops a.tmps) = true := by simp [Region.wanted, hgd]
  rw [if_pos hw]
  subst h4
  have hrun := run_append_room (P := P) w t o.type e i h1 h2 g n cap cur.toArray hg ad m c news hl hc h1c hroom (by simpa using hfit)
  unfold Oper.wp execOp
  simp only [ho, resolve, invoke, builtin, Sem.run_bind, Sem.run_pure, Result.andThen_ok, List.map_toArray, List.map_cons, List.map_nil, hs, hx, hrun]
  exact hK
theorem run_clear_row {P : Program} (w : World) (t e ty : TypeId) (z : Value) (ht : P.underlying t = some (.slice e)) (hv : ∀ w, (zeroValue e).run P w = .ok z w) (zs : List Value) (hz : (Builtin.zeroCells z.cells 1).toList = zs) (h1 : ∀ v ∈ zs, v.oneCell' = true) (g off c : Nat) (cur : List Value)
    (hg : w.heap[g]? = some (.cells cur.toArray e (0, 0))) (hfit : off + zs.length ≤ cur.length) :
    (Builtin.clear_ #[t] ty #[.slice (some ⟨g, off, none⟩) 1 c]).run P w = .ok (.tuple #[]) (w.setRow g (cur.take off ++ zs ++ cur.drop (off + zs.length)).toArray) := by
  have hst := run_storeCells_at P g off e zs 0 cur.toArray w hg (by simpa using hfit) h1
  simp only [Nat.add_zero] at hst
  simp [Builtin.clear_, run_underlying ht, hv, hz, hst]
theorem Cells.take {α : Type} {size : Nat} {E : Enc α} {w : World} {cells : List Value} {xs : List α} (h : Cells size E w cells xs) (k : Nat) : Cells size E w (cells.take (k * size)) (xs.take k) := by
  refine ⟨by rw [List.length_take, List.length_take, h.1]; rcases Nat.le_total k xs.length with hk | hk <;> simp [Nat.min_eq_left, Nat.min_eq_right, hk, Nat.mul_le_mul_right], fun j x hj => ?_⟩
  rw [List.getElem?_take] at hj
  split at hj
  · rename_i hjk
    obtain ⟨cs, hl, he, hc⟩ := h.2 j x hj
    refine ⟨cs, hl, he, fun i u hu => ?_⟩
    have hi : i < size := by rw [← hl]; exact (List.getElem?_eq_some_iff.1 hu).1
    have : j * size + i < k * size := by
      have : (j + 1) * size ≤ k * size := Nat.mul_le_mul_right _ hjk
      rw [Nat.add_mul] at this
      omega
    rw [List.getElem?_take, if_pos this]
    exact hc i u hu
  · cases hj
theorem Cells.drop {α : Type} {size : Nat} {E : Enc α} {w : World} {cells : List Value} {xs : List α} (h : Cells size E w cells xs) (k : Nat) : Cells size E w (cells.drop (k * size)) (xs.drop k) := by
  refine ⟨by rw [List.length_drop, List.length_drop, h.1, Nat.sub_mul], fun j x hj => ?_⟩
  rw [List.getElem?_drop] at hj
  obtain ⟨cs, hl, he, hc⟩ := h.2 (k + j) x hj
  refine ⟨cs, hl, he, fun i u hu => ?_⟩
  rw [List.getElem?_drop, ← hc i u hu, Nat.add_mul, Nat.add_assoc]
/-- a row is set -/
theorem obj_row {w : World} {g : Nat} {cur cs : Array Value} {e : TypeId} (hg : w.heap[g]? = some (.cells cur e (0, 0))) : (w.setRow g cs).heap[g]? = some (.cells cs e (0, 0)) := by
  simp [World.setRow, Array.getElem?_modify, hg]
theorem Gr.row {b : Nat} {w x : World} (h : Gr b w x) (cs : Array Value) : Gr b w (x.setRow b cs) :=
  ⟨by simpa [World.setRow] using h.os, by simpa [World.setRow] using h.tape, by simpa [World.setRow] using h.output, by simpa [World.setRow] using h.size, fun k hk hn => (setRow_other x b k cs (by intro he; exact hn (by rw [he]))).trans (h.block k hk hn)⟩

set_option maxHeartbeats 4000000 in
theorem iDelete (base g c k m : Nat) (ts : List TaskD) (w : World) (hn : ts.length = k + 1 + m) (h : OT w base (.slice (some ⟨g, 0, none⟩) (k + 1 + m) c) ts) :
    Calls Tryd.prog 102 #[.slice (some ⟨g, 0, none⟩) (k + 1 + m) c, .int .i64 (k : Int), .int .i64 ((k + 1 : Nat) : Int)] w fun e w' => e = .returned (.slice (some ⟨g, 0, none⟩) (k + m) c) ∧ OT w' base (.slice (some ⟨g, 0, none⟩) (k + m) c) (ts.eraseIdx k) ∧ Gr g w w' ∧ SameT (fun t => t ≠ 44) w w' := by
  obtain ⟨cells, ho, hc⟩ := h
  obtain ⟨cap, cur, hcap, hb, hg, hl, hm, hsz, ht⟩ : ∃ (cap : Nat) (cur : Array Value), cap = c ∧ base ≤ g ∧ w.heap[g]? = some (.cells cur 44 (0, 0)) ∧ ts.length ≤ c ∧ c ≤ maxLen ∧ cur.size = c * 2 ∧ cur.toList.take (ts.length * 2) = cells := by
    rcases ho.2 with ⟨h1, _⟩ | ⟨g', cap, cur, h1, hb, hh, hl, hm, hsz, ht⟩
    · cases h1
    · injection h1 with h1 h2 h3
      injection h1 with h1
      injection h1 with h1 _ _
      subst h1 h3
      exact ⟨_, cur, rfl, hb, hh, hl, hm, hsz, ht⟩
  clear ho hcap
  obtain ⟨cur, rfl⟩ : ∃ l : List Value, cur = l.toArray := ⟨cur.toList, by simp⟩
  simp only [List.size_toArray] at ht hsz
  unfold maxLen at hm
  rw [hn] at hl ht
  obtain ⟨news, hnews⟩ : ∃ news, news = cells.drop ((k + 1) * 2) := ⟨_, rfl⟩
  have hcl : cells.length = (k + 1 + m) * 2 := by rw [hc.1, hn]
  have hnl : news.length = m * 2 := by rw [hnews, List.length_drop, hcl]; omega
  have hcc : Cells 2 ET w news (ts.drop (k + 1)) := by rw [hnews]; exact hc.drop (k + 1)
  have hct : Cells 2 ET w (cells.take (k * 2)) (ts.take k) := hc.take k
  have hone : ∀ u ∈ news, u.oneCell' = true := Cells.flat ET.flat (by omega) hcc
  have hat : ∀ j u, news[j]? = some u → cur[(k + 1) * 2 + j]? = some u := fun j u hu => by
    rw [hnews, List.getElem?_drop, ← ht, List.getElem?_take] at hu
    split at hu
    · exact hu
    · cases hu
  obtain ⟨Ad, hA, hsrc⟩ : ∃ Ad : Addr, (if c = k + 1 then some (⟨g, 0, none⟩ : Addr) else some ⟨g, (k + 1) * 2, none⟩) = some Ad ∧ Hid (∀ j u, news[j]? = some u → w.drew.cell? (Ad.add j) = some u) := by
    by_cases he : c = k + 1
    · refine ⟨⟨g, 0, none⟩, by simp [he], fun j u hu => ?_⟩
      have h0 : news.length = 0 := by rw [hnl]; omega
      rw [List.length_eq_zero_iff.1 h0] at hu
      simp at hu
    · refine ⟨⟨g, (k + 1) * 2, none⟩, by simp [he], fun j u hu => ?_⟩
      rw [Addr.add_lit, cell_of_row w.drew g _ cur.toArray 44 (0, 0) hg]
      simpa using hat j u hu
  have htk : cur.take (k * 2) = cells.take (k * 2) := by rw [← ht, List.take_take, Nat.min_eq_left (by omega)]
  obtain ⟨R1, hR1⟩ : ∃ R1 : List Value, R1 = cur.take (k * 2) ++ news ++ cur.drop (k * 2 + news.length) := ⟨_, rfl⟩
  have hR1l : R1.length = c * 2 := by
    rw [hR1]
    simp only [List.length_append, List.length_take, List.length_drop, hsz, hnl]
    omega
  have hR1t : R1.take ((k + m) * 2) = cells.take (k * 2) ++ news := by
    rw [hR1, htk, List.take_append_of_le_length (by rw [List.length_append, List.length_take, hcl, hnl]; omega), List.take_of_length_le (by rw [List.length_append, List.length_take, hcl, hnl]; omega)]
  obtain ⟨W2, hW2⟩ : ∃ W2, W2 = w.drew.setRow g R1.toArray := ⟨_, rfl⟩
  have hg2 : W2.heap[g]? = some (.cells R1.toArray 44 (0, 0)) := by rw [hW2]; exact obj_row (cur := cur.toArray) hg
  obtain ⟨R2, hR2⟩ : ∃ R2 : List Value, R2 = R1.take ((k + m) * 2) ++ [.int .i64 0, .slice none 0 0] ++ R1.drop ((k + m) * 2 + 2) := ⟨_, rfl⟩
  have hR2l : R2.length = c * 2 := by
    rw [hR2]
    simp only [List.length_append, List.length_take, List.length_drop, hR1l, List.length_cons, List.length_nil]
    omega
  have hR2t : R2.take ((k + m) * 2) = cells.take (k * 2) ++ news := by
    rw [hR2, List.append_assoc, List.take_append_of_le_length (by rw [List.length_take, hR1l]; omega), List.take_take, Nat.min_self, hR1t]
  obtain ⟨W3, hW3⟩ : ∃ W3, W3 = W2.setRow g R2.toArray := ⟨_, rfl⟩
  have hzv : ∀ w : World, (zeroValue 44).run Tryd.prog w = .ok (.agg #[.int .i64 0, .slice none 0 0]) w := fun _ => by kernel_rfl
  have hclr : ∀ ty, (Builtin.clear_ #[41] ty #[.slice (some ⟨g, (k + m) * 2, none⟩) (k + 1 + m - (k + m)) (c - (k + m))]).run Tryd.prog W2 = .ok (.tuple #[]) W3 := fun ty => by
    rw [show k + 1 + m - (k + m) = 1 by omega, hW3, hR2]
    exact run_clear_row W2 _ 44 ty _ Tryd.underlying41 hzv [.int .i64 0, .slice none 0 0] (by kernel_rfl) (by intro v hv; simp at hv; rcases hv with rfl | rfl <;> rfl) g _ _ R1 hg2 (by rw [hR1l]; simp; omega)
  have hgr : Gr g w W3 := by rw [hW3, hW2]; exact ((Gr.of_ext (Below.drew (Below.refl _ _))).row _).row _
  have hsm : SameT (fun t => t ≠ 44) w W3 := by
    rw [hW3]
    refine SameT.trans (b := W2) ?_ (SameT.setRow hg2 (fun t ht => ht))
    rw [hW2]
    exact SameT.trans (b := w.drew) (Ext.same (Below.drew (Below.refl _ _)) _) (SameT.setRow (w := w.drew) (cur := cur.toArray) hg (fun t ht => ht))
  have hown : OT W3 base (.slice (some ⟨g, 0, none⟩) (k + m) c) (ts.eraseIdx k) := by
    have hg3 : W3.heap[g]? = some (.cells R2.toArray 44 (0, 0)) := by rw [hW3]; exact obj_row hg2
    have hle : (ts.eraseIdx k).length = k + m := by rw [List.length_eraseIdx, if_pos (by omega), hn]; omega
    refine ⟨cells.take (k * 2) ++ news, ⟨?_, .inr ⟨g, c, R2.toArray, by rw [hle], hb, hg3, by rw [hle]; omega, by unfold maxLen; omega, by simpa using hR2l, by rw [hle]; simpa using hR2t⟩⟩, ?_⟩
    · rw [hle, List.length_append, List.length_take, hcl, hnl]; omega
    · rw [List.eraseIdx_eq_take_drop_succ]
      exact (hct.app hcc).same ET.ok (hsm.mono (by rintro t rfl; decide))
  have X : Hid (OT W3 base (.slice (some ⟨g, 0, none⟩) (k + m) c) (ts.eraseIdx k) ∧ Gr g w W3 ∧ SameT (fun t => t ≠ 44) w W3) := hid ⟨hown, hgr, hsm⟩
  have HG := hid hg
  have HL := hid hnl
  have HO := hid hone
  have HSZ := hid hsz
  have HW2 := hid hW2
  have HR1 := hid hR1
  have i1 : k ≤ c := by omega
  have i2 : k + 1 ≤ c := by omega
  have i3 : k + 1 + m ≤ c := by omega
  have i5 : (0 : Int) ≤ (k : Int) + 1 := by omega
  have i6 : (k : Int) + 1 ≤ (k : Int) + 1 + (m : Int) := by omega
  have i4 : ((k : Int) == ((k + 1 : Nat) : Int)) = false := by simp; omega
  obtain ⟨i0_task, hi0_task, hz0_task, hz1_task, hz2_task⟩ := info_parts info_task
  clear hown hgr hsm hW3 hR2t hR2l hR2 hg2 hR1t hR1l htk hat hone hct hcc hnews hcl hzv hb hg hc hsz ht hn hnl hW2 hR1
  go_enter Tryd.func102, Tryd.ntmps102
  go_wp2
  refine WG.start (fun w' => True) [6,7] (by kernel_rfl) (by trivial) (fun hHeld => ?_)
  (refine WG.take (i := 0) (v := ?_) rfl (by kernel_rfl) (by kernel_rfl) (by kernel_rfl) (by kernel_rfl) (fun _ _ _ h => h) (Or.inl ⟨by rfl, ?_⟩) (by assumption) ?_; rotate_left; (intro w hSw; (try dsimp only at hSw); go_split_ands; go_simp; (try with_reducible rfl)); (try simp only [Act.put, List.setIfInBounds_toArray, List.set_cons_zero, List.set_cons_succ]))
  (refine WG.take (i := 1) (v := ?_) rfl (by kernel_rfl) (by kernel_rfl) (by kernel_rfl) (by kernel_rfl) (fun _ _ _ h => h) (Or.inl ⟨by rfl, ?_⟩) (by assumption) ?_; rotate_left; (intro w hSw; (try dsimp only at hSw); go_split_ands; go_simp; (try with_reducible rfl)); (try simp only [Act.put, List.setIfInBounds_toArray, List.set_cons_zero, List.set_cons_succ]))
  (refine WG.take (i := 2) (v := ?_) rfl (by kernel_rfl) (by kernel_rfl) (by kernel_rfl) (by kernel_rfl) (fun _ _ _ h => h) (Or.inl ⟨by rfl, ?_⟩) (by assumption) ?_; rotate_left; (intro w hSw; (try dsimp only at hSw); go_split_ands; go_simp; (try with_reducible rfl)); (try simp only [Act.put, List.setIfInBounds_toArray, List.set_cons_zero, List.set_cons_succ]))
  (refine WG.take (i := 3) (v := ?_) rfl (by kernel_rfl) (by kernel_rfl) (by kernel_rfl) (by kernel_rfl) (fun _ _ _ h => h) (Or.inl ⟨by rfl, ?_⟩) (by assumption) ?_; rotate_left; (intro w hSw; (try dsimp only at hSw); go_split_ands; go_simp; (try with_reducible rfl)); (try simp only [Act.put, List.setIfInBounds_toArray, List.set_cons_zero, List.set_cons_succ]))
  (refine WG.take (i := 4) (v := ?_) rfl (by kernel_rfl) (by kernel_rfl) (by kernel_rfl) (by kernel_rfl) (fun _ _ _ h => h) (Or.inl ⟨by rfl, ?_⟩) (by assumption) ?_; rotate_left; (intro w hSw; (try dsimp only at hSw); go_split_ands; go_simp; (try with_reducible rfl)); (try simp only [Act.put, List.setIfInBounds_toArray, List.set_cons_zero, List.set_cons_succ]))
  (refine WG.take (i := 5) (v := ?_) rfl (by kernel_rfl) (by kernel_rfl) (by kernel_rfl) (by kernel_rfl) (fun _ _ _ h => h) (Or.inl ⟨by rfl, ?_⟩) (by assumption) ?_; rotate_left; (intro w hSw; (try dsimp only at hSw); go_split_ands; go_simp; (try with_reducible rfl)); (try simp only [Act.put, List.setIfInBounds_toArray, List.set_cons_zero, List.set_cons_succ]))
  refine WG.last (i := 6) rfl (by kernel_rfl) (by kernel_rfl) (fun K hK => ?_)
  refine step_append_row rfl (.tmp 22) (.tmp 25) 41 rfl 44 i0_task 2 Tryd.underlying41 hi0_task hz1_task g k c (by simp [Act.eval]) Ad m (c - (k + 1)) news (by simp [Act.eval]) HL.out hsrc.out HO.out (by omega) cur HG.out (by rw [HL.out, HSZ.out]; omega) ?_; rw [← HR1.out, ← HW2.out]
  refine hK.out _ _ ?_
  clear hK K
  (try simp only [Act.put, List.setIfInBounds_toArray, List.set_cons_zero, List.set_cons_succ])
  refine WG.last (i := 7) rfl (by kernel_rfl) (by kernel_rfl) (fun K hK => ?_)
  go_simp
  refine hK.out _ _ ?_
  clear hK K
  (try simp only [Act.put, List.setIfInBounds_toArray, List.set_cons_zero, List.set_cons_succ])
  refine WG.done (by kernel_rfl) ?_
  go_wp2
  go_ret
  exact ⟨rfl, X.out⟩

end Go.Proofs.YtibpijjigopdjaaDoor

/- slices.Delete of one task, rows apart; the program's copies of nodes. -/
namespace Go.Proofs.YtibpijjigopdjaaDoor
open Go.RowKit
set_option maxRecDepth 4000

set_option maxHeartbeats 4000000 in
theorem iDeleteD (base g c k m : Nat) (ts : List (TaskD × Value)) (w : World) (hn : ts.length = k + 1 + m) (h : ODT w base (.slice (some ⟨g, 0, none⟩) (k + 1 + m) c) ts) :
    Calls Tryd.prog 102 #[.slice (some ⟨g, 0, none⟩) (k + 1 + m) c, .int .i64 (k : Int), .int .i64 ((k + 1 : Nat) : Int)] w fun e w' => e = .returned (.slice (some ⟨g, 0, none⟩) (k + m) c) ∧ ODT w' base (.slice (some ⟨g, 0, none⟩) (k + m) c) (ts.eraseIdx k) ∧ Gr g w w' ∧ SameT (fun t => t ≠ 44) w w' := by
  obtain ⟨cells, ho, hc⟩ := h
  obtain ⟨cap, cur, hcap, hb, hg, hl, hm, hsz, ht⟩ : ∃ (cap : Nat) (cur : Array Value), cap = c ∧ base ≤ g ∧ w.heap[g]? = some (.cells cur 44 (0, 0)) ∧ ts.length ≤ c ∧ c ≤ maxLen ∧ cur.size = c * 2 ∧ cur.toList.take (ts.length * 2) = cells := by
    rcases ho.2 with ⟨h1, _⟩ | ⟨g', cap, cur, h1, hb, hh, hl, hm, hsz, ht⟩
    · cases h1
    · injection h1 with h1 h2 h3
      injection h1 with h1
      injection h1 with h1 _ _
      subst h1 h3
      exact ⟨_, cur, rfl, hb, hh, hl, hm, hsz, ht⟩
  clear ho hcap
  obtain ⟨cur, rfl⟩ : ∃ l : List Value, cur = l.toArray := ⟨cur.toList, by simp⟩
  simp only [List.size_toArray] at ht hsz
  unfold maxLen at hm
  rw [hn] at hl ht
  obtain ⟨news, hnews⟩ : ∃ news, news = cells.drop ((k + 1) * 2) := ⟨_, rfl⟩
  have hcl : cells.length = (k + 1 + m) * 2 := by rw [hc.1, hn]
  have hnl : news.length = m * 2 := by rw [hnews, List.length_drop, hcl]; omega
  have hcc : Cells 2 (EDT base) w news (ts.drop (k + 1)) := by rw [hnews]; exact hc.drop (k + 1)
  have hct : Cells 2 (EDT base) w (cells.take (k * 2)) (ts.take k) := hc.take k
  have hone : ∀ u ∈ news, u.oneCell' = true := Cells.flat (EDT.flat base) (by omega) hcc
  have hat : ∀ j u, news[j]? = some u → cur[(k + 1) * 2 + j]? = some u := fun j u hu => by
    rw [hnews, List.getElem?_drop, ← ht, List.getElem?_take] at hu
    split at hu
    · exact hu
    · cases hu
  obtain ⟨Ad, hA, hsrc⟩ : ∃ Ad : Addr, (if c = k + 1 then some (⟨g, 0, none⟩ : Addr) else some ⟨g, (k + 1) * 2, none⟩) = some Ad ∧ Hid (∀ j u, news[j]? = some u → w.drew.cell? (Ad.add j) = some u) := by
    by_cases he : c = k + 1
    · refine ⟨⟨g, 0, none⟩, by simp [he], fun j u hu => ?_⟩
      have h0 : news.length = 0 := by rw [hnl]; omega
      rw [List.length_eq_zero_iff.1 h0] at hu
      simp at hu
    · refine ⟨⟨g, (k + 1) * 2, none⟩, by simp [he], fun j u hu => ?_⟩
      rw [Addr.add_lit, cell_of_row w.drew g _ cur.toArray 44 (0, 0) hg]
      simpa using hat j u hu
  have htk : cur.take (k * 2) = cells.take (k * 2) := by rw [← ht, List.take_take, Nat.min_eq_left (by omega)]
  obtain ⟨R1, hR1⟩ : ∃ R1 : List Value, R1 = cur.take (k * 2) ++ news ++ cur.drop (k * 2 + news.length) := ⟨_, rfl⟩
  have hR1l : R1.length = c * 2 := by
    rw [hR1]
    simp only [List.length_append, List.length_take, List.length_drop, hsz, hnl]
    omega
  have hR1t : R1.take ((k + m) * 2) = cells.take (k * 2) ++ news := by
    rw [hR1, htk, List.take_append_of_le_length (by rw [List.length_append, List.length_take, hcl, hnl]; omega), List.take_of_length_le (by rw [List.length_append, List.length_take, hcl, hnl]; omega)]
  obtain ⟨W2, hW2⟩ : ∃ W2, W2 = w.drew.setRow g R1.toArray := ⟨_, rfl⟩
  have hg2 : W2.heap[g]? = some (.cells R1.toArray 44 (0, 0)) := by rw [hW2]; exact obj_row (cur := cur.toArray) hg
  obtain ⟨R2, hR2⟩ : ∃ R2 : List Value, R2 = R1.take ((k + m) * 2) ++ [.int .i64 0, .slice none 0 0] ++ R1.drop ((k + m) * 2 + 2) := ⟨_, rfl⟩
  have hR2l : R2.length = c * 2 := by
    rw [hR2]
    simp only [List.length_append, List.length_take, List.length_drop, hR1l, List.length_cons, List.length_nil]
    omega
  have hR2t : R2.take ((k + m) * 2) = cells.take (k * 2) ++ news := by
    rw [hR2, List.append_assoc, List.take_append_of_le_length (by rw [List.length_take, hR1l]; omega), List.take_take, Nat.min_self, hR1t]
  obtain ⟨W3, hW3⟩ : ∃ W3, W3 = W2.setRow g R2.toArray := ⟨_, rfl⟩
  have hzv : ∀ w : World, (zeroValue 44).run Tryd.prog w = .ok (.agg #[.int .i64 0, .slice none 0 0]) w := fun _ => by kernel_rfl
  have hclr : ∀ ty, (Builtin.clear_ #[41] ty #[.slice (some ⟨g, (k + m) * 2, none⟩) (k + 1 + m - (k + m)) (c - (k + m))]).run Tryd.prog W2 = .ok (.tuple #[]) W3 := fun ty => by
    rw [show k + 1 + m - (k + m) = 1 by omega, hW3, hR2]
    exact run_clear_row W2 _ 44 ty _ Tryd.underlying41 hzv [.int .i64 0, .slice none 0 0] (by kernel_rfl) (by intro v hv; simp at hv; rcases hv with rfl | rfl <;> rfl) g _ _ R1 hg2 (by rw [hR1l]; simp; omega)
  have hgr : Gr g w W3 := by rw [hW3, hW2]; exact ((Gr.of_ext (Below.drew (Below.refl _ _))).row _).row _
  have hsm : SameT (fun t => t ≠ 44) w W3 := by
    rw [hW3]
    refine SameT.trans (b := W2) ?_ (SameT.setRow hg2 (fun t ht => ht))
    rw [hW2]
    exact SameT.trans (b := w.drew) (Ext.same (Below.drew (Below.refl _ _)) _) (SameT.setRow (w := w.drew) (cur := cur.toArray) hg (fun t ht => ht))
  have hown : ODT W3 base (.slice (some ⟨g, 0, none⟩) (k + m) c) (ts.eraseIdx k) := by
    have hg3 : W3.heap[g]? = some (.cells R2.toArray 44 (0, 0)) := by rw [hW3]; exact obj_row hg2
    have hle : (ts.eraseIdx k).length = k + m := by rw [List.length_eraseIdx, if_pos (by omega), hn]; omega
    refine ⟨cells.take (k * 2) ++ news, ⟨?_, .inr ⟨g, c, R2.toArray, by rw [hle], hb, hg3, by rw [hle]; omega, by unfold maxLen; omega, by simpa using hR2l, by rw [hle]; simpa using hR2t⟩⟩, ?_⟩
    · rw [hle, List.length_append, List.length_take, hcl, hnl]; omega
    · rw [List.eraseIdx_eq_take_drop_succ]
      exact (hct.app hcc).same (EDT.ok base) (hsm.mono (by rintro t rfl; decide))
  have X : Hid (ODT W3 base (.slice (some ⟨g, 0, none⟩) (k + m) c) (ts.eraseIdx k) ∧ Gr g w W3 ∧ SameT (fun t => t ≠ 44) w W3) := hid ⟨hown, hgr, hsm⟩
  have HG := hid hg
  have HL := hid hnl
  have HO := hid hone
  have HSZ := hid hsz
  have HW2 := hid hW2
  have HR1 := hid hR1
  have i1 : k ≤ c := by omega
  have i2 : k + 1 ≤ c := by omega
  have i3 : k + 1 + m ≤ c := by omega
  have i5 : (0 : Int) ≤ (k : Int) + 1 := by omega
  have i6 : (k : Int) + 1 ≤ (k : Int) + 1 + (m : Int) := by omega
  have i4 : ((k : Int) == ((k + 1 : Nat) : Int)) = false := by simp; omega
  obtain ⟨i0_task, hi0_task, hz0_task, hz1_task, hz2_task⟩ := info_parts info_task
  clear hown hgr hsm hW3 hR2t hR2l hR2 hg2 hR1t hR1l htk hat hone hct hcc hnews hcl hzv hb hg hc hsz ht hn hnl hW2 hR1
  go_enter Tryd.func102, Tryd.ntmps102
  go_wp2
  refine WG.start (fun w' => True) [6,7] (by kernel_rfl) (by trivial) (fun hHeld => ?_)
  (refine WG.take (i := 0) (v := ?_) rfl (by kernel_rfl) (by kernel_rfl) (by kernel_rfl) (by kernel_rfl) (fun _ _ _ h => h) (Or.inl ⟨by rfl, ?_⟩) (by assumption) ?_; rotate_left; (intro w hSw; (try dsimp only at hSw); go_split_ands; go_simp; (try with_reducible rfl)); (try simp only [Act.put, List.setIfInBounds_toArray, List.set_cons_zero, List.set_cons_succ]))
  (refine WG.take (i := 1) (v := ?_) rfl (by kernel_rfl) (by kernel_rfl) (by kernel_rfl) (by kernel_rfl) (fun _ _ _ h => h) (Or.inl ⟨by rfl, ?_⟩) (by assumption) ?_; rotate_left; (intro w hSw; (try dsimp only at hSw); go_split_ands; go_simp; (try with_reducible rfl)); (try simp only [Act.put, List.setIfInBounds_toArray, List.set_cons_zero, List.set_cons_succ]))
  (refine WG.take (i := 2) (v := ?_) rfl (by kernel_rfl) (by kernel_rfl) (by kernel_rfl) (by kernel_rfl) (fun _ _ _ h => h) (Or.inl ⟨by rfl, ?_⟩) (by assumption) ?_; rotate_left; (intro w hSw; (try dsimp only at hSw); go_split_ands; go_simp; (try with_reducible rfl)); (try simp only [Act.put, List.setIfInBounds_toArray, List.set_cons_zero, List.set_cons_succ]))
  (refine WG.take (i := 3) (v := ?_) rfl (by kernel_rfl) (by kernel_rfl) (by kernel_rfl) (by kernel_rfl) (fun _ _ _ h => h) (Or.inl ⟨by rfl, ?_⟩) (by assumption) ?_; rotate_left; (intro w hSw; (try dsimp only at hSw); go_split_ands; go_simp; (try with_reducible rfl)); (try simp only [Act.put, List.setIfInBounds_toArray, List.set_cons_zero, List.set_cons_succ]))
  (refine WG.take (i := 4) (v := ?_) rfl (by kernel_rfl) (by kernel_rfl) (by kernel_rfl) (by kernel_rfl) (fun _ _ _ h => h) (Or.inl ⟨by rfl, ?_⟩) (by assumption) ?_; rotate_left; (intro w hSw; (try dsimp only at hSw); go_split_ands; go_simp; (try with_reducible rfl)); (try simp only [Act.put, List.setIfInBounds_toArray, List.set_cons_zero, List.set_cons_succ]))
  (refine WG.take (i := 5) (v := ?_) rfl (by kernel_rfl) (by kernel_rfl) (by kernel_rfl) (by kernel_rfl) (fun _ _ _ h => h) (Or.inl ⟨by rfl, ?_⟩) (by assumption) ?_; rotate_left; (intro w hSw; (try dsimp only at hSw); go_split_ands; go_simp; (try with_reducible rfl)); (try simp only [Act.put, List.setIfInBounds_toArray, List.set_cons_zero, List.set_cons_succ]))
  refine WG.last (i := 6) rfl (by kernel_rfl) (by kernel_rfl) (fun K hK => ?_)
  refine step_append_row rfl (.tmp 22) (.tmp 25) 41 rfl 44 i0_task 2 Tryd.underlying41 hi0_task hz1_task g k c (by simp [Act.eval]) Ad m (c - (k + 1)) news (by simp [Act.eval]) HL.out hsrc.out HO.out (by omega) cur HG.out (by rw [HL.out, HSZ.out]; omega) ?_; rw [← HR1.out, ← HW2.out]
  refine hK.out _ _ ?_
  clear hK K
  (try simp only [Act.put, List.setIfInBounds_toArray, List.set_cons_zero, List.set_cons_succ])
  refine WG.last (i := 7) rfl (by kernel_rfl) (by kernel_rfl) (fun K hK => ?_)
  go_simp
  refine hK.out _ _ ?_
  clear hK K
  (try simp only [Act.put, List.setIfInBounds_toArray, List.set_cons_zero, List.set_cons_succ])
  refine WG.done (by kernel_rfl) ?_
  go_wp2
  go_ret
  exact ⟨rfl, X.out⟩
theorem iDeleteD' (base g c k m : Nat) (ts : List (TaskD × Value)) (w : World) (hn : ts.length = k + 1 + m) (h : ODT w base (.slice (some ⟨g, 0, none⟩) (k + 1 + m) c) ts) :
    Calls Tryd.prog 102 #[.slice (some ⟨g, 0, none⟩) (k + 1 + m) c, .int .i64 (k : Int), .int .i64 ((k : Int) + 1)] w fun e w' => e = .returned (.slice (some ⟨g, 0, none⟩) (k + m) c) ∧ ODT w' base (.slice (some ⟨g, 0, none⟩) (k + m) c) (ts.eraseIdx k) ∧ Gr g w w' ∧ SameT (fun t => t ≠ 44) w w' := iDeleteD base g c k m ts w hn h

set_option maxHeartbeats 2000000 in
theorem iCopyBinsD (v : Value) (bs : List (List TaskD)) (w : World) (h : RB w v bs) (hl : bs.length ≤ 4000000) (hb : ∀ b ∈ bs, b.length ≤ 4000000 ∧ ∀ t ∈ b, t.need.length ≤ 4000000) :
    Calls Tryd.prog 54 #[v] w fun e w' => ∃ v' us, e = .returned v' ∧ ODB w' w.heap.size v' us ∧ us.map BinW.d = bs ∧ (rowBs us).Nodup ∧ (binNs us).Nodup ∧ Ext w w' := by
  obtain ⟨A, c, rfl, hc, hc', hr⟩ := RB.get h
  clear h
  obtain ⟨i0_bin, hi0_bin, hz0_bin, hz1_bin, hz2_bin⟩ := info_parts info_bin
  go_enter Tryd.func54, Tryd.ntmps54
  go_wp2_with (at_make; refine wpList_make_own _ rfl _ _ 24 rfl w.heap.size 41 i0_bin _ 1 Tryd.underlying24 hi0_bin hz0_bin hz1_bin _ _ _ bs.length rfl rfl rfl (by rw [hz2_bin]; omega) (by unfold maxLen; omega) (by simp) ?_; intro w1 hO1 hg1; have hE1 : Ext w w1 := Below.grown (Below.refl _ _) hg1 (Nat.le_refl _) (fun k hk => by cases hk); have hO1 : ODB w1 w.heap.size _ [] := ⟨[], hO1, Cells.nil_ _ _ _⟩; have HO1 := hid hO1; have HE1 := hid hE1; clear hO1 hE1 hg1)
  go_loopw [3, 11] (fun s i wr => ∃ (u : Value) (k : Nat) (us : List BinW), u = s ∧ k ≤ bs.length ∧ i = .int .i64 k ∧ Hid (ODB wr w.heap.size u us ∧ us.map BinW.d = bs.take k ∧ (rowBs us).Nodup ∧ (binNs us).Nodup ∧ Ext w wr)) (fun _ i _ => bs.length - (intOf i).toNat)
  case atStart => exact ⟨_, 0, [], rfl, Nat.zero_le _, rfl, hid ⟨HO1.out, rfl, by simp [rowBs], by simp [binNs], HE1.out⟩⟩
  case round =>
    obtain ⟨u, k, us, hu, hk, rfl, H⟩ := hrel
    subst hu
    by_cases hlt : k < bs.length
    · obtain ⟨b, o, x, An, cn, rfl, e, c1, hnx⟩ := hr k hlt
      have i1 : (k : Int) < (bs.length : Int) := by omega
      have HE := hid H.out.2.2.2.2
      have c1r := HE.out.cell c1
      have HN := hid (RT.ext hnx HE.out)
      have HXB := hid (hb x (List.mem_of_getElem? e.out))
      have HUL : Hid (us.length ≤ 4000000) := hid (by have := congrArg List.length H.out.2.1; rw [List.length_map, List.length_take] at this; omega)
      have HBT := hid (ODB.tlt H.out.1)
      have HBI := hid (ODB.ilt H.out.1)
      clear c1 hnx
      go_wp2_with (first
        | (go_at_call 69; refine (iCopyTasksD _ x _ HN.out HXB.out.1 HXB.out.2).mono ?_; rintro e1 w2 ⟨tv, qs, rfl, htv, hqm, hqn, hEt⟩; obtain ⟨At, ct, htf, hct, hct'⟩ := htv.form; have hql : qs.length = x.length := (by rw [← hqm, List.length_map]); rw [hql] at htf; subst htf; clear hql; have hEa := hEt.trans (Ext.alloc w2 (.cells #[.slice At x.length ct] 41)); have HTF : Hid ((∀ a, (Value.slice At x.length ct).ownBlock = some a → wr.heap.size ≤ a) ∧ ∀ a ∈ needBs qs, wr.heap.size ≤ a) := hid ⟨fun a ha => (Own.lt htv a ha).1, fun a ha => (ODT.lt htv a ha).1⟩; have HTV := hid (ODT.low (base' := w.heap.size) (Own.ext (EDT.ok _) htv (Ext.alloc w2 (.cells #[.slice At x.length ct] 41))) HE.out.size); have HQM := hid hqm; have HQN := hid hqn; have HV := hid (Own.ext (EDB.ok _) H.out.1 hEa); have HEa := hid (HE.out.trans hEa); have hsz2 : w.heap.size ≤ w2.heap.size := (HE.out.trans hEt).size; clear htv hqm hqn hEt hEa)
        | (at_builtin; refine wpList_append_sl _ (by rfl) _ _ 24 (by rfl) (EDB.ok _) (EDB.flat _) (w.heap.size) 41 EDB.ne i0_bin _ 1 24 Tryd.underlying24 hi0_bin hz0_bin hz1_bin hz2_bin rfl (by omega) _ (by rfl) _ (HV.out) _ (by rfl) _ (RSl.laid (cs := [.slice At x.length ct]) (x := (⟨.slice At x.length ct, qs⟩ : BinW)) (heap_alloc_new _ _) rfl ⟨rfl, HTV.out⟩) (by have := HUL.out; simp; omega) (by have := HUL.out; simp; omega) ?_ ?_; (focus (first | exact Nat.le_refl _ | (simp; done) | (simp; omega) | omega)); intro v3 w3 hO3 hg3 hat3 hs3; have HO3 := hid hO3; have HE3 := hid (Ext.grown HEa.out hg3 HV.out.lt); clear hO3 hg3 hat3 hs3))
      go_roundw
      case rel => exact ⟨_, k + 1, us ++ [⟨.slice At x.length ct, qs⟩], rfl, by omega, by go_num, hid ⟨HO3.out, by rw [List.map_append, H.out.2.1, take_snoc e.out]; show _ ++ [qs.map (·.1)] = _; rw [HQM.out], by rw [rowBs_app, rowBs_one]; exact nodup_fresh H.out.2.2.1 (optList_nodup _) (fun a ha => (HBT.out a ha).2) (fun a ha => HTF.out.1 a (by simpa using ha)), by rw [binNs_app, binNs_one]; exact nodup_fresh H.out.2.2.2.1 HQN.out (fun a ha => (HBI.out a ha).2) HTF.out.2, HE3.out⟩⟩
      case measure => simp [intOf]; omega
    · go_wp2
      go_ret
      have hk' : k = bs.length := by omega
      have hm := H.out.2.1
      rw [hk', List.take_length] at hm
      exact ⟨_, us, rfl, H.out.1, hm, H.out.2.2.1, H.out.2.2.2.1, H.out.2.2.2.2⟩

end Go.Proofs.YtibpijjigopdjaaDoor

/- Rows of nodes: one task from one node into another; the rows stay apart. -/
namespace Go.Proofs.YtibpijjigopdjaaDoor
open Go.RowKit
set_option maxRecDepth 4000

theorem nodup_setB : ∀ (us : List BinW) (k : Nat) (q : BinW), (rowBs us).Nodup → (∀ g, q.tv.ownBlock = some g → g ∉ rowBs us) → (rowBs (us.set k q)).Nodup
  | [], _, _, _, _ => by simp [rowBs]
  | p :: us, 0, q, hn, hq => by
    have e : ∀ (p : BinW) us, rowBs (p :: us) = p.tv.ownBlock.toList ++ rowBs us := fun p us => by
      rw [show p :: us = [p] ++ us from rfl, rowBs_app, rowBs_one]
    rw [List.set_cons_zero, e]
    rw [e] at hn
    refine List.nodup_append.2 ⟨optList_nodup _, (List.nodup_append.1 hn).2.1, fun x hx y hy he => ?_⟩
    subst he
    have hx : q.tv.ownBlock = some x := by simpa using hx
    exact hq x hx (by rw [e]; exact List.mem_append_right _ hy)
  | p :: us, k + 1, q, hn, hq => by
    have e : ∀ (p : BinW) us, rowBs (p :: us) = p.tv.ownBlock.toList ++ rowBs us := fun p us => by
      rw [show p :: us = [p] ++ us from rfl, rowBs_app, rowBs_one]
    rw [List.set_cons_succ, e]
    rw [e] at hn
    have h1 := List.nodup_append.1 hn
    refine List.nodup_append.2 ⟨h1.1, nodup_setB us k q h1.2.1 (fun g hg hm => hq g hg (by rw [e]; exact List.mem_append_right _ hm)), fun x hx y hy he => ?_⟩
    subst he
    obtain ⟨u, hu, hb⟩ := List.mem_filterMap.1 hy
    rcases List.mem_or_eq_of_mem_set hu with hu | hu
    · exact h1.2.2 x hx x (List.mem_filterMap.2 ⟨u, hu, hb⟩) rfl
    · subst hu
      exact hq x hb (by rw [e]; exact List.mem_append_left _ hx)
/-- its block is the one that it was, or new -/
theorem nodup_appB {us : List BinW} (hnd : (rowBs us).Nodup) {k H : Nat} {u y : BinW} (hk : us[k]? = some u) (hv : y.tv.ownBlock = u.tv.ownBlock ∨ y.tv.ownBlock = some H) (hH : ∀ g ∈ rowBs us, g < H) : (rowBs (us.set k y)).Nodup := by
  rcases hv with hv | hv
  · have e : ∀ qs : List BinW, rowBs qs = (qs.map (fun p => p.tv.ownBlock)).filterMap id := fun qs => by unfold rowBs; rw [List.filterMap_map]; rfl
    have e2 : rowBs (us.set k y) = rowBs us := by
      rw [e, e, List.map_set]
      congr 1
      exact set_same (x := y.tv.ownBlock) (by rw [List.getElem?_map, hk, hv]; rfl)
    rw [e2]; exact hnd
  · exact nodup_setB us k _ hnd (fun g hg hm => by
      rw [hv] at hg
      injection hg with hg
      have := hH g hm
      omega)
theorem binNs_eq (us : List BinW) : binNs us = needBs (us.map BinW.qs).flatten := by
  induction us with
  | nil => rfl
  | cons u us ih => rw [show u :: us = [u] ++ us from rfl, binNs_app, binNs_one, ih, List.map_append, List.flatten_append, needBs_app]; simp
theorem binNs_move {us : List BinW} {f t k : Nat} {u c : BinW} {p : TaskD × Value} (hu : us[f]? = some u) (hc : us[t]? = some c) (hne : t ≠ f) (hp : u.qs[k]? = some p) (v1 v2 : Value) :
    (binNs ((us.set f ⟨v1, u.qs.eraseIdx k⟩).set t ⟨v2, c.qs ++ [p]⟩)).Perm (binNs us) := by
  rw [binNs_eq, binNs_eq, List.map_set, List.map_set]
  unfold needBs
  refine List.Perm.filterMap _ ?_
  exact (flatten_set_perm _ t c.qs p (by rw [List.getElem?_set_ne (Ne.symm hne), List.getElem?_map, hc]; rfl)).trans (flatten_set_erase (us.map BinW.qs) f k u.qs p (by rw [List.getElem?_map, hu]; rfl) hp)
theorem d_erase (u : BinW) (v : Value) (k : Nat) : BinW.d ⟨v, u.qs.eraseIdx k⟩ = u.d.eraseIdx k := by
  unfold BinW.d
  rw [List.eraseIdx_eq_take_drop_succ, List.eraseIdx_eq_take_drop_succ, List.map_append, List.map_take, List.map_drop]
theorem d_move {us : List BinW} {bs : List (List TaskD)} (hb : us.map BinW.d = bs) {f t k : Nat} {u c : BinW} {p : TaskD × Value} (v1 v2 : Value) :
    ((us.set f ⟨v1, u.qs.eraseIdx k⟩).set t ⟨v2, c.qs ++ [p]⟩).map BinW.d = (bs.set f (u.d.eraseIdx k)).set t (c.d ++ [p.1]) := by
  rw [List.map_set, List.map_set, hb, d_erase]
  congr 1
  unfold BinW.d
  simp
theorem idxI_of {α : Type} {p : α → Bool} {xs : List α} {k : Nat} (h : xs.findIdx? p = some k) : idxI p xs = (k : Int) := by unfold idxI; rw [h]
theorem Own.blk {α : Type} {e : TypeId} {size : Nat} {E : Enc α} {w : World} {base g n c : Nat} {xs : List α} (h : Own e size E w base (.slice (some ⟨g, 0, none⟩) n c) xs) : ∃ cur, w.heap[g]? = some (.cells cur e (0, 0)) := by
  obtain ⟨cells, ho, _⟩ := h
  rcases ho.2 with ⟨h1, _⟩ | ⟨g', cap, cur, h1, _, hh, _⟩
  · cases h1
  · injection h1 with h1 _ _
    injection h1 with h1
    injection h1 with h1 _ _
    subst h1
    exact ⟨cur, hh⟩
/-- the variable that holds the error of moves -/
abbrev errV (a : Addr) : Value := .iface 156 (.pointer (some a))

/-- what move does to nodes of the call's own -/
def RetMv (room : List Int) (bs : List (List TaskD)) (m : MoveD) (v : Value) (base : Nat) (a : Addr) (w : World) (e : Ending) (w' : World) : Prop :=
  (canMove room bs m = true ∧ e = .returned .nilIface ∧ ∃ us', ODB w' base v us' ∧ us'.map BinW.d = doMove bs m ∧ (rowBs us').Nodup ∧ (binNs us').Nodup ∧ Below base w w' ∧ SameT (fun t => t ≠ 44 ∧ t ≠ 41) w w') ∨
  (canMove room bs m = false ∧ e = .returned (errV a) ∧ Ext w w')

end Go.Proofs.YtibpijjigopdjaaDoor

/- The program's move between nodes. -/
namespace Go.Proofs.YtibpijjigopdjaaDoor
open Go.RowKit
set_option maxRecDepth 4000

set_option maxHeartbeats 8000000 in
theorem iMove (rv v : Value) (room : List Int) (us : List BinW) (bs : List (List TaskD)) (mid mto : Int) (base : Nat) (a : Addr) (w : World) (hR : RI w rv room) (h : ODB w base v us) (hbs : us.map BinW.d = bs) (hnt : (rowBs us).Nodup) (hni : (binNs us).Nodup) (hv : binsOk room bs = true) (hga : w.cell? ⟨0, 0, none⟩ = some (errV a)) (_hb0 : 0 < base) (hbz : base ≤ w.heap.size) :
    Calls Tryd.prog 66 #[rv, v, .agg #[.int .i64 mid, .int .i64 mto]] w (RetMv room bs ⟨mid, mto⟩ v base a w) := by
  have HR0 := hid hR
  have HOw0 := hid h
  obtain ⟨Ar, cr, rfl, _⟩ := hR
  obtain ⟨A, c, rfl, _, hcn⟩ := h.form
  have HBS := hid hbs
  have HNL : Hid (us.length = bs.length) := hid (by rw [← hbs, List.length_map])
  rw [HNL.out] at h HOw0 hcn ⊢
  obtain ⟨W, hW⟩ : ∃ W, W = w.alloc (.cells #[.int .i64 mid, .int .i64 mto] 32) := ⟨_, rfl⟩
  have hEW : Ext w W := by rw [hW]; exact Ext.alloc _ _
  have hbx : W.heap[w.heap.size]? = some (.cells #[.int .i64 mid, .int .i64 mto] 32 (0, 0)) := by rw [hW]; exact heap_alloc_new _ _
  have hgW := hEW.cell hga
  have KB : Hid (∀ w', Ext W w' → w'.cell? ⟨w.heap.size, 0, none⟩ = some (.int .i64 mid) ∧ w'.cell? ⟨w.heap.size, 1, none⟩ = some (.int .i64 mto) ∧ w'.cell? ⟨0, 0, none⟩ = some (errV a)) := hid fun w' hw => ⟨obj_cell (hw.obj hbx) (i := 0) rfl, obj_cell (hw.obj hbx) (i := 1) rfl, hw.cell hgW⟩
  obtain ⟨hb0, hb1, hgg⟩ := KB.out _ (Ext.refl _)
  have HR := hid (RI.ext HR0.out hEW)
  have HO := hid (Own.ext (EDB.ok _) h hEW)
  have HB : Hid (RB W (.slice A bs.length c) bs) := hid (by have h3 := ODB.read HO.out; rw [hbs] at h3; exact h3)
  have HEW := hid hEW
  have HMX := hid hbx
  have HV := hid hv
  have HS := hid (bins_small hv)
  have HNT := hid hnt
  have HNI := hid hni
  have HBZ := hid hbz
  have HLR : Hid (room.length = 3) := hid HS.out.1
  have hl14 : bs.length ≤ 14 := HS.out.2.1
  have HOw := HOw0
  clear h hbx hEW hv hbs hnt hni hga hgW
  obtain ⟨i0_task, hi0_task, hz0_task, hz1_task, hz2_task⟩ := info_parts info_task
  by_cases h1 : whereL bs mid < 0
  · have HA : Hid (canMove room bs ⟨mid, mto⟩ = false) := hid (by unfold canMove; rw [decide_eq_false (show ¬ 0 ≤ whereL bs mid by omega)]; rfl)
    go_enter Tryd.func66, Tryd.ntmps66
    go_wp2_with (go_at_call 62; rw [← hW]; refine (iWhereOf _ bs mid _ HB.out).mono ?_; rintro e w1 ⟨rfl, hE1⟩; have HE1 := hid hE1; obtain ⟨hb0, hb1, hgg⟩ := KB.out _ HE1.out; clear hE1 hW)
    go_ret
    exact .inr ⟨HA.out, rfl, HEW.out.trans HE1.out⟩
  · obtain ⟨f, hf⟩ : ∃ f : Nat, whereL bs mid = (f : Int) := ⟨(whereL bs mid).toNat, by omega⟩
    obtain ⟨b, k, x, hb, hk, hx, hi, hl, hs⟩ := where_parts (bins_once HV.out) hf
    have HCE := hid (can_eq (room := room) (m := ⟨mid, mto⟩) hf hl)
    have HXG := hid (lastL_good HV.out hl (List.mem_flatten.2 ⟨b, List.mem_of_getElem? hb, List.mem_of_getElem? hx⟩))
    have HF := hid hf
    have h1' : ¬ (f : Int) < 0 := by omega
    obtain ⟨g, cg, hgv, _⟩ := Own.row HOw0.out (by have := (List.getElem?_eq_some_iff.1 hb).1; have h9 := HBS.out; rw [← h9, List.length_map] at this; omega)
    injection hgv with e1 e2 e3
    subst e1 e3
    clear h1 e2
    by_cases h2 : inB mto 0 ((bs.length : Int) - 1) = true
    · by_cases h3 : (mto == (f : Int)) = true
      · clear hf hb hk hx hi hl hs
        have HA : Hid (canMove room bs ⟨mid, mto⟩ = false) := hid (by rw [HCE.out, h3]; simp)
        have h3s : ((f : Int) == mto) = true := by rw [show mto = (f : Int) from eq_of_beq h3]; exact beq_self_eq_true _
        go_enter Tryd.func66, Tryd.ntmps66
        go_wp2_with (first
          | (go_at_call 52; refine (iWithin _ _ _ _).mono ?_; rintro e w2 ⟨rfl, n2, hw2⟩; rw [h2]; have HE2 : Hid (Ext W w2) := hid (by rw [hw2]; exact HE1.out.trans (Ext.drewN _ _)); obtain ⟨hb0, hb1, hgg⟩ := KB.out _ HE2.out; clear hw2)
          | (go_at_call 62; rw [← hW]; refine (iWhereOf _ bs mid _ HB.out).mono ?_; rintro e w1 ⟨rfl, hE1⟩; rw [HF.out]; have HE1 := hid hE1; obtain ⟨hb0, hb1, hgg⟩ := KB.out _ HE1.out; clear hE1 hW))
        go_ret
        exact .inr ⟨HA.out, rfl, HEW.out.trans HE2.out⟩
      · have h3 : (mto == (f : Int)) = false := by simpa using h3
        obtain ⟨t, rfl⟩ : ∃ t : Nat, mto = (t : Int) := ⟨mto.toNat, by simp only [inB, Bool.and_eq_true, decide_eq_true_eq] at h2; omega⟩
        have htl : t < bs.length := by simp only [inB, Bool.and_eq_true, decide_eq_true_eq] at h2; omega
        have hne : t ≠ f := by intro e; subst e; simp at h3
        have h3s : ((f : Int) == (t : Int)) = false := by simp; omega
        obtain ⟨u, huf, hud⟩ := mem_pair HBS.out hb
        obtain ⟨ct, hut, hcd⟩ := mem_pair HBS.out (List.getElem?_eq_getElem htl)
        have hkl : k < b.length := (List.getElem?_eq_some_iff.1 hx).1
        have hOw := Own.ext (EDB.ok _) HOw0.out (Ext.refl w)
        have hTu := (ODB.at_ HOw.out huf).2.2.1
        obtain ⟨m, hm⟩ : ∃ m, b.length = k + 1 + m := ⟨b.length - (k + 1), by omega⟩
        have hql : u.qs.length = b.length := by rw [← hud]; simp [BinW.d]
        obtain ⟨gb, cb, huv, _⟩ := Own.row hTu (by omega)
        rw [hql, hm] at huv
        obtain ⟨⟨x', nv⟩, hqk, hqx⟩ : ∃ p, u.qs[k]? = some p ∧ p.1 = x := by
          rw [← hud] at hx
          unfold BinW.d at hx
          rw [List.getElem?_map] at hx
          exact Option.map_eq_some_iff.1 hx
        have hqx : x' = x := hqx
        rw [hqx] at hqk
        clear hqx
        obtain ⟨At, cct, hcv, _⟩ := (ODB.at_ HOw.out hut).2.2.1.form
        have HUF := hid huf
        have HUT := hid hut
        have HUV := hid huv
        have HCV : Hid (ct.tv = .slice At ct.d.length cct) := hid (by rw [hcv]; simp [BinW.d])
        have HQK := hid hqk
        have HIX : Hid (idxI (fun t : TaskD => t.id == mid) u.d = (k : Int)) := hid (idxI_of (by rw [hud]; exact hk))
        have HML : Hid (u.qs.length = k + 1 + m) := hid (hql.trans hm)
        have HGB : Hid (gb < w.heap.size) := hid ((Own.lt hTu gb (by rw [huv]; rfl)).2)
        have HGC : Hid (GoodTs ct.d) := hid (by rw [hcd]; exact (HS.out.2.2.2 _ (List.getElem_mem htl)).1)
        have HGX := HXG
        have HCD := hid hcd
        have HNE := hid hne
        have HUD := hid hud
        have hkm : k + 1 + m ≤ 900 := by have := (HS.out.2.2.2 b (List.mem_of_getElem? hb)).2.1; omega
        have hctl : ct.d.length ≤ 900 := by rw [hcd]; exact (HS.out.2.2.2 _ (List.getElem_mem htl)).2.1
        have HCL := hid hctl
        have hcb : k + 1 + m ≤ cb ∧ cb ≤ 9223372036854775807 := by
          obtain ⟨A', c', hv', h1, h2⟩ := hTu.form
          rw [huv] at hv'
          injection hv' with _ _ e3
          omega
        have i1 : (f : Int) < (bs.length : Int) := by have h9 := (List.getElem?_eq_some_iff.1 hb).1; omega
        have i2 : (t : Int) < (bs.length : Int) := by omega
        have hwr : IntKind.i64.wrap ((k : Int) + 1) = (k : Int) + 1 := by rw [IntKind.wrap_i64]; omega
        by_cases h4 : l11fits room ct.d x = true
        · have HFIT := hid h4
          have HCAN : Hid (canMove room bs ⟨mid, (t : Int)⟩ = true) := hid (by rw [HCE.out, h2, h3, Int.toNat_natCast, List.getD_eq_getElem?_getD, List.getElem?_eq_getElem htl, ← hcd]; show (true && (!false && l11fits room ct.d x)) = true; rw [h4]; rfl)
          have HMP : Hid (MoveP room bs ⟨mid, (t : Int)⟩ f t k b ct.d x) := hid (by rw [hcd] at h4 ⊢; exact ⟨hf, rfl, hne, hb, List.getElem?_eq_getElem htl, hk, hx, hi, h4, do_eq rfl hne (List.getElem?_eq_getElem htl) hl hs⟩)
          clear h4 hqk huv hud hcd huf hut hTu hOw hql hm hcv hf hb hk hx hi hl hs h3

          go_enter Tryd.func66, Tryd.ntmps66
          go_wp2_with (first
            | (go_at_call 52; refine (iWithin _ _ _ _).mono ?_; rintro e w2 ⟨rfl, n2, hw2⟩; rw [h2]; have HE2 : Hid (Ext W w2) := hid (by rw [hw2]; exact HE1.out.trans (Ext.drewN _ _)); obtain ⟨hb0, hb1, hgg⟩ := KB.out _ HE2.out; clear hw2)
            | (go_at_call 62; rw [← hW]; refine (iWhereOf _ bs mid _ HB.out).mono ?_; rintro e w1 ⟨rfl, hE1⟩; rw [HF.out]; have HE1 := hid hE1; obtain ⟨hb0, hb1, hgg⟩ := KB.out _ HE1.out; clear hE1 hW))
          obtain ⟨HO2, hO2⟩ : ∃ HO2 : Hid (ODB w2 base (.slice (some ⟨g, 0, none⟩) bs.length c) us), True := ⟨hid (Own.ext (EDB.ok _) HO.out HE2.out), trivial⟩
          clear hO2
          have KS : Hid (∀ w', Ext w2 w' → w'.cell? ⟨g, f, none⟩ = some (.slice (some ⟨gb, 0, none⟩) (k + 1 + m) cb) ∧ w'.cell? ⟨w.heap.size, 0, none⟩ = some (.int .i64 mid)) := hid fun w' hw => ⟨(ODB.at_ (Own.ext (EDB.ok _) HO2.out hw) HUF.out).1.trans (by rw [HUV.out]), (KB.out _ (HE2.out.trans hw)).1⟩
          have HD : Hid (Ext w2 w2.drew) := hid (Below.drew (Below.refl _ _))
          refine WG.start (fun w' => w'.cell? ⟨g, f, none⟩ = some (.slice (some ⟨gb, 0, none⟩) (k + 1 + m) cb) ∧ w'.cell? ⟨w.heap.size, 0, none⟩ = some (.int .i64 mid)) [7,8] (by kernel_rfl) (by exact KS.out _ HD.out) (fun hHeld => ?_)
          (refine WG.take (i := 0) (v := ?_) rfl (by kernel_rfl) (by kernel_rfl) (by kernel_rfl) (by kernel_rfl) (fun _ _ _ h => h) (Or.inl ⟨by rfl, ?_⟩) (by assumption) ?_; rotate_left; (intro w hSw; (try dsimp only at hSw); go_split_ands; go_simp; (try with_reducible rfl)); (try simp only [Act.put, List.setIfInBounds_toArray, List.set_cons_zero, List.set_cons_succ]))
          (refine WG.take (i := 1) (v := ?_) rfl (by kernel_rfl) (by kernel_rfl) (by kernel_rfl) (by kernel_rfl) (fun _ _ _ h => h) (Or.inl ⟨by rfl, ?_⟩) (by assumption) ?_; rotate_left; (intro w hSw; (try dsimp only at hSw); go_split_ands; go_simp; (try with_reducible rfl)); (try simp only [Act.put, List.setIfInBounds_toArray, List.set_cons_zero, List.set_cons_succ]))
          (refine WG.take (i := 2) (v := ?_) rfl (by kernel_rfl) (by kernel_rfl) (by kernel_rfl) (by kernel_rfl) (fun _ _ _ h => h) (Or.inl ⟨by rfl, ?_⟩) (by assumption) ?_; rotate_left; (intro w hSw; (try dsimp only at hSw); go_split_ands; go_simp; (try with_reducible rfl)); (try simp only [Act.put, List.setIfInBounds_toArray, List.set_cons_zero, List.set_cons_succ]))
          (refine WG.take (i := 3) (v := ?_) rfl (by kernel_rfl) (by kernel_rfl) (by kernel_rfl) (by kernel_rfl) (fun _ _ _ h => h) (Or.inl ⟨by rfl, ?_⟩) (by assumption) ?_; rotate_left; (intro w hSw; (try dsimp only at hSw); go_split_ands; go_simp; (try with_reducible rfl)); (try simp only [Act.put, List.setIfInBounds_toArray, List.set_cons_zero, List.set_cons_succ]))
          (refine WG.take (i := 4) (v := ?_) rfl (by kernel_rfl) (by kernel_rfl) (by kernel_rfl) (by kernel_rfl) (fun _ _ _ h => h) (Or.inl ⟨by rfl, ?_⟩) (by assumption) ?_; rotate_left; (intro w hSw; (try dsimp only at hSw); go_split_ands; go_simp; (try with_reducible rfl)); (try simp only [Act.put, List.setIfInBounds_toArray, List.set_cons_zero, List.set_cons_succ]))
          (refine WG.take (i := 5) (v := ?_) rfl (by kernel_rfl) (by kernel_rfl) (by kernel_rfl) (by kernel_rfl) (fun _ _ _ h => h) (Or.inl ⟨by rfl, ?_⟩) (by assumption) ?_; rotate_left; (intro w hSw; (try dsimp only at hSw); go_split_ands; go_simp; (try with_reducible rfl)); (try simp only [Act.put, List.setIfInBounds_toArray, List.set_cons_zero, List.set_cons_succ]))
          refine WG.one (i := 6) rfl (by kernel_rfl) (fun K hK => ?_)
          go_simp; refine (iHasIdFn mid _).mono ?_; rintro e3 w3 ⟨b3, rfl, hb3, hE3⟩; have HB3 := hid hb3; have HE3 := hid (HD.out.trans hE3); clear hb3 hE3; (try dsimp only)
          refine hK.out _ _ (by exact KS.out _ HE3.out) (fun hHeld => ?_)
          clear hK K
          (try simp only [Act.put, List.setIfInBounds_toArray, List.set_cons_zero, List.set_cons_succ])
          refine WG.last (i := 7) rfl (by kernel_rfl) (by kernel_rfl) (fun K hK => ?_)
          go_simp; refine (iIndexT _ u.d b3 mid _ (by have h3 := ODT.read (ODB.at_ (Own.ext (EDB.ok _) HO2.out HE3.out) HUF.out).2.2.1; rw [HUV.out] at h3; exact h3) HB3.out).mono ?_; rintro e4 w4 ⟨rfl, hE4⟩; rw [HIX.out]; have HE4 := hid (HE3.out.trans hE4); clear hE4; (try dsimp only)
          refine hK.out _ _ ?_
          clear hK K
          (try simp only [Act.put, List.setIfInBounds_toArray, List.set_cons_zero, List.set_cons_succ])
          refine WG.last (i := 8) rfl (by kernel_rfl) (by kernel_rfl) (fun K hK => ?_)
          go_simp
          refine hK.out _ _ ?_
          clear hK K
          (try simp only [Act.put, List.setIfInBounds_toArray, List.set_cons_zero, List.set_cons_succ])
          refine WG.done (by kernel_rfl) ?_
          have HO4 := hid (Own.ext (EDB.ok _) HO2.out HE4.out)
          have HT4 : Hid (ODT w4 base (.slice (some ⟨gb, 0, none⟩) (k + 1 + m) cb) u.qs) := hid (by have h3 := (ODB.at_ HO4.out HUF.out).2.2.1; rw [HUV.out] at h3; exact h3)
          have HE4w := hid (HE2.out.trans HE4.out)
          obtain ⟨cgf, cgt⟩ := KS.out _ HE4.out
          obtain ⟨d0, d1, _, _, hnx⟩ := ODT.at_ HT4.out HQK.out
          obtain ⟨An, cn, hnv, _⟩ := hnx.form
          have hnv : nv = .slice An x.need.length cn := hnv
          subst hnv
          have HNX := hid hnx
          have d0 : w4.cell? ⟨gb, k * 2, none⟩ = some (.int .i64 x.id) := d0
          have d1 : w4.cell? ⟨gb, k * 2 + 1, none⟩ = some (.slice An x.need.length cn) := d1
          obtain ⟨y0, y1, y0f, y1f, k1, k1f, hkk, _⟩ := box2 (heap_alloc_new w4 (.cells #[.int .i64 0, .slice none 0 0] 44)) (.int .i64 x.id) (.slice An x.need.length cn)
          clear hnx hkk
          go_wp2
          obtain ⟨W5, hW5⟩ : ∃ W5, W5 = w4.alloc (.cells #[.int .i64 x.id, .slice An x.need.length cn] 44) := ⟨_, rfl⟩
          have hE5 : Ext w4 W5 := by rw [hW5]; exact Ext.alloc _ _
          have hxb : W5.heap[w4.heap.size]? = some (.cells #[.int .i64 x.id, .slice An x.need.length cn] 44 (0, 0)) := by rw [hW5]; exact heap_alloc_new _ _
          rw [← hW5]
          clear hW5 y0 y1 y0f y1f k1 k1f d0 d1 cgf cgt hb0 hb1 hgg
          have HXB := hid hxb
          have HO5 := hid (Own.ext (EDB.ok _) HO4.out hE5)
          have HE5 := hid (HE4w.out.trans hE5)
          have HN5 := hid (Own.ext EI.ok HNX.out hE5)
          clear hE5 hxb
          have KT : Hid (∀ w', Ext W5 w' → w'.cell? ⟨w.heap.size, 1, none⟩ = some (.int .i64 (t : Int)) ∧ w'.cell? ⟨g, t, none⟩ = some (.slice At ct.d.length cct) ∧ w'.cell? ⟨w4.heap.size, 0, none⟩ = some (.int .i64 x.id) ∧ w'.cell? ⟨w4.heap.size, 1, none⟩ = some (.slice An x.need.length cn) ∧ w'.cell? ⟨0, 0, none⟩ = some (errV a)) := hid fun w' hw => ⟨(KB.out _ (HE5.out.trans hw)).2.1, (ODB.at_ (Own.ext (EDB.ok _) HO5.out hw) HUT.out).1.trans (by rw [HCV.out]), obj_cell (hw.obj HXB.out) (i := 0) rfl, obj_cell (hw.obj HXB.out) (i := 1) rfl, (KB.out _ (HE5.out.trans hw)).2.2⟩
          have HD5 : Hid (Ext W5 W5.drew) := hid (Below.drew (Below.refl _ _))
          refine WG.start (fun w' => w'.cell? ⟨w.heap.size, 1, none⟩ = some (.int .i64 (t : Int)) ∧ w'.cell? ⟨g, t, none⟩ = some (.slice At ct.d.length cct) ∧ w'.cell? ⟨w4.heap.size, 0, none⟩ = some (.int .i64 x.id) ∧ w'.cell? ⟨w4.heap.size, 1, none⟩ = some (.slice An x.need.length cn) ∧ w'.cell? ⟨0, 0, none⟩ = some (errV a)) [7,8] (by kernel_rfl) (by exact KT.out _ HD5.out) (fun hHeld => ?_)
          (refine WG.take (i := 0) (v := ?_) rfl (by kernel_rfl) (by kernel_rfl) (by kernel_rfl) (by kernel_rfl) (fun _ _ _ h => h) (Or.inl ⟨by rfl, ?_⟩) (by assumption) ?_; rotate_left; (intro w hSw; (try dsimp only at hSw); go_split_ands; go_simp; (try with_reducible rfl)); (try simp only [Act.put, List.setIfInBounds_toArray, List.set_cons_zero, List.set_cons_succ]))
          (refine WG.take (i := 1) (v := ?_) rfl (by kernel_rfl) (by kernel_rfl) (by kernel_rfl) (by kernel_rfl) (fun _ _ _ h => h) (Or.inl ⟨by rfl, ?_⟩) (by assumption) ?_; rotate_left; (intro w hSw; (try dsimp only at hSw); go_split_ands; go_simp; (try with_reducible rfl)); (try simp only [Act.put, List.setIfInBounds_toArray, List.set_cons_zero, List.set_cons_succ]))
          (refine WG.take (i := 2) (v := ?_) rfl (by kernel_rfl) (by kernel_rfl) (by kernel_rfl) (by kernel_rfl) (fun _ _ _ h => h) (Or.inl ⟨by rfl, ?_⟩) (by assumption) ?_; rotate_left; (intro w hSw; (try dsimp only at hSw); go_split_ands; go_simp; (try with_reducible rfl)); (try simp only [Act.put, List.setIfInBounds_toArray, List.set_cons_zero, List.set_cons_succ]))
          (refine WG.take (i := 3) (v := ?_) rfl (by kernel_rfl) (by kernel_rfl) (by kernel_rfl) (by kernel_rfl) (fun _ _ _ h => h) (Or.inl ⟨by rfl, ?_⟩) (by assumption) ?_; rotate_left; (intro w hSw; (try dsimp only at hSw); go_split_ands; go_simp; (try with_reducible rfl)); (try simp only [Act.put, List.setIfInBounds_toArray, List.set_cons_zero, List.set_cons_succ]))
          (refine WG.take (i := 4) (v := ?_) rfl (by kernel_rfl) (by kernel_rfl) (by kernel_rfl) (by kernel_rfl) (fun _ _ _ h => h) (Or.inl ⟨by rfl, ?_⟩) (by assumption) ?_; rotate_left; (intro w hSw; (try dsimp only at hSw); go_split_ands; go_simp; (try with_reducible rfl)); (try simp only [Act.put, List.setIfInBounds_toArray, List.set_cons_zero, List.set_cons_succ]))
          (refine WG.take (i := 5) (v := ?_) rfl (by kernel_rfl) (by kernel_rfl) (by kernel_rfl) (by kernel_rfl) (fun _ _ _ h => h) (Or.inl ⟨by rfl, ?_⟩) (by assumption) ?_; rotate_left; (intro w hSw; (try dsimp only at hSw); go_split_ands; go_simp; (try with_reducible rfl)); (try simp only [Act.put, List.setIfInBounds_toArray, List.set_cons_zero, List.set_cons_succ]))
          (refine WG.take (i := 6) (v := ?_) rfl (by kernel_rfl) (by kernel_rfl) (by kernel_rfl) (by kernel_rfl) (fun _ _ _ h => h) (Or.inl ⟨by rfl, ?_⟩) (by assumption) ?_; rotate_left; (intro w hSw; (try dsimp only at hSw); go_split_ands; go_simp; (try with_reducible rfl)); (try simp only [Act.put, List.setIfInBounds_toArray, List.set_cons_zero, List.set_cons_succ]))
          refine WG.last (i := 7) rfl (by kernel_rfl) (by kernel_rfl) (fun K hK => ?_)
          go_simp; refine (iHasRoom _ _ _ room ct.d x _ (RI.ext HR.out (HE5.out.trans HD5.out)) (by have h3 := ODT.read (ODB.at_ (Own.ext (EDB.ok _) HO5.out HD5.out) HUT.out).2.2.1; rw [HCV.out] at h3; exact h3) ⟨_, rfl, RI.ext (Own.read HN5.out) HD5.out⟩ HLR.out HGC.out HGX.out).mono ?_; rintro e6 w6 ⟨rfl, hE6⟩; rw [HFIT.out]; have HE6 := hid (HD5.out.trans hE6); clear hE6; (try dsimp only)
          refine hK.out _ _ ?_
          clear hK K
          (try simp only [Act.put, List.setIfInBounds_toArray, List.set_cons_zero, List.set_cons_succ])
          refine WG.last (i := 8) rfl (by kernel_rfl) (by kernel_rfl) (fun K hK => ?_)
          go_simp
          refine hK.out _ _ ?_
          clear hK K
          (try simp only [Act.put, List.setIfInBounds_toArray, List.set_cons_zero, List.set_cons_succ])
          refine WG.done (by kernel_rfl) ?_
          obtain ⟨ct1, cg1, cx0, cx1, cgg⟩ := KT.out _ HE6.out

          have HO6 := hid (Own.ext (EDB.ok _) HO5.out HE6.out)
          obtain ⟨cgf, fgf, _, _⟩ := ODB.at_ HO6.out HUF.out
          rw [HUV.out] at cgf
          have HT6 : Hid (ODT w6 base (.slice (some ⟨gb, 0, none⟩) (k + 1 + m) cb) u.qs) := hid (by have h3 := (ODB.at_ HO6.out HUF.out).2.2.1; rw [HUV.out] at h3; exact h3)
          have HX6 := hid (HE6.out.obj HXB.out)
          have HN6 := hid (Own.ext EI.ok HN5.out HE6.out)
          obtain ⟨curg, hcurg⟩ := Own.blk HO6.out
          have HCG := hid hcurg
          have HCGF := hid cgf
          have HNG : Hid (w4.heap.size ≠ gb ∧ w4.heap.size ≠ g ∧ w.heap.size ≠ gb ∧ w.heap.size ≠ g) := hid (by
            have h1 := (Own.lt HO4.out g rfl).2
            have h2 := (Own.lt HT4.out gb rfl).2
            have h3 := (Own.lt HOw0.out g rfl).2
            have h4 := HGB.out
            exact ⟨by omega, by omega, by omega, by omega⟩)
          have HE6w := hid (HE5.out.trans HE6.out)
          have HCN : Hid ((Value.slice At ct.d.length cct).ownBlock ≠ some w4.heap.size) := hid (fun e => by have h3 := (ODB.at_ HO4.out HUT.out).2.2.1; rw [HCV.out] at h3; exact absurd (Own.lt h3 _ e).2 (Nat.lt_irrefl _))
          clear hcurg
          go_wp2_with (go_at_call 102; refine (iDeleteD' base gb cb k m u.qs _ HML.out HT6.out).mono ?_; rintro e7 w7 ⟨rfl, hO7, hg7, hs7⟩; have HO7 := hid hO7; have HG7 := hid hg7; have HS7 := hid hs7; have hgb7 := hs7 _ _ _ _ (by decide) HCG.out; have cgf := (World.cell?_of_block (a := ⟨g, f, none⟩) (hgb7.trans HCG.out.symm)).trans HCGF.out; have fgf := obj_frozen hgb7 f; clear hO7 hg7 hs7 hgb7 ct1 cg1 cx0 cx1 cgg)
          obtain ⟨hO8, hS8⟩ := ODB.turn HO6.out HNT.out HUF.out (y := ⟨.slice (some ⟨gb, 0, none⟩) (k + m) cb, u.qs.eraseIdx k⟩) (w' := w7) (fun q hq hne => HG7.out.block q hq (fun e => hne (by rw [HUV.out, e]; rfl))) HO7.out
          obtain ⟨W8, hW8⟩ : ∃ W8, W8 = w7.setCell ⟨g, f, none⟩ (.slice (some ⟨gb, 0, none⟩) (k + m) cb) := ⟨_, rfl⟩
          have hG8 : ∀ q, q ≠ gb → q ≠ g → q < w6.heap.size → W8.heap[q]? = w6.heap[q]? := fun q h1 h2 h3 => by rw [hW8]; exact (Below.heap_setCell _ _ _ _ h2).trans (HG7.out.block q h3 (fun e => h1 (Option.some.inj e)))
          have HSA : Hid (SameT (fun t => t ≠ 44 ∧ t ≠ 41) w W8) := hid (by rw [hW8]; exact (((HEW.out.trans HE6w.out).same _).trans (HS7.out.mono (fun t ht => ht.1))).trans (hS8.mono (fun t ht => ht.2)))
          have HB8 : Hid (Below base w W8) := hid (by rw [hW8]; exact Below.setCell (Below.grown ((HEW.out.trans HE6w.out).mono HBZ.out) HG7.out (Nat.le_trans HBZ.out (HEW.out.trans HE6w.out).size) (fun q hq => by injection hq with hq; rw [← hq]; exact (Own.lt HT6.out gb rfl).1)) (Own.lt HO6.out g rfl).1 _)
          have hN8 : ODT w7 base (.slice (some ⟨gb, 0, none⟩) (k + m) cb) (u.qs.eraseIdx k) := HO7.out
          rw [← hW8] at hO8 hS8 ⊢
          have HX8 := hid ((hG8 w4.heap.size HNG.out.1 HNG.out.2.1 (obj_lt HX6.out)).trans HX6.out)
          have HM8 := hid ((hG8 w.heap.size HNG.out.2.2.1 HNG.out.2.2.2 (obj_lt (HE6w.out.obj HMX.out))).trans (HE6w.out.obj HMX.out))
          have HN8 := hid (Own.same EI.ok HN6.out ((HS7.out.mono (by rintro t (rfl | h) <;> first | decide | exact h.elim)).trans (hS8.mono (by rintro t (rfl | h) <;> first | decide | exact h.elim))))
          have HO8 := hid hO8
          have HT8 : Hid ((us.set f ⟨.slice (some ⟨gb, 0, none⟩) (k + m) cb, u.qs.eraseIdx k⟩)[t]? = some ct) := hid (by rw [List.getElem?_set_ne (Ne.symm HNE.out)]; exact HUT.out)
          clear hO8 hS8 hG8 hN8 hW8 cgf fgf
          have KU : Hid (∀ w', Ext W8 w' → w'.cell? ⟨w.heap.size, 1, none⟩ = some (.int .i64 (t : Int)) ∧ w'.cell? ⟨g, t, none⟩ = some (.slice At ct.d.length cct) ∧ w'.cell? ⟨w4.heap.size, 0, none⟩ = some (.int .i64 x.id) ∧ w'.cell? ⟨w4.heap.size, 1, none⟩ = some (.slice An x.need.length cn)) := hid fun w' hw => ⟨obj_cell (hw.obj HM8.out) (i := 1) rfl, (ODB.at_ (Own.ext (EDB.ok _) HO8.out hw) HT8.out).1.trans (by rw [HCV.out]), obj_cell (hw.obj HX8.out) (i := 0) rfl, obj_cell (hw.obj HX8.out) (i := 1) rfl⟩
          have HD8 : Hid (Ext W8 W8.drew) := hid (Below.drew (Below.refl _ _))
          refine WG.start (fun w' => w'.cell? ⟨w.heap.size, 1, none⟩ = some (.int .i64 (t : Int)) ∧ w'.cell? ⟨g, t, none⟩ = some (.slice At ct.d.length cct) ∧ w'.cell? ⟨w4.heap.size, 0, none⟩ = some (.int .i64 x.id) ∧ w'.cell? ⟨w4.heap.size, 1, none⟩ = some (.slice An x.need.length cn)) [11,12] (by kernel_rfl) (by exact KU.out _ HD8.out) (fun hHeld => ?_)
          obtain ⟨pz, hpz⟩ : ∃ x, x = W8.drew := ⟨_, rfl⟩
          rw [← hpz] at hHeld ⊢
          rw [← hpz] at HD8
          clear hpz
          (refine WG.take (i := 0) (v := ?_) rfl (by kernel_rfl) (by kernel_rfl) (by kernel_rfl) (by kernel_rfl) (fun _ _ _ h => h) (Or.inl ⟨by rfl, ?_⟩) (by assumption) ?_; rotate_left; (intro w hSw; (try dsimp only at hSw); go_split_ands; go_simp; (try with_reducible rfl)); (try simp only [Act.put, List.setIfInBounds_toArray, List.set_cons_zero, List.set_cons_succ]))
          (refine WG.take (i := 1) (v := ?_) rfl (by kernel_rfl) (by kernel_rfl) (by kernel_rfl) (by kernel_rfl) (fun _ _ _ h => h) (Or.inl ⟨by rfl, ?_⟩) (by assumption) ?_; rotate_left; (intro w hSw; (try dsimp only at hSw); go_split_ands; go_simp; (try with_reducible rfl)); (try simp only [Act.put, List.setIfInBounds_toArray, List.set_cons_zero, List.set_cons_succ]))
          (refine WG.take (i := 2) (v := ?_) rfl (by kernel_rfl) (by kernel_rfl) (by kernel_rfl) (by kernel_rfl) (fun _ _ _ h => h) (Or.inl ⟨by rfl, ?_⟩) (by assumption) ?_; rotate_left; (intro w hSw; (try dsimp only at hSw); go_split_ands; go_simp; (try with_reducible rfl)); (try simp only [Act.put, List.setIfInBounds_toArray, List.set_cons_zero, List.set_cons_succ]))
          (refine WG.take (i := 3) (v := ?_) rfl (by kernel_rfl) (by kernel_rfl) (by kernel_rfl) (by kernel_rfl) (fun _ _ _ h => h) (Or.inl ⟨by rfl, ?_⟩) (by assumption) ?_; rotate_left; (intro w hSw; (try dsimp only at hSw); go_split_ands; go_simp; (try with_reducible rfl)); (try simp only [Act.put, List.setIfInBounds_toArray, List.set_cons_zero, List.set_cons_succ]))
          (refine WG.take (i := 4) (v := ?_) rfl (by kernel_rfl) (by kernel_rfl) (by kernel_rfl) (by kernel_rfl) (fun _ _ _ h => h) (Or.inl ⟨by rfl, ?_⟩) (by assumption) ?_; rotate_left; (intro w hSw; (try dsimp only at hSw); go_split_ands; go_simp; (try with_reducible rfl)); (try simp only [Act.put, List.setIfInBounds_toArray, List.set_cons_zero, List.set_cons_succ]))
          (refine WG.take (i := 5) (v := ?_) rfl (by kernel_rfl) (by kernel_rfl) (by kernel_rfl) (by kernel_rfl) (fun _ _ _ h => h) (Or.inl ⟨by rfl, ?_⟩) (by assumption) ?_; rotate_left; (intro w hSw; (try dsimp only at hSw); go_split_ands; go_simp; (try with_reducible rfl)); (try simp only [Act.put, List.setIfInBounds_toArray, List.set_cons_zero, List.set_cons_succ]))
          (refine WG.take (i := 6) (v := ?_) rfl (by kernel_rfl) (by kernel_rfl) (by kernel_rfl) (by kernel_rfl) (fun _ _ _ h => h) (Or.inl ⟨by rfl, ?_⟩) (by assumption) ?_; rotate_left; (intro w hSw; (try dsimp only at hSw); go_split_ands; go_simp; (try with_reducible rfl)); (try simp only [Act.put, List.setIfInBounds_toArray, List.set_cons_zero, List.set_cons_succ]))
          (refine WG.take (i := 7) (v := ?_) rfl (by kernel_rfl) (by kernel_rfl) (by kernel_rfl) (by kernel_rfl) (fun _ _ _ h => h) (Or.inl ⟨by rfl, ?_⟩) (by assumption) ?_; rotate_left; (intro w hSw; (try dsimp only at hSw); go_split_ands; go_simp; (try with_reducible rfl)); (try simp only [Act.put, List.setIfInBounds_toArray, List.set_cons_zero, List.set_cons_succ]))
          (refine WG.take (i := 8) (v := ?_) rfl (by kernel_rfl) (by kernel_rfl) (by kernel_rfl) (by kernel_rfl) (fun _ _ _ h => h) (Or.inl ⟨by rfl, ?_⟩) (by assumption) ?_; rotate_left; (intro w hSw; (try dsimp only at hSw); go_split_ands; go_simp; (try with_reducible rfl)); (try simp only [Act.put, List.setIfInBounds_toArray, List.set_cons_zero, List.set_cons_succ]))
          refine WG.one (i := 9) rfl (by kernel_rfl) (fun K hK => ?_)
          go_simp
          refine hK.out _ _ (by exact KU.out _ (HD8.out.trans (Ext.alloc _ _))) (fun hHeld => ?_)
          clear hK K
          (try simp only [Act.put, List.setIfInBounds_toArray, List.set_cons_zero, List.set_cons_succ])
          have hx9 := HD8.out.trans (Ext.alloc pz (.cells #[.int .i64 x.id, .slice An x.need.length cn] 44))
          have HX9 := hid hx9
          have HV9 : Hid (ODT (pz.alloc (.cells #[.int .i64 x.id, .slice An x.need.length cn] 44)) base (.slice At ct.d.length cct) ct.qs) := hid (by have h3 := (ODB.at_ (Own.ext (EDB.ok _) HO8.out hx9) HT8.out).2.2.1; rw [HCV.out] at h3; exact h3)
          have HN9 := hid (Own.ext EI.ok HN8.out hx9)
          have HQL : Hid (ct.qs.length ≤ 900) := hid (by have h9 := HCL.out; unfold BinW.d at h9; rw [List.length_map] at h9; exact h9)
          have hsz9 : base ≤ pz.heap.size := Nat.le_trans HBZ.out (Nat.le_trans HB8.out.size HD8.out.size)
          clear hx9
          refine WG.one (i := 10) rfl (by kernel_rfl) (fun K hK => ?_)
          refine step_append_sl _ (by rfl) _ _ 41 (by rfl) (EDT.ok _) (EDT.flat _) (base) 44 EDT.ne i0_task _ 2 32 Tryd.underlying41 hi0_task hz0_task hz1_task hz2_task rfl (by omega) _ (by rfl) _ (HV9.out) _ (by rfl) _ (RSl.laid (cs := [.int .i64 x.id, .slice An x.need.length cn]) (x := (x, .slice An x.need.length cn)) (heap_alloc_new _ _) rfl ⟨rfl, HN9.out⟩) (by have := HQL.out; simp; omega) (by have := HQL.out; simp; omega) ?_ ?_; (focus (first | exact Nat.le_refl _ | (simp; done) | (simp; omega) | omega)); intro v10 w10 hO10 hg10 hat10 hs10; obtain ⟨A10, c10, rfl, _, _⟩ := hO10.form_app; have hgb10 := hs10 _ _ _ _ (by decide) (HX9.out.obj (Own.blk HO8.out).choose_spec); have cgt10 := (World.cell?_of_block (w := (pz.alloc (.cells #[.int .i64 x.id, .slice An x.need.length cn] 44))) (a := ⟨g, t, none⟩) (hgb10.trans (HX9.out.obj (Own.blk HO8.out).choose_spec).symm)).trans (KU.out _ HX9.out).2.1; have fgt10 := obj_frozen hgb10 t; have hm10 := hs10 _ _ _ _ (by decide) (HX9.out.obj HM8.out); have hx10 := (hg10.block _ (obj_lt (HX9.out.obj HX8.out)) (fun e => HCN.out e.symm)).trans (HX9.out.obj HX8.out); clear hgb10
          refine hK.out _ _ (by exact ⟨obj_cell hm10 (i := 1) rfl, cgt10, obj_cell hx10 (i := 0) rfl, obj_cell hx10 (i := 1) rfl⟩) (fun hHeld => ?_)
          clear hK K
          (try simp only [Act.put, List.setIfInBounds_toArray, List.set_cons_zero, List.set_cons_succ])
          (refine WG.takeP (i := 11) (v := ?_) rfl (by kernel_rfl) (by kernel_rfl) (by kernel_rfl) (by kernel_rfl) (fun _ _ _ h => h) (Or.inl ⟨by rfl, ?_⟩) ?_; rotate_left; (intro w hSw; clear hSw; go_simp; (try with_reducible rfl)); (try simp only [Act.put, List.setIfInBounds_toArray, List.set_cons_zero, List.set_cons_succ]))
          refine WG.last (i := 12) rfl (by kernel_rfl) (by kernel_rfl) (fun K hK => ?_)
          go_simp
          refine hK.out _ _ ?_
          clear hK K
          (try simp only [Act.put, List.setIfInBounds_toArray, List.set_cons_zero, List.set_cons_succ])
          refine WG.done (by kernel_rfl) ?_
          go_wp2
          go_ret
          have hB10 : Below base w w10 := HB8.out.trans (Below.grown (HX9.out.mono (Nat.le_trans HBZ.out HB8.out.size)) hg10 (by have := HX9.out.size; have := HB8.out.size; have := HBZ.out; omega) (fun q hq => (Own.lt HV9.out q hq).1))
          obtain ⟨hO11, hS11⟩ := ODB.turn HO8.out (nodup_appB HNT.out HUF.out (.inl (by rw [HUV.out]; rfl)) (fun q hq => (ODB.tlt HO6.out q hq).2)) HT8.out (y := ⟨.slice A10 (ct.qs.length + 1) c10, ct.qs ++ [(x, .slice An x.need.length cn)]⟩) (w' := w10) (fun q hq hne => (hg10.block q (Nat.lt_of_lt_of_le hq HX9.out.size) (fun e => hne (by rw [HCV.out, e]))).trans (HX9.out.block q hq)) hO10
          refine .inl ⟨HCAN.out, rfl, _, hO11, ?_, ?_, ?_, Below.setCell hB10 (Own.lt HO8.out g rfl).1 _, ((HSA.out.trans (HX9.out.same _)).trans (hs10.mono (fun t ht => ht.1))).trans (hS11.mono (fun t ht => ht.2))⟩
          · rw [d_move HBS.out, HUD.out]; exact HMP.out.eq.symm
          · exact nodup_appB (nodup_appB HNT.out HUF.out (.inl (by rw [HUV.out]; rfl)) (fun q hq => (ODB.tlt HO6.out q hq).2)) HT8.out (by rw [HCV.out]; exact hat10) (fun q hq => (ODB.tlt (Own.ext (EDB.ok _) HO8.out HX9.out) q hq).2)
          · exact (binNs_move HUF.out HUT.out HNE.out HQK.out _ _).nodup_iff.2 HNI.out

        · have h4 : l11fits room ct.d x = false := by simpa using h4
          have HFIT := hid h4
          have HA : Hid (canMove room bs ⟨mid, (t : Int)⟩ = false) := hid (by rw [HCE.out, Int.toNat_natCast, List.getD_eq_getElem?_getD, List.getElem?_eq_getElem htl, ← hcd]; show (_ && (_ && l11fits room ct.d x)) = false; rw [h4]; simp)
          clear h4 hqk huv hud hcd huf hut hTu hOw hql hm hcv hf hb hk hx hi hl hs h3
          go_enter Tryd.func66, Tryd.ntmps66
          go_wp2_with (first
            | (go_at_call 52; refine (iWithin _ _ _ _).mono ?_; rintro e w2 ⟨rfl, n2, hw2⟩; rw [h2]; have HE2 : Hid (Ext W w2) := hid (by rw [hw2]; exact HE1.out.trans (Ext.drewN _ _)); obtain ⟨hb0, hb1, hgg⟩ := KB.out _ HE2.out; clear hw2)
            | (go_at_call 62; rw [← hW]; refine (iWhereOf _ bs mid _ HB.out).mono ?_; rintro e w1 ⟨rfl, hE1⟩; rw [HF.out]; have HE1 := hid hE1; obtain ⟨hb0, hb1, hgg⟩ := KB.out _ HE1.out; clear hE1 hW))
          obtain ⟨HO2, hO2⟩ : ∃ HO2 : Hid (ODB w2 base (.slice (some ⟨g, 0, none⟩) bs.length c) us), True := ⟨hid (Own.ext (EDB.ok _) HO.out HE2.out), trivial⟩
          clear hO2
          have KS : Hid (∀ w', Ext w2 w' → w'.cell? ⟨g, f, none⟩ = some (.slice (some ⟨gb, 0, none⟩) (k + 1 + m) cb) ∧ w'.cell? ⟨w.heap.size, 0, none⟩ = some (.int .i64 mid)) := hid fun w' hw => ⟨(ODB.at_ (Own.ext (EDB.ok _) HO2.out hw) HUF.out).1.trans (by rw [HUV.out]), (KB.out _ (HE2.out.trans hw)).1⟩
          have HD : Hid (Ext w2 w2.drew) := hid (Below.drew (Below.refl _ _))
          refine WG.start (fun w' => w'.cell? ⟨g, f, none⟩ = some (.slice (some ⟨gb, 0, none⟩) (k + 1 + m) cb) ∧ w'.cell? ⟨w.heap.size, 0, none⟩ = some (.int .i64 mid)) [7,8] (by kernel_rfl) (by exact KS.out _ HD.out) (fun hHeld => ?_)
          (refine WG.take (i := 0) (v := ?_) rfl (by kernel_rfl) (by kernel_rfl) (by kernel_rfl) (by kernel_rfl) (fun _ _ _ h => h) (Or.inl ⟨by rfl, ?_⟩) (by assumption) ?_; rotate_left; (intro w hSw; (try dsimp only at hSw); go_split_ands; go_simp; (try with_reducible rfl)); (try simp only [Act.put, List.setIfInBounds_toArray, List.set_cons_zero, List.set_cons_succ]))
          (refine WG.take (i := 1) (v := ?_) rfl (by kernel_rfl) (by kernel_rfl) (by kernel_rfl) (by kernel_rfl) (fun _ _ _ h => h) (Or.inl ⟨by rfl, ?_⟩) (by assumption) ?_; rotate_left; (intro w hSw; (try dsimp only at hSw); go_split_ands; go_simp; (try with_reducible rfl)); (try simp only [Act.put, List.setIfInBounds_toArray, List.set_cons_zero, List.set_cons_succ]))
          (refine WG.take (i := 2) (v := ?_) rfl (by kernel_rfl) (by kernel_rfl) (by kernel_rfl) (by kernel_rfl) (fun _ _ _ h => h) (Or.inl ⟨by rfl, ?_⟩) (by assumption) ?_; rotate_left; (intro w hSw; (try dsimp only at hSw); go_split_ands; go_simp; (try with_reducible rfl)); (try simp only [Act.put, List.setIfInBounds_toArray, List.set_cons_zero, List.set_cons_succ]))
          (refine WG.take (i := 3) (v := ?_) rfl (by kernel_rfl) (by kernel_rfl) (by kernel_rfl) (by kernel_rfl) (fun _ _ _ h => h) (Or.inl ⟨by rfl, ?_⟩) (by assumption) ?_; rotate_left; (intro w hSw; (try dsimp only at hSw); go_split_ands; go_simp; (try with_reducible rfl)); (try simp only [Act.put, List.setIfInBounds_toArray, List.set_cons_zero, List.set_cons_succ]))
          (refine WG.take (i := 4) (v := ?_) rfl (by kernel_rfl) (by kernel_rfl) (by kernel_rfl) (by kernel_rfl) (fun _ _ _ h => h) (Or.inl ⟨by rfl, ?_⟩) (by assumption) ?_; rotate_left; (intro w hSw; (try dsimp only at hSw); go_split_ands; go_simp; (try with_reducible rfl)); (try simp only [Act.put, List.setIfInBounds_toArray, List.set_cons_zero, List.set_cons_succ]))
          (refine WG.take (i := 5) (v := ?_) rfl (by kernel_rfl) (by kernel_rfl) (by kernel_rfl) (by kernel_rfl) (fun _ _ _ h => h) (Or.inl ⟨by rfl, ?_⟩) (by assumption) ?_; rotate_left; (intro w hSw; (try dsimp only at hSw); go_split_ands; go_simp; (try with_reducible rfl)); (try simp only [Act.put, List.setIfInBounds_toArray, List.set_cons_zero, List.set_cons_succ]))
          refine WG.one (i := 6) rfl (by kernel_rfl) (fun K hK => ?_)
          go_simp; refine (iHasIdFn mid _).mono ?_; rintro e3 w3 ⟨b3, rfl, hb3, hE3⟩; have HB3 := hid hb3; have HE3 := hid (HD.out.trans hE3); clear hb3 hE3; (try dsimp only)
          refine hK.out _ _ (by exact KS.out _ HE3.out) (fun hHeld => ?_)
          clear hK K
          (try simp only [Act.put, List.setIfInBounds_toArray, List.set_cons_zero, List.set_cons_succ])
          refine WG.last (i := 7) rfl (by kernel_rfl) (by kernel_rfl) (fun K hK => ?_)
          go_simp; refine (iIndexT _ u.d b3 mid _ (by have h3 := ODT.read (ODB.at_ (Own.ext (EDB.ok _) HO2.out HE3.out) HUF.out).2.2.1; rw [HUV.out] at h3; exact h3) HB3.out).mono ?_; rintro e4 w4 ⟨rfl, hE4⟩; rw [HIX.out]; have HE4 := hid (HE3.out.trans hE4); clear hE4; (try dsimp only)
          refine hK.out _ _ ?_
          clear hK K
          (try simp only [Act.put, List.setIfInBounds_toArray, List.set_cons_zero, List.set_cons_succ])
          refine WG.last (i := 8) rfl (by kernel_rfl) (by kernel_rfl) (fun K hK => ?_)
          go_simp
          refine hK.out _ _ ?_
          clear hK K
          (try simp only [Act.put, List.setIfInBounds_toArray, List.set_cons_zero, List.set_cons_succ])
          refine WG.done (by kernel_rfl) ?_
          have HO4 := hid (Own.ext (EDB.ok _) HO2.out HE4.out)
          have HT4 : Hid (ODT w4 base (.slice (some ⟨gb, 0, none⟩) (k + 1 + m) cb) u.qs) := hid (by have h3 := (ODB.at_ HO4.out HUF.out).2.2.1; rw [HUV.out] at h3; exact h3)
          have HE4w := hid (HE2.out.trans HE4.out)
          obtain ⟨cgf, cgt⟩ := KS.out _ HE4.out
          obtain ⟨d0, d1, _, _, hnx⟩ := ODT.at_ HT4.out HQK.out
          obtain ⟨An, cn, hnv, _⟩ := hnx.form
          have hnv : nv = .slice An x.need.length cn := hnv
          subst hnv
          have HNX := hid hnx
          have d0 : w4.cell? ⟨gb, k * 2, none⟩ = some (.int .i64 x.id) := d0
          have d1 : w4.cell? ⟨gb, k * 2 + 1, none⟩ = some (.slice An x.need.length cn) := d1
          obtain ⟨y0, y1, y0f, y1f, k1, k1f, hkk, _⟩ := box2 (heap_alloc_new w4 (.cells #[.int .i64 0, .slice none 0 0] 44)) (.int .i64 x.id) (.slice An x.need.length cn)
          clear hnx hkk
          go_wp2
          obtain ⟨W5, hW5⟩ : ∃ W5, W5 = w4.alloc (.cells #[.int .i64 x.id, .slice An x.need.length cn] 44) := ⟨_, rfl⟩
          have hE5 : Ext w4 W5 := by rw [hW5]; exact Ext.alloc _ _
          have hxb : W5.heap[w4.heap.size]? = some (.cells #[.int .i64 x.id, .slice An x.need.length cn] 44 (0, 0)) := by rw [hW5]; exact heap_alloc_new _ _
          rw [← hW5]
          clear hW5 y0 y1 y0f y1f k1 k1f d0 d1 cgf cgt hb0 hb1 hgg
          have HXB := hid hxb
          have HO5 := hid (Own.ext (EDB.ok _) HO4.out hE5)
          have HE5 := hid (HE4w.out.trans hE5)
          have HN5 := hid (Own.ext EI.ok HNX.out hE5)
          clear hE5 hxb
          have KT : Hid (∀ w', Ext W5 w' → w'.cell? ⟨w.heap.size, 1, none⟩ = some (.int .i64 (t : Int)) ∧ w'.cell? ⟨g, t, none⟩ = some (.slice At ct.d.length cct) ∧ w'.cell? ⟨w4.heap.size, 0, none⟩ = some (.int .i64 x.id) ∧ w'.cell? ⟨w4.heap.size, 1, none⟩ = some (.slice An x.need.length cn) ∧ w'.cell? ⟨0, 0, none⟩ = some (errV a)) := hid fun w' hw => ⟨(KB.out _ (HE5.out.trans hw)).2.1, (ODB.at_ (Own.ext (EDB.ok _) HO5.out hw) HUT.out).1.trans (by rw [HCV.out]), obj_cell (hw.obj HXB.out) (i := 0) rfl, obj_cell (hw.obj HXB.out) (i := 1) rfl, (KB.out _ (HE5.out.trans hw)).2.2⟩
          have HD5 : Hid (Ext W5 W5.drew) := hid (Below.drew (Below.refl _ _))
          refine WG.start (fun w' => w'.cell? ⟨w.heap.size, 1, none⟩ = some (.int .i64 (t : Int)) ∧ w'.cell? ⟨g, t, none⟩ = some (.slice At ct.d.length cct) ∧ w'.cell? ⟨w4.heap.size, 0, none⟩ = some (.int .i64 x.id) ∧ w'.cell? ⟨w4.heap.size, 1, none⟩ = some (.slice An x.need.length cn) ∧ w'.cell? ⟨0, 0, none⟩ = some (errV a)) [7,8] (by kernel_rfl) (by exact KT.out _ HD5.out) (fun hHeld => ?_)
          (refine WG.take (i := 0) (v := ?_) rfl (by kernel_rfl) (by kernel_rfl) (by kernel_rfl) (by kernel_rfl) (fun _ _ _ h => h) (Or.inl ⟨by rfl, ?_⟩) (by assumption) ?_; rotate_left; (intro w hSw; (try dsimp only at hSw); go_split_ands; go_simp; (try with_reducible rfl)); (try simp only [Act.put, List.setIfInBounds_toArray, List.set_cons_zero, List.set_cons_succ]))
          (refine WG.take (i := 1) (v := ?_) rfl (by kernel_rfl) (by kernel_rfl) (by kernel_rfl) (by kernel_rfl) (fun _ _ _ h => h) (Or.inl ⟨by rfl, ?_⟩) (by assumption) ?_; rotate_left; (intro w hSw; (try dsimp only at hSw); go_split_ands; go_simp; (try with_reducible rfl)); (try simp only [Act.put, List.setIfInBounds_toArray, List.set_cons_zero, List.set_cons_succ]))
          (refine WG.take (i := 2) (v := ?_) rfl (by kernel_rfl) (by kernel_rfl) (by kernel_rfl) (by kernel_rfl) (fun _ _ _ h => h) (Or.inl ⟨by rfl, ?_⟩) (by assumption) ?_; rotate_left; (intro w hSw; (try dsimp only at hSw); go_split_ands; go_simp; (try with_reducible rfl)); (try simp only [Act.put, List.setIfInBounds_toArray, List.set_cons_zero, List.set_cons_succ]))
          (refine WG.take (i := 3) (v := ?_) rfl (by kernel_rfl) (by kernel_rfl) (by kernel_rfl) (by kernel_rfl) (fun _ _ _ h => h) (Or.inl ⟨by rfl, ?_⟩) (by assumption) ?_; rotate_left; (intro w hSw; (try dsimp only at hSw); go_split_ands; go_simp; (try with_reducible rfl)); (try simp only [Act.put, List.setIfInBounds_toArray, List.set_cons_zero, List.set_cons_succ]))
          (refine WG.take (i := 4) (v := ?_) rfl (by kernel_rfl) (by kernel_rfl) (by kernel_rfl) (by kernel_rfl) (fun _ _ _ h => h) (Or.inl ⟨by rfl, ?_⟩) (by assumption) ?_; rotate_left; (intro w hSw; (try dsimp only at hSw); go_split_ands; go_simp; (try with_reducible rfl)); (try simp only [Act.put, List.setIfInBounds_toArray, List.set_cons_zero, List.set_cons_succ]))
          (refine WG.take (i := 5) (v := ?_) rfl (by kernel_rfl) (by kernel_rfl) (by kernel_rfl) (by kernel_rfl) (fun _ _ _ h => h) (Or.inl ⟨by rfl, ?_⟩) (by assumption) ?_; rotate_left; (intro w hSw; (try dsimp only at hSw); go_split_ands; go_simp; (try with_reducible rfl)); (try simp only [Act.put, List.setIfInBounds_toArray, List.set_cons_zero, List.set_cons_succ]))
          (refine WG.take (i := 6) (v := ?_) rfl (by kernel_rfl) (by kernel_rfl) (by kernel_rfl) (by kernel_rfl) (fun _ _ _ h => h) (Or.inl ⟨by rfl, ?_⟩) (by assumption) ?_; rotate_left; (intro w hSw; (try dsimp only at hSw); go_split_ands; go_simp; (try with_reducible rfl)); (try simp only [Act.put, List.setIfInBounds_toArray, List.set_cons_zero, List.set_cons_succ]))
          refine WG.last (i := 7) rfl (by kernel_rfl) (by kernel_rfl) (fun K hK => ?_)
          go_simp; refine (iHasRoom _ _ _ room ct.d x _ (RI.ext HR.out (HE5.out.trans HD5.out)) (by have h3 := ODT.read (ODB.at_ (Own.ext (EDB.ok _) HO5.out HD5.out) HUT.out).2.2.1; rw [HCV.out] at h3; exact h3) ⟨_, rfl, RI.ext (Own.read HN5.out) HD5.out⟩ HLR.out HGC.out HGX.out).mono ?_; rintro e6 w6 ⟨rfl, hE6⟩; rw [HFIT.out]; have HE6 := hid (HD5.out.trans hE6); clear hE6; (try dsimp only)
          refine hK.out _ _ ?_
          clear hK K
          (try simp only [Act.put, List.setIfInBounds_toArray, List.set_cons_zero, List.set_cons_succ])
          refine WG.last (i := 8) rfl (by kernel_rfl) (by kernel_rfl) (fun K hK => ?_)
          go_simp
          refine hK.out _ _ ?_
          clear hK K
          (try simp only [Act.put, List.setIfInBounds_toArray, List.set_cons_zero, List.set_cons_succ])
          refine WG.done (by kernel_rfl) ?_
          obtain ⟨ct1, cg1, cx0, cx1, cgg⟩ := KT.out _ HE6.out

          go_wp2
          go_ret
          exact .inr ⟨HA.out, rfl, HEW.out.trans (HE5.out.trans HE6.out)⟩

    · have h2 : inB mto 0 ((bs.length : Int) - 1) = false := by simpa using h2
      clear hf hb hk hx hi hl hs
      have HA : Hid (canMove room bs ⟨mid, mto⟩ = false) := hid (by rw [HCE.out, h2]; rfl)
      go_enter Tryd.func66, Tryd.ntmps66
      go_wp2_with (first
        | (go_at_call 52; refine (iWithin _ _ _ _).mono ?_; rintro e w2 ⟨rfl, n2, hw2⟩; rw [h2]; have HE2 : Hid (Ext W w2) := hid (by rw [hw2]; exact HE1.out.trans (Ext.drewN _ _)); obtain ⟨hb0, hb1, hgg⟩ := KB.out _ HE2.out; clear hw2)
        | (go_at_call 62; rw [← hW]; refine (iWhereOf _ bs mid _ HB.out).mono ?_; rintro e w1 ⟨rfl, hE1⟩; rw [HF.out]; have HE1 := hid hE1; obtain ⟨hb0, hb1, hgg⟩ := KB.out _ HE1.out; clear hE1 hW))
      go_ret
      exact .inr ⟨HA.out, rfl, HEW.out.trans HE2.out⟩

end Go.Proofs.YtibpijjigopdjaaDoor

/- errors.Is of a sentinel and of nil (after the kit's worked family over errors.Is). -/
namespace Go.Proofs.YtibpijjigopdjaaDoor
open Go.RowKit Go.Extern.Stop Go.Stop Go.Extern

theorem isTypeOf (v : Value) (w : World) : (Extern.ReflectliteType.typeOf #[.iface 156 v]).run Tryd.prog w = .ok (.iface 143 (.agg #[.pointer (some ⟨1, 156, none⟩)])) w := by kernel_rfl
theorem isComparable (w : World) : ((Extern.ReflectliteType.method fun t => do Rtype.noPackHeld "Comparable" t; Functor.map (fun a => Value.bool a.comparable) (typeInfo t)) #[.agg #[.pointer (some ⟨1, 156, none⟩)]]).run Tryd.prog w = .ok (.bool true) w := by kernel_rfl
theorem isMethodComparable (v : Value) (w : World) : (Go.method 294 143 v "Comparable").run Tryd.prog w = .ok (150, v) w := by kernel_rfl
theorem isComp : (Tryd.prog.info? 156).map (·.comparable) = some true := by kernel_rfl
theorem isSize : (Tryd.prog.info? 182).map (·.size) = some 1 := by kernel_rfl

/-- errors.Is(x, x), x a pointer to an errors.errorString. -/
theorem is_same (a : Addr) (w : World) :
    Calls Tryd.prog 65 #[.iface 156 (.pointer (some a)), .iface 156 (.pointer (some a))] w fun e w' => e = .returned (.bool true) ∧ w' = w := by
  obtain ⟨i, hi, hcmp⟩ := Option.map_eq_some_iff.1 isComp
  obtain ⟨j, hj, hjs⟩ := Option.map_eq_some_iff.1 isSize
  have h8 := @run_callFunc_extern Tryd.prog 98 _ Extern.ReflectliteType.typeOf Tryd.func98 (by kernel_rfl) (by kernel_rfl) (by kernel_rfl) (by kernel_rfl)
  have h32 := @run_callFunc_extern Tryd.prog 150 _ (Extern.ReflectliteType.method fun t => do Rtype.noPackHeld "Comparable" t; pure (.bool (← typeInfo t).comparable)) Tryd.func150 (by kernel_rfl) (by kernel_rfl) (by kernel_rfl) (by kernel_rfl)
  have tT := isTypeOf
  have cT := isComparable
  have mR := isMethodComparable
  have heq := run_eql_iface_ptr_same (P := Tryd.prog) w a Tryd.underlying84 Tryd.underlying156 hi hcmp hj
  go_enter Tryd.func65, Tryd.ntmps65
  go_wp2
  refine wp_loop_rounds 1 ?_
  rw [rounds_succ]
  go_wp2
  go_ret
  exact ⟨rfl, rfl⟩

/-- errors.Is(nil, x). -/
theorem is_nil (b : Addr) (w : World) :
    Calls Tryd.prog 65 #[.nilIface, .iface 156 (.pointer (some b))] w fun e w' => e = .returned (.bool false) ∧ w' = w := by
  have hn := run_eql_iface_nil_left (P := Tryd.prog) w 156 (.pointer (some b)) Tryd.underlying84
  go_enter Tryd.func65, Tryd.ntmps65
  go_wp2
  go_ret
  exact ⟨rfl, rfl⟩

end Go.Proofs.YtibpijjigopdjaaDoor
