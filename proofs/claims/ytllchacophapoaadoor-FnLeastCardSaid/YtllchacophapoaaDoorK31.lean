/- A heap in a list; sorting. No program in sight. -/
import Derived.Test.YtllchacophapoaaDoorK1
import Derived.Test.YtllchacophapoaaDoorK23
namespace Go.Proofs.YtllchacophapoaaDoor

section heap
variable {α : Type} [Inhabited α] (lt : α → α → Bool)

def swapL (xs : List α) (i j : Nat) : List α := (xs.set i (xs.getD j default)).set j (xs.getD i default)
omit [Inhabited α] in
theorem getD_set_eq {xs : List α} {i : Nat} (h : i < xs.length) (x d : α) : (xs.set i x).getD i d = x := by rw [List.getD_eq_getElem?_getD, List.getElem?_set_self h]; rfl
omit [Inhabited α] in
theorem getD_set_ne {xs : List α} {i k : Nat} (h : k ≠ i) (x d : α) : (xs.set i x).getD k d = xs.getD k d := by rw [List.getD_eq_getElem?_getD, List.getElem?_set_ne (Ne.symm h), List.getD_eq_getElem?_getD]
theorem swapL_len (xs : List α) (i j : Nat) : (swapL xs i j).length = xs.length := by simp [swapL]
theorem swapL_i {xs : List α} {i j : Nat} (hi : i < xs.length) (hij : i ≠ j) : (swapL xs i j).getD i default = xs.getD j default := by
  unfold swapL
  rw [getD_set_ne hij, getD_set_eq hi]
theorem swapL_j {xs : List α} {i j : Nat} (hj : j < xs.length) : (swapL xs i j).getD j default = xs.getD i default := by
  unfold swapL
  rw [getD_set_eq (by simpa using hj)]
theorem swapL_k {xs : List α} {i j k : Nat} (h1 : k ≠ i) (h2 : k ≠ j) : (swapL xs i j).getD k default = xs.getD k default := by
  unfold swapL
  rw [getD_set_ne h2, getD_set_ne h1]
omit [Inhabited α] in
theorem set_perm {xs : List α} {i : Nat} (hi : i < xs.length) (x : α) : (xs[i] :: xs.set i x).Perm (x :: xs) := by
  induction xs generalizing i with
  | nil => simp at hi
  | cons y ys ih =>
    match i, hi with
    | 0, _ => exact List.Perm.swap _ _ _
    | i + 1, hi =>
      have hi' : i < ys.length := by simpa using hi
      simp only [List.getElem_cons_succ, List.set_cons_succ]
      exact (List.Perm.swap _ _ _).trans (((ih hi').cons y).trans (List.Perm.swap _ _ _))
theorem swapL_perm {xs : List α} {i j : Nat} (hi : i < xs.length) (hj : j < xs.length) : (swapL xs i j).Perm xs := by
  unfold swapL
  by_cases hij : i = j
  · subst hij
    have e : xs.getD i default = xs[i] := by rw [List.getD_eq_getElem?_getD, List.getElem?_eq_getElem hi]; rfl
    rw [e, List.set_set, List.set_getElem_self]
  · have ei : xs.getD i default = xs[i] := by rw [List.getD_eq_getElem?_getD, List.getElem?_eq_getElem hi]; rfl
    have ej : xs.getD j default = xs[j] := by rw [List.getD_eq_getElem?_getD, List.getElem?_eq_getElem hj]; rfl
    rw [ei, ej]
    have h1 := set_perm hi xs[j]
    have hj' : j < (xs.set i xs[j]).length := by simpa using hj
    have h2 := set_perm hj' xs[i]
    have e2 : (xs.set i xs[j])[j] = xs[j] := by rw [List.getElem_set_ne hij]
    rw [e2] at h2
    exact (h2.trans h1).cons_inv

/-- no child comes before its parent, from lo on, among the first n -/
def Heap (xs : List α) (n lo : Nat) : Prop := ∀ k c, lo ≤ k → (c = 2 * k + 1 ∨ c = 2 * k + 2) → c < n → lt (xs.getD c default) (xs.getD k default) = false
/-- the same, but for what lies at i -/
structure HInv (xs0 xs : List α) (i0 i n : Nat) : Prop where
  perm : xs.Perm xs0
  rest : ∀ k, n ≤ k → xs.getD k default = xs0.getD k default
  ge : i0 ≤ i
  hp : ∀ k c, i0 ≤ k → k ≠ i → (c = 2 * k + 1 ∨ c = 2 * k + 2) → c < n → lt (xs.getD c default) (xs.getD k default) = false
  gp : ∀ k c, i0 ≤ k → (i = 2 * k + 1 ∨ i = 2 * k + 2) → (c = 2 * i + 1 ∨ c = 2 * i + 2) → c < n → lt (xs.getD c default) (xs.getD k default) = false
variable {lt}
theorem HInv.start {xs : List α} {i n : Nat} (h : Heap lt xs n (i + 1)) : HInv lt xs xs i i n :=
  ⟨List.Perm.refl _, fun _ _ => rfl, Nat.le_refl _, fun k c h1 h2 h3 h4 => h k c (by omega) h3 h4, fun k c h1 h2 => by omega⟩
/-- no child comes first: done -/
theorem HInv.stop {xs0 xs : List α} {i0 i n : Nat} (h : HInv lt xs0 xs i0 i n) (h2 : ∀ c, (c = 2 * i + 1 ∨ c = 2 * i + 2) → c < n → lt (xs.getD c default) (xs.getD i default) = false) : Heap lt xs n i0 := by
  intro k c hk hc hn
  by_cases hki : k = i
  · subst hki; exact h2 c hc hn
  · exact h.hp k c hk hki hc hn
theorem HInv.step {xs0 xs : List α} {i0 i n j : Nat} (ha : ∀ a b, lt a b = true → lt b a = false) (h : HInv lt xs0 xs i0 i n) (hn : n ≤ xs.length) (hj : j = 2 * i + 1 ∨ j = 2 * i + 2) (hjn : j < n)
    (hmin : ∀ c, (c = 2 * i + 1 ∨ c = 2 * i + 2) → c < n → lt (xs.getD c default) (xs.getD j default) = false) (hlt : lt (xs.getD j default) (xs.getD i default) = true) : HInv lt xs0 (swapL xs i j) i0 j n := by
  have hij : i ≠ j := by omega
  refine ⟨(swapL_perm (by omega) (by omega)).trans h.perm, fun k hk => (swapL_k (by omega) (by omega)).trans (h.rest k hk), by have := h.ge; omega, ?_, ?_⟩
  · intro k c hk hkj hc hcn
    by_cases hki : k = i
    · subst hki
      rw [swapL_i (by omega) hij]
      by_cases hcj : c = j
      · subst hcj
        rw [swapL_j (by omega)]
        exact ha _ _ hlt
      · rw [swapL_k (by omega) hcj]
        exact hmin c hc hcn
    · rw [swapL_k hki hkj]
      by_cases hci : c = i
      · subst hci
        rw [swapL_i (by omega) hij]
        exact h.gp k j hk hc hj hjn
      · by_cases hcj : c = j
        · omega
        · rw [swapL_k hci hcj]
          exact h.hp k c hk hki hc hcn
  · intro k c hk hjk hc hcn
    have hki : k = i := by omega
    subst hki
    rw [swapL_i (by omega) hij, swapL_k (by omega) (by omega)]
    exact h.hp j c (by omega) (by omega) hc hcn
theorem Heap.none {xs : List α} {n lo : Nat} (h : n ≤ 2 * lo + 1) : Heap lt xs n lo := fun k c h1 h2 h3 => by omega
/-- the root comes first -/
theorem Heap.root {xs : List α} {n : Nat} (hr : ∀ a, lt a a = false) (ht : ∀ a b c, lt b a = false → lt c b = false → lt c a = false) (h : Heap lt xs n 0) : ∀ k, k < n → lt (xs.getD k default) (xs.getD 0 default) = false := by
  intro k
  induction k using Nat.strongRecOn with
  | _ k ih =>
    intro hk
    by_cases h0 : k = 0
    · subst h0; exact hr _
    · exact ht _ _ _ (ih ((k - 1) / 2) (by omega) (by omega)) (h ((k - 1) / 2) k (by omega) (by omega) hk)
/-- the root is exchanged with the last -/
theorem HInv.pop {xs : List α} {n : Nat} (_hl : xs.length = n + 1) (h : Heap lt xs (n + 1) 0) : HInv lt (swapL xs 0 n) (swapL xs 0 n) 0 0 n := by
  refine HInv.start fun k c hk hc hcn => ?_
  rw [swapL_k (by omega) (by omega), swapL_k (by omega) (by omega)]
  exact h k c (by omega) hc (by omega)
theorem Heap.take {xs : List α} {n lo : Nat} (h : Heap lt xs n lo) : Heap lt (xs.take n) n lo := by
  intro k c hk hc hn
  have e : ∀ i, i < n → (xs.take n).getD i default = xs.getD i default := fun i hi => by rw [List.getD_eq_getElem?_getD, List.getElem?_take, if_pos hi, List.getD_eq_getElem?_getD]
  rw [e c hn, e k (by omega)]
  exact h k c hk hc hn
omit [Inhabited α] in
theorem getD_last {xs : List α} {n : Nat} (hl : xs.length = n + 1) (d : α) : xs = xs.take n ++ [xs.getD n d] := by
  have h : xs[n]? = some (xs.getD n d) := by rw [List.getD_eq_getElem?_getD, List.getElem?_eq_getElem (by omega)]; rfl
  have := take_snoc h
  rw [← this, ← hl, List.take_length]
omit [Inhabited α] in
theorem mem_getD {xs : List α} {x : α} (h : x ∈ xs) (d : α) : ∃ k, k < xs.length ∧ xs.getD k d = x := by
  obtain ⟨k, hk⟩ := List.getElem?_of_mem h
  exact ⟨k, (List.getElem?_eq_some_iff.1 hk).1, by rw [List.getD_eq_getElem?_getD, hk]; rfl⟩

/-- what has come out, and what is left in the heap -/
structure Sorting (ts out q : List α) : Prop where
  perm : (out ++ q).Perm ts
  asc : out.Pairwise fun a b => lt b a = false
  first : ∀ a ∈ out, ∀ b ∈ q, lt b a = false
  heap : Heap lt q q.length 0
theorem Sorting.pop {ts out q zs : List α} {n : Nat} (hr : ∀ a, lt a a = false) (ht : ∀ a b c, lt b a = false → lt c b = false → lt c a = false) (h : Sorting (lt := lt) ts out q) (hn : q.length = n + 1)
    (hz : zs.Perm (swapL q 0 n)) (hz2 : ∀ k, n ≤ k → zs.getD k default = (swapL q 0 n).getD k default) (hh : Heap lt zs n 0) : Sorting (lt := lt) ts (out ++ [zs.getD n default]) (zs.take n) := by
  have hp : (swapL q 0 n).Perm q := swapL_perm (by omega) (by omega)
  have hzl : zs.length = n + 1 := by rw [hz.length_eq, swapL_len, hn]
  have hlast : zs.getD n default = q.getD 0 default := by rw [hz2 n (Nat.le_refl _)]; exact swapL_j (by omega)
  have hzp : (zs.take n ++ [zs.getD n default]).Perm q := by rw [← getD_last hzl]; exact hz.trans hp
  have hmem : ∀ x ∈ zs.take n, x ∈ q := fun x hx => hzp.mem_iff.1 (List.mem_append_left _ hx)
  have hroot : ∀ x ∈ q, lt x (q.getD 0 default) = false := fun x hx => by
    obtain ⟨k, hk, rfl⟩ := mem_getD hx default
    exact Heap.root hr ht h.heap k hk
  have h0 : q.getD 0 default ∈ q := by rw [List.getD_eq_getElem?_getD, List.getElem?_eq_getElem (by omega)]; exact List.getElem_mem _
  refine ⟨?_, ?_, ?_, ?_⟩
  · rw [List.append_assoc]
    exact ((List.perm_append_comm (l₁ := [zs.getD n default]) (l₂ := zs.take n)).trans hzp).append_left out |>.trans h.perm
  · rw [List.pairwise_append]
    refine ⟨h.asc, List.pairwise_singleton _ _, fun a ha b hb => ?_⟩
    rw [List.mem_singleton.1 hb, hlast]
    exact h.first a ha _ h0
  · intro a ha b hb
    rcases List.mem_append.1 ha with ha | ha
    · exact h.first a ha b (hmem b hb)
    · rw [List.mem_singleton.1 ha, hlast]
      exact hroot b (hmem b hb)
  · have : (zs.take n).length = n := by rw [List.length_take]; omega
    rw [this]
    exact hh.take
theorem Sorting.done {ts out : List α} (h : Sorting (lt := lt) ts out []) : out.Perm ts ∧ out.Pairwise fun a b => lt b a = false := ⟨by simpa using h.perm, h.asc⟩
omit [Inhabited α] in
theorem sorted_eq : ∀ {xs ys : List α}, xs.Perm ys → xs.Pairwise (fun a b => lt b a = false) → ys.Pairwise (fun a b => lt b a = false) → (∀ a ∈ xs, ∀ b ∈ xs, lt a b = false → lt b a = false → a = b) → xs = ys
  | [], ys, hp, _, _, _ => hp.nil_eq
  | x :: xs, [], hp, _, _, _ => hp.eq_nil
  | x :: xs, y :: ys, hp, hx, hy, hu => by
    have hxy : x = y := by
      have h1 : y ∈ x :: xs := hp.mem_iff.2 (List.mem_cons_self ..)
      have h2 : x ∈ y :: ys := hp.mem_iff.1 (List.mem_cons_self ..)
      rcases List.mem_cons.1 h1 with h1 | h1
      · exact h1.symm
      · rcases List.mem_cons.1 h2 with h2 | h2
        · exact h2
        · exact hu x (List.mem_cons_self ..) y (List.mem_cons_of_mem _ h1) ((List.pairwise_cons.1 hy).1 x h2) ((List.pairwise_cons.1 hx).1 y h1)
    subst hxy
    rw [sorted_eq hp.cons_inv (List.pairwise_cons.1 hx).2 (List.pairwise_cons.1 hy).2 (fun a ha b hb => hu a (List.mem_cons_of_mem _ ha) b (List.mem_cons_of_mem _ hb))]
end heap

/-- the order of tasks -/
def beforeT (a b : TaskD) : Bool := decide (sumL b.need < sumL a.need) || (decide (sumL a.need = sumL b.need) && decide (a.id < b.id))
theorem before_iff (a b : TaskD) : beforeT a b = true ↔ sumL b.need < sumL a.need ∨ (sumL a.need = sumL b.need ∧ a.id < b.id) := by simp [beforeT]
theorem before_not (a b : TaskD) : beforeT a b = false ↔ ¬ (sumL b.need < sumL a.need ∨ (sumL a.need = sumL b.need ∧ a.id < b.id)) := by rw [← before_iff]; simp
theorem before_irr (a : TaskD) : beforeT a a = false := by rw [before_not]; omega
theorem before_asym (a b : TaskD) (h : beforeT a b = true) : beforeT b a = false := by rw [before_iff] at h; rw [before_not]; omega
theorem before_trans (a b c : TaskD) (h1 : beforeT b a = false) (h2 : beforeT c b = false) : beforeT c a = false := by rw [before_not] at *; omega
theorem before_eq {a b : TaskD} (h1 : beforeT a b = false) (h2 : beforeT b a = false) : a.id = b.id := by rw [before_not] at *; omega
/-- a task is put at its place -/
def insTo (ts : List TaskD) (x : TaskD) : Nat → List TaskD × Bool
  | 0 => ([], false)
  | k + 1 => let r := insTo ts x k; let y := ts.getD k default; if !r.2 && beforeT x y then (r.1 ++ [x, y], true) else (r.1 ++ [y], r.2)
def insT (ts : List TaskD) (x : TaskD) : List TaskD := let r := insTo ts x ts.length; if r.2 then r.1 else r.1 ++ [x]
theorem insTo_spec (ts : List TaskD) (x : TaskD) : ∀ k, k ≤ ts.length →
    ((insTo ts x k).2 = false ∧ (insTo ts x k).1 = ts.take k ∧ ∀ y ∈ ts.take k, beforeT x y = false) ∨
    ((insTo ts x k).2 = true ∧ ∃ a y b, ts.take k = a ++ y :: b ∧ (insTo ts x k).1 = a ++ x :: y :: b ∧ (∀ z ∈ a, beforeT x z = false) ∧ beforeT x y = true)
  | 0, _ => .inl ⟨rfl, rfl, fun y hy => by simp at hy⟩
  | k + 1, hk => by
    have hy : ts[k]? = some (ts.getD k default) := by rw [List.getD_eq_getElem?_getD, List.getElem?_eq_getElem (by omega)]; rfl
    have e := take_snoc hy
    rcases insTo_spec ts x k (by omega) with ⟨h1, h2, h3⟩ | ⟨h1, a, y, b, h2, h3, h4, h5⟩
    · cases hb : beforeT x (ts.getD k default) with
      | true =>
        right
        refine ⟨by simp only [insTo, h1, hb]; rfl, ts.take k, ts.getD k default, [], e, by simp only [insTo, h1, hb, h2]; rfl, h3, hb⟩
      | false =>
        left
        refine ⟨by simp only [insTo, h1, hb]; rfl, by simp only [insTo, h1, hb, h2]; rw [e]; rfl, fun z hz => ?_⟩
        rw [e] at hz
        rcases List.mem_append.1 hz with hz | hz
        · exact h3 z hz
        · rw [List.mem_singleton.1 hz]; exact hb
    · right
      refine ⟨by simp only [insTo, h1]; rfl, a, y, b ++ [ts.getD k default], by rw [e, h2]; simp, ?_, h4, h5⟩
      simp only [insTo, h1, h3]
      simp
theorem insT_spec (ts : List TaskD) (x : TaskD) : ∃ a b, ts = a ++ b ∧ insT ts x = a ++ x :: b ∧ (∀ z ∈ a, beforeT x z = false) ∧ (∀ y c, b = y :: c → beforeT x y = true) := by
  rcases insTo_spec ts x ts.length (Nat.le_refl _) with ⟨h1, h2, h3⟩ | ⟨h1, a, y, b, h2, h3, h4, h5⟩
  · rw [List.take_length] at h2 h3
    exact ⟨ts, [], by simp, by simp only [insT, h1, h2]; rfl, h3, fun y c h => by cases h⟩
  · rw [List.take_length] at h2
    exact ⟨a, y :: b, h2, by simp only [insT, h1, h3]; rfl, h4, fun z c h => by injection h with h _; rw [← h]; exact h5⟩
theorem insT_perm (ts : List TaskD) (x : TaskD) : (insT ts x).Perm (ts ++ [x]) := by
  obtain ⟨a, b, h1, h2, _, _⟩ := insT_spec ts x
  rw [h2, h1, List.append_assoc]
  exact (List.perm_append_comm (l₁ := [x]) (l₂ := b)).append_left a
theorem insT_asc {ts : List TaskD} {x : TaskD} (h : ts.Pairwise fun a b => beforeT b a = false) : (insT ts x).Pairwise fun a b => beforeT b a = false := by
  obtain ⟨a, b, h1, h2, h3, h4⟩ := insT_spec ts x
  rw [h2]
  rw [h1, List.pairwise_append] at h
  obtain ⟨ha, hb, hab⟩ := h
  rw [List.pairwise_append, List.pairwise_cons]
  refine ⟨ha, ⟨fun y hy => ?_, hb⟩, fun u hu v hv => ?_⟩
  · cases b with
    | nil => cases hy
    | cons z c =>
      have hz := before_asym _ _ (h4 z c rfl)
      rcases List.mem_cons.1 hy with rfl | hy
      · exact hz
      · exact before_trans _ _ _ hz ((List.pairwise_cons.1 hb).1 y hy)
  · rcases List.mem_cons.1 hv with rfl | hv
    · exact h3 u hu
    · exact hab u hu v hv
def sortT (ts : List TaskD) : List TaskD := ts.foldl insT []
theorem sortT_snoc (ts : List TaskD) (x : TaskD) : sortT (ts ++ [x]) = insT (sortT ts) x := by simp [sortT]
theorem sortT_take_succ {ts : List TaskD} {k : Nat} {x : TaskD} (h : ts[k]? = some x) : sortT (ts.take (k + 1)) = insT (sortT (ts.take k)) x := by rw [take_snoc h, sortT_snoc]
theorem sortT_spec : ∀ (n : Nat) (ts : List TaskD), ts.length = n → (sortT ts).Perm ts ∧ (sortT ts).Pairwise fun a b => beforeT b a = false := by
  intro n
  induction n with
  | zero => intro ts h; have : ts = [] := List.eq_nil_of_length_eq_zero h; subst this; simp [sortT]
  | succ n ih =>
    intro ts h
    have hne : ts ≠ [] := by intro he; subst he; simp at h
    obtain ⟨i1, i2⟩ := ih ts.dropLast (by simp; omega)
    have e := List.dropLast_concat_getLast hne
    rw [← e, sortT_snoc]
    exact ⟨(insT_perm _ _).trans (i1.append_right _), insT_asc i2⟩
theorem sortT_perm (ts : List TaskD) : (sortT ts).Perm ts := (sortT_spec _ ts rfl).1
theorem sortT_asc (ts : List TaskD) : (sortT ts).Pairwise fun a b => beforeT b a = false := (sortT_spec _ ts rfl).2
theorem sortT_len (ts : List TaskD) : (sortT ts).length = ts.length := (sortT_perm ts).length_eq
theorem once_eq : ∀ {ts : List TaskD}, (ts.map (·.id)).Nodup → ∀ {a b : TaskD}, a ∈ ts → b ∈ ts → a.id = b.id → a = b
  | [], _, _, _, ha, _, _ => by cases ha
  | t :: ts, h, a, b, ha, hb, he => by
    obtain ⟨h1, h2⟩ := List.nodup_cons.1 (show (t.id :: ts.map (·.id)).Nodup from h)
    rcases List.mem_cons.1 ha with ea | ha2
    · rcases List.mem_cons.1 hb with eb | hb2
      · rw [ea, eb]
      · exact absurd (List.mem_map.2 ⟨b, hb2, by rw [← he, ea]⟩) h1
    · rcases List.mem_cons.1 hb with eb | hb2
      · exact absurd (List.mem_map.2 ⟨a, ha2, by rw [he, eb]⟩) h1
      · exact once_eq h2 ha2 hb2 he
/-- what is in order is the order -/
theorem sortT_of {ts out : List TaskD} (hn : (ts.map (·.id)).Nodup) (hp : out.Perm ts) (ha : out.Pairwise fun a b => beforeT b a = false) : out = sortT ts :=
  sorted_eq (hp.trans (sortT_perm ts).symm) ha (sortT_asc ts) (fun _ h1 _ h2 h3 h4 => once_eq hn (hp.mem_iff.1 h1) (hp.mem_iff.1 h2) (before_eq h3 h4))
/-- the given order has no influence -/
theorem sortT_congr {a b : List TaskD} (hn : (a.map (·.id)).Nodup) (h : b.Perm a) : sortT b = sortT a := sortT_of hn ((sortT_perm b).trans h) (sortT_asc b)
end Go.Proofs.YtllchacophapoaaDoor

/- All tasks in their order; the best node; the fewest nodes of several ways. No program in sight. -/
namespace Go.Proofs.YtllchacophapoaaDoor

def dotL (a b : List Int) : Int := (List.range 3).foldl (fun n i => n + a.getD i 0 * b.getD i 0) 0
theorem dotL_eq (a b : List Int) : dotL a b = a.getD 0 0 * b.getD 0 0 + a.getD 1 0 * b.getD 1 0 + a.getD 2 0 * b.getD 2 0 := by
  simp [dotL, List.range, List.range.loop]
def scoreL (room : List Int) (b : List TaskD) (x : TaskD) : Int := dotL x.need (leftL room b)
def scoreAt (room : List Int) (bs : List (List TaskD)) (x : TaskD) (i : Nat) : Int := scoreL room (bs.getD i []) x
/-- the first node with the greatest score among the first k, or none -/
def bestTo (room : List Int) (bs : List (List TaskD)) (x : TaskD) : Nat → Option Nat
  | 0 => none
  | k + 1 => if l11fits room (bs.getD k []) x then (match bestTo room bs x k with | none => some k | some b => if scoreAt room bs x b < scoreAt room bs x k then some k else some b) else bestTo room bs x k
def natI : Option Nat → Int
  | none => -1
  | some k => k
def bestAt (room : List Int) (bs : List (List TaskD)) (x : TaskD) : Int := natI (bestTo room bs x bs.length)
theorem natI_none : natI none = -1 := rfl
theorem natI_some (k : Nat) : natI (some k) = (k : Int) := rfl
theorem bestTo_some {room : List Int} {bs : List (List TaskD)} {x : TaskD} : ∀ {k j : Nat}, bestTo room bs x k = some j → j < k ∧ l11fits room (bs.getD j []) x = true
  | 0, j, h => by simp [bestTo] at h
  | k + 1, j, h => by
    unfold bestTo at h
    split at h
    · rename_i hf
      split at h
      · injection h with h; subst h; exact ⟨by omega, hf⟩
      · rename_i b hb
        split at h
        · injection h with h; subst h; exact ⟨by omega, hf⟩
        · injection h with h; subst h
          have := bestTo_some hb
          exact ⟨by omega, this.2⟩
    · have := bestTo_some h
      exact ⟨by omega, this.2⟩
theorem chooses_best (room : List Int) : Chooses room (fun bs x => bestAt room bs x) := fun bs x => by
  cases h : bestTo room bs x bs.length with
  | none => exact .inl (by show natI (bestTo room bs x bs.length) < 0; rw [h, natI_none]; omega)
  | some j =>
    obtain ⟨h1, h2⟩ := bestTo_some h
    refine .inr ⟨j, bs[j], by show natI (bestTo room bs x bs.length) = _; rw [h]; rfl, List.getElem?_eq_getElem h1, ?_⟩
    rwa [List.getD_eq_getElem?_getD, List.getElem?_eq_getElem h1] at h2
theorem score_nn {room : List Int} {b : List TaskD} {x : TaskD} (hx : vecOk x.need = true) (hf : l11fits room b x = true) : 0 ≤ scoreL room b x := by
  have hn := vecOk_nn hx
  have key : ∀ i, i < 3 → 0 ≤ x.need.getD i 0 * (leftL room b).getD i 0 := fun i hi => by
    have h1 := hn.getD (by omega) i
    have h2 := fitsL_at hf hi
    have e1 : (addL (loadL b) x.need 1).getD i 0 = (loadL b).getD i 0 + 1 * x.need.getD i 0 := addTo_getD _ _ _ i hi
    have e2 : (leftL room b).getD i 0 = room.getD i 0 + (-1) * (loadL b).getD i 0 := addTo_getD _ _ _ i hi
    exact Int.mul_nonneg h1.1 (by omega)
  unfold scoreL
  rw [dotL_eq]
  have h0 := key 0 (by omega)
  have h1 := key 1 (by omega)
  have h2 := key 2 (by omega)
  omega
theorem fits_left {room : List Int} {b : List TaskD} {x : TaskD} : fitsL x.need (leftL room b) = l11fits room b x := by
  have e1 : ∀ i, i < 3 → (addL (loadL b) x.need 1).getD i 0 = (loadL b).getD i 0 + 1 * x.need.getD i 0 := fun i hi => addTo_getD _ _ _ i hi
  have e2 : ∀ i, i < 3 → (leftL room b).getD i 0 = room.getD i 0 + (-1) * (loadL b).getD i 0 := fun i hi => addTo_getD _ _ _ i hi
  rw [Bool.eq_iff_iff]
  constructor
  · intro h
    refine fitsL_of fun i hi => ?_
    have h1 := fitsL_at h hi
    have := e1 i hi; have := e2 i hi
    omega
  · intro h
    refine fitsL_of fun i hi => ?_
    have h1 := fitsL_at h hi
    have := e1 i hi; have := e2 i hi
    omega

def sortN (room : List Int) (ts : List TaskD) : List TaskD := if tasksOk room ts then sortT ts else []
def bestAllN (room : List Int) (ts : List TaskD) : List (List TaskD) := if tasksOk room ts then allBy (fun bs x => bestAt room bs x) ts else []
def downAllN (room : List Int) (ts : List TaskD) : List (List TaskD) := firstAllN room (sortN room ts)
def downBestN (room : List Int) (ts : List TaskD) : List (List TaskD) := bestAllN room (sortN room ts)
def fewer (a b : List (List TaskD)) : List (List TaskD) := if b.length < a.length then b else a
def fewestN (room : List Int) (ts : List TaskD) : List (List TaskD) := fewer (fewer (fewer (firstAllN room ts) (bestAllN room ts)) (downAllN room ts)) (downBestN room ts)
theorem allBy_nil (f : List (List TaskD) → TaskD → Int) : allBy f [] = [] := rfl
theorem firstAllN_nil (room : List Int) : firstAllN room [] = [] := by unfold firstAllN; split <;> rfl
theorem bestAllN_nil (room : List Int) : bestAllN room [] = [] := by unfold bestAllN; split <;> rfl
theorem fewestN_bad {room : List Int} {ts : List TaskD} (h : tasksOk room ts = false) : fewestN room ts = [] := by
  have e1 : firstAllN room ts = [] := by unfold firstAllN; rw [h]; rfl
  have e2 : bestAllN room ts = [] := by unfold bestAllN; rw [h]; rfl
  have e3 : sortN room ts = [] := by unfold sortN; rw [h]; rfl
  have e4 : downAllN room ts = [] := by unfold downAllN; rw [e3, firstAllN_nil]
  have e5 : downBestN room ts = [] := by unfold downBestN; rw [e3, bestAllN_nil]
  unfold fewestN
  rw [e1, e2, e4, e5]
  rfl
theorem sortN_ok {room : List Int} {ts : List TaskD} (h : tasksOk room ts = true) : sortN room ts = sortT ts ∧ tasksOk room (sortT ts) = true :=
  ⟨by unfold sortN; rw [h]; rfl, perm_ok (sortT_perm ts) h⟩
theorem tasks_perm {room : List Int} {a b : List TaskD} (h : a.Perm b) : tasksOk room a = tasksOk room b := by
  cases hb : tasksOk room b with
  | true => exact perm_ok h hb
  | false =>
    cases ha : tasksOk room a with
    | false => rfl
    | true => rw [perm_ok h.symm ha] at hb; cases hb
theorem sortN_congr {room : List Int} {a b : List TaskD} (h : b.Perm a) : sortN room b = sortN room a := by
  unfold sortN
  rw [tasks_perm h]
  split
  · rename_i hok
    exact sortT_congr ((tasksOk_iff _ _).1 hok).2.2.2 h
  · rfl
theorem down_same {room : List Int} {a b : List TaskD} (h : b.Perm a) : downAllN room b = downAllN room a ∧ downBestN room b = downBestN room a := by
  unfold downAllN downBestN
  rw [sortN_congr h]
  exact ⟨rfl, rfl⟩

/-- nodes that are filled in the order of the tasks -/
structure InOrder (ts : List TaskD) (bs : List (List TaskD)) : Prop where
  sub : ∀ b ∈ bs, b.Sublist ts ∧ b ≠ []
  heads : (bs.map fun b => b.headD default).Sublist ts
theorem allBy_order {room : List Int} {f : List (List TaskD) → TaskD → Int} (hc : Chooses room f) : ∀ (n : Nat) (ts : List TaskD), ts.length = n → InOrder ts (allBy f ts) := by
  intro n
  induction n with
  | zero => intro ts h; have : ts = [] := List.eq_nil_of_length_eq_zero h; subst this; exact ⟨fun b hb => by simp [allBy] at hb, by simp [allBy]⟩
  | succ n ih =>
    intro ts h
    have hne : ts ≠ [] := by intro he; subst he; simp at h
    have i1 := ih ts.dropLast (by simp; omega)
    have e := List.dropLast_concat_getLast hne
    rw [← e, allBy_snoc]
    rcases hc (allBy f ts.dropLast) (ts.getLast hne) with h2 | ⟨k, c, h2, h3, h4⟩
    · rw [putL_new h2]
      refine ⟨fun b hb => ?_, ?_⟩
      · rcases List.mem_append.1 hb with hb | hb
        · exact ⟨(i1.sub b hb).1.trans (List.sublist_append_left _ _), (i1.sub b hb).2⟩
        · rw [List.mem_singleton.1 hb]; exact ⟨List.sublist_append_right _ _, by simp⟩
      · rw [List.map_append]
        exact i1.heads.append (List.Sublist.refl _)
    · rw [h2, putL_at h3]
      have hcm := i1.sub c (List.mem_of_getElem? h3)
      refine ⟨fun b hb => ?_, ?_⟩
      · rcases List.mem_or_eq_of_mem_set hb with hb | rfl
        · exact ⟨(i1.sub b hb).1.trans (List.sublist_append_left _ _), (i1.sub b hb).2⟩
        · exact ⟨hcm.1.append (List.Sublist.refl _), by simp⟩
      · have : ((allBy f ts.dropLast).set k (c ++ [ts.getLast hne])).map (fun b => b.headD default) = (allBy f ts.dropLast).map fun b => b.headD default := by
          rw [List.map_set]
          refine set_same' ?_
          rw [List.getElem?_map, h3]
          cases c with
          | nil => exact absurd rfl hcm.2
          | cons y ys => rfl
        rw [this]
        exact i1.heads.trans (List.sublist_append_left _ _)
where
  set_same' {xs : List TaskD} {k : Nat} {x : TaskD} (h : xs[k]? = some x) : xs.set k x = xs := by
    obtain ⟨hk, rfl⟩ := List.getElem?_eq_some_iff.1 h
    exact List.set_getElem_self hk
/-- one comes strictly before the other -/
theorem strict {ts : List TaskD} (hn : (ts.map (·.id)).Nodup) : (sortT ts).Pairwise fun a b => beforeT a b = true := by
  have h1 := sortT_asc ts
  have h2 : ((sortT ts).map (·.id)).Nodup := (((sortT_perm ts).map (·.id)).nodup_iff).2 hn
  rw [List.nodup_iff_pairwise_ne, List.pairwise_map] at h2
  refine (h1.and h2).imp fun {a b} ⟨ha, hb⟩ => ?_
  cases h : beforeT a b with
  | true => rfl
  | false => exact absurd (before_eq h ha) hb
/-- what the program's TaskBefore says -/
def taskBefore (a b : TaskD) : Bool := (inB a.id 1 40 && inB b.id 1 40) && ((vecOk a.need && vecOk b.need) && beforeT a b)
theorem taskBefore_of {room : List Int} {ts : List TaskD} (h : tasksOk room ts = true) {a b : TaskD} (ha : a ∈ ts) (hb : b ∈ ts) (hab : beforeT a b = true) : taskBefore a b = true := by
  obtain ⟨a1, a2⟩ := tasksOk_mem h ha
  obtain ⟨b1, b2⟩ := tasksOk_mem h hb
  unfold taskBefore
  rw [a1, b1, (vecFits_ok a2).1, (vecFits_ok b2).1, hab]
  rfl
theorem down_order {room : List Int} {ts : List TaskD} (h : tasksOk room ts = true) :
    (∀ (i : Nat) b, (downAllN room ts)[i]? = some b → b ≠ [] ∧ ∀ (k : Nat) x y, b[k]? = some x → b[k + 1]? = some y → taskBefore x y = true) ∧
    (∀ (i : Nat) a b, (downAllN room ts)[i]? = some a → (downAllN room ts)[i + 1]? = some b → ∀ x y, a[0]? = some x → b[0]? = some y → taskBefore x y = true) ∧
    binsOk room (downAllN room ts) = true := by
  obtain ⟨e1, h1⟩ := sortN_ok h
  have e : downAllN room ts = allBy (fun bs x => firstAt room bs x) (sortT ts) := by unfold downAllN firstAllN; rw [e1, h1]; rfl
  have hn := ((tasksOk_iff _ _).1 h).2.2.2
  have hs := strict hn
  have ho := allBy_order (chooses_first room) (sortT ts).length (sortT ts) rfl
  rw [e]
  refine ⟨fun i b hb => ?_, fun i a b ha hb x y hx hy => ?_, allBy_ok (chooses_first room) h1⟩
  · obtain ⟨h2, h3⟩ := ho.sub b (List.mem_of_getElem? hb)
    refine ⟨h3, fun k x y hx hy => ?_⟩
    obtain ⟨k1, ex⟩ := List.getElem?_eq_some_iff.1 hx
    obtain ⟨k2, ey⟩ := List.getElem?_eq_some_iff.1 hy
    have := (List.pairwise_iff_getElem.1 (hs.sublist h2)) k (k + 1) k1 k2 (by omega)
    rw [ex, ey] at this
    exact taskBefore_of h1 (h2.mem (List.mem_of_getElem? hx)) (h2.mem (List.mem_of_getElem? hy)) this
  · have hp := hs.sublist ho.heads
    rw [List.pairwise_map] at hp
    obtain ⟨k1, ea⟩ := List.getElem?_eq_some_iff.1 ha
    obtain ⟨k2, eb⟩ := List.getElem?_eq_some_iff.1 hb
    have := (List.pairwise_iff_getElem.1 hp) i (i + 1) k1 k2 (by omega)
    rw [ea, eb] at this
    have e2 : a.headD default = x := by cases a with | nil => simp at hx | cons u us => simpa using hx
    have e3 : b.headD default = y := by cases b with | nil => simp at hy | cons u us => simpa using hy
    rw [e2, e3] at this
    exact taskBefore_of h1 ((ho.sub a (List.mem_of_getElem? ha)).1.mem (List.mem_of_getElem? hx)) ((ho.sub b (List.mem_of_getElem? hb)).1.mem (List.mem_of_getElem? hy)) this
theorem bestAll_ok {room : List Int} {ts : List TaskD} (h : tasksOk room ts = true) : binsOk room (bestAllN room ts) = true ∧ (bestAllN room ts).flatten.length = ts.length := by
  have e : bestAllN room ts = allBy (fun bs x => bestAt room bs x) ts := by unfold bestAllN; rw [h]; rfl
  rw [e]
  exact ⟨allBy_ok (chooses_best room) h, (allBy_perm (chooses_best room) ts.length ts rfl).1.length_eq⟩
/-- what the program's BinsTasks has -/
def binsTasksN (room : List Int) (bs : List (List TaskD)) : List TaskD := if binsOk room bs then bs.flatten else []
theorem down_best_len (room : List Int) (ts : List TaskD) : (binsTasksN room (downBestN room ts)).length = (sortN room ts).length := by
  cases h : tasksOk room ts with
  | true =>
    obtain ⟨e1, h1⟩ := sortN_ok h
    obtain ⟨h2, h3⟩ := bestAll_ok h1
    unfold downBestN binsTasksN
    rw [e1, h2]
    exact h3
  | false =>
    have e3 : sortN room ts = [] := by unfold sortN; rw [h]; rfl
    have e5 : downBestN room ts = [] := by unfold downBestN; rw [e3, bestAllN_nil]
    rw [e3, e5]
    unfold binsTasksN
    split <;> rfl
end Go.Proofs.YtllchacophapoaaDoor
