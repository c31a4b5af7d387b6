/- The reference's ways: l14Try. (Not built yet.) -/
import Derived.Test.YtllchacophapoaaDoorK38
import Derived.Test.YtllchacophapoaaDoorK34
namespace Go.Proofs.YtllchacophapoaaDoor
open Go.RowKit
set_option maxRecDepth 4000

/-- the node i and those behind it are tried -/
def tryFrom (room : List Int) (most : Nat) (x : TaskD) (xs : List TaskD) (bs : List (List TaskD)) (i : Nat) : Option (List (List TaskD)) :=
  ((List.range bs.length).drop i).findSome? fun j => if l11fits room (bs.getD j []) x then tryL room most xs (putL bs (j : Int) x) else none
theorem tryFrom_zero (room : List Int) (most : Nat) (x : TaskD) (xs : List TaskD) (bs : List (List TaskD)) :
    tryL room most (x :: xs) bs = match tryFrom room most x xs bs 0 with
      | some r => some r
      | none => if bs.length < most then tryL room most xs (putL bs (-1) x) else none := rfl
theorem tryFrom_end (room : List Int) (most : Nat) (x : TaskD) (xs : List TaskD) (bs : List (List TaskD)) : tryFrom room most x xs bs bs.length = none := by
  unfold tryFrom
  rw [List.drop_of_length_le (by simp)]
  rfl
theorem tryFrom_step {room : List Int} {most : Nat} {x : TaskD} {xs : List TaskD} {bs : List (List TaskD)} {i : Nat} {b : List TaskD} (h : bs[i]? = some b) :
    tryFrom room most x xs bs i = match (if l11fits room b x then tryL room most xs (putL bs (i : Int) x) else none) with
      | some r => some r
      | none => tryFrom room most x xs bs (i + 1) := by
  have hi : i < bs.length := (List.getElem?_eq_some_iff.1 h).1
  have e : bs.getD i [] = b := by rw [List.getD_eq_getElem?_getD, h]; rfl
  unfold tryFrom
  rw [List.drop_eq_getElem_cons (by simpa using hi), List.getElem_range, List.findSome?_cons, e]
  cases (if l11fits room b x then tryL room most xs (putL bs (i : Int) x) else none) <;> rfl

end Go.Proofs.YtllchacophapoaaDoor

/- The first way found with a stack. No program in sight. -/
namespace Go.Proofs.YtllchacophapoaaDoor

theorem orElse_assoc' {α : Type} (a b c : Option α) : (a.orElse fun _ => b.orElse fun _ => c) = ((a.orElse fun _ => b).orElse fun _ => c) := by cases a <;> rfl
/-- a task is put into a node, or into a new one -/
def putW (bs : List (List TaskD)) (w : Nat) (x : TaskD) : List (List TaskD) := if w < bs.length then putL bs (w : Int) x else putL bs (-1) x
def tryAt (room : List Int) (most : Nat) (x : TaskD) (xs : List TaskD) (bs : List (List TaskD)) (n : Nat) : Option (List (List TaskD)) :=
  (tryFrom room most x xs bs n).orElse fun _ => if n ≤ bs.length ∧ bs.length < most then tryL room most xs (putL bs (-1) x) else none
theorem tryL_cons (room : List Int) (most : Nat) (x : TaskD) (xs : List TaskD) (bs : List (List TaskD)) : tryL room most (x :: xs) bs = tryAt room most x xs bs 0 := by
  rw [tryFrom_zero]
  unfold tryAt
  cases tryFrom room most x xs bs 0 with
  | some r => rfl
  | none => simp
theorem tryFrom_out {room : List Int} {most : Nat} {x : TaskD} {xs : List TaskD} {bs : List (List TaskD)} {n : Nat} (h : bs.length ≤ n) : tryFrom room most x xs bs n = none := by
  unfold tryFrom
  rw [List.drop_of_length_le (by simpa using h)]
  rfl
theorem tryFrom_skip {room : List Int} {most : Nat} {x : TaskD} {xs : List TaskD} {bs : List (List TaskD)} {n : Nat} : ∀ (k : Nat), n + k ≤ bs.length → (∀ j, n ≤ j → j < n + k → l11fits room (bs.getD j []) x = false) → tryFrom room most x xs bs n = tryFrom room most x xs bs (n + k)
  | 0, _, _ => rfl
  | k + 1, h1, h2 => by
    rw [tryFrom_skip k (by omega) (fun j h3 h4 => h2 j h3 (by omega)), tryFrom_step (getD_mem (by omega : n + k < bs.length)), h2 (n + k) (by omega) (by omega)]
    rfl
/-- where a search stops: a node with room, or the end -/
structure StopAt (room : List Int) (x : TaskD) (bs : List (List TaskD)) (n a : Nat) : Prop where
  le : n ≤ a
  none : ∀ j, n ≤ j → j < a → j < bs.length ∧ l11fits room (bs.getD j []) x = false
  fits : a < bs.length → l11fits room (bs.getD a []) x = true
theorem StopAt.skip {room : List Int} {most : Nat} {x : TaskD} {xs : List TaskD} {bs : List (List TaskD)} {n a : Nat} (h : StopAt room x bs n a) : tryFrom room most x xs bs n = tryFrom room most x xs bs a := by
  rcases Nat.lt_or_ge n a with h1 | h1
  · have h2 := (h.none (a - 1) (by omega) (by omega)).1
    have h3 := tryFrom_skip (room := room) (most := most) (x := x) (xs := xs) (bs := bs) (n := n) (a - n) (by omega) (fun j hj hk => (h.none j hj (by omega)).2)
    rw [h3, show n + (a - n) = a by omega]
  · have := h.le
    rw [show n = a by omega]
theorem StopAt.n_le {room : List Int} {x : TaskD} {bs : List (List TaskD)} {n a : Nat} (h : StopAt room x bs n a) (ha : a ≤ bs.length) : n ≤ bs.length := Nat.le_trans h.le ha
theorem tryAt_step {room : List Int} {most : Nat} {x : TaskD} {xs : List TaskD} {bs : List (List TaskD)} {n a : Nat} (h : StopAt room x bs n a) (ha : a < bs.length ∨ (a = bs.length ∧ bs.length < most)) :
    tryAt room most x xs bs n = (tryL room most xs (putW bs a x)).orElse fun _ => tryAt room most x xs bs (a + 1) := by
  unfold tryAt
  rw [h.skip]
  rcases ha with ha | ⟨ha, hm⟩
  · have hf := h.fits ha
    rw [tryFrom_step (getD_mem ha), hf]
    unfold putW
    rw [if_pos ha]
    simp only [if_true]
    have e1 : (n ≤ bs.length ∧ bs.length < most) ↔ (a + 1 ≤ bs.length ∧ bs.length < most) := by have := h.le; omega
    simp only [e1]
    cases tryL room most xs (putL bs (a : Int) x) <;> rfl
  · subst ha
    rw [tryFrom_end, tryFrom_out (by omega : bs.length ≤ bs.length + 1), if_pos ⟨h.le, hm⟩, if_neg (by omega)]
    unfold putW
    rw [if_neg (by omega)]
    cases tryL room most xs (putL bs (-1) x) <;> rfl
theorem tryAt_none {room : List Int} {most : Nat} {x : TaskD} {xs : List TaskD} {bs : List (List TaskD)} {n a : Nat} (h : StopAt room x bs n a) (ha : bs.length < a ∨ (a = bs.length ∧ bs.length = most)) : tryAt room most x xs bs n = none := by
  unfold tryAt
  rcases ha with ha | ⟨ha, hm⟩
  · have hn : n = a := by
      rcases Nat.lt_or_ge n a with h1 | h1
      · have := (h.none (a - 1) (by omega) (by omega)).1; omega
      · have := h.le; omega
    rw [tryFrom_out (by omega), if_neg (by omega)]; rfl
  · rw [h.skip, ha, tryFrom_end, if_neg (by omega)]; rfl

/-- a task that was put: the nodes ahead of it, the task, the node to try next -/
abbrev FrD : Type := List (List TaskD) × TaskD × Nat
def contL (room : List Int) (most : Nat) : List TaskD → List (List TaskD) → Nat → Option (List (List TaskD))
  | [], bs, _ => some bs
  | x :: xs, bs, n => tryAt room most x xs bs n
theorem cont_zero (room : List Int) (most : Nat) (rest : List TaskD) (bs : List (List TaskD)) : contL room most rest bs 0 = tryL room most rest bs := by
  cases rest with
  | nil => rfl
  | cons x xs => exact (tryL_cons ..).symm
def searchF (room : List Int) (most : Nat) : List FrD → List TaskD → Option (List (List TaskD))
  | [], _ => none
  | (b0, x, n0) :: fr, rest => (tryAt room most x rest b0 n0).orElse fun _ => searchF room most fr (x :: rest)
def ChainF (room : List Int) (most : Nat) (ts : List TaskD) : List FrD → List (List TaskD) → List TaskD → Prop
  | [], bs, rest => bs = [] ∧ rest = ts
  | (b0, x, n0) :: fr, bs, rest => ∃ w, n0 = w + 1 ∧ w ≤ b0.length ∧ (w = b0.length → b0.length < most) ∧ (w < b0.length → l11fits room (b0.getD w []) x = true) ∧ bs = putW b0 w x ∧ ChainF room most ts fr b0 (x :: rest)
theorem chain_way {room : List Int} {most : Nat} {ts : List TaskD} (h : FitAll room ts) : ∀ (fr : List FrD) (bs : List (List TaskD)) (rest : List TaskD), ChainF room most ts fr bs rest → ∃ all, all ++ rest = ts ∧ Way room most all bs ∧ all.length = fr.length
  | [], bs, rest, hc => by
    obtain ⟨rfl, rfl⟩ := hc
    exact ⟨[], rfl, way_nil room most, rfl⟩
  | (b0, x, n0) :: fr, bs, rest, hc => by
    obtain ⟨w, _, h1, h2, h3, rfl, h4⟩ := hc
    obtain ⟨all, ha, hw, hl⟩ := chain_way h fr b0 (x :: rest) h4
    refine ⟨all ++ [x], by simpa using ha, ?_, by simp [hl]⟩
    unfold putW
    split
    · rename_i hlt
      exact way_put hw hlt (h3 hlt)
    · exact way_new hw (h2 (by omega)) (h x (by rw [← ha]; simp))
/-- while the ways are looked at -/
structure Dfs (room : List Int) (most : Nat) (ts : List TaskD) (R : List (List TaskD)) (fr : List FrD) (bs : List (List TaskD)) (rest : List TaskD) (n : Nat) : Prop where
  chain : ChainF room most ts fr bs rest
  found : ((contL room most rest bs n).orElse fun _ => searchF room most fr rest) = some R
  bound : n ≤ bs.length + 1
theorem Dfs.start {room : List Int} {most : Nat} {ts : List TaskD} {R : List (List TaskD)} (h : tryL room most ts [] = some R) : Dfs room most ts R [] [] ts 0 :=
  ⟨⟨rfl, rfl⟩, by rw [cont_zero, h]; rfl, Nat.zero_le _⟩
theorem Dfs.push {room : List Int} {most : Nat} {ts : List TaskD} {R : List (List TaskD)} {fr : List FrD} {bs : List (List TaskD)} {x : TaskD} {xs : List TaskD} {n a : Nat} (h : Dfs room most ts R fr bs (x :: xs) n) (hs : StopAt room x bs n a) (ha : a < bs.length ∨ (a = bs.length ∧ bs.length < most)) : Dfs room most ts R ((bs, x, a + 1) :: fr) (putW bs a x) xs 0 := by
  refine ⟨⟨a, rfl, by omega, by omega, hs.fits, rfl, h.chain⟩, ?_, Nat.zero_le _⟩
  rw [cont_zero]
  show ((tryL room most xs (putW bs a x)).orElse fun _ => (tryAt room most x xs bs (a + 1)).orElse fun _ => searchF room most fr (x :: xs)) = some R
  rw [orElse_assoc', ← tryAt_step hs ha]
  exact h.found
theorem Dfs.pop {room : List Int} {most : Nat} {ts : List TaskD} {R : List (List TaskD)} {fr : List FrD} {bs : List (List TaskD)} {x : TaskD} {xs : List TaskD} {n a : Nat} (h : Dfs room most ts R fr bs (x :: xs) n) (hs : StopAt room x bs n a) (ha : bs.length < a ∨ (a = bs.length ∧ bs.length = most)) :
    ∃ b0 y w fr', fr = (b0, y, w + 1) :: fr' ∧ w ≤ b0.length ∧ bs = putW b0 w y ∧ Dfs room most ts R fr' b0 (y :: x :: xs) (w + 1) := by
  have hf := h.found
  have hc := h.chain
  rw [show contL room most (x :: xs) bs n = tryAt room most x xs bs n from rfl, tryAt_none hs ha] at hf
  cases fr with
  | nil => cases hf
  | cons f fr =>
    obtain ⟨b0, y, n0⟩ := f
    obtain ⟨w, rfl, h1, _, _, h4, h5⟩ := hc
    exact ⟨b0, y, w, fr, rfl, h1, h4, h5, hf, by omega⟩
theorem Dfs.end_ {room : List Int} {most : Nat} {ts : List TaskD} {R : List (List TaskD)} {fr : List FrD} {bs : List (List TaskD)} {n : Nat} (h : Dfs room most ts R fr bs [] n) : bs = R := by
  have hf := h.found
  injection hf
theorem Dfs.depth {room : List Int} {most : Nat} {ts : List TaskD} {R : List (List TaskD)} {fr : List FrD} {bs : List (List TaskD)} {rest : List TaskD} {n : Nat} (hfit : FitAll room ts) (h : Dfs room most ts R fr bs rest n) : fr.length + rest.length = ts.length ∧ rest = ts.drop fr.length ∧ Way room most (ts.take fr.length) bs := by
  obtain ⟨all, ha, hw, hl⟩ := chain_way hfit fr bs rest h.chain
  refine ⟨by rw [← ha, List.length_append, hl], by rw [← ha, ← hl, List.drop_left], by rw [← ha, ← hl, List.take_left]; exact hw⟩
/-- how much is left to look at -/
def rkF : List FrD → Nat
  | [] => 0
  | (_, _, n) :: fr => rkF fr + (9 - n) * 10 ^ (8 - fr.length)
def rkD (fr : List FrD) (n : Nat) : Nat := rkF fr + (9 - n) * 10 ^ (8 - fr.length)
theorem rk_push {fr : List FrD} {n a : Nat} (b : List (List TaskD)) (x : TaskD) (h : fr.length ≤ 6) (hn : n ≤ a) (ha : a ≤ 7) : rkD ((b, x, a + 1) :: fr) 0 < rkD fr n := by
  unfold rkD
  simp only [rkF, List.length_cons]
  obtain ⟨e, he⟩ : ∃ e, e = 10 ^ (8 - (fr.length + 1)) := ⟨_, rfl⟩
  have h1 : 10 ^ (8 - fr.length) = 10 * e := by
    rw [he, show 8 - fr.length = (8 - (fr.length + 1)) + 1 by omega, Nat.pow_succ]; omega
  have h2 : 0 < e := by rw [he]; exact Nat.pow_pos (by omega)
  rw [h1, ← he]
  have h3 : (9 - (a + 1) + 1) * (10 * e) ≤ (9 - n) * (10 * e) := Nat.mul_le_mul_right _ (by omega)
  rw [Nat.add_mul] at h3
  omega
theorem rk_pop {fr : List FrD} {n n0 : Nat} (b : List (List TaskD)) (x : TaskD) (hn : n ≤ 8) : rkD fr n0 < rkD ((b, x, n0) :: fr) n := by
  unfold rkD
  simp only [rkF, List.length_cons]
  have : 0 < (9 - n) * 10 ^ (8 - (fr.length + 1)) := Nat.mul_pos (by omega) (Nat.pow_pos (by omega))
  omega
/-- a task is taken out again -/
theorem putW_at {bs : List (List TaskD)} {w : Nat} {x : TaskD} (h : w < bs.length) : putW bs w x = bs.set w (bs.getD w [] ++ [x]) := by unfold putW; rw [if_pos h]; exact putL_at (getD_mem h) x
theorem putW_new {bs : List (List TaskD)} (x : TaskD) : putW bs bs.length x = bs ++ [[x]] := by unfold putW; rw [if_neg (by omega)]; exact putL_neg bs x
theorem putW_get {bs : List (List TaskD)} {w : Nat} {x : TaskD} (h : w ≤ bs.length) : (putW bs w x)[w]? = some (bs.getD w [] ++ [x]) := by
  rcases Nat.lt_or_ge w bs.length with h1 | h1
  · rw [putW_at h1, List.getElem?_set_self h1]
  · have e : w = bs.length := by omega
    subst e
    rw [putW_new, getD_out (Nat.le_refl _), List.getElem?_append_right (Nat.le_refl _), Nat.sub_self]; rfl
theorem putW_undo {bs : List (List TaskD)} {w : Nat} {x : TaskD} (h : w < bs.length) : (putW bs w x).set w (bs.getD w []) = bs := by
  rw [putW_at h, List.set_set, List.getD_eq_getElem?_getD, List.getElem?_eq_getElem h]
  exact List.set_getElem_self h
theorem putW_undo_new {bs : List (List TaskD)} {x : TaskD} (c : List TaskD) : ((putW bs bs.length x).set bs.length c).take bs.length = bs := by
  rw [putW_new, List.take_set_of_le (Nat.le_refl _), List.take_left]

end Go.Proofs.YtllchacophapoaaDoor
