/- Tasks apart: pairs, the first node with room and without enemies, all tasks one after the other. No program in sight. -/
import Derived.Test.YtllchacophapoaaDoorK1
import Derived.Test.YtllchacophapoaaDoorK5
import Derived.Test.YtllchacophapoaaDoorK2
import Derived.Test.YtllchacophapoaaDoorK4
import Derived.Test.YtllchacophapoaaDoorK6
namespace Go.Proofs.YtllchacophapoaaDoor

/-- a pair -/
structure PairD where
  a : Int
  b : Int
deriving DecidableEq, Inhabited

def pairLt (p q : PairD) : Bool := decide (p.a < q.a) || (decide (p.a = q.a) && decide (p.b < q.b))
def pairFine (prev : Option PairD) (p : PairD) : Bool := inB p.a 1 40 && (inB p.b (p.a + 1) 40 && (match prev with | none => true | some q => pairLt q p))
def prevP (ps : List PairD) : Nat → Option PairD
  | 0 => none
  | i + 1 => ps[i]?
def pairsTo (ps : List PairD) (k : Nat) : Bool := (List.range k).all fun i => pairFine (prevP ps i) (ps.getD i default)
def pairsOk (ps : List PairD) : Bool := pairsTo ps ps.length && decide (ps.length ≤ 8)
theorem pairsTo_succ {ps : List PairD} {k : Nat} {p : PairD} (h : ps[k]? = some p) : pairsTo ps (k + 1) = (pairsTo ps k && pairFine (prevP ps k) p) := by
  unfold pairsTo
  rw [List.range_succ, List.all_append]
  simp [List.getD_eq_getElem?_getD, h]
theorem pairsOk_bad {ps : List PairD} {k : Nat} {p : PairD} (h : ps[k]? = some p) (hf : pairFine (prevP ps k) p = false) : pairsOk ps = false := by
  have hk : k < ps.length := (List.getElem?_eq_some_iff.1 h).1
  have : pairsTo ps ps.length = false := by
    unfold pairsTo
    rw [List.all_eq_false]
    refine ⟨k, by simpa using hk, ?_⟩
    rw [List.getD_eq_getElem?_getD, h]
    simpa using hf
  unfold pairsOk
  rw [this, Bool.false_and]
theorem pairsOk_mem {ps : List PairD} (h : pairsOk ps = true) {p : PairD} (hp : p ∈ ps) : 1 ≤ p.a ∧ p.a < p.b ∧ p.b ≤ 40 := by
  obtain ⟨k, hk⟩ := List.getElem?_of_mem hp
  have : pairFine (prevP ps k) p = true := by
    cases hf : pairFine (prevP ps k) p with
    | true => rfl
    | false => rw [pairsOk_bad hk hf] at h; cases h
  simp only [pairFine, inB, Bool.and_eq_true, decide_eq_true_eq] at this
  omega
theorem pairsOk_nil : pairsOk [] = true := rfl

def apartL (ps : List PairD) (a b : Int) : Bool := ps.any fun p => p.a == min a b && p.b == max a b
def freeL (ps : List PairD) (bin : List TaskD) (id : Int) : Bool := bin.all fun t => !apartL ps t.id id
def apartAt (room : List Int) (bs : List (List TaskD)) (ps : List PairD) (x : TaskD) : Int := match bs.findIdx? (fun b => l11fits room b x && freeL ps b x.id) with | some i => i | none => -1
theorem apartAt_hit {room : List Int} {bs : List (List TaskD)} {ps : List PairD} {x : TaskD} {k : Nat} {b : List TaskD} (hb : bs[k]? = some b) (h : (l11fits room b x && freeL ps b x.id) = true) (hn : ∀ (j : Nat) c, j < k → bs[j]? = some c → (l11fits room c x && freeL ps c x.id) = false) : apartAt room bs ps x = k := by
  have hk : k < bs.length := (List.getElem?_eq_some_iff.1 hb).1
  have hbk : bs[k] = b := (List.getElem?_eq_some_iff.1 hb).2
  have : bs.findIdx? (fun b => l11fits room b x && freeL ps b x.id) = some k := by
    rw [List.findIdx?_eq_some_iff_getElem]
    exact ⟨hk, by rw [hbk]; exact h, fun j hj => by simpa using hn j bs[j] hj (List.getElem?_eq_getElem (by omega))⟩
  unfold apartAt
  rw [this]
theorem apartAt_miss {room : List Int} {bs : List (List TaskD)} {ps : List PairD} {x : TaskD} (hn : ∀ (j : Nat) c, bs[j]? = some c → (l11fits room c x && freeL ps c x.id) = false) : apartAt room bs ps x = -1 := by
  have : bs.findIdx? (fun b => l11fits room b x && freeL ps b x.id) = none := by
    rw [List.findIdx?_eq_none_iff]
    intro b hb
    obtain ⟨k, hk⟩ := List.getElem?_of_mem hb
    exact hn k b hk
  unfold apartAt
  rw [this]
theorem apartAt_ge (room : List Int) (bs : List (List TaskD)) (ps : List PairD) (x : TaskD) : -1 ≤ apartAt room bs ps x := by unfold apartAt; split <;> omega
theorem apartAt_some {room : List Int} {bs : List (List TaskD)} {ps : List PairD} {x : TaskD} (h : 0 ≤ apartAt room bs ps x) : ∃ (k : Nat) (b : List TaskD), apartAt room bs ps x = (k : Int) ∧ bs[k]? = some b ∧ l11fits room b x = true ∧ freeL ps b x.id = true := by
  unfold apartAt at h ⊢
  split at h
  · rename_i i hi
    rw [List.findIdx?_eq_some_iff_getElem] at hi
    have h2 := hi.2.1
    simp only [Bool.and_eq_true] at h2
    exact ⟨i, bs[i]'hi.1, rfl, List.getElem?_eq_getElem hi.1, h2.1, h2.2⟩
  · omega
theorem apartAt_first {room : List Int} {bs : List (List TaskD)} {ps : List PairD} {x : TaskD} (h : 0 ≤ apartAt room bs ps x) : 0 ≤ firstAt room bs x ∧ firstAt room bs x ≤ apartAt room bs ps x := by
  obtain ⟨k, b, hk, hb, hf, _⟩ := apartAt_some h
  unfold firstAt
  split
  · rename_i i hi
    rw [List.findIdx?_eq_some_iff_getElem] at hi
    refine ⟨by omega, ?_⟩
    rw [hk]
    by_cases hik : k < i
    · have := hi.2.2 k hik
      obtain ⟨hk', rfl⟩ := List.getElem?_eq_some_iff.1 hb
      rw [hf] at this
      simp at this
    · omega
  · rename_i hi
    rw [List.findIdx?_eq_none_iff] at hi
    have := hi b (List.mem_of_getElem? hb)
    rw [hf] at this
    cases this
theorem freeL_nil (bin : List TaskD) (id : Int) : freeL [] bin id = true := by
  simp [freeL, apartL]
theorem apartAt_nil (room : List Int) (bs : List (List TaskD)) (x : TaskD) : apartAt room bs [] x = firstAt room bs x := by
  unfold apartAt firstAt
  simp only [freeL_nil, Bool.and_true]
  cases bs.findIdx? (fun b => l11fits room b x) <;> rfl

/-- enemies of a task -/
def foeOf (id : Int) (p : PairD) : Option Int := if id = p.a then some p.b else if id = p.b then some p.a else none
def foes (ps : List PairD) (id : Int) : List Int := ps.filterMap (foeOf id)
theorem foes_take_succ {ps : List PairD} {k : Nat} {p : PairD} (h : ps[k]? = some p) (id : Int) : foes (ps.take (k + 1)) id = foes (ps.take k) id ++ (foeOf id p).toList := by
  unfold foes
  rw [take_snoc h, List.filterMap_append]
  cases hf : foeOf id p <;> simp [hf]
theorem foes_len (ps : List PairD) (id : Int) : (foes ps id).length ≤ ps.length := List.length_filterMap_le _ _
def foesIn (es : List Int) (bin : List TaskD) : Bool := es.any fun e => bin.any fun t => t.id == e
theorem apartL_iff {ps : List PairD} (h : ∀ p ∈ ps, p.a < p.b) (a b : Int) : apartL ps a b = true ↔ ∃ p ∈ ps, (p.a = a ∧ p.b = b) ∨ (p.a = b ∧ p.b = a) := by
  simp only [apartL, List.any_eq_true, Bool.and_eq_true, beq_iff_eq]
  constructor
  · rintro ⟨p, hp, h1, h2⟩
    refine ⟨p, hp, ?_⟩
    have := h p hp
    omega
  · rintro ⟨p, hp, h1⟩
    refine ⟨p, hp, ?_⟩
    have := h p hp
    omega
theorem foesIn_free {ps : List PairD} (h : ∀ p ∈ ps, p.a < p.b) (bin : List TaskD) (id : Int) : foesIn (foes ps id) bin = !freeL ps bin id := by
  have key : foesIn (foes ps id) bin = true ↔ freeL ps bin id = false := by
    simp only [foesIn, List.any_eq_true, beq_iff_eq, freeL, List.all_eq_false, Bool.not_eq_true', Bool.not_eq_false]
    constructor
    · rintro ⟨e, he, t, ht, hte⟩
      refine ⟨t, ht, ?_⟩
      obtain ⟨p, hp, hpe⟩ := List.mem_filterMap.1 he
      rw [apartL_iff h]
      refine ⟨p, hp, ?_⟩
      unfold foeOf at hpe
      split at hpe
      · injection hpe with hpe
        right; constructor <;> omega
      · split at hpe
        · injection hpe with hpe
          left; constructor <;> omega
        · cases hpe
    · rintro ⟨t, ht, hta⟩
      rw [apartL_iff h] at hta
      obtain ⟨p, hp, hpe⟩ := hta
      have hlt := h p hp
      refine ⟨t.id, List.mem_filterMap.2 ⟨p, hp, ?_⟩, t, ht, rfl⟩
      unfold foeOf
      rcases hpe with ⟨h1, h2⟩ | ⟨h1, h2⟩
      · rw [if_neg (by omega), if_pos h2.symm, h1]
      · rw [if_pos h1.symm, h2]
  cases hf : freeL ps bin id with
  | true => cases hg : foesIn (foes ps id) bin with
    | true => rw [key.1 hg] at hf; cases hf
    | false => rfl
  | false => rw [key.2 hf]; rfl

def allBy (f : List (List TaskD) → TaskD → Int) (ts : List TaskD) : List (List TaskD) := ts.foldl (fun out x => putL out (f out x) x) []
theorem allBy_snoc (f : List (List TaskD) → TaskD → Int) (ts : List TaskD) (x : TaskD) : allBy f (ts ++ [x]) = putL (allBy f ts) (f (allBy f ts) x) x := by simp [allBy]
theorem allBy_take_succ (f : List (List TaskD) → TaskD → Int) {ts : List TaskD} {k : Nat} {x : TaskD} (h : ts[k]? = some x) : allBy f (ts.take (k + 1)) = putL (allBy f (ts.take k)) (f (allBy f (ts.take k)) x) x := by rw [take_snoc h, allBy_snoc]
def canComeL (room : List Int) (bs : List (List TaskD)) (x : TaskD) : Bool := binsOk room bs && tasksOk room (bs.flatten ++ [x])
def firstAtN (room : List Int) (bs : List (List TaskD)) (x : TaskD) : Int := if canComeL room bs x then firstAt room bs x else -1
def apartAtN (room : List Int) (bs : List (List TaskD)) (ps : List PairD) (x : TaskD) : Int := if canComeL room bs x && pairsOk ps then apartAt room bs ps x else -1
def firstAllN (room : List Int) (ts : List TaskD) : List (List TaskD) := if tasksOk room ts then allBy (fun bs x => firstAt room bs x) ts else []
def apartAllN (room : List Int) (ts : List TaskD) (ps : List PairD) : List (List TaskD) := if tasksOk room ts && pairsOk ps then allBy (fun bs x => apartAt room bs ps x) ts else []
def brokenAt (bs : List (List TaskD)) (p : PairD) : Bool := decide (0 ≤ whereL bs p.a) && (whereL bs p.a == whereL bs p.b)
def brokenTo (bs : List (List TaskD)) (ps : List PairD) (k : Nat) : List Int := ((List.range k).filter fun i => brokenAt bs (ps.getD i default)).map fun (i : Nat) => (i : Int)
def brokenN (room : List Int) (bs : List (List TaskD)) (ps : List PairD) : List Int := if binsOk room bs && pairsOk ps then brokenTo bs ps ps.length else []
theorem brokenTo_succ (bs : List (List TaskD)) {ps : List PairD} {k : Nat} {p : PairD} (h : ps[k]? = some p) : brokenTo bs ps (k + 1) = brokenTo bs ps k ++ (if brokenAt bs p then [(k : Int)] else []) := by
  unfold brokenTo
  rw [List.range_succ, List.filter_append, List.map_append]
  have e : ps.getD k default = p := by rw [List.getD_eq_getElem?_getD, h]; rfl
  simp only [List.filter_cons, List.filter_nil, e]
  split <;> simp
theorem brokenTo_mem {bs : List (List TaskD)} {ps : List PairD} {k : Nat} {z : Int} (h : z ∈ brokenTo bs ps k) : ∃ (i : Nat), i < k ∧ z = (i : Int) ∧ brokenAt bs (ps.getD i default) = true := by
  unfold brokenTo at h
  obtain ⟨i, hi, rfl⟩ := List.mem_map.1 h
  obtain ⟨h1, h2⟩ := List.mem_filter.1 hi
  exact ⟨i, by simpa using h1, rfl, h2⟩

theorem getD_set_at {α : Type} {bs : List (List α)} {k : Nat} {b : List α} (h : bs[k]? = some b) : bs.getD k [] = b := by rw [List.getD_eq_getElem?_getD, h]; rfl
theorem putL_new {bs : List (List TaskD)} {z : Int} (h : z < 0) (x : TaskD) : putL bs z x = bs ++ [[x]] := by unfold putL; rw [if_pos h]
theorem putL_at {bs : List (List TaskD)} {k : Nat} {b : List TaskD} (h : bs[k]? = some b) (x : TaskD) : putL bs (k : Int) x = bs.set k (b ++ [x]) := by
  unfold putL
  rw [if_neg (by omega), show (k : Int).toNat = k by omega, getD_set_at h]

/-- what putting keeps: a choice is a node that has room -/
def Chooses (room : List Int) (f : List (List TaskD) → TaskD → Int) : Prop := ∀ bs x, f bs x < 0 ∨ ∃ (k : Nat) (b : List TaskD), f bs x = (k : Int) ∧ bs[k]? = some b ∧ l11fits room b x = true
theorem chooses_first (room : List Int) : Chooses room (fun bs x => firstAt room bs x) := fun bs x => by
  by_cases h : firstAt room bs x < 0
  · exact .inl h
  · exact .inr (firstAt_some (by omega))
theorem chooses_apart (room : List Int) (ps : List PairD) : Chooses room (fun bs x => apartAt room bs ps x) := fun bs x => by
  by_cases h : apartAt room bs ps x < 0
  · exact .inl h
  · obtain ⟨k, b, h1, h2, h3, _⟩ := apartAt_some (room := room) (bs := bs) (ps := ps) (x := x) (by omega)
    exact .inr ⟨k, b, h1, h2, h3⟩
theorem putL_perm {room : List Int} {f : List (List TaskD) → TaskD → Int} (hc : Chooses room f) (bs : List (List TaskD)) (x : TaskD) : (putL bs (f bs x) x).flatten.Perm (bs.flatten ++ [x]) := by
  rcases hc bs x with h | ⟨k, b, h1, h2, _⟩
  · rw [putL_new h]; simp
  · rw [h1, putL_at h2]
    exact (flatten_set_perm bs k b x h2).trans (List.perm_append_comm (l₁ := [x]) (l₂ := bs.flatten))
theorem putL_len {room : List Int} {f : List (List TaskD) → TaskD → Int} (hc : Chooses room f) (bs : List (List TaskD)) (x : TaskD) : (putL bs (f bs x) x).length ≤ bs.length + 1 := by
  rcases hc bs x with h | ⟨k, b, h1, h2, _⟩
  · rw [putL_new h]; simp
  · rw [h1, putL_at h2]; simp
theorem allBy_perm {room : List Int} {f : List (List TaskD) → TaskD → Int} (hc : Chooses room f) : ∀ (n : Nat) (ts : List TaskD), ts.length = n → (allBy f ts).flatten.Perm ts ∧ (allBy f ts).length ≤ ts.length := by
  intro n
  induction n with
  | zero => intro ts h; have : ts = [] := List.eq_nil_of_length_eq_zero h; subst this; simp [allBy]
  | succ n ih =>
    intro ts h
    have hne : ts ≠ [] := by intro he; subst he; simp at h
    obtain ⟨i1, i2⟩ := ih ts.dropLast (by simp; omega)
    have e := List.dropLast_concat_getLast hne
    rw [← e, allBy_snoc]
    refine ⟨(putL_perm hc _ _).trans (i1.append_right _), ?_⟩
    have := putL_len hc (allBy f ts.dropLast) (ts.getLast hne)
    simp at this ⊢
    simp at i2
    omega
theorem perm_ok {room : List Int} {a b : List TaskD} (h : a.Perm b) (hb : tasksOk room b = true) : tasksOk room a = true := by
  rw [tasksOk_iff] at hb ⊢
  obtain ⟨h1, h2, h3, h4⟩ := hb
  exact ⟨h1, by rw [h.length_eq]; exact h2, fun t ht => h3 t (h.mem_iff.1 ht), ((h.map (·.id)).nodup_iff).2 h4⟩
theorem tasks_sub {room : List Int} {a b : List TaskD} (h : a.Sublist b) (hb : tasksOk room b = true) : tasksOk room a = true := by
  rw [tasksOk_iff] at hb ⊢
  obtain ⟨h1, h2, h3, h4⟩ := hb
  exact ⟨h1, Nat.le_trans h.length_le h2, fun t ht => h3 t (h.mem ht), h4.sublist (h.map _)⟩
theorem alone_fits {room : List Int} {x : TaskD} (h : vecFits x.need room = true) : fitsL (loadL [x]) room = true := by
  obtain ⟨_, _, h3⟩ := vecFits_ok h
  refine fitsL_of fun i hi => ?_
  rw [loadL_getD [x] i hi]
  have := fitsL_at h3 hi
  simpa using this
theorem l11_load {room : List Int} {b : List TaskD} {x : TaskD} : l11fits room b x = fitsL (loadL (b ++ [x])) room := by rw [loadL_snoc]; rfl
/-- every node fits, whatever is put -/
theorem allBy_fits {room : List Int} {f : List (List TaskD) → TaskD → Int} (hc : Chooses room f) : ∀ (n : Nat) (ts : List TaskD), ts.length = n → tasksOk room ts = true → ∀ b ∈ allBy f ts, fitsL (loadL b) room = true := by
  intro n
  induction n with
  | zero => intro ts h _; have : ts = [] := List.eq_nil_of_length_eq_zero h; subst this; simp [allBy]
  | succ n ih =>
    intro ts h hok
    have hne : ts ≠ [] := by intro he; subst he; simp at h
    have i1 := ih ts.dropLast (by simp; omega) (tasks_sub (List.dropLast_sublist ts) hok)
    have e := List.dropLast_concat_getLast hne
    have hx := (tasksOk_mem hok (List.getLast_mem hne)).2
    rw [← e, allBy_snoc]
    intro b hb
    rcases hc (allBy f ts.dropLast) (ts.getLast hne) with h2 | ⟨k, c, h2, h3, h4⟩
    · rw [putL_new h2] at hb
      rcases List.mem_append.1 hb with hb | hb
      · exact i1 b hb
      · rw [List.mem_singleton.1 hb]; exact alone_fits hx
    · rw [h2, putL_at h3] at hb
      rcases List.mem_or_eq_of_mem_set hb with hb | rfl
      · exact i1 b hb
      · rw [← l11_load]; exact h4
theorem allBy_ok {room : List Int} {f : List (List TaskD) → TaskD → Int} (hc : Chooses room f) {ts : List TaskD} (hok : tasksOk room ts = true) : binsOk room (allBy f ts) = true := by
  obtain ⟨h1, h2⟩ := allBy_perm hc ts.length ts rfl
  have h3 := tasksOk_len hok
  have h4 := allBy_fits hc ts.length ts rfl hok
  unfold binsOk
  simp only [Bool.and_eq_true, decide_eq_true_eq, List.all_eq_true]
  exact ⟨perm_ok h1 hok, by omega, h4⟩
theorem allBy_come {room : List Int} {f : List (List TaskD) → TaskD → Int} (hc : Chooses room f) {ts : List TaskD} {x : TaskD} (hok : tasksOk room (ts ++ [x]) = true) : canComeL room (allBy f ts) x = true := by
  unfold canComeL
  rw [allBy_ok hc (tasks_sub (List.sublist_append_left _ _) hok)]
  exact perm_ok ((allBy_perm hc ts.length ts rfl).1.append_right [x]) hok

end Go.Proofs.YtllchacophapoaaDoor

/- The reference's pairs; tasks apart. -/
namespace Go.Proofs.YtllchacophapoaaDoor
open Go.RowKit
set_option maxRecDepth 4000

/-- pairs in memory -/
def EP : Enc PairD := fun _ cs m => cs = [.int .i64 m.a, .int .i64 m.b]
theorem EP.mk (w : World) (a b : Int) : EP w [.int .i64 a, .int .i64 b] ⟨a, b⟩ := rfl
theorem EP.ok : EP.Ok (fun _ => False) := fun _ _ _ _ h _ => h
theorem EP.okx : EP.OkX := fun _ _ _ _ h _ => h
theorem EP.flat : EP.Flat := fun _ _ _ h u hu => by rw [h] at hu; simp at hu; rcases hu with rfl | rfl <;> rfl
theorem fine_first (p : PairD) : pairFine (prevP [] 0) p = (inB p.a 1 40 && inB p.b (p.a + 1) 40) := by simp [pairFine, prevP]
theorem fine_zero (ps : List PairD) (p : PairD) : pairFine (prevP ps 0) p = (inB p.a 1 40 && inB p.b (p.a + 1) 40) := by simp [pairFine, prevP]
theorem fine_next {ps : List PairD} {k : Nat} {y : PairD} (hk : 0 < k) (hy : ps[k - 1]? = some y) (p : PairD) : pairFine (prevP ps k) p = (inB p.a 1 40 && (inB p.b (p.a + 1) 40 && pairLt y p)) := by
  obtain ⟨m, rfl⟩ : ∃ m, k = m + 1 := ⟨k - 1, by omega⟩
  simp only [Nat.add_sub_cancel] at hy
  simp only [pairFine, prevP, hy]

end Go.Proofs.YtllchacophapoaaDoor

/- The reference's node for a task that is to be apart. -/
namespace Go.Proofs.YtllchacophapoaaDoor
open Go.RowKit
set_option maxRecDepth 4000

end Go.Proofs.YtllchacophapoaaDoor
