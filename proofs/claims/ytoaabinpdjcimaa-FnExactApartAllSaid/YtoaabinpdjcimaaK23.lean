/- Tasks apart: pairs, the first node with room and without enemies, all tasks one after the other. No program in sight. -/
import Derived.Test.YtoaabinpdjcimaaK1
import Derived.Test.YtoaabinpdjcimaaK5
import Derived.Test.YtoaabinpdjcimaaK2
import Derived.Test.YtoaabinpdjcimaaK4
import Derived.Test.YtoaabinpdjcimaaK6
namespace Go.Proofs.Ytoaabinpdjcimaa

/-- a pair -/
structure PairD where
  a : Int
  b : Int
deriving DecidableEq, Inhabited

def pairLt (p q : PairD) : Bool := decide (p.a < q.a) || (decide (p.a = q.a) && decide (p.b < q.b))
def pairFine (prev : Option PairD) (p : PairD) : Bool := inB p.a 1 40 && (inB p.b (p.a + 1) 40 && (match prev with | none => true | some q => pairLt q p))
def prevP (ps : List PairD) : Nat → Option PairD
  | 0 => none
  | i + 1 => ps[i]?
def pairsTo (ps : List PairD) (k : Nat) : Bool := (List.range k).all fun i => pairFine (prevP ps i) (ps.getD i default)
def pairsOk (ps : List PairD) : Bool := pairsTo ps ps.length && decide (ps.length ≤ 8)
theorem pairsTo_succ {ps : List PairD} {k : Nat} {p : PairD} (h : ps[k]? = some p) : pairsTo ps (k + 1) = (pairsTo ps k && pairFine (prevP ps k) p) := by
  unfold pairsTo
  rw [List.range_succ, List.all_append]
  simp [List.getD_eq_getElem?_getD, h]
theorem pairsOk_bad {ps : List PairD} {k : Nat} {p : PairD} (h : ps[k]? = some p) (hf : pairFine (prevP ps k) p = false) : pairsOk ps = false := by
  have hk : k < ps.length := (List.getElem?_eq_some_iff.1 h).1
  have : pairsTo ps ps.length = false := by
    unfold pairsTo
    rw [List.all_eq_false]
    refine ⟨k, by simpa using hk, ?_⟩
    rw [List.getD_eq_getElem?_getD, h]
    simpa using hf
  unfold pairsOk
  rw [this, Bool.false_and]
theorem pairsOk_mem {ps : List PairD} (h : pairsOk ps = true) {p : PairD} (hp : p ∈ ps) : 1 ≤ p.a ∧ p.a < p.b ∧ p.b ≤ 40 := by
  obtain ⟨k, hk⟩ := List.getElem?_of_mem hp
  have : pairFine (prevP ps k) p = true := by
    cases hf : pairFine (prevP ps k) p with
    | true => rfl
    | false => rw [pairsOk_bad hk hf] at h; cases h
  simp only [pairFine, inB, Bool.and_eq_true, decide_eq_true_eq] at this
  omega
theorem pairsOk_nil : pairsOk [] = true := rfl

def apartL (ps : List PairD) (a b : Int) : Bool := ps.any fun p => p.a == min a b && p.b == max a b
def freeL (ps : List PairD) (bin : List TaskD) (id : Int) : Bool := bin.all fun t => !apartL ps t.id id
def apartAt (room : List Int) (bs : List (List TaskD)) (ps : List PairD) (x : TaskD) : Int := match bs.findIdx? (fun b => l11fits room b x && freeL ps b x.id) with | some i => i | none => -1
theorem apartAt_hit {room : List Int} {bs : List (List TaskD)} {ps : List PairD} {x : TaskD} {k : Nat} {b : List TaskD} (hb : bs[k]? = some b) (h : (l11fits room b x && freeL ps b x.id) = true) (hn : ∀ (j : Nat) c, j < k → bs[j]? = some c → (l11fits room c x && freeL ps c x.id) = false) : apartAt room bs ps x = k := by
  have hk : k < bs.length := (List.getElem?_eq_some_iff.1 hb).1
  have hbk : bs[k] = b := (List.getElem?_eq_some_iff.1 hb).2
  have : bs.findIdx? (fun b => l11fits room b x && freeL ps b x.id) = some k := by
    rw [List.findIdx?_eq_some_iff_getElem]
    exact ⟨hk, by rw [hbk]; exact h, fun j hj => by simpa using hn j bs[j] hj (List.getElem?_eq_getElem (by omega))⟩
  unfold apartAt
  rw [this]
theorem apartAt_miss {room : List Int} {bs : List (List TaskD)} {ps : List PairD} {x : TaskD} (hn : ∀ (j : Nat) c, bs[j]? = some c → (l11fits room c x && freeL ps c x.id) = false) : apartAt room bs ps x = -1 := by
  have : bs.findIdx? (fun b => l11fits room b x && freeL ps b x.id) = none := by
    rw [List.findIdx?_eq_none_iff]
    intro b hb
    obtain ⟨k, hk⟩ := List.getElem?_of_mem hb
    exact hn k b hk
  unfold apartAt
  rw [this]
theorem apartAt_ge (room : List Int) (bs : List (List TaskD)) (ps : List PairD) (x : TaskD) : -1 ≤ apartAt room bs ps x := by unfold apartAt; split <;> omega
theorem apartAt_some {room : List Int} {bs : List (List TaskD)} {ps : List PairD} {x : TaskD} (h : 0 ≤ apartAt room bs ps x) : ∃ (k : Nat) (b : List TaskD), apartAt room bs ps x = (k : Int) ∧ bs[k]? = some b ∧ l11fits room b x = true ∧ freeL ps b x.id = true := by
  unfold apartAt at h ⊢
  split at h
  · rename_i i hi
    rw [List.findIdx?_eq_some_iff_getElem] at hi
    have h2 := hi.2.1
    simp only [Bool.and_eq_true] at h2
    exact ⟨i, bs[i]'hi.1, rfl, List.getElem?_eq_getElem hi.1, h2.1, h2.2⟩
  · omega
theorem apartAt_first {room : List Int} {bs : List (List TaskD)} {ps : List PairD} {x : TaskD} (h : 0 ≤ apartAt room bs ps x) : 0 ≤ firstAt room bs x ∧ firstAt room bs x ≤ apartAt room bs ps x := by
  obtain ⟨k, b, hk, hb, hf, _⟩ := apartAt_some h
  unfold firstAt
  split
  · rename_i i hi
    rw [List.findIdx?_eq_some_iff_getElem] at hi
    refine ⟨by omega, ?_⟩
    rw [hk]
    by_cases hik : k < i
    · have := hi.2.2 k hik
      obtain ⟨hk', rfl⟩ := List.getElem?_eq_some_iff.1 hb
      rw [hf] at this
      simp at this
    · omega
  · rename_i hi
    rw [List.findIdx?_eq_none_iff] at hi
    have := hi b (List.mem_of_getElem? hb)
    rw [hf] at this
    cases this
theorem freeL_nil (bin : List TaskD) (id : Int) : freeL [] bin id = true := by
  simp [freeL, apartL]
theorem apartAt_nil (room : List Int) (bs : List (List TaskD)) (x : TaskD) : apartAt room bs [] x = firstAt room bs x := by
  unfold apartAt firstAt
  simp only [freeL_nil, Bool.and_true]
  cases bs.findIdx? (fun b => l11fits room b x) <;> rfl

/-- enemies of a task -/
def foeOf (id : Int) (p : PairD) : Option Int := if id = p.a then some p.b else if id = p.b then some p.a else none
def foes (ps : List PairD) (id : Int) : List Int := ps.filterMap (foeOf id)
theorem foes_take_succ {ps : List PairD} {k : Nat} {p : PairD} (h : ps[k]? = some p) (id : Int) : foes (ps.take (k + 1)) id = foes (ps.take k) id ++ (foeOf id p).toList := by
  unfold foes
  rw [take_snoc h, List.filterMap_append]
  cases hf : foeOf id p <;> simp [hf]
theorem foes_len (ps : List PairD) (id : Int) : (foes ps id).length ≤ ps.length := List.length_filterMap_le _ _
def foesIn (es : List Int) (bin : List TaskD) : Bool := es.any fun e => bin.any fun t => t.id == e
theorem apartL_iff {ps : List PairD} (h : ∀ p ∈ ps, p.a < p.b) (a b : Int) : apartL ps a b = true ↔ ∃ p ∈ ps, (p.a = a ∧ p.b = b) ∨ (p.a = b ∧ p.b = a) := by
  simp only [apartL, List.any_eq_true, Bool.and_eq_true, beq_iff_eq]
  constructor
  · rintro ⟨p, hp, h1, h2⟩
    refine ⟨p, hp, ?_⟩
    have := h p hp
    omega
  · rintro ⟨p, hp, h1⟩
    refine ⟨p, hp, ?_⟩
    have := h p hp
    omega
theorem foesIn_free {ps : List PairD} (h : ∀ p ∈ ps, p.a < p.b) (bin : List TaskD) (id : Int) : foesIn (foes ps id) bin = !freeL ps bin id := by
  have key : foesIn (foes ps id) bin = true ↔ freeL ps bin id = false := by
    simp only [foesIn, List.any_eq_true, beq_iff_eq, freeL, List.all_eq_false, Bool.not_eq_true', Bool.not_eq_false]
    constructor
    · rintro ⟨e, he, t, ht, hte⟩
      refine ⟨t, ht, ?_⟩
      obtain ⟨p, hp, hpe⟩ := List.mem_filterMap.1 he
      rw [apartL_iff h]
      refine ⟨p, hp, ?_⟩
      unfold foeOf at hpe
      split at hpe
      · injection hpe with hpe
        right; constructor <;> omega
      · split at hpe
        · injection hpe with hpe
          left; constructor <;> omega
        · cases hpe
    · rintro ⟨t, ht, hta⟩
      rw [apartL_iff h] at hta
      obtain ⟨p, hp, hpe⟩ := hta
      have hlt := h p hp
      refine ⟨t.id, List.mem_filterMap.2 ⟨p, hp, ?_⟩, t, ht, rfl⟩
      unfold foeOf
      rcases hpe with ⟨h1, h2⟩ | ⟨h1, h2⟩
      · rw [if_neg (by omega), if_pos h2.symm, h1]
      · rw [if_pos h1.symm, h2]
  cases hf : freeL ps bin id with
  | true => cases hg : foesIn (foes ps id) bin with
    | true => rw [key.1 hg] at hf; cases hf
    | false => rfl
  | false => rw [key.2 hf]; rfl

def allBy (f : List (List TaskD) → TaskD → Int) (ts : List TaskD) : List (List TaskD) := ts.foldl (fun out x => putL out (f out x) x) []
theorem allBy_snoc (f : List (List TaskD) → TaskD → Int) (ts : List TaskD) (x : TaskD) : allBy f (ts ++ [x]) = putL (allBy f ts) (f (allBy f ts) x) x := by simp [allBy]
theorem allBy_take_succ (f : List (List TaskD) → TaskD → Int) {ts : List TaskD} {k : Nat} {x : TaskD} (h : ts[k]? = some x) : allBy f (ts.take (k + 1)) = putL (allBy f (ts.take k)) (f (allBy f (ts.take k)) x) x := by rw [take_snoc h, allBy_snoc]
def canComeL (room : List Int) (bs : List (List TaskD)) (x : TaskD) : Bool := binsOk room bs && tasksOk room (bs.flatten ++ [x])
def firstAtN (room : List Int) (bs : List (List TaskD)) (x : TaskD) : Int := if canComeL room bs x then firstAt room bs x else -1
def apartAtN (room : List Int) (bs : List (List TaskD)) (ps : List PairD) (x : TaskD) : Int := if canComeL room bs x && pairsOk ps then apartAt room bs ps x else -1
def firstAllN (room : List Int) (ts : List TaskD) : List (List TaskD) := if tasksOk room ts then allBy (fun bs x => firstAt room bs x) ts else []
def apartAllN (room : List Int) (ts : List TaskD) (ps : List PairD) : List (List TaskD) := if tasksOk room ts && pairsOk ps then allBy (fun bs x => apartAt room bs ps x) ts else []
def brokenAt (bs : List (List TaskD)) (p : PairD) : Bool := decide (0 ≤ whereL bs p.a) && (whereL bs p.a == whereL bs p.b)
def brokenTo (bs : List (List TaskD)) (ps : List PairD) (k : Nat) : List Int := ((List.range k).filter fun i => brokenAt bs (ps.getD i default)).map fun (i : Nat) => (i : Int)
def brokenN (room : List Int) (bs : List (List TaskD)) (ps : List PairD) : List Int := if binsOk room bs && pairsOk ps then brokenTo bs ps ps.length else []
theorem brokenTo_succ (bs : List (List TaskD)) {ps : List PairD} {k : Nat} {p : PairD} (h : ps[k]? = some p) : brokenTo bs ps (k + 1) = brokenTo bs ps k ++ (if brokenAt bs p then [(k : Int)] else []) := by
  unfold brokenTo
  rw [List.range_succ, List.filter_append, List.map_append]
  have e : ps.getD k default = p := by rw [List.getD_eq_getElem?_getD, h]; rfl
  simp only [List.filter_cons, List.filter_nil, e]
  split <;> simp
theorem brokenTo_mem {bs : List (List TaskD)} {ps : List PairD} {k : Nat} {z : Int} (h : z ∈ brokenTo bs ps k) : ∃ (i : Nat), i < k ∧ z = (i : Int) ∧ brokenAt bs (ps.getD i default) = true := by
  unfold brokenTo at h
  obtain ⟨i, hi, rfl⟩ := List.mem_map.1 h
  obtain ⟨h1, h2⟩ := List.mem_filter.1 hi
  exact ⟨i, by simpa using h1, rfl, h2⟩

theorem getD_set_at {α : Type} {bs : List (List α)} {k : Nat} {b : List α} (h : bs[k]? = some b) : bs.getD k [] = b := by rw [List.getD_eq_getElem?_getD, h]; rfl
theorem putL_new {bs : List (List TaskD)} {z : Int} (h : z < 0) (x : TaskD) : putL bs z x = bs ++ [[x]] := by unfold putL; rw [if_pos h]
theorem putL_at {bs : List (List TaskD)} {k : Nat} {b : List TaskD} (h : bs[k]? = some b) (x : TaskD) : putL bs (k : Int) x = bs.set k (b ++ [x]) := by
  unfold putL
  rw [if_neg (by omega), show (k : Int).toNat = k by omega, getD_set_at h]

/-- what putting keeps: a choice is a node that has room -/
def Chooses (room : List Int) (f : List (List TaskD) → TaskD → Int) : Prop := ∀ bs x, f bs x < 0 ∨ ∃ (k : Nat) (b : List TaskD), f bs x = (k : Int) ∧ bs[k]? = some b ∧ l11fits room b x = true
theorem chooses_first (room : List Int) : Chooses room (fun bs x => firstAt room bs x) := fun bs x => by
  by_cases h : firstAt room bs x < 0
  · exact .inl h
  · exact .inr (firstAt_some (by omega))
theorem chooses_apart (room : List Int) (ps : List PairD) : Chooses room (fun bs x => apartAt room bs ps x) := fun bs x => by
  by_cases h : apartAt room bs ps x < 0
  · exact .inl h
  · obtain ⟨k, b, h1, h2, h3, _⟩ := apartAt_some (room := room) (bs := bs) (ps := ps) (x := x) (by omega)
    exact .inr ⟨k, b, h1, h2, h3⟩
theorem putL_perm {room : List Int} {f : List (List TaskD) → TaskD → Int} (hc : Chooses room f) (bs : List (List TaskD)) (x : TaskD) : (putL bs (f bs x) x).flatten.Perm (bs.flatten ++ [x]) := by
  rcases hc bs x with h | ⟨k, b, h1, h2, _⟩
  · rw [putL_new h]; simp
  · rw [h1, putL_at h2]
    exact (flatten_set_perm bs k b x h2).trans (List.perm_append_comm (l₁ := [x]) (l₂ := bs.flatten))
theorem putL_len {room : List Int} {f : List (List TaskD) → TaskD → Int} (hc : Chooses room f) (bs : List (List TaskD)) (x : TaskD) : (putL bs (f bs x) x).length ≤ bs.length + 1 := by
  rcases hc bs x with h | ⟨k, b, h1, h2, _⟩
  · rw [putL_new h]; simp
  · rw [h1, putL_at h2]; simp
theorem allBy_perm {room : List Int} {f : List (List TaskD) → TaskD → Int} (hc : Chooses room f) : ∀ (n : Nat) (ts : List TaskD), ts.length = n → (allBy f ts).flatten.Perm ts ∧ (allBy f ts).length ≤ ts.length := by
  intro n
  induction n with
  | zero => intro ts h; have : ts = [] := List.eq_nil_of_length_eq_zero h; subst this; simp [allBy]
  | succ n ih =>
    intro ts h
    have hne : ts ≠ [] := by intro he; subst he; simp at h
    obtain ⟨i1, i2⟩ := ih ts.dropLast (by simp; omega)
    have e := List.dropLast_concat_getLast hne
    rw [← e, allBy_snoc]
    refine ⟨(putL_perm hc _ _).trans (i1.append_right _), ?_⟩
    have := putL_len hc (allBy f ts.dropLast) (ts.getLast hne)
    simp at this ⊢
    simp at i2
    omega
theorem perm_ok {room : List Int} {a b : List TaskD} (h : a.Perm b) (hb : tasksOk room b = true) : tasksOk room a = true := by
  rw [tasksOk_iff] at hb ⊢
  obtain ⟨h1, h2, h3, h4⟩ := hb
  exact ⟨h1, by rw [h.length_eq]; exact h2, fun t ht => h3 t (h.mem_iff.1 ht), ((h.map (·.id)).nodup_iff).2 h4⟩
theorem tasks_sub {room : List Int} {a b : List TaskD} (h : a.Sublist b) (hb : tasksOk room b = true) : tasksOk room a = true := by
  rw [tasksOk_iff] at hb ⊢
  obtain ⟨h1, h2, h3, h4⟩ := hb
  exact ⟨h1, Nat.le_trans h.length_le h2, fun t ht => h3 t (h.mem ht), h4.sublist (h.map _)⟩
theorem alone_fits {room : List Int} {x : TaskD} (h : vecFits x.need room = true) : fitsL (loadL [x]) room = true := by
  obtain ⟨_, _, h3⟩ := vecFits_ok h
  refine fitsL_of fun i hi => ?_
  rw [loadL_getD [x] i hi]
  have := fitsL_at h3 hi
  simpa using this
theorem l11_load {room : List Int} {b : List TaskD} {x : TaskD} : l11fits room b x = fitsL (loadL (b ++ [x])) room := by rw [loadL_snoc]; rfl
/-- every node fits, whatever is put -/
theorem allBy_fits {room : List Int} {f : List (List TaskD) → TaskD → Int} (hc : Chooses room f) : ∀ (n : Nat) (ts : List TaskD), ts.length = n → tasksOk room ts = true → ∀ b ∈ allBy f ts, fitsL (loadL b) room = true := by
  intro n
  induction n with
  | zero => intro ts h _; have : ts = [] := List.eq_nil_of_length_eq_zero h; subst this; simp [allBy]
  | succ n ih =>
    intro ts h hok
    have hne : ts ≠ [] := by intro he; subst he; simp at h
    have i1 := ih ts.dropLast (by simp; omega) (tasks_sub (List.dropLast_sublist ts) hok)
    have e := List.dropLast_concat_getLast hne
    have hx := (tasksOk_mem hok (List.getLast_mem hne)).2
    rw [← e, allBy_snoc]
    intro b hb
    rcases hc (allBy f ts.dropLast) (ts.getLast hne) with h2 | ⟨k, c, h2, h3, h4⟩
    · rw [putL_new h2] at hb
      rcases List.mem_append.1 hb with hb | hb
      · exact i1 b hb
      · rw [List.mem_singleton.1 hb]; exact alone_fits hx
    · rw [h2, putL_at h3] at hb
      rcases List.mem_or_eq_of_mem_set hb with hb | rfl
      · exact i1 b hb
      · rw [← l11_load]; exact h4
theorem allBy_ok {room : List Int} {f : List (List TaskD) → TaskD → Int} (hc : Chooses room f) {ts : List TaskD} (hok : tasksOk room ts = true) : binsOk room (allBy f ts) = true := by
  obtain ⟨h1, h2⟩ := allBy_perm hc ts.length ts rfl
  have h3 := tasksOk_len hok
  have h4 := allBy_fits hc ts.length ts rfl hok
  unfold binsOk
  simp only [Bool.and_eq_true, decide_eq_true_eq, List.all_eq_true]
  exact ⟨perm_ok h1 hok, by omega, h4⟩
theorem allBy_come {room : List Int} {f : List (List TaskD) → TaskD → Int} (hc : Chooses room f) {ts : List TaskD} {x : TaskD} (hok : tasksOk room (ts ++ [x]) = true) : canComeL room (allBy f ts) x = true := by
  unfold canComeL
  rw [allBy_ok hc (tasks_sub (List.sublist_append_left _ _) hok)]
  exact perm_ok ((allBy_perm hc ts.length ts rfl).1.append_right [x]) hok

end Go.Proofs.Ytoaabinpdjcimaa

/- The reference's pairs; tasks apart. -/
namespace Go.Proofs.Ytoaabinpdjcimaa
open Go.RowKit
set_option maxRecDepth 4000

/-- pairs in memory -/
def EP : Enc PairD := fun _ cs m => cs = [.int .i64 m.a, .int .i64 m.b]
theorem EP.mk (w : World) (a b : Int) : EP w [.int .i64 a, .int .i64 b] ⟨a, b⟩ := rfl
theorem EP.ok : EP.Ok (fun _ => False) := fun _ _ _ _ h _ => h
theorem EP.okx : EP.OkX := fun _ _ _ _ h _ => h
theorem EP.flat : EP.Flat := fun _ _ _ h u hu => by rw [h] at hu; simp at hu; rcases hu with rfl | rfl <;> rfl
theorem EP.ne : ∀ t, (fun _ => False) t → t ≠ 55 := fun _ h => h.elim
abbrev RP := RSl 55 2 EP
abbrev OP := Own 55 2 EP
theorem RP.same {w w' : World} {v : Value} {xs : List PairD} (h : RP w v xs) (ha : SameT (fun t => t = 55) w w') : RP w' v xs := RSl.same_ EP.ok h (ha.mono fun t ht => by rcases ht with h | h; exact h; cases h)
theorem RP.ext {w w' : World} {v : Value} {xs : List PairD} (h : RP w v xs) (ha : Ext w w') : RP w' v xs := h.same (ha.same _)
theorem RP.get {w : World} {v : Value} {xs : List PairD} (h : RP w v xs) : ∃ A c, v = .slice A xs.length c ∧ xs.length ≤ c ∧ c ≤ 9223372036854775807 ∧
    ∀ (j : Nat), j < xs.length → ∃ b o x, A = some ⟨b, o, none⟩ ∧ Hid (xs[j]? = some x) ∧ w.cell? ⟨b, o + j * 2, none⟩ = some (.int .i64 x.a) ∧ w.cell? ⟨b, o + j * 2 + 1, none⟩ = some (.int .i64 x.b) := by
  obtain ⟨A, c, hv, h1, h2, h⟩ := RSl.get_ h
  refine ⟨A, c, hv, h1, h2, fun j hj => ?_⟩
  obtain ⟨b, o, x, cs, hA, hx, _, he, hc⟩ := h j hj
  subst he
  exact ⟨b, o, x, hA, hx, by simpa using hc 0 _ rfl, by simpa [Nat.add_assoc] using hc 1 _ rfl⟩
theorem info_pair : (Try.prog.info? 55).map (fun i => (i.zero, i.size, i.bytes)) = some (some (.agg #[.int .i64 0, .int .i64 0]), 2, 16) := by kernel_rfl
theorem fine_first (p : PairD) : pairFine (prevP [] 0) p = (inB p.a 1 40 && inB p.b (p.a + 1) 40) := by simp [pairFine, prevP]
theorem fine_zero (ps : List PairD) (p : PairD) : pairFine (prevP ps 0) p = (inB p.a 1 40 && inB p.b (p.a + 1) 40) := by simp [pairFine, prevP]
theorem fine_next {ps : List PairD} {k : Nat} {y : PairD} (hk : 0 < k) (hy : ps[k - 1]? = some y) (p : PairD) : pairFine (prevP ps k) p = (inB p.a 1 40 && (inB p.b (p.a + 1) 40 && pairLt y p)) := by
  obtain ⟨m, rfl⟩ : ∃ m, k = m + 1 := ⟨k - 1, by omega⟩
  simp only [Nat.add_sub_cancel] at hy
  simp only [pairFine, prevP, hy]

set_option maxHeartbeats 8000000 in
theorem sPairsValid (v : Value) (ps : List PairD) (w : World) (h : RP w v ps) :
    Calls Try.prog 33 #[v] w (RetB w (pairsOk ps)) := by
  obtain ⟨A, c, rfl, hc, hc', hg⟩ := RP.get h
  clear h
  go_enter Try.func33, Try.ntmps33
  go_wp2
  go_loopw [3] (fun i wr => ∃ k : Nat, k ≤ ps.length ∧ i = .int .i64 k ∧ Hid (pairsTo ps k = true) ∧ Hid (Ext w wr)) (fun i _ => ps.length - (intOf i).toNat)
  case atStart => exact ⟨0, Nat.zero_le _, rfl, hid rfl, hid (Ext.refl _)⟩
  case round =>
    obtain ⟨k, hk, rfl, H, HE⟩ := hrel
    by_cases hlt : k < ps.length
    · obtain ⟨b, o, x, rfl, e, c0, c1⟩ := hg k hlt
      have i1 : (k : Int) < (ps.length : Int) := by omega
      have i0 : (0 : Int) ≤ (k : Int) := by omega
      obtain ⟨W, hW⟩ : ∃ W, W = wr.alloc (.cells #[.int .i64 x.a, .int .i64 x.b] 55) := ⟨_, rfl⟩
      have hEW : Ext wr W := by rw [hW]; exact Ext.alloc _ _
      have hB0 : W.cell? ⟨wr.heap.size, 0, none⟩ = some (.int .i64 x.a) := by rw [hW]; exact cell_new _ _ _ 0
      have hB1 : W.cell? ⟨wr.heap.size, 1, none⟩ = some (.int .i64 x.b) := by rw [hW]; exact cell_new _ _ _ 1
      have HEW := hid hEW
      have HB0 := hid hB0
      have HB1 := hid hB1
      have c0r := HE.out.cell c0
      have c1r := HE.out.cell c1
      clear hEW hB0 hB1
      cases ha : inB x.a 1 40 with
      | false =>
        have HF : Hid (pairFine (prevP ps k) x = false) := hid (by unfold pairFine; rw [ha]; rfl)
        go_wp2_with (go_at_call 69; rw [← hW]; refine (sIn _ _ _ _).mono ?_; rintro e1 w1 ⟨rfl, n1, hw1⟩; rw [ha]; have HE1 : Hid (Ext w w1) := hid (by rw [hw1]; exact (HE.out.trans HEW.out).trans (Ext.drewN _ _)); clear hw1 hW)
        go_ret
        rw [pairsOk_bad e.out HF.out]
        exact ⟨rfl, HE1.out⟩
      | true =>
        have hxa : 1 ≤ x.a ∧ x.a ≤ 40 := by simpa [inB] using ha
        obtain ⟨hxa1, hxa2⟩ := hxa
        have hwr : IntKind.i64.wrap (x.a + 1) = x.a + 1 := IntWalk.i64_in _ (by omega)
        cases hb : inB x.b (x.a + 1) 40 with
        | false =>
          have HF : Hid (pairFine (prevP ps k) x = false) := hid (by unfold pairFine; rw [ha, hb]; rfl)
          go_wp2_with (first
            | (go_at_call 69; have _t := TK1; refine (sIn _ _ _ _).mono ?_; rintro e2 w2 ⟨rfl, n2, hw2⟩; rw [hb]; have HE2 : Hid (Ext w w2) := hid (by rw [hw2]; exact (HE.out.trans HEW.out).trans ((Ext.drewN _ _).trans (Ext.drewN _ _))); clear hw2 f0 f1)
            | (go_at_call 69; rw [← hW]; refine (sIn _ _ _ _).mono ?_; rintro e1 w1 ⟨rfl, n1, rfl⟩; rw [ha]; have f0 := (Ext.drewN W n1).cell HB0.out; have f1 := (Ext.drewN W n1).cell HB1.out; have TK1 : Hid True := hid trivial; clear hW))
          go_ret
          rw [pairsOk_bad e.out HF.out]
          exact ⟨rfl, HE2.out⟩
        | true =>
          have HAB := hid (show inB x.a 1 40 = true ∧ inB x.b (x.a + 1) 40 = true from ⟨ha, hb⟩)
          cases Nat.eq_zero_or_pos k with
          | inl hk0 =>
            have HF : Hid (pairFine (prevP ps k) x = true) := hid (by rw [hk0, fine_zero, HAB.out.1, HAB.out.2]; rfl)
            have H0 : Hid (decide ((0 : Int) < (k : Int)) = false) := hid (by simp [hk0])
            have H0n : Hid (decide (0 < k) = false) := hid (by simp [hk0])
            clear hk0
            go_wp2_with (first
              | (go_at_call 69; have _t := TK1; refine (sIn _ _ _ _).mono ?_; rintro e2 w2 ⟨rfl, n2, hw2⟩; rw [hb]; have HE2 : Hid (Ext w w2) := hid (by rw [hw2]; exact (HE.out.trans HEW.out).trans ((Ext.drewN _ _).trans (Ext.drewN _ _))); have KS : Hid (∀ w', Ext w2 w' → w'.cell? ⟨wr.heap.size, 0, none⟩ = some (.int .i64 x.a) ∧ w'.cell? ⟨wr.heap.size, 1, none⟩ = some (.int .i64 x.b)) := hid (fun w' hw => by have hq := ((Ext.drewN W n1).trans (by rw [hw2]; exact Ext.drewN _ _) : Ext W w2).trans hw; exact ⟨hq.cell HB0.out, hq.cell HB1.out⟩); have HD : Hid (Ext w2 w2.drew) := hid (Below.drew (Below.refl _ _)); clear hw2 f0 f1)
              | (go_at_call 69; rw [← hW]; refine (sIn _ _ _ _).mono ?_; rintro e1 w1 ⟨rfl, n1, rfl⟩; rw [ha]; have f0 := (Ext.drewN W n1).cell HB0.out; have f1 := (Ext.drewN W n1).cell HB1.out; have TK1 : Hid True := hid trivial; clear hW))
            refine WG.start (fun w' => w'.cell? ⟨wr.heap.size, 0, none⟩ = some (.int .i64 x.a) ∧ w'.cell? ⟨wr.heap.size, 1, none⟩ = some (.int .i64 x.b)) [] (by kernel_rfl) (by exact KS.out _ HD.out) (fun hHeld => ?_)
            (refine WG.take (i := 0) (v := ?_) rfl (by kernel_rfl) (by kernel_rfl) (by kernel_rfl) (by kernel_rfl) (fun _ _ _ h => h) (Or.inl ⟨by rfl, ?_⟩) (by assumption) ?_; rotate_left; (intro w hSw; (try dsimp only at hSw); go_split_ands; go_simp; (try with_reducible rfl)); (try simp only [Act.put, List.setIfInBounds_toArray, List.set_cons_zero, List.set_cons_succ]))
            (refine WG.take (i := 1) (v := ?_) rfl (by kernel_rfl) (by kernel_rfl) (by kernel_rfl) (by kernel_rfl) (fun _ _ _ h => h) (Or.inl ⟨by rfl, ?_⟩) (by assumption) ?_; rotate_left; (intro w hSw; (try dsimp only at hSw); go_split_ands; go_simp; (try with_reducible rfl)); (try simp only [Act.put, List.setIfInBounds_toArray, List.set_cons_zero, List.set_cons_succ]))
            (first | rw [H0.out] | rw [H0n.out] | skip)
            (refine WG.take (i := 2) (v := ?_) rfl (by kernel_rfl) (by kernel_rfl) (by kernel_rfl) (by kernel_rfl) (fun _ _ _ h => h) (Or.inl ⟨by rfl, ?_⟩) (by assumption) ?_; rotate_left; (intro w hSw; (try dsimp only at hSw); go_split_ands; go_simp; (try with_reducible rfl)); (try simp only [Act.put, List.setIfInBounds_toArray, List.set_cons_zero, List.set_cons_succ]))
            (refine WG.take (i := 3) rfl (by kernel_rfl) (by kernel_rfl) (by kernel_rfl) (by kernel_rfl) (fun _ _ _ h => h) (Or.inr ⟨?_, rfl⟩) (by assumption) ?_; go_simp; (try simp only [Act.put, List.setIfInBounds_toArray, List.set_cons_zero, List.set_cons_succ]))
            (refine WG.take (i := 4) rfl (by kernel_rfl) (by kernel_rfl) (by kernel_rfl) (by kernel_rfl) (fun _ _ _ h => h) (Or.inr ⟨?_, rfl⟩) (by assumption) ?_; go_simp; (try simp only [Act.put, List.setIfInBounds_toArray, List.set_cons_zero, List.set_cons_succ]))
            (refine WG.take (i := 5) rfl (by kernel_rfl) (by kernel_rfl) (by kernel_rfl) (by kernel_rfl) (fun _ _ _ h => h) (Or.inr ⟨?_, rfl⟩) (by assumption) ?_; go_simp; (try simp only [Act.put, List.setIfInBounds_toArray, List.set_cons_zero, List.set_cons_succ]))
            (refine WG.take (i := 6) rfl (by kernel_rfl) (by kernel_rfl) (by kernel_rfl) (by kernel_rfl) (fun _ _ _ h => h) (Or.inr ⟨?_, rfl⟩) (by assumption) ?_; go_simp; (try simp only [Act.put, List.setIfInBounds_toArray, List.set_cons_zero, List.set_cons_succ]))
            (refine WG.take (i := 7) rfl (by kernel_rfl) (by kernel_rfl) (by kernel_rfl) (by kernel_rfl) (fun _ _ _ h => h) (Or.inr ⟨?_, rfl⟩) (by assumption) ?_; go_simp; (try simp only [Act.put, List.setIfInBounds_toArray, List.set_cons_zero, List.set_cons_succ]))
            (refine WG.take (i := 8) rfl (by kernel_rfl) (by kernel_rfl) (by kernel_rfl) (by kernel_rfl) (fun _ _ _ h => h) (Or.inr ⟨?_, rfl⟩) (by assumption) ?_; go_simp; (try simp only [Act.put, List.setIfInBounds_toArray, List.set_cons_zero, List.set_cons_succ]))
            (refine WG.take (i := 9) rfl (by kernel_rfl) (by kernel_rfl) (by kernel_rfl) (by kernel_rfl) (fun _ _ _ h => h) (Or.inr ⟨?_, rfl⟩) (by assumption) ?_; go_simp; (try simp only [Act.put, List.setIfInBounds_toArray, List.set_cons_zero, List.set_cons_succ]))
            (refine WG.take (i := 10) rfl (by kernel_rfl) (by kernel_rfl) (by kernel_rfl) (by kernel_rfl) (fun _ _ _ h => h) (Or.inr ⟨?_, rfl⟩) (by assumption) ?_; go_simp; (try simp only [Act.put, List.setIfInBounds_toArray, List.set_cons_zero, List.set_cons_succ]))
            (refine WG.take (i := 11) rfl (by kernel_rfl) (by kernel_rfl) (by kernel_rfl) (by kernel_rfl) (fun _ _ _ h => h) (Or.inr ⟨?_, rfl⟩) (by assumption) ?_; go_simp; (try simp only [Act.put, List.setIfInBounds_toArray, List.set_cons_zero, List.set_cons_succ]))
            (refine WG.take (i := 12) rfl (by kernel_rfl) (by kernel_rfl) (by kernel_rfl) (by kernel_rfl) (fun _ _ _ h => h) (Or.inr ⟨?_, rfl⟩) (by assumption) ?_; go_simp; (try simp only [Act.put, List.setIfInBounds_toArray, List.set_cons_zero, List.set_cons_succ]))
            (refine WG.take (i := 13) rfl (by kernel_rfl) (by kernel_rfl) (by kernel_rfl) (by kernel_rfl) (fun _ _ _ h => h) (Or.inr ⟨by rfl, rfl⟩) (by assumption) ?_; (try simp only [Act.put, List.setIfInBounds_toArray, List.set_cons_zero, List.set_cons_succ]))
            (refine WG.take (i := 14) rfl (by kernel_rfl) (by kernel_rfl) (by kernel_rfl) (by kernel_rfl) (fun _ _ _ h => h) (Or.inr ⟨by rfl, rfl⟩) (by assumption) ?_; (try simp only [Act.put, List.setIfInBounds_toArray, List.set_cons_zero, List.set_cons_succ]))
            (refine WG.take (i := 15) rfl (by kernel_rfl) (by kernel_rfl) (by kernel_rfl) (by kernel_rfl) (fun _ _ _ h => h) (Or.inr ⟨by rfl, rfl⟩) (by assumption) ?_; (try simp only [Act.put, List.setIfInBounds_toArray, List.set_cons_zero, List.set_cons_succ]))
            (refine WG.take (i := 16) rfl (by kernel_rfl) (by kernel_rfl) (by kernel_rfl) (by kernel_rfl) (fun _ _ _ h => h) (Or.inr ⟨by rfl, rfl⟩) (by assumption) ?_; (try simp only [Act.put, List.setIfInBounds_toArray, List.set_cons_zero, List.set_cons_succ]))
            (refine WG.take (i := 17) rfl (by kernel_rfl) (by kernel_rfl) (by kernel_rfl) (by kernel_rfl) (fun _ _ _ h => h) (Or.inr ⟨by rfl, rfl⟩) (by assumption) ?_; (try simp only [Act.put, List.setIfInBounds_toArray, List.set_cons_zero, List.set_cons_succ]))
            (refine WG.take (i := 18) rfl (by kernel_rfl) (by kernel_rfl) (by kernel_rfl) (by kernel_rfl) (fun _ _ _ h => h) (Or.inr ⟨by rfl, rfl⟩) (by assumption) ?_; (try simp only [Act.put, List.setIfInBounds_toArray, List.set_cons_zero, List.set_cons_succ]))
            (refine WG.take (i := 19) rfl (by kernel_rfl) (by kernel_rfl) (by kernel_rfl) (by kernel_rfl) (fun _ _ _ h => h) (Or.inr ⟨by rfl, rfl⟩) (by assumption) ?_; (try simp only [Act.put, List.setIfInBounds_toArray, List.set_cons_zero, List.set_cons_succ]))
            (refine WG.take (i := 20) rfl (by kernel_rfl) (by kernel_rfl) (by kernel_rfl) (by kernel_rfl) (fun _ _ _ h => h) (Or.inr ⟨by rfl, rfl⟩) (by assumption) ?_; (try simp only [Act.put, List.setIfInBounds_toArray, List.set_cons_zero, List.set_cons_succ]))
            (refine WG.take (i := 21) rfl (by kernel_rfl) (by kernel_rfl) (by kernel_rfl) (by kernel_rfl) (fun _ _ _ h => h) (Or.inr ⟨by rfl, rfl⟩) (by assumption) ?_; (try simp only [Act.put, List.setIfInBounds_toArray, List.set_cons_zero, List.set_cons_succ]))
            (refine WG.take (i := 22) rfl (by kernel_rfl) (by kernel_rfl) (by kernel_rfl) (by kernel_rfl) (fun _ _ _ h => h) (Or.inr ⟨by rfl, rfl⟩) (by assumption) ?_; (try simp only [Act.put, List.setIfInBounds_toArray, List.set_cons_zero, List.set_cons_succ]))
            (refine WG.take (i := 23) rfl (by kernel_rfl) (by kernel_rfl) (by kernel_rfl) (by kernel_rfl) (fun _ _ _ h => h) (Or.inr ⟨by rfl, rfl⟩) (by assumption) ?_; (try simp only [Act.put, List.setIfInBounds_toArray, List.set_cons_zero, List.set_cons_succ]))
            (refine WG.take (i := 24) rfl (by kernel_rfl) (by kernel_rfl) (by kernel_rfl) (by kernel_rfl) (fun _ _ _ h => h) (Or.inr ⟨by rfl, rfl⟩) (by assumption) ?_; (try simp only [Act.put, List.setIfInBounds_toArray, List.set_cons_zero, List.set_cons_succ]))
            (refine WG.take (i := 25) rfl (by kernel_rfl) (by kernel_rfl) (by kernel_rfl) (by kernel_rfl) (fun _ _ _ h => h) (Or.inr ⟨by rfl, rfl⟩) (by assumption) ?_; (try simp only [Act.put, List.setIfInBounds_toArray, List.set_cons_zero, List.set_cons_succ]))
            (refine WG.take (i := 26) rfl (by kernel_rfl) (by kernel_rfl) (by kernel_rfl) (by kernel_rfl) (fun _ _ _ h => h) (Or.inr ⟨by rfl, rfl⟩) (by assumption) ?_; (try simp only [Act.put, List.setIfInBounds_toArray, List.set_cons_zero, List.set_cons_succ]))
            (refine WG.take (i := 27) rfl (by kernel_rfl) (by kernel_rfl) (by kernel_rfl) (by kernel_rfl) (fun _ _ _ h => h) (Or.inr ⟨by rfl, rfl⟩) (by assumption) ?_; (try simp only [Act.put, List.setIfInBounds_toArray, List.set_cons_zero, List.set_cons_succ]))
            (refine WG.take (i := 28) rfl (by kernel_rfl) (by kernel_rfl) (by kernel_rfl) (by kernel_rfl) (fun _ _ _ h => h) (Or.inr ⟨by rfl, rfl⟩) (by assumption) ?_; (try simp only [Act.put, List.setIfInBounds_toArray, List.set_cons_zero, List.set_cons_succ]))
            (refine WG.take (i := 29) rfl (by kernel_rfl) (by kernel_rfl) (by kernel_rfl) (by kernel_rfl) (fun _ _ _ h => h) (Or.inr ⟨by rfl, rfl⟩) (by assumption) ?_; (try simp only [Act.put, List.setIfInBounds_toArray, List.set_cons_zero, List.set_cons_succ]))
            (refine WG.take (i := 30) rfl (by kernel_rfl) (by kernel_rfl) (by kernel_rfl) (by kernel_rfl) (fun _ _ _ h => h) (Or.inr ⟨by rfl, rfl⟩) (by assumption) ?_; (try simp only [Act.put, List.setIfInBounds_toArray, List.set_cons_zero, List.set_cons_succ]))
            (refine WG.take (i := 31) rfl (by kernel_rfl) (by kernel_rfl) (by kernel_rfl) (by kernel_rfl) (fun _ _ _ h => h) (Or.inr ⟨by rfl, rfl⟩) (by assumption) ?_; (try simp only [Act.put, List.setIfInBounds_toArray, List.set_cons_zero, List.set_cons_succ]))
            (refine WG.take (i := 32) rfl (by kernel_rfl) (by kernel_rfl) (by kernel_rfl) (by kernel_rfl) (fun _ _ _ h => h) (Or.inr ⟨by rfl, rfl⟩) (by assumption) ?_; (try simp only [Act.put, List.setIfInBounds_toArray, List.set_cons_zero, List.set_cons_succ]))
            (refine WG.take (i := 33) rfl (by kernel_rfl) (by kernel_rfl) (by kernel_rfl) (by kernel_rfl) (fun _ _ _ h => h) (Or.inr ⟨?_, rfl⟩) (by assumption) ?_; go_simp; (try simp only [Act.put, List.setIfInBounds_toArray, List.set_cons_zero, List.set_cons_succ]))
            (refine WG.take (i := 34) (v := ?_) rfl (by kernel_rfl) (by kernel_rfl) (by kernel_rfl) (by kernel_rfl) (fun _ _ _ h => h) (Or.inl ⟨by rfl, ?_⟩) (by assumption) ?_; rotate_left; (intro w hSw; (try dsimp only at hSw); go_split_ands; go_simp; (try with_reducible rfl)); (try simp only [Act.put, List.setIfInBounds_toArray, List.set_cons_zero, List.set_cons_succ]))
            refine WG.done (by kernel_rfl) ?_
            go_wp2
            exact ⟨⟨k + 1, by omega, by go_num, hid (by rw [pairsTo_succ e.out, H.out, HF.out]; rfl), hid (HE2.out.trans HD.out)⟩, by simp [intOf]; omega⟩
          | inr hk0 =>
            obtain ⟨b', o', y, hA', ey, d0, d1⟩ := hg (k - 1) (by omega)
            injection hA' with hA'
            injection hA' with e1 e2 _
            subst e1 e2
            have hw1 : IntKind.i64.wrap ((k : Int) - 1) = ((k - 1 : Nat) : Int) := by rw [IntWalk.i64_in _ (by omega)]; omega
            have hi1 : ((k - 1 : Nat) : Int) < (ps.length : Int) := by omega
            have hi0 : (0 : Int) ≤ ((k - 1 : Nat) : Int) := by omega
            have HD0 := hid (HE.out.cell d0)
            have HD1 := hid (HE.out.cell d1)
            have hfn := fine_next hk0 ey.out x
            rw [HAB.out.1, HAB.out.2, Bool.true_and, Bool.true_and] at hfn
            have H0 : Hid (decide ((0 : Int) < (k : Int)) = true) := hid (by simp [hk0])
            have H0n : Hid (decide (0 < k) = true) := hid (by simp [hk0])
            clear d0 d1 hk0
            by_cases h1 : x.a < y.a
            · have HF : Hid (pairFine (prevP ps k) x = false) := hid (by rw [hfn]; simp [pairLt]; omega)
              have H1 : Hid (decide (x.a < y.a) = true) := hid (by simp [h1])
              clear hfn h1
              go_wp2_with (first
                | (go_at_call 69; have _t := TK1; refine (sIn _ _ _ _).mono ?_; rintro e2 w2 ⟨rfl, n2, hw2⟩; rw [hb]; have HE2 : Hid (Ext w w2) := hid (by rw [hw2]; exact (HE.out.trans HEW.out).trans ((Ext.drewN _ _).trans (Ext.drewN _ _))); have KS : Hid (∀ w', Ext w2 w' → w'.cell? ⟨wr.heap.size, 0, none⟩ = some (.int .i64 x.a) ∧ w'.cell? ⟨wr.heap.size, 1, none⟩ = some (.int .i64 x.b) ∧ w'.cell? ⟨b, o + (k - 1) * 2, none⟩ = some (.int .i64 y.a) ∧ w'.cell? ⟨b, o + (k - 1) * 2 + 1, none⟩ = some (.int .i64 y.b)) := hid (fun w' hw => by have hq := ((Ext.drewN W n1).trans (by rw [hw2]; exact Ext.drewN _ _) : Ext W w2).trans hw; exact ⟨hq.cell HB0.out, hq.cell HB1.out, (HEW.out.trans hq).cell HD0.out, (HEW.out.trans hq).cell HD1.out⟩); have HD : Hid (Ext w2 w2.drew) := hid (Below.drew (Below.refl _ _)); clear hw2 f0 f1)
                | (go_at_call 69; rw [← hW]; refine (sIn _ _ _ _).mono ?_; rintro e1 w1 ⟨rfl, n1, rfl⟩; rw [ha]; have f0 := (Ext.drewN W n1).cell HB0.out; have f1 := (Ext.drewN W n1).cell HB1.out; have TK1 : Hid True := hid trivial; clear hW))
              refine WG.start (fun w' => w'.cell? ⟨wr.heap.size, 0, none⟩ = some (.int .i64 x.a) ∧ w'.cell? ⟨wr.heap.size, 1, none⟩ = some (.int .i64 x.b) ∧ w'.cell? ⟨b, o + (k - 1) * 2, none⟩ = some (.int .i64 y.a) ∧ w'.cell? ⟨b, o + (k - 1) * 2 + 1, none⟩ = some (.int .i64 y.b)) [] (by kernel_rfl) (by exact KS.out _ HD.out) (fun hHeld => ?_)
              (refine WG.take (i := 0) (v := ?_) rfl (by kernel_rfl) (by kernel_rfl) (by kernel_rfl) (by kernel_rfl) (fun _ _ _ h => h) (Or.inl ⟨by rfl, ?_⟩) (by assumption) ?_; rotate_left; (intro w hSw; (try dsimp only at hSw); go_split_ands; go_simp; (try with_reducible rfl)); (try simp only [Act.put, List.setIfInBounds_toArray, List.set_cons_zero, List.set_cons_succ]))
              (refine WG.take (i := 1) (v := ?_) rfl (by kernel_rfl) (by kernel_rfl) (by kernel_rfl) (by kernel_rfl) (fun _ _ _ h => h) (Or.inl ⟨by rfl, ?_⟩) (by assumption) ?_; rotate_left; (intro w hSw; (try dsimp only at hSw); go_split_ands; go_simp; (try with_reducible rfl)); (try simp only [Act.put, List.setIfInBounds_toArray, List.set_cons_zero, List.set_cons_succ]))
              (first | rw [H0.out] | rw [H0n.out] | skip)
              (refine WG.take (i := 2) (v := ?_) rfl (by kernel_rfl) (by kernel_rfl) (by kernel_rfl) (by kernel_rfl) (fun _ _ _ h => h) (Or.inl ⟨by rfl, ?_⟩) (by assumption) ?_; rotate_left; (intro w hSw; (try dsimp only at hSw); go_split_ands; go_simp; (try with_reducible rfl)); (try simp only [Act.put, List.setIfInBounds_toArray, List.set_cons_zero, List.set_cons_succ]))
              (refine WG.take (i := 3) (v := ?_) rfl (by kernel_rfl) (by kernel_rfl) (by kernel_rfl) (by kernel_rfl) (fun _ _ _ h => h) (Or.inl ⟨by rfl, ?_⟩) (by assumption) ?_; rotate_left; (intro w hSw; (try dsimp only at hSw); go_split_ands; go_simp; (try with_reducible rfl)); (try simp only [Act.put, List.setIfInBounds_toArray, List.set_cons_zero, List.set_cons_succ]))
              (refine WG.take (i := 4) (v := ?_) rfl (by kernel_rfl) (by kernel_rfl) (by kernel_rfl) (by kernel_rfl) (fun _ _ _ h => h) (Or.inl ⟨by rfl, ?_⟩) (by assumption) ?_; rotate_left; (intro w hSw; (try dsimp only at hSw); go_split_ands; go_simp; (try with_reducible rfl)); (try simp only [Act.put, List.setIfInBounds_toArray, List.set_cons_zero, List.set_cons_succ]))
              (refine WG.take (i := 5) (v := ?_) rfl (by kernel_rfl) (by kernel_rfl) (by kernel_rfl) (by kernel_rfl) (fun _ _ _ h => h) (Or.inl ⟨by rfl, ?_⟩) (by assumption) ?_; rotate_left; (intro w hSw; (try dsimp only at hSw); go_split_ands; go_simp; (try with_reducible rfl)); (try simp only [Act.put, List.setIfInBounds_toArray, List.set_cons_zero, List.set_cons_succ]))
              (refine WG.take (i := 6) (v := ?_) rfl (by kernel_rfl) (by kernel_rfl) (by kernel_rfl) (by kernel_rfl) (fun _ _ _ h => h) (Or.inl ⟨by rfl, ?_⟩) (by assumption) ?_; rotate_left; (intro w hSw; (try dsimp only at hSw); go_split_ands; go_simp; (try with_reducible rfl)); (try simp only [Act.put, List.setIfInBounds_toArray, List.set_cons_zero, List.set_cons_succ]))
              (refine WG.take (i := 7) (v := ?_) rfl (by kernel_rfl) (by kernel_rfl) (by kernel_rfl) (by kernel_rfl) (fun _ _ _ h => h) (Or.inl ⟨by rfl, ?_⟩) (by assumption) ?_; rotate_left; (intro w hSw; (try dsimp only at hSw); go_split_ands; go_simp; (try with_reducible rfl)); (try simp only [Act.put, List.setIfInBounds_toArray, List.set_cons_zero, List.set_cons_succ]))
              (refine WG.take (i := 8) (v := ?_) rfl (by kernel_rfl) (by kernel_rfl) (by kernel_rfl) (by kernel_rfl) (fun _ _ _ h => h) (Or.inl ⟨by rfl, ?_⟩) (by assumption) ?_; rotate_left; (intro w hSw; (try dsimp only at hSw); go_split_ands; go_simp; (try with_reducible rfl)); (try simp only [Act.put, List.setIfInBounds_toArray, List.set_cons_zero, List.set_cons_succ]))
              (refine WG.take (i := 9) (v := ?_) rfl (by kernel_rfl) (by kernel_rfl) (by kernel_rfl) (by kernel_rfl) (fun _ _ _ h => h) (Or.inl ⟨by rfl, ?_⟩) (by assumption) ?_; rotate_left; (intro w hSw; (try dsimp only at hSw); go_split_ands; go_simp; (try with_reducible rfl)); (try simp only [Act.put, List.setIfInBounds_toArray, List.set_cons_zero, List.set_cons_succ]))
              (refine WG.take (i := 10) (v := ?_) rfl (by kernel_rfl) (by kernel_rfl) (by kernel_rfl) (by kernel_rfl) (fun _ _ _ h => h) (Or.inl ⟨by rfl, ?_⟩) (by assumption) ?_; rotate_left; (intro w hSw; (try dsimp only at hSw); go_split_ands; go_simp; (try with_reducible rfl)); (try simp only [Act.put, List.setIfInBounds_toArray, List.set_cons_zero, List.set_cons_succ]))
              (refine WG.take (i := 11) (v := ?_) rfl (by kernel_rfl) (by kernel_rfl) (by kernel_rfl) (by kernel_rfl) (fun _ _ _ h => h) (Or.inl ⟨by rfl, ?_⟩) (by assumption) ?_; rotate_left; (intro w hSw; (try dsimp only at hSw); go_split_ands; go_simp; (try with_reducible rfl)); (try simp only [Act.put, List.setIfInBounds_toArray, List.set_cons_zero, List.set_cons_succ]))
              (first | rw [H1.out] | skip)
              (refine WG.take (i := 12) (v := ?_) rfl (by kernel_rfl) (by kernel_rfl) (by kernel_rfl) (by kernel_rfl) (fun _ _ _ h => h) (Or.inl ⟨by rfl, ?_⟩) (by assumption) ?_; rotate_left; (intro w hSw; (try dsimp only at hSw); go_split_ands; go_simp; (try with_reducible rfl)); (try simp only [Act.put, List.setIfInBounds_toArray, List.set_cons_zero, List.set_cons_succ]))
              (refine WG.take (i := 13) rfl (by kernel_rfl) (by kernel_rfl) (by kernel_rfl) (by kernel_rfl) (fun _ _ _ h => h) (Or.inr ⟨?_, rfl⟩) (by assumption) ?_; go_simp; (try simp only [Act.put, List.setIfInBounds_toArray, List.set_cons_zero, List.set_cons_succ]))
              (refine WG.take (i := 14) rfl (by kernel_rfl) (by kernel_rfl) (by kernel_rfl) (by kernel_rfl) (fun _ _ _ h => h) (Or.inr ⟨?_, rfl⟩) (by assumption) ?_; go_simp; (try simp only [Act.put, List.setIfInBounds_toArray, List.set_cons_zero, List.set_cons_succ]))
              (refine WG.take (i := 15) rfl (by kernel_rfl) (by kernel_rfl) (by kernel_rfl) (by kernel_rfl) (fun _ _ _ h => h) (Or.inr ⟨?_, rfl⟩) (by assumption) ?_; go_simp; (try simp only [Act.put, List.setIfInBounds_toArray, List.set_cons_zero, List.set_cons_succ]))
              (refine WG.take (i := 16) rfl (by kernel_rfl) (by kernel_rfl) (by kernel_rfl) (by kernel_rfl) (fun _ _ _ h => h) (Or.inr ⟨?_, rfl⟩) (by assumption) ?_; go_simp; (try simp only [Act.put, List.setIfInBounds_toArray, List.set_cons_zero, List.set_cons_succ]))
              (refine WG.take (i := 17) rfl (by kernel_rfl) (by kernel_rfl) (by kernel_rfl) (by kernel_rfl) (fun _ _ _ h => h) (Or.inr ⟨?_, rfl⟩) (by assumption) ?_; go_simp; (try simp only [Act.put, List.setIfInBounds_toArray, List.set_cons_zero, List.set_cons_succ]))
              (refine WG.take (i := 18) rfl (by kernel_rfl) (by kernel_rfl) (by kernel_rfl) (by kernel_rfl) (fun _ _ _ h => h) (Or.inr ⟨?_, rfl⟩) (by assumption) ?_; go_simp; (try simp only [Act.put, List.setIfInBounds_toArray, List.set_cons_zero, List.set_cons_succ]))
              (refine WG.take (i := 19) rfl (by kernel_rfl) (by kernel_rfl) (by kernel_rfl) (by kernel_rfl) (fun _ _ _ h => h) (Or.inr ⟨?_, rfl⟩) (by assumption) ?_; go_simp; (try simp only [Act.put, List.setIfInBounds_toArray, List.set_cons_zero, List.set_cons_succ]))
              (refine WG.take (i := 20) rfl (by kernel_rfl) (by kernel_rfl) (by kernel_rfl) (by kernel_rfl) (fun _ _ _ h => h) (Or.inr ⟨?_, rfl⟩) (by assumption) ?_; go_simp; (try simp only [Act.put, List.setIfInBounds_toArray, List.set_cons_zero, List.set_cons_succ]))
              (refine WG.take (i := 21) rfl (by kernel_rfl) (by kernel_rfl) (by kernel_rfl) (by kernel_rfl) (fun _ _ _ h => h) (Or.inr ⟨?_, rfl⟩) (by assumption) ?_; go_simp; (try simp only [Act.put, List.setIfInBounds_toArray, List.set_cons_zero, List.set_cons_succ]))
              (refine WG.take (i := 22) rfl (by kernel_rfl) (by kernel_rfl) (by kernel_rfl) (by kernel_rfl) (fun _ _ _ h => h) (Or.inr ⟨?_, rfl⟩) (by assumption) ?_; go_simp; (try simp only [Act.put, List.setIfInBounds_toArray, List.set_cons_zero, List.set_cons_succ]))
              (refine WG.take (i := 23) rfl (by kernel_rfl) (by kernel_rfl) (by kernel_rfl) (by kernel_rfl) (fun _ _ _ h => h) (Or.inr ⟨by rfl, rfl⟩) (by assumption) ?_; (try simp only [Act.put, List.setIfInBounds_toArray, List.set_cons_zero, List.set_cons_succ]))
              (refine WG.take (i := 24) rfl (by kernel_rfl) (by kernel_rfl) (by kernel_rfl) (by kernel_rfl) (fun _ _ _ h => h) (Or.inr ⟨by rfl, rfl⟩) (by assumption) ?_; (try simp only [Act.put, List.setIfInBounds_toArray, List.set_cons_zero, List.set_cons_succ]))
              (refine WG.take (i := 25) rfl (by kernel_rfl) (by kernel_rfl) (by kernel_rfl) (by kernel_rfl) (fun _ _ _ h => h) (Or.inr ⟨by rfl, rfl⟩) (by assumption) ?_; (try simp only [Act.put, List.setIfInBounds_toArray, List.set_cons_zero, List.set_cons_succ]))
              (refine WG.take (i := 26) rfl (by kernel_rfl) (by kernel_rfl) (by kernel_rfl) (by kernel_rfl) (fun _ _ _ h => h) (Or.inr ⟨by rfl, rfl⟩) (by assumption) ?_; (try simp only [Act.put, List.setIfInBounds_toArray, List.set_cons_zero, List.set_cons_succ]))
              (refine WG.take (i := 27) rfl (by kernel_rfl) (by kernel_rfl) (by kernel_rfl) (by kernel_rfl) (fun _ _ _ h => h) (Or.inr ⟨by rfl, rfl⟩) (by assumption) ?_; (try simp only [Act.put, List.setIfInBounds_toArray, List.set_cons_zero, List.set_cons_succ]))
              (refine WG.take (i := 28) rfl (by kernel_rfl) (by kernel_rfl) (by kernel_rfl) (by kernel_rfl) (fun _ _ _ h => h) (Or.inr ⟨by rfl, rfl⟩) (by assumption) ?_; (try simp only [Act.put, List.setIfInBounds_toArray, List.set_cons_zero, List.set_cons_succ]))
              (refine WG.take (i := 29) rfl (by kernel_rfl) (by kernel_rfl) (by kernel_rfl) (by kernel_rfl) (fun _ _ _ h => h) (Or.inr ⟨by rfl, rfl⟩) (by assumption) ?_; (try simp only [Act.put, List.setIfInBounds_toArray, List.set_cons_zero, List.set_cons_succ]))
              (refine WG.take (i := 30) rfl (by kernel_rfl) (by kernel_rfl) (by kernel_rfl) (by kernel_rfl) (fun _ _ _ h => h) (Or.inr ⟨by rfl, rfl⟩) (by assumption) ?_; (try simp only [Act.put, List.setIfInBounds_toArray, List.set_cons_zero, List.set_cons_succ]))
              (refine WG.take (i := 31) rfl (by kernel_rfl) (by kernel_rfl) (by kernel_rfl) (by kernel_rfl) (fun _ _ _ h => h) (Or.inr ⟨by rfl, rfl⟩) (by assumption) ?_; (try simp only [Act.put, List.setIfInBounds_toArray, List.set_cons_zero, List.set_cons_succ]))
              (refine WG.take (i := 32) rfl (by kernel_rfl) (by kernel_rfl) (by kernel_rfl) (by kernel_rfl) (fun _ _ _ h => h) (Or.inr ⟨?_, rfl⟩) (by assumption) ?_; go_simp; (try simp only [Act.put, List.setIfInBounds_toArray, List.set_cons_zero, List.set_cons_succ]))
              (refine WG.take (i := 33) (v := ?_) rfl (by kernel_rfl) (by kernel_rfl) (by kernel_rfl) (by kernel_rfl) (fun _ _ _ h => h) (Or.inl ⟨by rfl, ?_⟩) (by assumption) ?_; rotate_left; (intro w hSw; (try dsimp only at hSw); go_split_ands; go_simp; (try with_reducible rfl)); (try simp only [Act.put, List.setIfInBounds_toArray, List.set_cons_zero, List.set_cons_succ]))
              (refine WG.take (i := 34) (v := ?_) rfl (by kernel_rfl) (by kernel_rfl) (by kernel_rfl) (by kernel_rfl) (fun _ _ _ h => h) (Or.inl ⟨by rfl, ?_⟩) (by assumption) ?_; rotate_left; (intro w hSw; (try dsimp only at hSw); go_split_ands; go_simp; (try with_reducible rfl)); (try simp only [Act.put, List.setIfInBounds_toArray, List.set_cons_zero, List.set_cons_succ]))
              refine WG.done (by kernel_rfl) ?_
              go_wp2
              go_ret
              rw [pairsOk_bad e.out HF.out]
              exact ⟨rfl, HE2.out.trans HD.out⟩
            · have H1 : Hid (decide (x.a < y.a) = false) := hid (decide_eq_false h1)
              by_cases h2 : y.a = x.a
              · have H2 : Hid ((y.a == x.a) = true) := hid (by simp [h2])
                by_cases h3 : x.b ≤ y.b
                · have HF : Hid (pairFine (prevP ps k) x = false) := hid (by rw [hfn]; simp [pairLt]; omega)
                  have H3 : Hid (decide (x.b ≤ y.b) = true) := hid (by simp [h3])
                  clear hfn h1 h2 h3
                  go_wp2_with (first
                    | (go_at_call 69; have _t := TK1; refine (sIn _ _ _ _).mono ?_; rintro e2 w2 ⟨rfl, n2, hw2⟩; rw [hb]; have HE2 : Hid (Ext w w2) := hid (by rw [hw2]; exact (HE.out.trans HEW.out).trans ((Ext.drewN _ _).trans (Ext.drewN _ _))); have KS : Hid (∀ w', Ext w2 w' → w'.cell? ⟨wr.heap.size, 0, none⟩ = some (.int .i64 x.a) ∧ w'.cell? ⟨wr.heap.size, 1, none⟩ = some (.int .i64 x.b) ∧ w'.cell? ⟨b, o + (k - 1) * 2, none⟩ = some (.int .i64 y.a) ∧ w'.cell? ⟨b, o + (k - 1) * 2 + 1, none⟩ = some (.int .i64 y.b)) := hid (fun w' hw => by have hq := ((Ext.drewN W n1).trans (by rw [hw2]; exact Ext.drewN _ _) : Ext W w2).trans hw; exact ⟨hq.cell HB0.out, hq.cell HB1.out, (HEW.out.trans hq).cell HD0.out, (HEW.out.trans hq).cell HD1.out⟩); have HD : Hid (Ext w2 w2.drew) := hid (Below.drew (Below.refl _ _)); clear hw2 f0 f1)
                    | (go_at_call 69; rw [← hW]; refine (sIn _ _ _ _).mono ?_; rintro e1 w1 ⟨rfl, n1, rfl⟩; rw [ha]; have f0 := (Ext.drewN W n1).cell HB0.out; have f1 := (Ext.drewN W n1).cell HB1.out; have TK1 : Hid True := hid trivial; clear hW))
                  refine WG.start (fun w' => w'.cell? ⟨wr.heap.size, 0, none⟩ = some (.int .i64 x.a) ∧ w'.cell? ⟨wr.heap.size, 1, none⟩ = some (.int .i64 x.b) ∧ w'.cell? ⟨b, o + (k - 1) * 2, none⟩ = some (.int .i64 y.a) ∧ w'.cell? ⟨b, o + (k - 1) * 2 + 1, none⟩ = some (.int .i64 y.b)) [] (by kernel_rfl) (by exact KS.out _ HD.out) (fun hHeld => ?_)
                  (refine WG.take (i := 0) (v := ?_) rfl (by kernel_rfl) (by kernel_rfl) (by kernel_rfl) (by kernel_rfl) (fun _ _ _ h => h) (Or.inl ⟨by rfl, ?_⟩) (by assumption) ?_; rotate_left; (intro w hSw; (try dsimp only at hSw); go_split_ands; go_simp; (try with_reducible rfl)); (try simp only [Act.put, List.setIfInBounds_toArray, List.set_cons_zero, List.set_cons_succ]))
                  (refine WG.take (i := 1) (v := ?_) rfl (by kernel_rfl) (by kernel_rfl) (by kernel_rfl) (by kernel_rfl) (fun _ _ _ h => h) (Or.inl ⟨by rfl, ?_⟩) (by assumption) ?_; rotate_left; (intro w hSw; (try dsimp only at hSw); go_split_ands; go_simp; (try with_reducible rfl)); (try simp only [Act.put, List.setIfInBounds_toArray, List.set_cons_zero, List.set_cons_succ]))
                  (first | rw [H0.out] | rw [H0n.out] | skip)
                  (refine WG.take (i := 2) (v := ?_) rfl (by kernel_rfl) (by kernel_rfl) (by kernel_rfl) (by kernel_rfl) (fun _ _ _ h => h) (Or.inl ⟨by rfl, ?_⟩) (by assumption) ?_; rotate_left; (intro w hSw; (try dsimp only at hSw); go_split_ands; go_simp; (try with_reducible rfl)); (try simp only [Act.put, List.setIfInBounds_toArray, List.set_cons_zero, List.set_cons_succ]))
                  (refine WG.take (i := 3) (v := ?_) rfl (by kernel_rfl) (by kernel_rfl) (by kernel_rfl) (by kernel_rfl) (fun _ _ _ h => h) (Or.inl ⟨by rfl, ?_⟩) (by assumption) ?_; rotate_left; (intro w hSw; (try dsimp only at hSw); go_split_ands; go_simp; (try with_reducible rfl)); (try simp only [Act.put, List.setIfInBounds_toArray, List.set_cons_zero, List.set_cons_succ]))
                  (refine WG.take (i := 4) (v := ?_) rfl (by kernel_rfl) (by kernel_rfl) (by kernel_rfl) (by kernel_rfl) (fun _ _ _ h => h) (Or.inl ⟨by rfl, ?_⟩) (by assumption) ?_; rotate_left; (intro w hSw; (try dsimp only at hSw); go_split_ands; go_simp; (try with_reducible rfl)); (try simp only [Act.put, List.setIfInBounds_toArray, List.set_cons_zero, List.set_cons_succ]))
                  (refine WG.take (i := 5) (v := ?_) rfl (by kernel_rfl) (by kernel_rfl) (by kernel_rfl) (by kernel_rfl) (fun _ _ _ h => h) (Or.inl ⟨by rfl, ?_⟩) (by assumption) ?_; rotate_left; (intro w hSw; (try dsimp only at hSw); go_split_ands; go_simp; (try with_reducible rfl)); (try simp only [Act.put, List.setIfInBounds_toArray, List.set_cons_zero, List.set_cons_succ]))
                  (refine WG.take (i := 6) (v := ?_) rfl (by kernel_rfl) (by kernel_rfl) (by kernel_rfl) (by kernel_rfl) (fun _ _ _ h => h) (Or.inl ⟨by rfl, ?_⟩) (by assumption) ?_; rotate_left; (intro w hSw; (try dsimp only at hSw); go_split_ands; go_simp; (try with_reducible rfl)); (try simp only [Act.put, List.setIfInBounds_toArray, List.set_cons_zero, List.set_cons_succ]))
                  (refine WG.take (i := 7) (v := ?_) rfl (by kernel_rfl) (by kernel_rfl) (by kernel_rfl) (by kernel_rfl) (fun _ _ _ h => h) (Or.inl ⟨by rfl, ?_⟩) (by assumption) ?_; rotate_left; (intro w hSw; (try dsimp only at hSw); go_split_ands; go_simp; (try with_reducible rfl)); (try simp only [Act.put, List.setIfInBounds_toArray, List.set_cons_zero, List.set_cons_succ]))
                  (refine WG.take (i := 8) (v := ?_) rfl (by kernel_rfl) (by kernel_rfl) (by kernel_rfl) (by kernel_rfl) (fun _ _ _ h => h) (Or.inl ⟨by rfl, ?_⟩) (by assumption) ?_; rotate_left; (intro w hSw; (try dsimp only at hSw); go_split_ands; go_simp; (try with_reducible rfl)); (try simp only [Act.put, List.setIfInBounds_toArray, List.set_cons_zero, List.set_cons_succ]))
                  (refine WG.take (i := 9) (v := ?_) rfl (by kernel_rfl) (by kernel_rfl) (by kernel_rfl) (by kernel_rfl) (fun _ _ _ h => h) (Or.inl ⟨by rfl, ?_⟩) (by assumption) ?_; rotate_left; (intro w hSw; (try dsimp only at hSw); go_split_ands; go_simp; (try with_reducible rfl)); (try simp only [Act.put, List.setIfInBounds_toArray, List.set_cons_zero, List.set_cons_succ]))
                  (refine WG.take (i := 10) (v := ?_) rfl (by kernel_rfl) (by kernel_rfl) (by kernel_rfl) (by kernel_rfl) (fun _ _ _ h => h) (Or.inl ⟨by rfl, ?_⟩) (by assumption) ?_; rotate_left; (intro w hSw; (try dsimp only at hSw); go_split_ands; go_simp; (try with_reducible rfl)); (try simp only [Act.put, List.setIfInBounds_toArray, List.set_cons_zero, List.set_cons_succ]))
                  (refine WG.take (i := 11) (v := ?_) rfl (by kernel_rfl) (by kernel_rfl) (by kernel_rfl) (by kernel_rfl) (fun _ _ _ h => h) (Or.inl ⟨by rfl, ?_⟩) (by assumption) ?_; rotate_left; (intro w hSw; (try dsimp only at hSw); go_split_ands; go_simp; (try with_reducible rfl)); (try simp only [Act.put, List.setIfInBounds_toArray, List.set_cons_zero, List.set_cons_succ]))
                  (first | rw [H1.out] | skip)
                  (refine WG.take (i := 12) (v := ?_) rfl (by kernel_rfl) (by kernel_rfl) (by kernel_rfl) (by kernel_rfl) (fun _ _ _ h => h) (Or.inl ⟨by rfl, ?_⟩) (by assumption) ?_; rotate_left; (intro w hSw; (try dsimp only at hSw); go_split_ands; go_simp; (try with_reducible rfl)); (try simp only [Act.put, List.setIfInBounds_toArray, List.set_cons_zero, List.set_cons_succ]))
                  (refine WG.take (i := 13) (v := ?_) rfl (by kernel_rfl) (by kernel_rfl) (by kernel_rfl) (by kernel_rfl) (fun _ _ _ h => h) (Or.inl ⟨by rfl, ?_⟩) (by assumption) ?_; rotate_left; (intro w hSw; (try dsimp only at hSw); go_split_ands; go_simp; (try with_reducible rfl)); (try simp only [Act.put, List.setIfInBounds_toArray, List.set_cons_zero, List.set_cons_succ]))
                  (refine WG.take (i := 14) (v := ?_) rfl (by kernel_rfl) (by kernel_rfl) (by kernel_rfl) (by kernel_rfl) (fun _ _ _ h => h) (Or.inl ⟨by rfl, ?_⟩) (by assumption) ?_; rotate_left; (intro w hSw; (try dsimp only at hSw); go_split_ands; go_simp; (try with_reducible rfl)); (try simp only [Act.put, List.setIfInBounds_toArray, List.set_cons_zero, List.set_cons_succ]))
                  (refine WG.take (i := 15) (v := ?_) rfl (by kernel_rfl) (by kernel_rfl) (by kernel_rfl) (by kernel_rfl) (fun _ _ _ h => h) (Or.inl ⟨by rfl, ?_⟩) (by assumption) ?_; rotate_left; (intro w hSw; (try dsimp only at hSw); go_split_ands; go_simp; (try with_reducible rfl)); (try simp only [Act.put, List.setIfInBounds_toArray, List.set_cons_zero, List.set_cons_succ]))
                  (refine WG.take (i := 16) (v := ?_) rfl (by kernel_rfl) (by kernel_rfl) (by kernel_rfl) (by kernel_rfl) (fun _ _ _ h => h) (Or.inl ⟨by rfl, ?_⟩) (by assumption) ?_; rotate_left; (intro w hSw; (try dsimp only at hSw); go_split_ands; go_simp; (try with_reducible rfl)); (try simp only [Act.put, List.setIfInBounds_toArray, List.set_cons_zero, List.set_cons_succ]))
                  (refine WG.take (i := 17) (v := ?_) rfl (by kernel_rfl) (by kernel_rfl) (by kernel_rfl) (by kernel_rfl) (fun _ _ _ h => h) (Or.inl ⟨by rfl, ?_⟩) (by assumption) ?_; rotate_left; (intro w hSw; (try dsimp only at hSw); go_split_ands; go_simp; (try with_reducible rfl)); (try simp only [Act.put, List.setIfInBounds_toArray, List.set_cons_zero, List.set_cons_succ]))
                  (refine WG.take (i := 18) (v := ?_) rfl (by kernel_rfl) (by kernel_rfl) (by kernel_rfl) (by kernel_rfl) (fun _ _ _ h => h) (Or.inl ⟨by rfl, ?_⟩) (by assumption) ?_; rotate_left; (intro w hSw; (try dsimp only at hSw); go_split_ands; go_simp; (try with_reducible rfl)); (try simp only [Act.put, List.setIfInBounds_toArray, List.set_cons_zero, List.set_cons_succ]))
                  (refine WG.take (i := 19) (v := ?_) rfl (by kernel_rfl) (by kernel_rfl) (by kernel_rfl) (by kernel_rfl) (fun _ _ _ h => h) (Or.inl ⟨by rfl, ?_⟩) (by assumption) ?_; rotate_left; (intro w hSw; (try dsimp only at hSw); go_split_ands; go_simp; (try with_reducible rfl)); (try simp only [Act.put, List.setIfInBounds_toArray, List.set_cons_zero, List.set_cons_succ]))
                  (refine WG.take (i := 20) (v := ?_) rfl (by kernel_rfl) (by kernel_rfl) (by kernel_rfl) (by kernel_rfl) (fun _ _ _ h => h) (Or.inl ⟨by rfl, ?_⟩) (by assumption) ?_; rotate_left; (intro w hSw; (try dsimp only at hSw); go_split_ands; go_simp; (try with_reducible rfl)); (try simp only [Act.put, List.setIfInBounds_toArray, List.set_cons_zero, List.set_cons_succ]))
                  (refine WG.take (i := 21) (v := ?_) rfl (by kernel_rfl) (by kernel_rfl) (by kernel_rfl) (by kernel_rfl) (fun _ _ _ h => h) (Or.inl ⟨by rfl, ?_⟩) (by assumption) ?_; rotate_left; (intro w hSw; (try dsimp only at hSw); go_split_ands; go_simp; (try with_reducible rfl)); (try simp only [Act.put, List.setIfInBounds_toArray, List.set_cons_zero, List.set_cons_succ]))
                  (first | rw [H2.out] | skip)
                  (refine WG.take (i := 22) (v := ?_) rfl (by kernel_rfl) (by kernel_rfl) (by kernel_rfl) (by kernel_rfl) (fun _ _ _ h => h) (Or.inl ⟨by rfl, ?_⟩) (by assumption) ?_; rotate_left; (intro w hSw; (try dsimp only at hSw); go_split_ands; go_simp; (try with_reducible rfl)); (try simp only [Act.put, List.setIfInBounds_toArray, List.set_cons_zero, List.set_cons_succ]))
                  (refine WG.take (i := 23) (v := ?_) rfl (by kernel_rfl) (by kernel_rfl) (by kernel_rfl) (by kernel_rfl) (fun _ _ _ h => h) (Or.inl ⟨by rfl, ?_⟩) (by assumption) ?_; rotate_left; (intro w hSw; (try dsimp only at hSw); go_split_ands; go_simp; (try with_reducible rfl)); (try simp only [Act.put, List.setIfInBounds_toArray, List.set_cons_zero, List.set_cons_succ]))
                  (refine WG.take (i := 24) (v := ?_) rfl (by kernel_rfl) (by kernel_rfl) (by kernel_rfl) (by kernel_rfl) (fun _ _ _ h => h) (Or.inl ⟨by rfl, ?_⟩) (by assumption) ?_; rotate_left; (intro w hSw; (try dsimp only at hSw); go_split_ands; go_simp; (try with_reducible rfl)); (try simp only [Act.put, List.setIfInBounds_toArray, List.set_cons_zero, List.set_cons_succ]))
                  (refine WG.take (i := 25) (v := ?_) rfl (by kernel_rfl) (by kernel_rfl) (by kernel_rfl) (by kernel_rfl) (fun _ _ _ h => h) (Or.inl ⟨by rfl, ?_⟩) (by assumption) ?_; rotate_left; (intro w hSw; (try dsimp only at hSw); go_split_ands; go_simp; (try with_reducible rfl)); (try simp only [Act.put, List.setIfInBounds_toArray, List.set_cons_zero, List.set_cons_succ]))
                  (refine WG.take (i := 26) (v := ?_) rfl (by kernel_rfl) (by kernel_rfl) (by kernel_rfl) (by kernel_rfl) (fun _ _ _ h => h) (Or.inl ⟨by rfl, ?_⟩) (by assumption) ?_; rotate_left; (intro w hSw; (try dsimp only at hSw); go_split_ands; go_simp; (try with_reducible rfl)); (try simp only [Act.put, List.setIfInBounds_toArray, List.set_cons_zero, List.set_cons_succ]))
                  (refine WG.take (i := 27) (v := ?_) rfl (by kernel_rfl) (by kernel_rfl) (by kernel_rfl) (by kernel_rfl) (fun _ _ _ h => h) (Or.inl ⟨by rfl, ?_⟩) (by assumption) ?_; rotate_left; (intro w hSw; (try dsimp only at hSw); go_split_ands; go_simp; (try with_reducible rfl)); (try simp only [Act.put, List.setIfInBounds_toArray, List.set_cons_zero, List.set_cons_succ]))
                  (refine WG.take (i := 28) (v := ?_) rfl (by kernel_rfl) (by kernel_rfl) (by kernel_rfl) (by kernel_rfl) (fun _ _ _ h => h) (Or.inl ⟨by rfl, ?_⟩) (by assumption) ?_; rotate_left; (intro w hSw; (try dsimp only at hSw); go_split_ands; go_simp; (try with_reducible rfl)); (try simp only [Act.put, List.setIfInBounds_toArray, List.set_cons_zero, List.set_cons_succ]))
                  (refine WG.take (i := 29) (v := ?_) rfl (by kernel_rfl) (by kernel_rfl) (by kernel_rfl) (by kernel_rfl) (fun _ _ _ h => h) (Or.inl ⟨by rfl, ?_⟩) (by assumption) ?_; rotate_left; (intro w hSw; (try dsimp only at hSw); go_split_ands; go_simp; (try with_reducible rfl)); (try simp only [Act.put, List.setIfInBounds_toArray, List.set_cons_zero, List.set_cons_succ]))
                  (refine WG.take (i := 30) (v := ?_) rfl (by kernel_rfl) (by kernel_rfl) (by kernel_rfl) (by kernel_rfl) (fun _ _ _ h => h) (Or.inl ⟨by rfl, ?_⟩) (by assumption) ?_; rotate_left; (intro w hSw; (try dsimp only at hSw); go_split_ands; go_simp; (try with_reducible rfl)); (try simp only [Act.put, List.setIfInBounds_toArray, List.set_cons_zero, List.set_cons_succ]))
                  (refine WG.take (i := 31) (v := ?_) rfl (by kernel_rfl) (by kernel_rfl) (by kernel_rfl) (by kernel_rfl) (fun _ _ _ h => h) (Or.inl ⟨by rfl, ?_⟩) (by assumption) ?_; rotate_left; (intro w hSw; (try dsimp only at hSw); go_split_ands; go_simp; (try with_reducible rfl)); (try simp only [Act.put, List.setIfInBounds_toArray, List.set_cons_zero, List.set_cons_succ]))
                  (first | rw [H3.out] | skip)
                  (refine WG.take (i := 32) (v := ?_) rfl (by kernel_rfl) (by kernel_rfl) (by kernel_rfl) (by kernel_rfl) (fun _ _ _ h => h) (Or.inl ⟨by rfl, ?_⟩) (by assumption) ?_; rotate_left; (intro w hSw; (try dsimp only at hSw); go_split_ands; go_simp; (try with_reducible rfl)); (try simp only [Act.put, List.setIfInBounds_toArray, List.set_cons_zero, List.set_cons_succ]))
                  (refine WG.take (i := 33) (v := ?_) rfl (by kernel_rfl) (by kernel_rfl) (by kernel_rfl) (by kernel_rfl) (fun _ _ _ h => h) (Or.inl ⟨by rfl, ?_⟩) (by assumption) ?_; rotate_left; (intro w hSw; (try dsimp only at hSw); go_split_ands; go_simp; (try with_reducible rfl)); (try simp only [Act.put, List.setIfInBounds_toArray, List.set_cons_zero, List.set_cons_succ]))
                  (refine WG.take (i := 34) (v := ?_) rfl (by kernel_rfl) (by kernel_rfl) (by kernel_rfl) (by kernel_rfl) (fun _ _ _ h => h) (Or.inl ⟨by rfl, ?_⟩) (by assumption) ?_; rotate_left; (intro w hSw; (try dsimp only at hSw); go_split_ands; go_simp; (try with_reducible rfl)); (try simp only [Act.put, List.setIfInBounds_toArray, List.set_cons_zero, List.set_cons_succ]))
                  refine WG.done (by kernel_rfl) ?_
                  go_wp2
                  go_ret
                  rw [pairsOk_bad e.out HF.out]
                  exact ⟨rfl, HE2.out.trans HD.out⟩
                · have HF : Hid (pairFine (prevP ps k) x = true) := hid (by rw [hfn]; simp [pairLt]; omega)
                  have H3 : Hid (decide (x.b ≤ y.b) = false) := hid (decide_eq_false h3)
                  clear hfn h1 h2 h3
                  go_wp2_with (first
                    | (go_at_call 69; have _t := TK1; refine (sIn _ _ _ _).mono ?_; rintro e2 w2 ⟨rfl, n2, hw2⟩; rw [hb]; have HE2 : Hid (Ext w w2) := hid (by rw [hw2]; exact (HE.out.trans HEW.out).trans ((Ext.drewN _ _).trans (Ext.drewN _ _))); have KS : Hid (∀ w', Ext w2 w' → w'.cell? ⟨wr.heap.size, 0, none⟩ = some (.int .i64 x.a) ∧ w'.cell? ⟨wr.heap.size, 1, none⟩ = some (.int .i64 x.b) ∧ w'.cell? ⟨b, o + (k - 1) * 2, none⟩ = some (.int .i64 y.a) ∧ w'.cell? ⟨b, o + (k - 1) * 2 + 1, none⟩ = some (.int .i64 y.b)) := hid (fun w' hw => by have hq := ((Ext.drewN W n1).trans (by rw [hw2]; exact Ext.drewN _ _) : Ext W w2).trans hw; exact ⟨hq.cell HB0.out, hq.cell HB1.out, (HEW.out.trans hq).cell HD0.out, (HEW.out.trans hq).cell HD1.out⟩); have HD : Hid (Ext w2 w2.drew) := hid (Below.drew (Below.refl _ _)); clear hw2 f0 f1)
                    | (go_at_call 69; rw [← hW]; refine (sIn _ _ _ _).mono ?_; rintro e1 w1 ⟨rfl, n1, rfl⟩; rw [ha]; have f0 := (Ext.drewN W n1).cell HB0.out; have f1 := (Ext.drewN W n1).cell HB1.out; have TK1 : Hid True := hid trivial; clear hW))
                  refine WG.start (fun w' => w'.cell? ⟨wr.heap.size, 0, none⟩ = some (.int .i64 x.a) ∧ w'.cell? ⟨wr.heap.size, 1, none⟩ = some (.int .i64 x.b) ∧ w'.cell? ⟨b, o + (k - 1) * 2, none⟩ = some (.int .i64 y.a) ∧ w'.cell? ⟨b, o + (k - 1) * 2 + 1, none⟩ = some (.int .i64 y.b)) [] (by kernel_rfl) (by exact KS.out _ HD.out) (fun hHeld => ?_)
                  (refine WG.take (i := 0) (v := ?_) rfl (by kernel_rfl) (by kernel_rfl) (by kernel_rfl) (by kernel_rfl) (fun _ _ _ h => h) (Or.inl ⟨by rfl, ?_⟩) (by assumption) ?_; rotate_left; (intro w hSw; (try dsimp only at hSw); go_split_ands; go_simp; (try with_reducible rfl)); (try simp only [Act.put, List.setIfInBounds_toArray, List.set_cons_zero, List.set_cons_succ]))
                  (refine WG.take (i := 1) (v := ?_) rfl (by kernel_rfl) (by kernel_rfl) (by kernel_rfl) (by kernel_rfl) (fun _ _ _ h => h) (Or.inl ⟨by rfl, ?_⟩) (by assumption) ?_; rotate_left; (intro w hSw; (try dsimp only at hSw); go_split_ands; go_simp; (try with_reducible rfl)); (try simp only [Act.put, List.setIfInBounds_toArray, List.set_cons_zero, List.set_cons_succ]))
                  (first | rw [H0.out] | rw [H0n.out] | skip)
                  (refine WG.take (i := 2) (v := ?_) rfl (by kernel_rfl) (by kernel_rfl) (by kernel_rfl) (by kernel_rfl) (fun _ _ _ h => h) (Or.inl ⟨by rfl, ?_⟩) (by assumption) ?_; rotate_left; (intro w hSw; (try dsimp only at hSw); go_split_ands; go_simp; (try with_reducible rfl)); (try simp only [Act.put, List.setIfInBounds_toArray, List.set_cons_zero, List.set_cons_succ]))
                  (refine WG.take (i := 3) (v := ?_) rfl (by kernel_rfl) (by kernel_rfl) (by kernel_rfl) (by kernel_rfl) (fun _ _ _ h => h) (Or.inl ⟨by rfl, ?_⟩) (by assumption) ?_; rotate_left; (intro w hSw; (try dsimp only at hSw); go_split_ands; go_simp; (try with_reducible rfl)); (try simp only [Act.put, List.setIfInBounds_toArray, List.set_cons_zero, List.set_cons_succ]))
                  (refine WG.take (i := 4) (v := ?_) rfl (by kernel_rfl) (by kernel_rfl) (by kernel_rfl) (by kernel_rfl) (fun _ _ _ h => h) (Or.inl ⟨by rfl, ?_⟩) (by assumption) ?_; rotate_left; (intro w hSw; (try dsimp only at hSw); go_split_ands; go_simp; (try with_reducible rfl)); (try simp only [Act.put, List.setIfInBounds_toArray, List.set_cons_zero, List.set_cons_succ]))
                  (refine WG.take (i := 5) (v := ?_) rfl (by kernel_rfl) (by kernel_rfl) (by kernel_rfl) (by kernel_rfl) (fun _ _ _ h => h) (Or.inl ⟨by rfl, ?_⟩) (by assumption) ?_; rotate_left; (intro w hSw; (try dsimp only at hSw); go_split_ands; go_simp; (try with_reducible rfl)); (try simp only [Act.put, List.setIfInBounds_toArray, List.set_cons_zero, List.set_cons_succ]))
                  (refine WG.take (i := 6) (v := ?_) rfl (by kernel_rfl) (by kernel_rfl) (by kernel_rfl) (by kernel_rfl) (fun _ _ _ h => h) (Or.inl ⟨by rfl, ?_⟩) (by assumption) ?_; rotate_left; (intro w hSw; (try dsimp only at hSw); go_split_ands; go_simp; (try with_reducible rfl)); (try simp only [Act.put, List.setIfInBounds_toArray, List.set_cons_zero, List.set_cons_succ]))
                  (refine WG.take (i := 7) (v := ?_) rfl (by kernel_rfl) (by kernel_rfl) (by kernel_rfl) (by kernel_rfl) (fun _ _ _ h => h) (Or.inl ⟨by rfl, ?_⟩) (by assumption) ?_; rotate_left; (intro w hSw; (try dsimp only at hSw); go_split_ands; go_simp; (try with_reducible rfl)); (try simp only [Act.put, List.setIfInBounds_toArray, List.set_cons_zero, List.set_cons_succ]))
                  (refine WG.take (i := 8) (v := ?_) rfl (by kernel_rfl) (by kernel_rfl) (by kernel_rfl) (by kernel_rfl) (fun _ _ _ h => h) (Or.inl ⟨by rfl, ?_⟩) (by assumption) ?_; rotate_left; (intro w hSw; (try dsimp only at hSw); go_split_ands; go_simp; (try with_reducible rfl)); (try simp only [Act.put, List.setIfInBounds_toArray, List.set_cons_zero, List.set_cons_succ]))
                  (refine WG.take (i := 9) (v := ?_) rfl (by kernel_rfl) (by kernel_rfl) (by kernel_rfl) (by kernel_rfl) (fun _ _ _ h => h) (Or.inl ⟨by rfl, ?_⟩) (by assumption) ?_; rotate_left; (intro w hSw; (try dsimp only at hSw); go_split_ands; go_simp; (try with_reducible rfl)); (try simp only [Act.put, List.setIfInBounds_toArray, List.set_cons_zero, List.set_cons_succ]))
                  (refine WG.take (i := 10) (v := ?_) rfl (by kernel_rfl) (by kernel_rfl) (by kernel_rfl) (by kernel_rfl) (fun _ _ _ h => h) (Or.inl ⟨by rfl, ?_⟩) (by assumption) ?_; rotate_left; (intro w hSw; (try dsimp only at hSw); go_split_ands; go_simp; (try with_reducible rfl)); (try simp only [Act.put, List.setIfInBounds_toArray, List.set_cons_zero, List.set_cons_succ]))
                  (refine WG.take (i := 11) (v := ?_) rfl (by kernel_rfl) (by kernel_rfl) (by kernel_rfl) (by kernel_rfl) (fun _ _ _ h => h) (Or.inl ⟨by rfl, ?_⟩) (by assumption) ?_; rotate_left; (intro w hSw; (try dsimp only at hSw); go_split_ands; go_simp; (try with_reducible rfl)); (try simp only [Act.put, List.setIfInBounds_toArray, List.set_cons_zero, List.set_cons_succ]))
                  (first | rw [H1.out] | skip)
                  (refine WG.take (i := 12) (v := ?_) rfl (by kernel_rfl) (by kernel_rfl) (by kernel_rfl) (by kernel_rfl) (fun _ _ _ h => h) (Or.inl ⟨by rfl, ?_⟩) (by assumption) ?_; rotate_left; (intro w hSw; (try dsimp only at hSw); go_split_ands; go_simp; (try with_reducible rfl)); (try simp only [Act.put, List.setIfInBounds_toArray, List.set_cons_zero, List.set_cons_succ]))
                  (refine WG.take (i := 13) (v := ?_) rfl (by kernel_rfl) (by kernel_rfl) (by kernel_rfl) (by kernel_rfl) (fun _ _ _ h => h) (Or.inl ⟨by rfl, ?_⟩) (by assumption) ?_; rotate_left; (intro w hSw; (try dsimp only at hSw); go_split_ands; go_simp; (try with_reducible rfl)); (try simp only [Act.put, List.setIfInBounds_toArray, List.set_cons_zero, List.set_cons_succ]))
                  (refine WG.take (i := 14) (v := ?_) rfl (by kernel_rfl) (by kernel_rfl) (by kernel_rfl) (by kernel_rfl) (fun _ _ _ h => h) (Or.inl ⟨by rfl, ?_⟩) (by assumption) ?_; rotate_left; (intro w hSw; (try dsimp only at hSw); go_split_ands; go_simp; (try with_reducible rfl)); (try simp only [Act.put, List.setIfInBounds_toArray, List.set_cons_zero, List.set_cons_succ]))
                  (refine WG.take (i := 15) (v := ?_) rfl (by kernel_rfl) (by kernel_rfl) (by kernel_rfl) (by kernel_rfl) (fun _ _ _ h => h) (Or.inl ⟨by rfl, ?_⟩) (by assumption) ?_; rotate_left; (intro w hSw; (try dsimp only at hSw); go_split_ands; go_simp; (try with_reducible rfl)); (try simp only [Act.put, List.setIfInBounds_toArray, List.set_cons_zero, List.set_cons_succ]))
                  (refine WG.take (i := 16) (v := ?_) rfl (by kernel_rfl) (by kernel_rfl) (by kernel_rfl) (by kernel_rfl) (fun _ _ _ h => h) (Or.inl ⟨by rfl, ?_⟩) (by assumption) ?_; rotate_left; (intro w hSw; (try dsimp only at hSw); go_split_ands; go_simp; (try with_reducible rfl)); (try simp only [Act.put, List.setIfInBounds_toArray, List.set_cons_zero, List.set_cons_succ]))
                  (refine WG.take (i := 17) (v := ?_) rfl (by kernel_rfl) (by kernel_rfl) (by kernel_rfl) (by kernel_rfl) (fun _ _ _ h => h) (Or.inl ⟨by rfl, ?_⟩) (by assumption) ?_; rotate_left; (intro w hSw; (try dsimp only at hSw); go_split_ands; go_simp; (try with_reducible rfl)); (try simp only [Act.put, List.setIfInBounds_toArray, List.set_cons_zero, List.set_cons_succ]))
                  (refine WG.take (i := 18) (v := ?_) rfl (by kernel_rfl) (by kernel_rfl) (by kernel_rfl) (by kernel_rfl) (fun _ _ _ h => h) (Or.inl ⟨by rfl, ?_⟩) (by assumption) ?_; rotate_left; (intro w hSw; (try dsimp only at hSw); go_split_ands; go_simp; (try with_reducible rfl)); (try simp only [Act.put, List.setIfInBounds_toArray, List.set_cons_zero, List.set_cons_succ]))
                  (refine WG.take (i := 19) (v := ?_) rfl (by kernel_rfl) (by kernel_rfl) (by kernel_rfl) (by kernel_rfl) (fun _ _ _ h => h) (Or.inl ⟨by rfl, ?_⟩) (by assumption) ?_; rotate_left; (intro w hSw; (try dsimp only at hSw); go_split_ands; go_simp; (try with_reducible rfl)); (try simp only [Act.put, List.setIfInBounds_toArray, List.set_cons_zero, List.set_cons_succ]))
                  (refine WG.take (i := 20) (v := ?_) rfl (by kernel_rfl) (by kernel_rfl) (by kernel_rfl) (by kernel_rfl) (fun _ _ _ h => h) (Or.inl ⟨by rfl, ?_⟩) (by assumption) ?_; rotate_left; (intro w hSw; (try dsimp only at hSw); go_split_ands; go_simp; (try with_reducible rfl)); (try simp only [Act.put, List.setIfInBounds_toArray, List.set_cons_zero, List.set_cons_succ]))
                  (refine WG.take (i := 21) (v := ?_) rfl (by kernel_rfl) (by kernel_rfl) (by kernel_rfl) (by kernel_rfl) (fun _ _ _ h => h) (Or.inl ⟨by rfl, ?_⟩) (by assumption) ?_; rotate_left; (intro w hSw; (try dsimp only at hSw); go_split_ands; go_simp; (try with_reducible rfl)); (try simp only [Act.put, List.setIfInBounds_toArray, List.set_cons_zero, List.set_cons_succ]))
                  (first | rw [H2.out] | skip)
                  (refine WG.take (i := 22) (v := ?_) rfl (by kernel_rfl) (by kernel_rfl) (by kernel_rfl) (by kernel_rfl) (fun _ _ _ h => h) (Or.inl ⟨by rfl, ?_⟩) (by assumption) ?_; rotate_left; (intro w hSw; (try dsimp only at hSw); go_split_ands; go_simp; (try with_reducible rfl)); (try simp only [Act.put, List.setIfInBounds_toArray, List.set_cons_zero, List.set_cons_succ]))
                  (refine WG.take (i := 23) (v := ?_) rfl (by kernel_rfl) (by kernel_rfl) (by kernel_rfl) (by kernel_rfl) (fun _ _ _ h => h) (Or.inl ⟨by rfl, ?_⟩) (by assumption) ?_; rotate_left; (intro w hSw; (try dsimp only at hSw); go_split_ands; go_simp; (try with_reducible rfl)); (try simp only [Act.put, List.setIfInBounds_toArray, List.set_cons_zero, List.set_cons_succ]))
                  (refine WG.take (i := 24) (v := ?_) rfl (by kernel_rfl) (by kernel_rfl) (by kernel_rfl) (by kernel_rfl) (fun _ _ _ h => h) (Or.inl ⟨by rfl, ?_⟩) (by assumption) ?_; rotate_left; (intro w hSw; (try dsimp only at hSw); go_split_ands; go_simp; (try with_reducible rfl)); (try simp only [Act.put, List.setIfInBounds_toArray, List.set_cons_zero, List.set_cons_succ]))
                  (refine WG.take (i := 25) (v := ?_) rfl (by kernel_rfl) (by kernel_rfl) (by kernel_rfl) (by kernel_rfl) (fun _ _ _ h => h) (Or.inl ⟨by rfl, ?_⟩) (by assumption) ?_; rotate_left; (intro w hSw; (try dsimp only at hSw); go_split_ands; go_simp; (try with_reducible rfl)); (try simp only [Act.put, List.setIfInBounds_toArray, List.set_cons_zero, List.set_cons_succ]))
                  (refine WG.take (i := 26) (v := ?_) rfl (by kernel_rfl) (by kernel_rfl) (by kernel_rfl) (by kernel_rfl) (fun _ _ _ h => h) (Or.inl ⟨by rfl, ?_⟩) (by assumption) ?_; rotate_left; (intro w hSw; (try dsimp only at hSw); go_split_ands; go_simp; (try with_reducible rfl)); (try simp only [Act.put, List.setIfInBounds_toArray, List.set_cons_zero, List.set_cons_succ]))
                  (refine WG.take (i := 27) (v := ?_) rfl (by kernel_rfl) (by kernel_rfl) (by kernel_rfl) (by kernel_rfl) (fun _ _ _ h => h) (Or.inl ⟨by rfl, ?_⟩) (by assumption) ?_; rotate_left; (intro w hSw; (try dsimp only at hSw); go_split_ands; go_simp; (try with_reducible rfl)); (try simp only [Act.put, List.setIfInBounds_toArray, List.set_cons_zero, List.set_cons_succ]))
                  (refine WG.take (i := 28) (v := ?_) rfl (by kernel_rfl) (by kernel_rfl) (by kernel_rfl) (by kernel_rfl) (fun _ _ _ h => h) (Or.inl ⟨by rfl, ?_⟩) (by assumption) ?_; rotate_left; (intro w hSw; (try dsimp only at hSw); go_split_ands; go_simp; (try with_reducible rfl)); (try simp only [Act.put, List.setIfInBounds_toArray, List.set_cons_zero, List.set_cons_succ]))
                  (refine WG.take (i := 29) (v := ?_) rfl (by kernel_rfl) (by kernel_rfl) (by kernel_rfl) (by kernel_rfl) (fun _ _ _ h => h) (Or.inl ⟨by rfl, ?_⟩) (by assumption) ?_; rotate_left; (intro w hSw; (try dsimp only at hSw); go_split_ands; go_simp; (try with_reducible rfl)); (try simp only [Act.put, List.setIfInBounds_toArray, List.set_cons_zero, List.set_cons_succ]))
                  (refine WG.take (i := 30) (v := ?_) rfl (by kernel_rfl) (by kernel_rfl) (by kernel_rfl) (by kernel_rfl) (fun _ _ _ h => h) (Or.inl ⟨by rfl, ?_⟩) (by assumption) ?_; rotate_left; (intro w hSw; (try dsimp only at hSw); go_split_ands; go_simp; (try with_reducible rfl)); (try simp only [Act.put, List.setIfInBounds_toArray, List.set_cons_zero, List.set_cons_succ]))
                  (refine WG.take (i := 31) (v := ?_) rfl (by kernel_rfl) (by kernel_rfl) (by kernel_rfl) (by kernel_rfl) (fun _ _ _ h => h) (Or.inl ⟨by rfl, ?_⟩) (by assumption) ?_; rotate_left; (intro w hSw; (try dsimp only at hSw); go_split_ands; go_simp; (try with_reducible rfl)); (try simp only [Act.put, List.setIfInBounds_toArray, List.set_cons_zero, List.set_cons_succ]))
                  (first | rw [H3.out] | skip)
                  (refine WG.take (i := 32) (v := ?_) rfl (by kernel_rfl) (by kernel_rfl) (by kernel_rfl) (by kernel_rfl) (fun _ _ _ h => h) (Or.inl ⟨by rfl, ?_⟩) (by assumption) ?_; rotate_left; (intro w hSw; (try dsimp only at hSw); go_split_ands; go_simp; (try with_reducible rfl)); (try simp only [Act.put, List.setIfInBounds_toArray, List.set_cons_zero, List.set_cons_succ]))
                  (refine WG.take (i := 33) (v := ?_) rfl (by kernel_rfl) (by kernel_rfl) (by kernel_rfl) (by kernel_rfl) (fun _ _ _ h => h) (Or.inl ⟨by rfl, ?_⟩) (by assumption) ?_; rotate_left; (intro w hSw; (try dsimp only at hSw); go_split_ands; go_simp; (try with_reducible rfl)); (try simp only [Act.put, List.setIfInBounds_toArray, List.set_cons_zero, List.set_cons_succ]))
                  (refine WG.take (i := 34) (v := ?_) rfl (by kernel_rfl) (by kernel_rfl) (by kernel_rfl) (by kernel_rfl) (fun _ _ _ h => h) (Or.inl ⟨by rfl, ?_⟩) (by assumption) ?_; rotate_left; (intro w hSw; (try dsimp only at hSw); go_split_ands; go_simp; (try with_reducible rfl)); (try simp only [Act.put, List.setIfInBounds_toArray, List.set_cons_zero, List.set_cons_succ]))
                  refine WG.done (by kernel_rfl) ?_
                  go_wp2
                  exact ⟨⟨k + 1, by omega, by go_num, hid (by rw [pairsTo_succ e.out, H.out, HF.out]; rfl), hid (HE2.out.trans HD.out)⟩, by simp [intOf]; omega⟩
              · have H2 : Hid ((y.a == x.a) = false) := hid (by simp [h2])
                have HF : Hid (pairFine (prevP ps k) x = true) := hid (by rw [hfn]; simp [pairLt]; omega)
                clear hfn h1 h2
                go_wp2_with (first
                  | (go_at_call 69; have _t := TK1; refine (sIn _ _ _ _).mono ?_; rintro e2 w2 ⟨rfl, n2, hw2⟩; rw [hb]; have HE2 : Hid (Ext w w2) := hid (by rw [hw2]; exact (HE.out.trans HEW.out).trans ((Ext.drewN _ _).trans (Ext.drewN _ _))); have KS : Hid (∀ w', Ext w2 w' → w'.cell? ⟨wr.heap.size, 0, none⟩ = some (.int .i64 x.a) ∧ w'.cell? ⟨wr.heap.size, 1, none⟩ = some (.int .i64 x.b) ∧ w'.cell? ⟨b, o + (k - 1) * 2, none⟩ = some (.int .i64 y.a) ∧ w'.cell? ⟨b, o + (k - 1) * 2 + 1, none⟩ = some (.int .i64 y.b)) := hid (fun w' hw => by have hq := ((Ext.drewN W n1).trans (by rw [hw2]; exact Ext.drewN _ _) : Ext W w2).trans hw; exact ⟨hq.cell HB0.out, hq.cell HB1.out, (HEW.out.trans hq).cell HD0.out, (HEW.out.trans hq).cell HD1.out⟩); have HD : Hid (Ext w2 w2.drew) := hid (Below.drew (Below.refl _ _)); clear hw2 f0 f1)
                  | (go_at_call 69; rw [← hW]; refine (sIn _ _ _ _).mono ?_; rintro e1 w1 ⟨rfl, n1, rfl⟩; rw [ha]; have f0 := (Ext.drewN W n1).cell HB0.out; have f1 := (Ext.drewN W n1).cell HB1.out; have TK1 : Hid True := hid trivial; clear hW))
                refine WG.start (fun w' => w'.cell? ⟨wr.heap.size, 0, none⟩ = some (.int .i64 x.a) ∧ w'.cell? ⟨wr.heap.size, 1, none⟩ = some (.int .i64 x.b) ∧ w'.cell? ⟨b, o + (k - 1) * 2, none⟩ = some (.int .i64 y.a) ∧ w'.cell? ⟨b, o + (k - 1) * 2 + 1, none⟩ = some (.int .i64 y.b)) [] (by kernel_rfl) (by exact KS.out _ HD.out) (fun hHeld => ?_)
                (refine WG.take (i := 0) (v := ?_) rfl (by kernel_rfl) (by kernel_rfl) (by kernel_rfl) (by kernel_rfl) (fun _ _ _ h => h) (Or.inl ⟨by rfl, ?_⟩) (by assumption) ?_; rotate_left; (intro w hSw; (try dsimp only at hSw); go_split_ands; go_simp; (try with_reducible rfl)); (try simp only [Act.put, List.setIfInBounds_toArray, List.set_cons_zero, List.set_cons_succ]))
                (refine WG.take (i := 1) (v := ?_) rfl (by kernel_rfl) (by kernel_rfl) (by kernel_rfl) (by kernel_rfl) (fun _ _ _ h => h) (Or.inl ⟨by rfl, ?_⟩) (by assumption) ?_; rotate_left; (intro w hSw; (try dsimp only at hSw); go_split_ands; go_simp; (try with_reducible rfl)); (try simp only [Act.put, List.setIfInBounds_toArray, List.set_cons_zero, List.set_cons_succ]))
                (first | rw [H0.out] | rw [H0n.out] | skip)
                (refine WG.take (i := 2) (v := ?_) rfl (by kernel_rfl) (by kernel_rfl) (by kernel_rfl) (by kernel_rfl) (fun _ _ _ h => h) (Or.inl ⟨by rfl, ?_⟩) (by assumption) ?_; rotate_left; (intro w hSw; (try dsimp only at hSw); go_split_ands; go_simp; (try with_reducible rfl)); (try simp only [Act.put, List.setIfInBounds_toArray, List.set_cons_zero, List.set_cons_succ]))
                (refine WG.take (i := 3) (v := ?_) rfl (by kernel_rfl) (by kernel_rfl) (by kernel_rfl) (by kernel_rfl) (fun _ _ _ h => h) (Or.inl ⟨by rfl, ?_⟩) (by assumption) ?_; rotate_left; (intro w hSw; (try dsimp only at hSw); go_split_ands; go_simp; (try with_reducible rfl)); (try simp only [Act.put, List.setIfInBounds_toArray, List.set_cons_zero, List.set_cons_succ]))
                (refine WG.take (i := 4) (v := ?_) rfl (by kernel_rfl) (by kernel_rfl) (by kernel_rfl) (by kernel_rfl) (fun _ _ _ h => h) (Or.inl ⟨by rfl, ?_⟩) (by assumption) ?_; rotate_left; (intro w hSw; (try dsimp only at hSw); go_split_ands; go_simp; (try with_reducible rfl)); (try simp only [Act.put, List.setIfInBounds_toArray, List.set_cons_zero, List.set_cons_succ]))
                (refine WG.take (i := 5) (v := ?_) rfl (by kernel_rfl) (by kernel_rfl) (by kernel_rfl) (by kernel_rfl) (fun _ _ _ h => h) (Or.inl ⟨by rfl, ?_⟩) (by assumption) ?_; rotate_left; (intro w hSw; (try dsimp only at hSw); go_split_ands; go_simp; (try with_reducible rfl)); (try simp only [Act.put, List.setIfInBounds_toArray, List.set_cons_zero, List.set_cons_succ]))
                (refine WG.take (i := 6) (v := ?_) rfl (by kernel_rfl) (by kernel_rfl) (by kernel_rfl) (by kernel_rfl) (fun _ _ _ h => h) (Or.inl ⟨by rfl, ?_⟩) (by assumption) ?_; rotate_left; (intro w hSw; (try dsimp only at hSw); go_split_ands; go_simp; (try with_reducible rfl)); (try simp only [Act.put, List.setIfInBounds_toArray, List.set_cons_zero, List.set_cons_succ]))
                (refine WG.take (i := 7) (v := ?_) rfl (by kernel_rfl) (by kernel_rfl) (by kernel_rfl) (by kernel_rfl) (fun _ _ _ h => h) (Or.inl ⟨by rfl, ?_⟩) (by assumption) ?_; rotate_left; (intro w hSw; (try dsimp only at hSw); go_split_ands; go_simp; (try with_reducible rfl)); (try simp only [Act.put, List.setIfInBounds_toArray, List.set_cons_zero, List.set_cons_succ]))
                (refine WG.take (i := 8) (v := ?_) rfl (by kernel_rfl) (by kernel_rfl) (by kernel_rfl) (by kernel_rfl) (fun _ _ _ h => h) (Or.inl ⟨by rfl, ?_⟩) (by assumption) ?_; rotate_left; (intro w hSw; (try dsimp only at hSw); go_split_ands; go_simp; (try with_reducible rfl)); (try simp only [Act.put, List.setIfInBounds_toArray, List.set_cons_zero, List.set_cons_succ]))
                (refine WG.take (i := 9) (v := ?_) rfl (by kernel_rfl) (by kernel_rfl) (by kernel_rfl) (by kernel_rfl) (fun _ _ _ h => h) (Or.inl ⟨by rfl, ?_⟩) (by assumption) ?_; rotate_left; (intro w hSw; (try dsimp only at hSw); go_split_ands; go_simp; (try with_reducible rfl)); (try simp only [Act.put, List.setIfInBounds_toArray, List.set_cons_zero, List.set_cons_succ]))
                (refine WG.take (i := 10) (v := ?_) rfl (by kernel_rfl) (by kernel_rfl) (by kernel_rfl) (by kernel_rfl) (fun _ _ _ h => h) (Or.inl ⟨by rfl, ?_⟩) (by assumption) ?_; rotate_left; (intro w hSw; (try dsimp only at hSw); go_split_ands; go_simp; (try with_reducible rfl)); (try simp only [Act.put, List.setIfInBounds_toArray, List.set_cons_zero, List.set_cons_succ]))
                (refine WG.take (i := 11) (v := ?_) rfl (by kernel_rfl) (by kernel_rfl) (by kernel_rfl) (by kernel_rfl) (fun _ _ _ h => h) (Or.inl ⟨by rfl, ?_⟩) (by assumption) ?_; rotate_left; (intro w hSw; (try dsimp only at hSw); go_split_ands; go_simp; (try with_reducible rfl)); (try simp only [Act.put, List.setIfInBounds_toArray, List.set_cons_zero, List.set_cons_succ]))
                (first | rw [H1.out] | skip)
                (refine WG.take (i := 12) (v := ?_) rfl (by kernel_rfl) (by kernel_rfl) (by kernel_rfl) (by kernel_rfl) (fun _ _ _ h => h) (Or.inl ⟨by rfl, ?_⟩) (by assumption) ?_; rotate_left; (intro w hSw; (try dsimp only at hSw); go_split_ands; go_simp; (try with_reducible rfl)); (try simp only [Act.put, List.setIfInBounds_toArray, List.set_cons_zero, List.set_cons_succ]))
                (refine WG.take (i := 13) (v := ?_) rfl (by kernel_rfl) (by kernel_rfl) (by kernel_rfl) (by kernel_rfl) (fun _ _ _ h => h) (Or.inl ⟨by rfl, ?_⟩) (by assumption) ?_; rotate_left; (intro w hSw; (try dsimp only at hSw); go_split_ands; go_simp; (try with_reducible rfl)); (try simp only [Act.put, List.setIfInBounds_toArray, List.set_cons_zero, List.set_cons_succ]))
                (refine WG.take (i := 14) (v := ?_) rfl (by kernel_rfl) (by kernel_rfl) (by kernel_rfl) (by kernel_rfl) (fun _ _ _ h => h) (Or.inl ⟨by rfl, ?_⟩) (by assumption) ?_; rotate_left; (intro w hSw; (try dsimp only at hSw); go_split_ands; go_simp; (try with_reducible rfl)); (try simp only [Act.put, List.setIfInBounds_toArray, List.set_cons_zero, List.set_cons_succ]))
                (refine WG.take (i := 15) (v := ?_) rfl (by kernel_rfl) (by kernel_rfl) (by kernel_rfl) (by kernel_rfl) (fun _ _ _ h => h) (Or.inl ⟨by rfl, ?_⟩) (by assumption) ?_; rotate_left; (intro w hSw; (try dsimp only at hSw); go_split_ands; go_simp; (try with_reducible rfl)); (try simp only [Act.put, List.setIfInBounds_toArray, List.set_cons_zero, List.set_cons_succ]))
                (refine WG.take (i := 16) (v := ?_) rfl (by kernel_rfl) (by kernel_rfl) (by kernel_rfl) (by kernel_rfl) (fun _ _ _ h => h) (Or.inl ⟨by rfl, ?_⟩) (by assumption) ?_; rotate_left; (intro w hSw; (try dsimp only at hSw); go_split_ands; go_simp; (try with_reducible rfl)); (try simp only [Act.put, List.setIfInBounds_toArray, List.set_cons_zero, List.set_cons_succ]))
                (refine WG.take (i := 17) (v := ?_) rfl (by kernel_rfl) (by kernel_rfl) (by kernel_rfl) (by kernel_rfl) (fun _ _ _ h => h) (Or.inl ⟨by rfl, ?_⟩) (by assumption) ?_; rotate_left; (intro w hSw; (try dsimp only at hSw); go_split_ands; go_simp; (try with_reducible rfl)); (try simp only [Act.put, List.setIfInBounds_toArray, List.set_cons_zero, List.set_cons_succ]))
                (refine WG.take (i := 18) (v := ?_) rfl (by kernel_rfl) (by kernel_rfl) (by kernel_rfl) (by kernel_rfl) (fun _ _ _ h => h) (Or.inl ⟨by rfl, ?_⟩) (by assumption) ?_; rotate_left; (intro w hSw; (try dsimp only at hSw); go_split_ands; go_simp; (try with_reducible rfl)); (try simp only [Act.put, List.setIfInBounds_toArray, List.set_cons_zero, List.set_cons_succ]))
                (refine WG.take (i := 19) (v := ?_) rfl (by kernel_rfl) (by kernel_rfl) (by kernel_rfl) (by kernel_rfl) (fun _ _ _ h => h) (Or.inl ⟨by rfl, ?_⟩) (by assumption) ?_; rotate_left; (intro w hSw; (try dsimp only at hSw); go_split_ands; go_simp; (try with_reducible rfl)); (try simp only [Act.put, List.setIfInBounds_toArray, List.set_cons_zero, List.set_cons_succ]))
                (refine WG.take (i := 20) (v := ?_) rfl (by kernel_rfl) (by kernel_rfl) (by kernel_rfl) (by kernel_rfl) (fun _ _ _ h => h) (Or.inl ⟨by rfl, ?_⟩) (by assumption) ?_; rotate_left; (intro w hSw; (try dsimp only at hSw); go_split_ands; go_simp; (try with_reducible rfl)); (try simp only [Act.put, List.setIfInBounds_toArray, List.set_cons_zero, List.set_cons_succ]))
                (refine WG.take (i := 21) (v := ?_) rfl (by kernel_rfl) (by kernel_rfl) (by kernel_rfl) (by kernel_rfl) (fun _ _ _ h => h) (Or.inl ⟨by rfl, ?_⟩) (by assumption) ?_; rotate_left; (intro w hSw; (try dsimp only at hSw); go_split_ands; go_simp; (try with_reducible rfl)); (try simp only [Act.put, List.setIfInBounds_toArray, List.set_cons_zero, List.set_cons_succ]))
                (first | rw [H2.out] | skip)
                (refine WG.take (i := 22) (v := ?_) rfl (by kernel_rfl) (by kernel_rfl) (by kernel_rfl) (by kernel_rfl) (fun _ _ _ h => h) (Or.inl ⟨by rfl, ?_⟩) (by assumption) ?_; rotate_left; (intro w hSw; (try dsimp only at hSw); go_split_ands; go_simp; (try with_reducible rfl)); (try simp only [Act.put, List.setIfInBounds_toArray, List.set_cons_zero, List.set_cons_succ]))
                (refine WG.take (i := 23) rfl (by kernel_rfl) (by kernel_rfl) (by kernel_rfl) (by kernel_rfl) (fun _ _ _ h => h) (Or.inr ⟨?_, rfl⟩) (by assumption) ?_; go_simp; (try simp only [Act.put, List.setIfInBounds_toArray, List.set_cons_zero, List.set_cons_succ]))
                (refine WG.take (i := 24) rfl (by kernel_rfl) (by kernel_rfl) (by kernel_rfl) (by kernel_rfl) (fun _ _ _ h => h) (Or.inr ⟨?_, rfl⟩) (by assumption) ?_; go_simp; (try simp only [Act.put, List.setIfInBounds_toArray, List.set_cons_zero, List.set_cons_succ]))
                (refine WG.take (i := 25) rfl (by kernel_rfl) (by kernel_rfl) (by kernel_rfl) (by kernel_rfl) (fun _ _ _ h => h) (Or.inr ⟨?_, rfl⟩) (by assumption) ?_; go_simp; (try simp only [Act.put, List.setIfInBounds_toArray, List.set_cons_zero, List.set_cons_succ]))
                (refine WG.take (i := 26) rfl (by kernel_rfl) (by kernel_rfl) (by kernel_rfl) (by kernel_rfl) (fun _ _ _ h => h) (Or.inr ⟨?_, rfl⟩) (by assumption) ?_; go_simp; (try simp only [Act.put, List.setIfInBounds_toArray, List.set_cons_zero, List.set_cons_succ]))
                (refine WG.take (i := 27) rfl (by kernel_rfl) (by kernel_rfl) (by kernel_rfl) (by kernel_rfl) (fun _ _ _ h => h) (Or.inr ⟨?_, rfl⟩) (by assumption) ?_; go_simp; (try simp only [Act.put, List.setIfInBounds_toArray, List.set_cons_zero, List.set_cons_succ]))
                (refine WG.take (i := 28) rfl (by kernel_rfl) (by kernel_rfl) (by kernel_rfl) (by kernel_rfl) (fun _ _ _ h => h) (Or.inr ⟨?_, rfl⟩) (by assumption) ?_; go_simp; (try simp only [Act.put, List.setIfInBounds_toArray, List.set_cons_zero, List.set_cons_succ]))
                (refine WG.take (i := 29) rfl (by kernel_rfl) (by kernel_rfl) (by kernel_rfl) (by kernel_rfl) (fun _ _ _ h => h) (Or.inr ⟨?_, rfl⟩) (by assumption) ?_; go_simp; (try simp only [Act.put, List.setIfInBounds_toArray, List.set_cons_zero, List.set_cons_succ]))
                (refine WG.take (i := 30) rfl (by kernel_rfl) (by kernel_rfl) (by kernel_rfl) (by kernel_rfl) (fun _ _ _ h => h) (Or.inr ⟨?_, rfl⟩) (by assumption) ?_; go_simp; (try simp only [Act.put, List.setIfInBounds_toArray, List.set_cons_zero, List.set_cons_succ]))
                (refine WG.take (i := 31) rfl (by kernel_rfl) (by kernel_rfl) (by kernel_rfl) (by kernel_rfl) (fun _ _ _ h => h) (Or.inr ⟨?_, rfl⟩) (by assumption) ?_; go_simp; (try simp only [Act.put, List.setIfInBounds_toArray, List.set_cons_zero, List.set_cons_succ]))
                (refine WG.take (i := 32) (v := ?_) rfl (by kernel_rfl) (by kernel_rfl) (by kernel_rfl) (by kernel_rfl) (fun _ _ _ h => h) (Or.inl ⟨by rfl, ?_⟩) (by assumption) ?_; rotate_left; (intro w hSw; (try dsimp only at hSw); go_split_ands; go_simp; (try with_reducible rfl)); (try simp only [Act.put, List.setIfInBounds_toArray, List.set_cons_zero, List.set_cons_succ]))
                (refine WG.take (i := 33) (v := ?_) rfl (by kernel_rfl) (by kernel_rfl) (by kernel_rfl) (by kernel_rfl) (fun _ _ _ h => h) (Or.inl ⟨by rfl, ?_⟩) (by assumption) ?_; rotate_left; (intro w hSw; (try dsimp only at hSw); go_split_ands; go_simp; (try with_reducible rfl)); (try simp only [Act.put, List.setIfInBounds_toArray, List.set_cons_zero, List.set_cons_succ]))
                (refine WG.take (i := 34) (v := ?_) rfl (by kernel_rfl) (by kernel_rfl) (by kernel_rfl) (by kernel_rfl) (fun _ _ _ h => h) (Or.inl ⟨by rfl, ?_⟩) (by assumption) ?_; rotate_left; (intro w hSw; (try dsimp only at hSw); go_split_ands; go_simp; (try with_reducible rfl)); (try simp only [Act.put, List.setIfInBounds_toArray, List.set_cons_zero, List.set_cons_succ]))
                refine WG.done (by kernel_rfl) ?_
                go_wp2
                exact ⟨⟨k + 1, by omega, by go_num, hid (by rw [pairsTo_succ e.out, H.out, HF.out]; rfl), hid (HE2.out.trans HD.out)⟩, by simp [intOf]; omega⟩
    · have hk' : k = ps.length := by omega
      have HK := hid hk'
      clear hk'
      have hle : (ps.length : Int) ≤ 8 ↔ ps.length ≤ 8 := by omega
      go_wp2
      go_ret
      refine ⟨?_, HE.out⟩
      have h2 := H.out
      rw [HK.out] at h2
      unfold pairsOk
      rw [h2, Bool.true_and]
      simp

set_option maxHeartbeats 4000000 in
theorem sL41Apart (v : Value) (ps : List PairD) (a b : Int) (w : World) (h : RP w v ps) :
    Calls Try.prog 116 #[v, .int .i64 a, .int .i64 b] w (RetB w (apartL ps a b)) := by
  obtain ⟨A, c, rfl, hc, hc', hg⟩ := RP.get h
  clear h
  go_enter Try.func116, Try.ntmps116
  go_wp2
  go_loopw [7] (fun i wr => ∃ k : Nat, k ≤ ps.length ∧ i = .int .i64 k ∧ Hid (apartL (ps.take k) a b = false) ∧ wr = w) (fun i _ => ps.length - (intOf i).toNat)
  case atStart => exact ⟨0, Nat.zero_le _, rfl, hid rfl, rfl⟩
  case round =>
    obtain ⟨k, hk, rfl, H, rfl⟩ := hrel
    by_cases hlt : k < ps.length
    · obtain ⟨b0, o, x, rfl, e, c0, c1⟩ := hg k hlt
      have i1 : (k : Int) < (ps.length : Int) := by omega
      have i0 : (0 : Int) ≤ (k : Int) := by omega
      have hst : Hid (apartL (ps.take (k + 1)) a b = (apartL (ps.take k) a b || (x.a == min a b && x.b == max a b))) := hid (by
        unfold apartL
        rw [take_snoc e.out, List.any_append]
        simp)
      clear hg
      by_cases hab : b < a
      · have hba : ¬ a < b := by omega
        have HMN : Hid (min a b = b) := hid (by omega)
        have HMX : Hid (max a b = a) := hid (by omega)
        cases h1 : (x.a == b) with
        | false =>
          have H1 := hid h1
          go_wp2
          exact ⟨⟨k + 1, by omega, by go_num, hid (by rw [hst.out, H.out, HMN.out, HMX.out, H1.out]; rfl), trivial⟩, by simp [intOf]; omega⟩
        | true =>
          cases h2 : (x.b == a) with
          | false =>
            have H1 := hid h1
            have H2 := hid h2
            go_wp2
            exact ⟨⟨k + 1, by omega, by go_num, hid (by rw [hst.out, H.out, HMN.out, HMX.out, H1.out, H2.out]; rfl), trivial⟩, by simp [intOf]; omega⟩
          | true =>
            have HT : Hid (apartL ps a b = true) := hid (by
              unfold apartL
              rw [List.any_eq_true]
              exact ⟨x, List.mem_of_getElem? e.out, by rw [HMN.out, HMX.out, h1, h2]; rfl⟩)
            go_wp2
            go_ret
            rw [HT.out]
            exact ⟨rfl, Ext.refl _⟩
      · by_cases hba : a < b
        · have HMN : Hid (min a b = a) := hid (by omega)
          have HMX : Hid (max a b = b) := hid (by omega)
          cases h1 : (x.a == a) with
          | false =>
            have H1 := hid h1
            go_wp2
            exact ⟨⟨k + 1, by omega, by go_num, hid (by rw [hst.out, H.out, HMN.out, HMX.out, H1.out]; rfl), trivial⟩, by simp [intOf]; omega⟩
          | true =>
            cases h2 : (x.b == b) with
            | false =>
              have H1 := hid h1
              have H2 := hid h2
              go_wp2
              exact ⟨⟨k + 1, by omega, by go_num, hid (by rw [hst.out, H.out, HMN.out, HMX.out, H1.out, H2.out]; rfl), trivial⟩, by simp [intOf]; omega⟩
            | true =>
              have HT : Hid (apartL ps a b = true) := hid (by
                unfold apartL
                rw [List.any_eq_true]
                exact ⟨x, List.mem_of_getElem? e.out, by rw [HMN.out, HMX.out, h1, h2]; rfl⟩)
              go_wp2
              go_ret
              rw [HT.out]
              exact ⟨rfl, Ext.refl _⟩
        · obtain rfl : a = b := by omega
          have HMN : Hid (min a a = a) := hid (by omega)
          have HMX : Hid (max a a = a) := hid (by omega)
          clear hab hba
          cases h1 : (x.a == a) with
          | false =>
            have H1 := hid h1
            go_wp2
            exact ⟨⟨k + 1, by omega, by go_num, hid (by rw [hst.out, H.out, HMN.out, HMX.out, H1.out]; rfl), trivial⟩, by simp [intOf]; omega⟩
          | true =>
            cases h2 : (x.b == a) with
            | false =>
              have H1 := hid h1
              have H2 := hid h2
              go_wp2
              exact ⟨⟨k + 1, by omega, by go_num, hid (by rw [hst.out, H.out, HMN.out, HMX.out, H1.out, H2.out]; rfl), trivial⟩, by simp [intOf]; omega⟩
            | true =>
              have HT : Hid (apartL ps a a = true) := hid (by
                unfold apartL
                rw [List.any_eq_true]
                exact ⟨x, List.mem_of_getElem? e.out, by rw [HMN.out, HMX.out, h1, h2]; rfl⟩)
              go_wp2
              go_ret
              rw [HT.out]
              exact ⟨rfl, Ext.refl _⟩
    · have hk' : k = ps.length := by omega
      subst hk'
      go_wp2
      go_ret
      have h2 := H.out
      rw [List.take_length] at h2
      rw [h2]
      exact ⟨rfl, Ext.refl _⟩

set_option maxHeartbeats 4000000 in
theorem sL41Free (v bv : Value) (ps : List PairD) (ts : List TaskD) (id : Int) (w : World) (h : RP w v ps) (hb : RT w bv ts) :
    Calls Try.prog 86 #[v, bv, .int .i64 id] w (RetB w (freeL ps ts id)) := by
  have HP := hid h
  obtain ⟨Ap, cp, rfl, _, _, _⟩ := RP.get h
  obtain ⟨A, c, rfl, hc, hc', hg⟩ := RT.get hb
  clear h hb
  go_enter Try.func86, Try.ntmps86
  go_wp2
  go_loopw [7] (fun i wr => ∃ k : Nat, k ≤ ts.length ∧ i = .int .i64 k ∧ Hid (freeL ps (ts.take k) id = true) ∧ Hid (Ext w wr)) (fun i _ => ts.length - (intOf i).toNat)
  case atStart => exact ⟨0, Nat.zero_le _, rfl, hid rfl, hid (Ext.refl _)⟩
  case round =>
    obtain ⟨k, hk, rfl, H, HE⟩ := hrel
    by_cases hlt : k < ts.length
    · obtain ⟨b0, o, x, An, cn, rfl, e, c0, _⟩ := hg k hlt
      have i1 : (k : Int) < (ts.length : Int) := by omega
      have i0 : (0 : Int) ≤ (k : Int) := by omega
      have hst : Hid (freeL ps (ts.take (k + 1)) id = (freeL ps (ts.take k) id && !apartL ps x.id id)) := hid (by
        unfold freeL
        rw [take_snoc e.out, List.all_append]
        simp)
      have c0r := HE.out.cell c0
      cases ha : apartL ps x.id id with
      | false =>
        have HA := hid ha
        go_wp2_with (go_at_call 116; refine (sL41Apart _ ps x.id id _ (RP.ext HP.out HE.out)).mono ?_; rintro e1 w1 ⟨rfl, hE1⟩; rw [ha]; have HE1 := hid (HE.out.trans hE1); clear hE1)
        go_roundw
        case rel => exact ⟨k + 1, by omega, by go_num, hid (by rw [hst.out, H.out, HA.out]; rfl), HE1⟩
        case measure => simp [intOf]; omega
      | true =>
        have HT : Hid (freeL ps ts id = false) := hid (by
          unfold freeL
          rw [List.all_eq_false]
          exact ⟨x, List.mem_of_getElem? e.out, by rw [ha]; simp⟩)
        go_wp2_with (go_at_call 116; refine (sL41Apart _ ps x.id id _ (RP.ext HP.out HE.out)).mono ?_; rintro e1 w1 ⟨rfl, hE1⟩; rw [ha]; have HE1 := hid (HE.out.trans hE1); clear hE1)
        go_ret
        rw [HT.out]
        exact ⟨rfl, HE1.out⟩
    · have hk' : k = ts.length := by omega
      have HK := hid hk'
      clear hk'
      go_wp2
      go_ret
      have h2 := H.out
      rw [HK.out, List.take_length] at h2
      rw [h2]
      exact ⟨rfl, HE.out⟩

end Go.Proofs.Ytoaabinpdjcimaa

/- Tasks apart: the laws' facts. No program in sight. -/
namespace Go.Proofs.Ytoaabinpdjcimaa

theorem hasId_push (a : List TaskD) (x : TaskD) (id : Int) : hasId (a ++ [x]) id = (hasId a id || x.id == id) := by simp [hasId]
theorem hasId_single (x : TaskD) (id : Int) : hasId [x] id = (x.id == id) := by simp [hasId]
theorem hasId_ex {b : List TaskD} {id : Int} (h : hasId b id = true) : ∃ t ∈ b, t.id = id := by simpa [hasId] using h
def Clean (ps : List PairD) (b : List TaskD) : Prop := ∀ p ∈ ps, ¬ (hasId b p.a = true ∧ hasId b p.b = true)
theorem free_not {ps : List PairD} (h : ∀ p ∈ ps, p.a < p.b) {b : List TaskD} {id : Int} (hf : freeL ps b id = true) {p : PairD} (hp : p ∈ ps) : (p.a = id → hasId b p.b = false) ∧ (p.b = id → hasId b p.a = false) := by
  have key : ∀ t ∈ b, apartL ps t.id id = false := by
    intro t ht
    simp only [freeL, List.all_eq_true] at hf
    simpa using hf t ht
  refine ⟨fun he => ?_, fun he => ?_⟩
  · cases hb : hasId b p.b with
    | false => rfl
    | true =>
      obtain ⟨t, ht, hte⟩ := hasId_ex hb
      have := key t ht
      rw [(apartL_iff h _ _).2 ⟨p, hp, .inr ⟨he, hte.symm⟩⟩] at this
      cases this
  · cases hb : hasId b p.a with
    | false => rfl
    | true =>
      obtain ⟨t, ht, hte⟩ := hasId_ex hb
      have := key t ht
      rw [(apartL_iff h _ _).2 ⟨p, hp, .inl ⟨hte.symm, he⟩⟩] at this
      cases this
theorem clean_add {ps : List PairD} (h : ∀ p ∈ ps, p.a < p.b) {b : List TaskD} {x : TaskD} (hb : Clean ps b) (hf : freeL ps b x.id = true) : Clean ps (b ++ [x]) := by
  rintro p hp ⟨h1, h2⟩
  rw [hasId_push] at h1 h2
  have hlt := h p hp
  obtain ⟨f1, f2⟩ := free_not h hf hp
  have hnot := hb p hp
  simp only [Bool.or_eq_true, beq_iff_eq] at h1 h2
  rcases h1 with h1 | h1
  · rcases h2 with h2 | h2
    · exact hnot ⟨h1, h2⟩
    · rw [f2 h2.symm] at h1; cases h1
  · rcases h2 with h2 | h2
    · rw [f1 h1.symm] at h2; cases h2
    · omega
theorem clean_one {ps : List PairD} (h : ∀ p ∈ ps, p.a < p.b) (x : TaskD) : Clean ps [x] := by
  rintro p hp ⟨h1, h2⟩
  rw [hasId_single] at h1 h2
  have := h p hp
  simp only [beq_iff_eq] at h1 h2
  omega
theorem apart_clean (room : List Int) {ps : List PairD} (h : ∀ p ∈ ps, p.a < p.b) : ∀ (n : Nat) (ts : List TaskD), ts.length = n → ∀ b ∈ allBy (fun bs x => apartAt room bs ps x) ts, Clean ps b := by
  intro n
  induction n with
  | zero => intro ts h; have : ts = [] := List.eq_nil_of_length_eq_zero h; subst this; simp [allBy]
  | succ n ih =>
    intro ts hl
    have hne : ts ≠ [] := by intro he; subst he; simp at hl
    have i1 := ih ts.dropLast (by simp; omega)
    have e := List.dropLast_concat_getLast hne
    rw [← e, allBy_snoc]
    intro b hb
    by_cases h2 : apartAt room (allBy (fun bs x => apartAt room bs ps x) ts.dropLast) ps (ts.getLast hne) < 0
    · rw [putL_new h2] at hb
      rcases List.mem_append.1 hb with hb | hb
      · exact i1 b hb
      · rw [List.mem_singleton.1 hb]; exact clean_one h _
    · obtain ⟨k, c, h3, h4, _, h5⟩ := apartAt_some (room := room) (bs := allBy (fun bs x => apartAt room bs ps x) ts.dropLast) (ps := ps) (x := ts.getLast hne) (by omega)
      rw [h3, putL_at h4] at hb
      rcases List.mem_or_eq_of_mem_set hb with hb | rfl
      · exact i1 b hb
      · exact clean_add h (i1 c (List.mem_of_getElem? h4)) h5
theorem whereL_at {bs : List (List TaskD)} {id : Int} (h : 0 ≤ whereL bs id) : ∃ (k : Nat) (b : List TaskD), whereL bs id = (k : Int) ∧ bs[k]? = some b ∧ hasId b id = true := by
  unfold whereL at h ⊢
  split at h
  · rename_i i hi
    rw [List.findIdx?_eq_some_iff_getElem] at hi
    exact ⟨i, bs[i]'hi.1, rfl, List.getElem?_eq_getElem hi.1, hi.2.1⟩
  · omega
theorem broken_both {bs : List (List TaskD)} {p : PairD} (h : brokenAt bs p = true) : ∃ b ∈ bs, hasId b p.a = true ∧ hasId b p.b = true := by
  simp only [brokenAt, Bool.and_eq_true, decide_eq_true_eq, beq_iff_eq] at h
  obtain ⟨k, b, h1, h2, h3⟩ := whereL_at h.1
  obtain ⟨k', b', h1', h2', h3'⟩ := whereL_at (bs := bs) (id := p.b) (by omega)
  have : k' = k := by omega
  subst this
  rw [h2] at h2'
  injection h2' with h2'
  subst h2'
  exact ⟨b, List.mem_of_getElem? h2, h3, h3'⟩
theorem pair_mem {ps : List PairD} {i : Nat} (h : i < ps.length) : ps.getD i default ∈ ps := by
  rw [List.getD_eq_getElem?_getD, List.getElem?_eq_getElem h]
  exact List.getElem_mem h
theorem apart_unbroken {room : List Int} {ps : List PairD} {ts : List TaskD} (hp : pairsOk ps = true) : brokenN room (allBy (fun bs x => apartAt room bs ps x) ts) ps = [] := by
  have h : ∀ p ∈ ps, p.a < p.b := fun p hq => (pairsOk_mem hp hq).2.1
  unfold brokenN
  split
  · refine List.eq_nil_iff_forall_not_mem.2 fun z hz => ?_
    obtain ⟨i, hi, _, hb⟩ := brokenTo_mem hz
    obtain ⟨b, hb1, hb2⟩ := broken_both hb
    exact apart_clean room h ts.length ts rfl b hb1 _ (pair_mem hi) hb2
  · rfl
theorem come_one {room : List Int} {bs : List (List TaskD)} {x : TaskD} {k : Nat} {b : List TaskD} (h : canComeL room bs x = true) (hb : bs[k]? = some b) (hf : l11fits room b x = true) : binsOk room [b ++ [x]] = true := by
  simp only [canComeL, Bool.and_eq_true] at h
  have hs : (b ++ [x]).Sublist (bs.flatten ++ [x]) := List.Sublist.append (List.sublist_flatten_of_mem (List.mem_of_getElem? hb)) (List.Sublist.refl _)
  unfold binsOk
  simp only [List.flatten_cons, List.flatten_nil, List.append_nil, List.length_singleton, List.all_cons, List.all_nil, Bool.and_true, Bool.and_eq_true, decide_eq_true_eq]
  exact ⟨tasks_sub hs h.2, by omega, by rw [← l11_load]; exact hf⟩
theorem one_unbroken {room : List Int} {ps : List PairD} {b : List TaskD} {x : TaskD} (hp : pairsOk ps = true) (hf : freeL ps b x.id = true) {z : Int} (hz : z ∈ brokenN room [b ++ [x]] ps) : ∃ (i : Nat), i < ps.length ∧ z = (i : Int) ∧ (ps.getD i default).a ≠ x.id ∧ (ps.getD i default).b ≠ x.id := by
  have h : ∀ p ∈ ps, p.a < p.b := fun p hq => (pairsOk_mem hp hq).2.1
  unfold brokenN at hz
  split at hz
  · obtain ⟨i, hi, he, hb⟩ := brokenTo_mem hz
    refine ⟨i, hi, he, ?_⟩
    obtain ⟨c, hc, h1, h2⟩ := broken_both hb
    rw [List.mem_singleton.1 hc] at h1 h2
    have hlt := h _ (pair_mem hi)
    obtain ⟨f1, f2⟩ := free_not h hf (pair_mem hi)
    rw [hasId_push] at h1 h2
    simp only [Bool.or_eq_true, beq_iff_eq] at h1 h2
    refine ⟨fun he2 => ?_, fun he2 => ?_⟩
    · rcases h2 with h2 | h2
      · rw [f1 he2] at h2; cases h2
      · omega
    · rcases h1 with h1 | h1
      · rw [f2 he2] at h1; cases h1
      · omega
  · cases hz
theorem apartAllN_ok {room : List Int} {ts : List TaskD} {ps : List PairD} (h1 : tasksOk room ts = true) (h2 : pairsOk ps = true) : binsOk room (apartAllN room ts ps) = true ∧ (apartAllN room ts ps).flatten.length = ts.length ∧ brokenN room (apartAllN room ts ps) ps = [] ∧ apartAllN room ts ps = allBy (fun bs x => apartAt room bs ps x) ts := by
  have e : apartAllN room ts ps = allBy (fun bs x => apartAt room bs ps x) ts := by unfold apartAllN; rw [h1, h2]; rfl
  rw [e]
  exact ⟨allBy_ok (chooses_apart room ps) h1, (allBy_perm (chooses_apart room ps) ts.length ts rfl).1.length_eq, apart_unbroken h2, rfl⟩
theorem apartAll_first (room : List Int) (ts : List TaskD) : apartAllN room ts [] = firstAllN room ts := by
  unfold apartAllN firstAllN
  rw [pairsOk_nil, Bool.and_true]
  simp only [apartAt_nil]
theorem apartAll_len (room : List Int) (ts : List TaskD) (ps : List PairD) : (apartAllN room ts ps).length ≤ ts.length := by
  unfold apartAllN
  split
  · exact (allBy_perm (chooses_apart room ps) ts.length ts rfl).2
  · simp
theorem apartAt_none {room : List Int} {bs : List (List TaskD)} {ps : List PairD} {x : TaskD} : apartAtN room bs [] x = firstAtN room bs x ∧ (0 ≤ apartAtN room bs ps x → 0 ≤ firstAtN room bs x ∧ firstAtN room bs x ≤ apartAtN room bs ps x) := by
  unfold apartAtN firstAtN
  rw [pairsOk_nil, Bool.and_true, apartAt_nil]
  refine ⟨rfl, fun h => ?_⟩
  split at h
  · rename_i hc
    simp only [Bool.and_eq_true] at hc
    rw [if_pos hc.1, if_pos (by simp [hc])]
    exact apartAt_first h
  · omega
theorem apart_step {room : List Int} {ts : List TaskD} {x : TaskD} {ps : List PairD} (h1 : tasksOk room (ts ++ [x]) = true) (h2 : pairsOk ps = true) : apartAtN room (apartAllN room ts ps) ps x = apartAt room (apartAllN room ts ps) ps x ∧ apartAllN room (ts ++ [x]) ps = putL (apartAllN room ts ps) (apartAt room (apartAllN room ts ps) ps x) x := by
  have h3 := tasks_sub (List.sublist_append_left ts [x]) h1
  obtain ⟨_, _, _, e⟩ := apartAllN_ok h3 h2
  obtain ⟨_, _, _, e2⟩ := apartAllN_ok h1 h2
  have hc := allBy_come (chooses_apart room ps) h1
  rw [e2, allBy_snoc, ← e]
  rw [← e] at hc
  refine ⟨?_, rfl⟩
  unfold apartAtN
  rw [hc, h2]
  rfl

end Go.Proofs.Ytoaabinpdjcimaa

/- The reference's node for a task that is to be apart. -/
namespace Go.Proofs.Ytoaabinpdjcimaa
open Go.RowKit
set_option maxRecDepth 4000

set_option maxHeartbeats 4000000 in
theorem sAt41 (rv v pv xv : Value) (room : List Int) (bs : List (List TaskD)) (ps : List PairD) (x : TaskD) (w : World) (hR : RI w rv room) (h : RB w v bs) (hp : RP w pv ps) (hx : TaskV w xv x) (hlr : room.length = 3) (hg : ∀ b ∈ bs, GoodTs b) (hn : x.need.length = 3 ∧ Bd 1000 x.need) :
    Calls Try.prog 53 #[rv, v, pv, xv] w (RetN w (apartAt room bs ps x)) := by
  have HR0 := hid hR
  have HB0 := hid h
  have HP0 := hid hp
  obtain ⟨Ar, cr, rfl, _⟩ := hR
  obtain ⟨Ap, cp, rfl, _⟩ := hp
  obtain ⟨A, c, rfl, hc, hc', hr⟩ := RB.get h
  have HXV := hid hx
  obtain ⟨nv, rfl, hnv⟩ := hx
  obtain ⟨An, cn, rfl, _⟩ := hnv
  obtain ⟨W, hW⟩ : ∃ W, W = w.alloc (.cells #[.int .i64 x.id, .slice An x.need.length cn] 34) := ⟨_, rfl⟩
  have hEW : Ext w W := by rw [hW]; exact Ext.alloc _ _
  have hbx : W.heap[w.heap.size]? = some (.cells #[.int .i64 x.id, .slice An x.need.length cn] 34 (0, 0)) := by rw [hW]; exact heap_alloc_new _ _
  have KB : Hid (∀ w', Ext W w' → w'.cell? ⟨w.heap.size, 0, none⟩ = some (.int .i64 x.id) ∧ w'.cell? ⟨w.heap.size, 1, none⟩ = some (.slice An x.need.length cn)) := hid fun w' hw => ⟨obj_cell (hw.obj hbx) (i := 0) rfl, obj_cell (hw.obj hbx) (i := 1) rfl⟩
  have HEW := hid hEW
  have HG := hid hr
  have HGD := hid hg
  have HN := hid hn
  have HLR := hid hlr
  clear hbx hEW h hr hg hn hlr
  go_enter Try.func53, Try.ntmps53
  go_wp2
  rw [← hW]
  clear hW
  go_loopw [9] (fun i wr => ∃ k : Nat, k ≤ bs.length ∧ i = .int .i64 k ∧ Hid ((∀ (j : Nat) c, j < k → bs[j]? = some c → (l11fits room c x && freeL ps c x.id) = false) ∧ Ext W wr)) (fun i _ => bs.length - (intOf i).toNat)
  case atStart => exact ⟨0, Nat.zero_le _, rfl, hid ⟨fun j c hj => absurd hj (by omega), Ext.refl _⟩⟩
  case round =>
    obtain ⟨k, hk, rfl, H⟩ := hrel
    by_cases hlt : k < bs.length
    · obtain ⟨b, o, d, Ad, cd, rfl, e, c1, hd⟩ := HG.out k hlt
      have i1 : (k : Int) < (bs.length : Int) := by omega
      have i0 : (0 : Int) ≤ (k : Int) := by omega
      have HE := hid H.out.2
      have KS : Hid (∀ w', Ext wr w' → w'.cell? ⟨b, o + k, none⟩ = some (.slice Ad d.length cd) ∧ w'.cell? ⟨w.heap.size, 0, none⟩ = some (.int .i64 x.id) ∧ w'.cell? ⟨w.heap.size, 1, none⟩ = some (.slice An x.need.length cn)) :=
        hid fun w' hw => ⟨(HEW.out.trans (HE.out.trans hw)).cell c1, (KB.out _ (HE.out.trans hw)).1, (KB.out _ (HE.out.trans hw)).2⟩
      have HD : Hid (Ext wr wr.drew) := hid (Below.drew (Below.refl _ _))
      have HDD := hid hd
      have HGO := hid (HGD.out d (List.mem_of_getElem? e.out))
      have HNX : Hid ((l11fits room d x && freeL ps d x.id) = false → ∀ (j : Nat) c, j < k + 1 → bs[j]? = some c → (l11fits room c x && freeL ps c x.id) = false) := hid (by
        intro hf j c hj hc
        by_cases hjk : j = k
        · subst hjk
          have := e.out
          rw [hc] at this
          injection this with this
          rw [this]; exact hf
        · exact H.out.1 j c (by omega) hc)
      clear c1 hd
      cases hf : l11fits room d x with
      | false =>
        have HF := hid hf
        go_wp2
        refine WG.start (fun w' => w'.cell? ⟨b, o + k, none⟩ = some (.slice Ad d.length cd) ∧ w'.cell? ⟨w.heap.size, 0, none⟩ = some (.int .i64 x.id) ∧ w'.cell? ⟨w.heap.size, 1, none⟩ = some (.slice An x.need.length cn)) [] (by kernel_rfl) (by exact KS.out _ HD.out) (fun hHeld => ?_)
        (refine WG.take (i := 0) (v := ?_) rfl (by kernel_rfl) (by kernel_rfl) (by kernel_rfl) (by kernel_rfl) (fun _ _ _ h => h) (Or.inl ⟨by rfl, ?_⟩) (by assumption) ?_; rotate_left; (intro w hSw; (try dsimp only at hSw); go_split_ands; go_simp; (try with_reducible rfl)); (try simp only [Act.put, List.setIfInBounds_toArray, List.set_cons_zero, List.set_cons_succ]))
        (refine WG.take (i := 1) (v := ?_) rfl (by kernel_rfl) (by kernel_rfl) (by kernel_rfl) (by kernel_rfl) (fun _ _ _ h => h) (Or.inl ⟨by rfl, ?_⟩) (by assumption) ?_; rotate_left; (intro w hSw; (try dsimp only at hSw); go_split_ands; go_simp; (try with_reducible rfl)); (try simp only [Act.put, List.setIfInBounds_toArray, List.set_cons_zero, List.set_cons_succ]))
        (refine WG.take (i := 2) (v := ?_) rfl (by kernel_rfl) (by kernel_rfl) (by kernel_rfl) (by kernel_rfl) (fun _ _ _ h => h) (Or.inl ⟨by rfl, ?_⟩) (by assumption) ?_; rotate_left; (intro w hSw; (try dsimp only at hSw); go_split_ands; go_simp; (try with_reducible rfl)); (try simp only [Act.put, List.setIfInBounds_toArray, List.set_cons_zero, List.set_cons_succ]))
        (refine WG.take (i := 3) (v := ?_) rfl (by kernel_rfl) (by kernel_rfl) (by kernel_rfl) (by kernel_rfl) (fun _ _ _ h => h) (Or.inl ⟨by rfl, ?_⟩) (by assumption) ?_; rotate_left; (intro w hSw; (try dsimp only at hSw); go_split_ands; go_simp; (try with_reducible rfl)); (try simp only [Act.put, List.setIfInBounds_toArray, List.set_cons_zero, List.set_cons_succ]))
        (refine WG.take (i := 4) (v := ?_) rfl (by kernel_rfl) (by kernel_rfl) (by kernel_rfl) (by kernel_rfl) (fun _ _ _ h => h) (Or.inl ⟨by rfl, ?_⟩) (by assumption) ?_; rotate_left; (intro w hSw; (try dsimp only at hSw); go_split_ands; go_simp; (try with_reducible rfl)); (try simp only [Act.put, List.setIfInBounds_toArray, List.set_cons_zero, List.set_cons_succ]))
        (refine WG.take (i := 5) (v := ?_) rfl (by kernel_rfl) (by kernel_rfl) (by kernel_rfl) (by kernel_rfl) (fun _ _ _ h => h) (Or.inl ⟨by rfl, ?_⟩) (by assumption) ?_; rotate_left; (intro w hSw; (try dsimp only at hSw); go_split_ands; go_simp; (try with_reducible rfl)); (try simp only [Act.put, List.setIfInBounds_toArray, List.set_cons_zero, List.set_cons_succ]))
        refine WG.one (i := 6) rfl (by kernel_rfl) (fun K hK => ?_)
        go_simp; refine (sL11Fits _ _ _ room d x _ (RI.ext HR0.out (HEW.out.trans (HE.out.trans HD.out))) (RT.ext HDD.out (HEW.out.trans (HE.out.trans HD.out))) (HXV.out.ext (HEW.out.trans (HE.out.trans HD.out))) HLR.out HGO.out HN.out).mono ?_; rintro e5 w5 ⟨rfl, hE5⟩; rw [HF.out]; have HE5 := hid (HD.out.trans hE5); clear hE5; (try dsimp only)
        refine hK.out _ _ (by exact KS.out _ HE5.out) (fun hHeld => ?_)
        clear hK K
        (try simp only [Act.put, List.setIfInBounds_toArray, List.set_cons_zero, List.set_cons_succ])
        (refine WG.take (i := 7) (v := ?_) rfl (by kernel_rfl) (by kernel_rfl) (by kernel_rfl) (by kernel_rfl) (fun _ _ _ h => h) (Or.inl ⟨by rfl, ?_⟩) (by assumption) ?_; rotate_left; (intro w hSw; (try dsimp only at hSw); go_split_ands; go_simp; (try with_reducible rfl)); (try simp only [Act.put, List.setIfInBounds_toArray, List.set_cons_zero, List.set_cons_succ]))
        (refine WG.take (i := 8) rfl (by kernel_rfl) (by kernel_rfl) (by kernel_rfl) (by kernel_rfl) (fun _ _ _ h => h) (Or.inr ⟨?_, rfl⟩) (by assumption) ?_; go_simp; (try simp only [Act.put, List.setIfInBounds_toArray, List.set_cons_zero, List.set_cons_succ]))
        (refine WG.take (i := 9) rfl (by kernel_rfl) (by kernel_rfl) (by kernel_rfl) (by kernel_rfl) (fun _ _ _ h => h) (Or.inr ⟨?_, rfl⟩) (by assumption) ?_; go_simp; (try simp only [Act.put, List.setIfInBounds_toArray, List.set_cons_zero, List.set_cons_succ]))
        (refine WG.take (i := 10) rfl (by kernel_rfl) (by kernel_rfl) (by kernel_rfl) (by kernel_rfl) (fun _ _ _ h => h) (Or.inr ⟨?_, rfl⟩) (by assumption) ?_; go_simp; (try simp only [Act.put, List.setIfInBounds_toArray, List.set_cons_zero, List.set_cons_succ]))
        (refine WG.take (i := 11) rfl (by kernel_rfl) (by kernel_rfl) (by kernel_rfl) (by kernel_rfl) (fun _ _ _ h => h) (Or.inr ⟨?_, rfl⟩) (by assumption) ?_; go_simp; (try simp only [Act.put, List.setIfInBounds_toArray, List.set_cons_zero, List.set_cons_succ]))
        (refine WG.take (i := 12) rfl (by kernel_rfl) (by kernel_rfl) (by kernel_rfl) (by kernel_rfl) (fun _ _ _ h => h) (Or.inr ⟨?_, rfl⟩) (by assumption) ?_; go_simp; (try simp only [Act.put, List.setIfInBounds_toArray, List.set_cons_zero, List.set_cons_succ]))
        (refine WG.take (i := 13) rfl (by kernel_rfl) (by kernel_rfl) (by kernel_rfl) (by kernel_rfl) (fun _ _ _ h => h) (Or.inr ⟨?_, rfl⟩) (by assumption) ?_; go_simp; (try simp only [Act.put, List.setIfInBounds_toArray, List.set_cons_zero, List.set_cons_succ]))
        (refine WG.take (i := 14) rfl (by kernel_rfl) (by kernel_rfl) (by kernel_rfl) (by kernel_rfl) (fun _ _ _ h => h) (Or.inr ⟨?_, rfl⟩) (by assumption) ?_; go_simp; (try simp only [Act.put, List.setIfInBounds_toArray, List.set_cons_zero, List.set_cons_succ]))
        (refine WG.take (i := 15) rfl (by kernel_rfl) (by kernel_rfl) (by kernel_rfl) (by kernel_rfl) (fun _ _ _ h => h) (Or.inr ⟨?_, rfl⟩) (by assumption) ?_; go_simp; (try simp only [Act.put, List.setIfInBounds_toArray, List.set_cons_zero, List.set_cons_succ]))
        (refine WG.take (i := 16) (v := ?_) rfl (by kernel_rfl) (by kernel_rfl) (by kernel_rfl) (by kernel_rfl) (fun _ _ _ h => h) (Or.inl ⟨by rfl, ?_⟩) (by assumption) ?_; rotate_left; (intro w hSw; (try dsimp only at hSw); go_split_ands; go_simp; (try with_reducible rfl)); (try simp only [Act.put, List.setIfInBounds_toArray, List.set_cons_zero, List.set_cons_succ]))
        refine WG.done (by kernel_rfl) ?_
        go_wp2
        go_roundw
        case rel => exact ⟨k + 1, by omega, by go_num, hid ⟨HNX.out (by rw [HF.out]; rfl), HE.out.trans HE5.out⟩⟩
        case measure => simp [intOf]; omega
      | true =>
        have HF := hid hf
        cases hf2 : freeL ps d x.id with
        | false =>
          have HF2 := hid hf2
          go_wp2
          refine WG.start (fun w' => w'.cell? ⟨b, o + k, none⟩ = some (.slice Ad d.length cd) ∧ w'.cell? ⟨w.heap.size, 0, none⟩ = some (.int .i64 x.id) ∧ w'.cell? ⟨w.heap.size, 1, none⟩ = some (.slice An x.need.length cn)) [15,16] (by kernel_rfl) (by exact KS.out _ HD.out) (fun hHeld => ?_)
          (refine WG.take (i := 0) (v := ?_) rfl (by kernel_rfl) (by kernel_rfl) (by kernel_rfl) (by kernel_rfl) (fun _ _ _ h => h) (Or.inl ⟨by rfl, ?_⟩) (by assumption) ?_; rotate_left; (intro w hSw; (try dsimp only at hSw); go_split_ands; go_simp; (try with_reducible rfl)); (try simp only [Act.put, List.setIfInBounds_toArray, List.set_cons_zero, List.set_cons_succ]))
          (refine WG.take (i := 1) (v := ?_) rfl (by kernel_rfl) (by kernel_rfl) (by kernel_rfl) (by kernel_rfl) (fun _ _ _ h => h) (Or.inl ⟨by rfl, ?_⟩) (by assumption) ?_; rotate_left; (intro w hSw; (try dsimp only at hSw); go_split_ands; go_simp; (try with_reducible rfl)); (try simp only [Act.put, List.setIfInBounds_toArray, List.set_cons_zero, List.set_cons_succ]))
          (refine WG.take (i := 2) (v := ?_) rfl (by kernel_rfl) (by kernel_rfl) (by kernel_rfl) (by kernel_rfl) (fun _ _ _ h => h) (Or.inl ⟨by rfl, ?_⟩) (by assumption) ?_; rotate_left; (intro w hSw; (try dsimp only at hSw); go_split_ands; go_simp; (try with_reducible rfl)); (try simp only [Act.put, List.setIfInBounds_toArray, List.set_cons_zero, List.set_cons_succ]))
          (refine WG.take (i := 3) (v := ?_) rfl (by kernel_rfl) (by kernel_rfl) (by kernel_rfl) (by kernel_rfl) (fun _ _ _ h => h) (Or.inl ⟨by rfl, ?_⟩) (by assumption) ?_; rotate_left; (intro w hSw; (try dsimp only at hSw); go_split_ands; go_simp; (try with_reducible rfl)); (try simp only [Act.put, List.setIfInBounds_toArray, List.set_cons_zero, List.set_cons_succ]))
          (refine WG.take (i := 4) (v := ?_) rfl (by kernel_rfl) (by kernel_rfl) (by kernel_rfl) (by kernel_rfl) (fun _ _ _ h => h) (Or.inl ⟨by rfl, ?_⟩) (by assumption) ?_; rotate_left; (intro w hSw; (try dsimp only at hSw); go_split_ands; go_simp; (try with_reducible rfl)); (try simp only [Act.put, List.setIfInBounds_toArray, List.set_cons_zero, List.set_cons_succ]))
          (refine WG.take (i := 5) (v := ?_) rfl (by kernel_rfl) (by kernel_rfl) (by kernel_rfl) (by kernel_rfl) (fun _ _ _ h => h) (Or.inl ⟨by rfl, ?_⟩) (by assumption) ?_; rotate_left; (intro w hSw; (try dsimp only at hSw); go_split_ands; go_simp; (try with_reducible rfl)); (try simp only [Act.put, List.setIfInBounds_toArray, List.set_cons_zero, List.set_cons_succ]))
          refine WG.one (i := 6) rfl (by kernel_rfl) (fun K hK => ?_)
          go_simp; refine (sL11Fits _ _ _ room d x _ (RI.ext HR0.out (HEW.out.trans (HE.out.trans HD.out))) (RT.ext HDD.out (HEW.out.trans (HE.out.trans HD.out))) (HXV.out.ext (HEW.out.trans (HE.out.trans HD.out))) HLR.out HGO.out HN.out).mono ?_; rintro e5 w5 ⟨rfl, hE5⟩; rw [HF.out]; have HE5 := hid (HD.out.trans hE5); clear hE5; (try dsimp only)
          refine hK.out _ _ (by exact KS.out _ HE5.out) (fun hHeld => ?_)
          clear hK K
          (try simp only [Act.put, List.setIfInBounds_toArray, List.set_cons_zero, List.set_cons_succ])
          (refine WG.take (i := 7) (v := ?_) rfl (by kernel_rfl) (by kernel_rfl) (by kernel_rfl) (by kernel_rfl) (fun _ _ _ h => h) (Or.inl ⟨by rfl, ?_⟩) (by assumption) ?_; rotate_left; (intro w hSw; (try dsimp only at hSw); go_split_ands; go_simp; (try with_reducible rfl)); (try simp only [Act.put, List.setIfInBounds_toArray, List.set_cons_zero, List.set_cons_succ]))
          (refine WG.take (i := 8) (v := ?_) rfl (by kernel_rfl) (by kernel_rfl) (by kernel_rfl) (by kernel_rfl) (fun _ _ _ h => h) (Or.inl ⟨by rfl, ?_⟩) (by assumption) ?_; rotate_left; (intro w hSw; (try dsimp only at hSw); go_split_ands; go_simp; (try with_reducible rfl)); (try simp only [Act.put, List.setIfInBounds_toArray, List.set_cons_zero, List.set_cons_succ]))
          (refine WG.take (i := 9) (v := ?_) rfl (by kernel_rfl) (by kernel_rfl) (by kernel_rfl) (by kernel_rfl) (fun _ _ _ h => h) (Or.inl ⟨by rfl, ?_⟩) (by assumption) ?_; rotate_left; (intro w hSw; (try dsimp only at hSw); go_split_ands; go_simp; (try with_reducible rfl)); (try simp only [Act.put, List.setIfInBounds_toArray, List.set_cons_zero, List.set_cons_succ]))
          (refine WG.take (i := 10) (v := ?_) rfl (by kernel_rfl) (by kernel_rfl) (by kernel_rfl) (by kernel_rfl) (fun _ _ _ h => h) (Or.inl ⟨by rfl, ?_⟩) (by assumption) ?_; rotate_left; (intro w hSw; (try dsimp only at hSw); go_split_ands; go_simp; (try with_reducible rfl)); (try simp only [Act.put, List.setIfInBounds_toArray, List.set_cons_zero, List.set_cons_succ]))
          (refine WG.take (i := 11) (v := ?_) rfl (by kernel_rfl) (by kernel_rfl) (by kernel_rfl) (by kernel_rfl) (fun _ _ _ h => h) (Or.inl ⟨by rfl, ?_⟩) (by assumption) ?_; rotate_left; (intro w hSw; (try dsimp only at hSw); go_split_ands; go_simp; (try with_reducible rfl)); (try simp only [Act.put, List.setIfInBounds_toArray, List.set_cons_zero, List.set_cons_succ]))
          (refine WG.take (i := 12) (v := ?_) rfl (by kernel_rfl) (by kernel_rfl) (by kernel_rfl) (by kernel_rfl) (fun _ _ _ h => h) (Or.inl ⟨by rfl, ?_⟩) (by assumption) ?_; rotate_left; (intro w hSw; (try dsimp only at hSw); go_split_ands; go_simp; (try with_reducible rfl)); (try simp only [Act.put, List.setIfInBounds_toArray, List.set_cons_zero, List.set_cons_succ]))
          (refine WG.take (i := 13) (v := ?_) rfl (by kernel_rfl) (by kernel_rfl) (by kernel_rfl) (by kernel_rfl) (fun _ _ _ h => h) (Or.inl ⟨by rfl, ?_⟩) (by assumption) ?_; rotate_left; (intro w hSw; (try dsimp only at hSw); go_split_ands; go_simp; (try with_reducible rfl)); (try simp only [Act.put, List.setIfInBounds_toArray, List.set_cons_zero, List.set_cons_succ]))
          (refine WG.take (i := 14) (v := ?_) rfl (by kernel_rfl) (by kernel_rfl) (by kernel_rfl) (by kernel_rfl) (fun _ _ _ h => h) (Or.inl ⟨by rfl, ?_⟩) (by assumption) ?_; rotate_left; (intro w hSw; (try dsimp only at hSw); go_split_ands; go_simp; (try with_reducible rfl)); (try simp only [Act.put, List.setIfInBounds_toArray, List.set_cons_zero, List.set_cons_succ]))
          refine WG.last (i := 15) rfl (by kernel_rfl) (by kernel_rfl) (fun K hK => ?_)
          go_simp; refine (sL41Free _ _ ps d x.id _ (RP.ext HP0.out (HEW.out.trans (HE.out.trans HE5.out))) (RT.ext HDD.out (HEW.out.trans (HE.out.trans HE5.out)))).mono ?_; rintro e6 w6 ⟨rfl, hE6⟩; rw [HF2.out]; have HE6 := hid (HE5.out.trans hE6); clear hE6; (try dsimp only)
          refine hK.out _ _ ?_
          clear hK K
          (try simp only [Act.put, List.setIfInBounds_toArray, List.set_cons_zero, List.set_cons_succ])
          refine WG.last (i := 16) rfl (by kernel_rfl) (by kernel_rfl) (fun K hK => ?_)
          go_simp
          refine hK.out _ _ ?_
          clear hK K
          (try simp only [Act.put, List.setIfInBounds_toArray, List.set_cons_zero, List.set_cons_succ])
          refine WG.done (by kernel_rfl) ?_
          go_wp2
          go_roundw
          case rel => exact ⟨k + 1, by omega, by go_num, hid ⟨HNX.out (by rw [HF.out, HF2.out]; rfl), HE.out.trans HE6.out⟩⟩
          case measure => simp [intOf]; omega
        | true =>
          have HF2 := hid hf2
          go_wp2
          refine WG.start (fun w' => w'.cell? ⟨b, o + k, none⟩ = some (.slice Ad d.length cd) ∧ w'.cell? ⟨w.heap.size, 0, none⟩ = some (.int .i64 x.id) ∧ w'.cell? ⟨w.heap.size, 1, none⟩ = some (.slice An x.need.length cn)) [15,16] (by kernel_rfl) (by exact KS.out _ HD.out) (fun hHeld => ?_)
          (refine WG.take (i := 0) (v := ?_) rfl (by kernel_rfl) (by kernel_rfl) (by kernel_rfl) (by kernel_rfl) (fun _ _ _ h => h) (Or.inl ⟨by rfl, ?_⟩) (by assumption) ?_; rotate_left; (intro w hSw; (try dsimp only at hSw); go_split_ands; go_simp; (try with_reducible rfl)); (try simp only [Act.put, List.setIfInBounds_toArray, List.set_cons_zero, List.set_cons_succ]))
          (refine WG.take (i := 1) (v := ?_) rfl (by kernel_rfl) (by kernel_rfl) (by kernel_rfl) (by kernel_rfl) (fun _ _ _ h => h) (Or.inl ⟨by rfl, ?_⟩) (by assumption) ?_; rotate_left; (intro w hSw; (try dsimp only at hSw); go_split_ands; go_simp; (try with_reducible rfl)); (try simp only [Act.put, List.setIfInBounds_toArray, List.set_cons_zero, List.set_cons_succ]))
          (refine WG.take (i := 2) (v := ?_) rfl (by kernel_rfl) (by kernel_rfl) (by kernel_rfl) (by kernel_rfl) (fun _ _ _ h => h) (Or.inl ⟨by rfl, ?_⟩) (by assumption) ?_; rotate_left; (intro w hSw; (try dsimp only at hSw); go_split_ands; go_simp; (try with_reducible rfl)); (try simp only [Act.put, List.setIfInBounds_toArray, List.set_cons_zero, List.set_cons_succ]))
          (refine WG.take (i := 3) (v := ?_) rfl (by kernel_rfl) (by kernel_rfl) (by kernel_rfl) (by kernel_rfl) (fun _ _ _ h => h) (Or.inl ⟨by rfl, ?_⟩) (by assumption) ?_; rotate_left; (intro w hSw; (try dsimp only at hSw); go_split_ands; go_simp; (try with_reducible rfl)); (try simp only [Act.put, List.setIfInBounds_toArray, List.set_cons_zero, List.set_cons_succ]))
          (refine WG.take (i := 4) (v := ?_) rfl (by kernel_rfl) (by kernel_rfl) (by kernel_rfl) (by kernel_rfl) (fun _ _ _ h => h) (Or.inl ⟨by rfl, ?_⟩) (by assumption) ?_; rotate_left; (intro w hSw; (try dsimp only at hSw); go_split_ands; go_simp; (try with_reducible rfl)); (try simp only [Act.put, List.setIfInBounds_toArray, List.set_cons_zero, List.set_cons_succ]))
          (refine WG.take (i := 5) (v := ?_) rfl (by kernel_rfl) (by kernel_rfl) (by kernel_rfl) (by kernel_rfl) (fun _ _ _ h => h) (Or.inl ⟨by rfl, ?_⟩) (by assumption) ?_; rotate_left; (intro w hSw; (try dsimp only at hSw); go_split_ands; go_simp; (try with_reducible rfl)); (try simp only [Act.put, List.setIfInBounds_toArray, List.set_cons_zero, List.set_cons_succ]))
          refine WG.one (i := 6) rfl (by kernel_rfl) (fun K hK => ?_)
          go_simp; refine (sL11Fits _ _ _ room d x _ (RI.ext HR0.out (HEW.out.trans (HE.out.trans HD.out))) (RT.ext HDD.out (HEW.out.trans (HE.out.trans HD.out))) (HXV.out.ext (HEW.out.trans (HE.out.trans HD.out))) HLR.out HGO.out HN.out).mono ?_; rintro e5 w5 ⟨rfl, hE5⟩; rw [HF.out]; have HE5 := hid (HD.out.trans hE5); clear hE5; (try dsimp only)
          refine hK.out _ _ (by exact KS.out _ HE5.out) (fun hHeld => ?_)
          clear hK K
          (try simp only [Act.put, List.setIfInBounds_toArray, List.set_cons_zero, List.set_cons_succ])
          (refine WG.take (i := 7) (v := ?_) rfl (by kernel_rfl) (by kernel_rfl) (by kernel_rfl) (by kernel_rfl) (fun _ _ _ h => h) (Or.inl ⟨by rfl, ?_⟩) (by assumption) ?_; rotate_left; (intro w hSw; (try dsimp only at hSw); go_split_ands; go_simp; (try with_reducible rfl)); (try simp only [Act.put, List.setIfInBounds_toArray, List.set_cons_zero, List.set_cons_succ]))
          (refine WG.take (i := 8) (v := ?_) rfl (by kernel_rfl) (by kernel_rfl) (by kernel_rfl) (by kernel_rfl) (fun _ _ _ h => h) (Or.inl ⟨by rfl, ?_⟩) (by assumption) ?_; rotate_left; (intro w hSw; (try dsimp only at hSw); go_split_ands; go_simp; (try with_reducible rfl)); (try simp only [Act.put, List.setIfInBounds_toArray, List.set_cons_zero, List.set_cons_succ]))
          (refine WG.take (i := 9) (v := ?_) rfl (by kernel_rfl) (by kernel_rfl) (by kernel_rfl) (by kernel_rfl) (fun _ _ _ h => h) (Or.inl ⟨by rfl, ?_⟩) (by assumption) ?_; rotate_left; (intro w hSw; (try dsimp only at hSw); go_split_ands; go_simp; (try with_reducible rfl)); (try simp only [Act.put, List.setIfInBounds_toArray, List.set_cons_zero, List.set_cons_succ]))
          (refine WG.take (i := 10) (v := ?_) rfl (by kernel_rfl) (by kernel_rfl) (by kernel_rfl) (by kernel_rfl) (fun _ _ _ h => h) (Or.inl ⟨by rfl, ?_⟩) (by assumption) ?_; rotate_left; (intro w hSw; (try dsimp only at hSw); go_split_ands; go_simp; (try with_reducible rfl)); (try simp only [Act.put, List.setIfInBounds_toArray, List.set_cons_zero, List.set_cons_succ]))
          (refine WG.take (i := 11) (v := ?_) rfl (by kernel_rfl) (by kernel_rfl) (by kernel_rfl) (by kernel_rfl) (fun _ _ _ h => h) (Or.inl ⟨by rfl, ?_⟩) (by assumption) ?_; rotate_left; (intro w hSw; (try dsimp only at hSw); go_split_ands; go_simp; (try with_reducible rfl)); (try simp only [Act.put, List.setIfInBounds_toArray, List.set_cons_zero, List.set_cons_succ]))
          (refine WG.take (i := 12) (v := ?_) rfl (by kernel_rfl) (by kernel_rfl) (by kernel_rfl) (by kernel_rfl) (fun _ _ _ h => h) (Or.inl ⟨by rfl, ?_⟩) (by assumption) ?_; rotate_left; (intro w hSw; (try dsimp only at hSw); go_split_ands; go_simp; (try with_reducible rfl)); (try simp only [Act.put, List.setIfInBounds_toArray, List.set_cons_zero, List.set_cons_succ]))
          (refine WG.take (i := 13) (v := ?_) rfl (by kernel_rfl) (by kernel_rfl) (by kernel_rfl) (by kernel_rfl) (fun _ _ _ h => h) (Or.inl ⟨by rfl, ?_⟩) (by assumption) ?_; rotate_left; (intro w hSw; (try dsimp only at hSw); go_split_ands; go_simp; (try with_reducible rfl)); (try simp only [Act.put, List.setIfInBounds_toArray, List.set_cons_zero, List.set_cons_succ]))
          (refine WG.take (i := 14) (v := ?_) rfl (by kernel_rfl) (by kernel_rfl) (by kernel_rfl) (by kernel_rfl) (fun _ _ _ h => h) (Or.inl ⟨by rfl, ?_⟩) (by assumption) ?_; rotate_left; (intro w hSw; (try dsimp only at hSw); go_split_ands; go_simp; (try with_reducible rfl)); (try simp only [Act.put, List.setIfInBounds_toArray, List.set_cons_zero, List.set_cons_succ]))
          refine WG.last (i := 15) rfl (by kernel_rfl) (by kernel_rfl) (fun K hK => ?_)
          go_simp; refine (sL41Free _ _ ps d x.id _ (RP.ext HP0.out (HEW.out.trans (HE.out.trans HE5.out))) (RT.ext HDD.out (HEW.out.trans (HE.out.trans HE5.out)))).mono ?_; rintro e6 w6 ⟨rfl, hE6⟩; rw [HF2.out]; have HE6 := hid (HE5.out.trans hE6); clear hE6; (try dsimp only)
          refine hK.out _ _ ?_
          clear hK K
          (try simp only [Act.put, List.setIfInBounds_toArray, List.set_cons_zero, List.set_cons_succ])
          refine WG.last (i := 16) rfl (by kernel_rfl) (by kernel_rfl) (fun K hK => ?_)
          go_simp
          refine hK.out _ _ ?_
          clear hK K
          (try simp only [Act.put, List.setIfInBounds_toArray, List.set_cons_zero, List.set_cons_succ])
          refine WG.done (by kernel_rfl) ?_
          go_wp2
          go_ret
          exact ⟨ret_i (apartAt_hit e.out (by rw [HF.out, HF2.out]; rfl) H.out.1).symm, HEW.out.trans (HE.out.trans HE6.out)⟩
    · go_wp2
      go_ret
      have hk' : k = bs.length := by omega
      subst hk'
      exact ⟨ret_i (apartAt_miss fun j c hj => H.out.1 j c (List.getElem?_eq_some_iff.1 hj).1 hj).symm, HEW.out.trans H.out.2⟩

end Go.Proofs.Ytoaabinpdjcimaa
