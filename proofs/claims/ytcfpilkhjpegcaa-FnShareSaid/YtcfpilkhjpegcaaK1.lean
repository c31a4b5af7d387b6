/- The plain mathematics: vectors, tasks, nodes. No program in sight. -/
namespace Go.Proofs.Ytcfpilkhjpegcaa

/-- a task -/
structure TaskD where
  id : Int
  need : List Int
deriving DecidableEq, Inhabited

/-- a node of a cluster -/
structure UnitD where
  opened : Bool
  tasks : List TaskD
deriving DecidableEq, Inhabited

/-- a cluster -/
structure ClusD where
  room : List Int
  units : List UnitD
deriving DecidableEq, Inhabited

def inB (a l h : Int) : Bool := decide (l ≤ a) && decide (a ≤ h)

/-- the first k numbers are in range -/
def vecTo (xs : List Int) (k : Nat) : Bool := (xs.take k).all fun x => inB x 0 20
def vecOk (xs : List Int) : Bool := (xs.all fun x => inB x 0 20) && xs.length == 3
def roomTo (xs : List Int) (k : Nat) : Bool := (xs.take k).all fun x => decide (1 ≤ x)
def roomOk (xs : List Int) : Bool := (xs.all fun x => decide (1 ≤ x)) && vecOk xs
def fitsTo (a b : List Int) (k : Nat) : Bool := (List.range k).all fun i => decide (a.getD i 0 ≤ b.getD i 0)
def fitsL (a b : List Int) : Bool := fitsTo a b 3
def vecFits (a b : List Int) : Bool := vecOk a && (vecOk b && fitsL a b)
def addTo (a b : List Int) (t : Int) (k : Nat) : List Int := (List.range k).map fun i => a.getD i 0 + t * b.getD i 0
def addL (a b : List Int) (t : Int) : List Int := addTo a b t 3
def loadL (ts : List TaskD) : List Int := ts.foldl (fun acc t => addL acc t.need 1) [0, 0, 0]
def hasId (ts : List TaskD) (id : Int) : Bool := ts.any fun t => t.id == id
/-- a task is fine beside those before it -/
def taskFine (room : List Int) (before : List TaskD) (t : TaskD) : Bool := inB t.id 1 40 && (!hasId before t.id && vecFits t.need room)
def tasksTo (room : List Int) (ts : List TaskD) (k : Nat) : Bool := (List.range k).all fun i => taskFine room (ts.take i) (ts.getD i default)
def tasksOk (room : List Int) (ts : List TaskD) : Bool := roomOk room && (tasksTo room ts ts.length && decide (ts.length ≤ 14))
def binsTo (room : List Int) (bs : List (List TaskD)) (k : Nat) : Bool := (bs.take k).all fun b => fitsL (loadL b) room
def binsOk (room : List Int) (bs : List (List TaskD)) : Bool := tasksOk room bs.flatten && (decide (bs.length ≤ 14) && bs.all fun b => fitsL (loadL b) room)
def sumL (xs : List Int) : Int := xs.foldl (· + ·) 0

theorem take_snoc {α : Type} {xs : List α} {k : Nat} {x : α} (h : xs[k]? = some x) : xs.take (k + 1) = xs.take k ++ [x] := by
  rw [List.take_add_one, h]; rfl

theorem len_beq (n m : Nat) : (((n : Nat) : Int) == (m : Int)) = (n == m) := by
  rw [Bool.eq_iff_iff]; simp; omega
theorem len_beq3 (n : Nat) : (((n : Nat) : Int) == 3) = (n == 3) := len_beq n 3
theorem vecTo_succ {xs : List Int} {k : Nat} {x : Int} (h : xs[k]? = some x) : vecTo xs (k + 1) = (vecTo xs k && inB x 0 20) := by
  unfold vecTo; rw [take_snoc h]; simp
theorem vecTo_all (xs : List Int) : vecTo xs xs.length = xs.all fun x => inB x 0 20 := by unfold vecTo; rw [List.take_length]
theorem all_false_of {α : Type} {p : α → Bool} {xs : List α} {k : Nat} {x : α} (h : xs[k]? = some x) (hp : p x = false) : xs.all p = false :=
  List.all_eq_false.2 ⟨x, List.mem_of_getElem? h, by simp [hp]⟩
theorem roomTo_succ {xs : List Int} {k : Nat} {x : Int} (h : xs[k]? = some x) : roomTo xs (k + 1) = (roomTo xs k && decide (1 ≤ x)) := by
  unfold roomTo; rw [take_snoc h]; simp
theorem fitsTo_succ {a b : List Int} {k : Nat} {x y : Int} (h : a[k]? = some x) (h' : b[k]? = some y) : fitsTo a b (k + 1) = (fitsTo a b k && decide (x ≤ y)) := by
  unfold fitsTo; rw [List.range_succ, List.all_append]; simp [List.getD, h, h']
theorem fitsL_false {a b : List Int} {k : Nat} {x y : Int} (hk : k < 3) (h : a[k]? = some x) (h' : b[k]? = some y) (hxy : y < x) : fitsL a b = false := by
  unfold fitsL fitsTo
  exact List.all_eq_false.2 ⟨k, by simpa using hk, by simp [List.getD, h, h', hxy]⟩
theorem addTo_succ {a b : List Int} {k : Nat} {x y : Int} (t : Int) (h : a[k]? = some x) (h' : b[k]? = some y) : addTo a b t (k + 1) = addTo a b t k ++ [x + t * y] := by
  unfold addTo; rw [List.range_succ, List.map_append]; simp [List.getD, h, h']
theorem addTo_len (a b : List Int) (t : Int) (k : Nat) : (addTo a b t k).length = k := by simp [addTo]
theorem addL_len (a b : List Int) (t : Int) : (addL a b t).length = 3 := addTo_len _ _ _ _
theorem loadL_snoc (ts : List TaskD) (t : TaskD) : loadL (ts ++ [t]) = addL (loadL ts) t.need 1 := by simp [loadL]
theorem loadL_len (ts : List TaskD) : (loadL ts).length = 3 := by
  rcases List.eq_nil_or_concat ts with rfl | ⟨l, t, rfl⟩
  · rfl
  · rw [List.concat_eq_append, loadL_snoc, addL_len]
theorem vecOk_len {xs : List Int} (h : vecOk xs = true) : xs.length = 3 := by simp [vecOk] at h; exact h.2
theorem vecOk_mem {xs : List Int} (h : vecOk xs = true) : ∀ x ∈ xs, 0 ≤ x ∧ x ≤ 20 := by
  simp only [vecOk, Bool.and_eq_true, List.all_eq_true] at h
  intro x hx
  have := h.1 x hx
  simpa [inB] using this

def Bd (M : Int) (xs : List Int) : Prop := ∀ x ∈ xs, -M ≤ x ∧ x ≤ M
theorem Bd.mono {M M' : Int} {xs : List Int} (h : Bd M xs) (hM : M ≤ M') : Bd M' xs := fun x hx => by have := h x hx; omega
theorem Bd.getD {M : Int} {xs : List Int} (h : Bd M xs) (hM : 0 ≤ M) (i : Nat) : -M ≤ xs.getD i 0 ∧ xs.getD i 0 ≤ M := by
  rw [List.getD_eq_getElem?_getD]
  cases hx : xs[i]? with
  | none => simp; omega
  | some x => exact h x (List.mem_of_getElem? hx)
theorem Bd.add {M M' : Int} {a b : List Int} (h : Bd M a) (h' : Bd M' b) (hM : 0 ≤ M) (hM' : 0 ≤ M') (t : Int) (ht : t = 1 ∨ t = -1) : Bd (M + M') (addL a b t) := by
  intro x hx
  simp only [addL, addTo, List.mem_map] at hx
  obtain ⟨i, _, rfl⟩ := hx
  have h1 := h.getD hM i
  have h2 := h'.getD hM' i
  rcases ht with rfl | rfl <;> omega
/-- tasks whose load may be reckoned -/
def GoodTs (ts : List TaskD) : Prop := ts.length ≤ 900 ∧ ∀ t ∈ ts, t.need.length = 3 ∧ Bd 1000 t.need
theorem load_bd_from : ∀ (ts : List TaskD) (acc : List Int) (M : Int), 0 ≤ M → Bd M acc → (∀ t ∈ ts, t.need.length = 3 ∧ Bd 1000 t.need) → Bd (M + 1000 * (ts.length : Int)) (ts.foldl (fun acc t => addL acc t.need 1) acc)
  | [], acc, M, _, h, _ => by simpa using h
  | t :: ts, acc, M, hM, h, hg => by
    have h1 := Bd.add h (hg t (by simp)).2 hM (by omega) 1 (.inl rfl)
    have h2 := load_bd_from ts _ (M + 1000) (by omega) h1 (fun u hu => hg u (by simp [hu]))
    simp only [List.foldl_cons, List.length_cons]
    exact h2.mono (by omega)
theorem load_bd {ts : List TaskD} (h : GoodTs ts) : Bd 1000000 (loadL ts) := by
  have := load_bd_from ts [0, 0, 0] 0 (by omega) (by intro x hx; simp at hx; omega) h.2
  exact Bd.mono this (by have := h.1; omega)
theorem GoodTs.take {ts : List TaskD} (h : GoodTs ts) (k : Nat) : GoodTs (ts.take k) := ⟨by have := h.1; rw [List.length_take]; omega, fun t ht => h.2 t (List.mem_of_mem_take ht)⟩
theorem loadL_take_succ {ts : List TaskD} {k : Nat} {t : TaskD} (h : ts[k]? = some t) : loadL (ts.take (k + 1)) = addL (loadL (ts.take k)) t.need 1 := by rw [take_snoc h, loadL_snoc]

theorem hasId_take_succ {ts : List TaskD} {k : Nat} {t : TaskD} (h : ts[k]? = some t) (id : Int) : hasId (ts.take (k + 1)) id = (hasId (ts.take k) id || t.id == id) := by
  unfold hasId; rw [take_snoc h]; simp
theorem hasId_hit {ts : List TaskD} {k n : Nat} {t : TaskD} (h : ts[k]? = some t) (hk : k < n) {id : Int} (he : t.id = id) : hasId (ts.take n) id = true := by
  unfold hasId
  rw [List.any_eq_true]
  exact ⟨t, List.mem_of_getElem? (i := k) (by rw [List.getElem?_take, if_pos hk, h]), by simp [he]⟩
theorem tasksTo_succ (room : List Int) {ts : List TaskD} {k : Nat} {t : TaskD} (h : ts[k]? = some t) : tasksTo room ts (k + 1) = (tasksTo room ts k && taskFine room (ts.take k) t) := by
  unfold tasksTo; rw [List.range_succ, List.all_append]; simp [List.getD, h]
theorem tasksOk_bad {room : List Int} {ts : List TaskD} {k : Nat} {t : TaskD} (h : ts[k]? = some t) (hf : taskFine room (ts.take k) t = false) : tasksOk room ts = false := by
  have : tasksTo room ts ts.length = false := by
    unfold tasksTo
    exact List.all_eq_false.2 ⟨k, by simpa using (List.getElem?_eq_some_iff.1 h).1, by simp [List.getD, h, hf]⟩
  simp [tasksOk, this]
theorem tasksOk_fine {room : List Int} {ts : List TaskD} (h : tasksOk room ts = true) {k : Nat} {t : TaskD} (hk : ts[k]? = some t) : taskFine room (ts.take k) t = true := by
  simp only [tasksOk, tasksTo, Bool.and_eq_true, List.all_eq_true] at h
  have := h.2.1 k (by simpa using (List.getElem?_eq_some_iff.1 hk).1)
  simpa [List.getD, hk] using this
theorem tasksOk_mem {room : List Int} {ts : List TaskD} (h : tasksOk room ts = true) {t : TaskD} (ht : t ∈ ts) : inB t.id 1 40 = true ∧ vecFits t.need room = true := by
  obtain ⟨k, hk⟩ := List.getElem?_of_mem ht
  have := tasksOk_fine h hk
  simp only [taskFine, Bool.and_eq_true] at this
  exact ⟨this.1, this.2.2⟩
theorem vecFits_ok {a b : List Int} (h : vecFits a b = true) : vecOk a = true ∧ vecOk b = true ∧ fitsL a b = true := by simpa [vecFits] using h
theorem vecOk_bd {a : List Int} (h : vecOk a = true) : Bd 20 a := fun x hx => by have := vecOk_mem h x hx; omega
theorem tasksOk_len {room : List Int} {ts : List TaskD} (h : tasksOk room ts = true) : ts.length ≤ 14 := by simp [tasksOk] at h; exact h.2.2
theorem tasksOk_room {room : List Int} {ts : List TaskD} (h : tasksOk room ts = true) : roomOk room = true := by simp only [tasksOk, Bool.and_eq_true] at h; exact h.1
theorem roomOk_vec {room : List Int} (h : roomOk room = true) : vecOk room = true := by simp only [roomOk, Bool.and_eq_true] at h; exact h.2
theorem tasksOk_good {room : List Int} {ts : List TaskD} (h : tasksOk room ts = true) : GoodTs ts :=
  ⟨by have := tasksOk_len h; omega, fun t ht => by
    have h1 := (vecFits_ok (tasksOk_mem h ht).2).1
    exact ⟨vecOk_len h1, (vecOk_bd h1).mono (by omega)⟩⟩
theorem flatten_take_succ {α : Type} {bs : List (List α)} {k : Nat} {b : List α} (h : bs[k]? = some b) : (bs.take (k + 1)).flatten = (bs.take k).flatten ++ b := by rw [take_snoc h]; simp
theorem flatten_take_le {α : Type} (bs : List (List α)) (k : Nat) : (bs.take k).flatten.length ≤ bs.flatten.length := by
  have h : bs.flatten = (bs.take k).flatten ++ (bs.drop k).flatten := by rw [← List.flatten_append, List.take_append_drop]
  rw [h, List.length_append]; omega
theorem binsOk_tasks {room : List Int} {bs : List (List TaskD)} (h : tasksOk room bs.flatten = true) {b : List TaskD} (hb : b ∈ bs) : GoodTs b := by
  have hg := tasksOk_good h
  have hsub : ∀ t ∈ b, t ∈ bs.flatten := fun t ht => List.mem_flatten.2 ⟨b, hb, ht⟩
  refine ⟨?_, fun t ht => hg.2 t (hsub t ht)⟩
  have : b.length ≤ bs.flatten.length := by
    obtain ⟨k, hk⟩ := List.getElem?_of_mem hb
    have := flatten_take_le bs (k + 1)
    rw [flatten_take_succ hk, List.length_append] at this
    omega
  have := hg.1
  omega
theorem binsTo_succ (room : List Int) {bs : List (List TaskD)} {k : Nat} {b : List TaskD} (h : bs[k]? = some b) : binsTo room bs (k + 1) = (binsTo room bs k && fitsL (loadL b) room) := by
  unfold binsTo; rw [take_snoc h]; simp
/-- where a task is -/
def whereL (bs : List (List TaskD)) (id : Int) : Int := match bs.findIdx? (fun b => hasId b id) with | some i => i | none => -1
theorem whereL_hit {bs : List (List TaskD)} {id : Int} {k : Nat} {b : List TaskD} (hb : bs[k]? = some b) (h : hasId b id = true) (hn : ∀ (j : Nat) c, j < k → bs[j]? = some c → hasId c id = false) : whereL bs id = k := by
  have hk : k < bs.length := (List.getElem?_eq_some_iff.1 hb).1
  have hbk : bs[k] = b := (List.getElem?_eq_some_iff.1 hb).2
  have : bs.findIdx? (fun b => hasId b id) = some k := by
    rw [List.findIdx?_eq_some_iff_getElem]
    exact ⟨hk, by rw [hbk]; exact h, fun j hj => by simpa using hn j bs[j] hj (List.getElem?_eq_getElem (by omega))⟩
  unfold whereL
  rw [this]
theorem whereL_miss {bs : List (List TaskD)} {id : Int} (hn : ∀ (j : Nat) c, bs[j]? = some c → hasId c id = false) : whereL bs id = -1 := by
  have : bs.findIdx? (fun b => hasId b id) = none := by
    rw [List.findIdx?_eq_none_iff]
    intro b hb
    obtain ⟨k, hk⟩ := List.getElem?_of_mem hb
    exact hn k b hk
  unfold whereL
  rw [this]

def clusTo (us : List UnitD) (k : Nat) : Bool := (us.take k).all fun u => u.opened || u.tasks.isEmpty
def clusOk (c : ClusD) : Bool := (c.units.all fun u => u.opened || u.tasks.isEmpty) && (inB c.units.length 1 10 && binsOk c.room (c.units.map (·.tasks)))
theorem clusTo_succ {us : List UnitD} {k : Nat} {u : UnitD} (h : us[k]? = some u) : clusTo us (k + 1) = (clusTo us k && (u.opened || u.tasks.isEmpty)) := by
  unfold clusTo; rw [take_snoc h]; simp
theorem clusOk_bad {c : ClusD} {k : Nat} {u : UnitD} (h : c.units[k]? = some u) (ho : u.opened = false) (ht : 0 < u.tasks.length) : clusOk c = false := by
  unfold clusOk
  rw [all_false_of h]
  · rfl
  · cases hu : u.tasks with
    | nil => simp [hu] at ht
    | cons => simp [ho]
theorem tasks_take_succ {us : List UnitD} {k : Nat} {u : UnitD} (h : us[k]? = some u) : (us.take (k + 1)).map (·.tasks) = (us.take k).map (·.tasks) ++ [u.tasks] := by rw [take_snoc h]; simp

/-- how often a need fits what is left, the first k dimensions -/
def timesTo (left need : List Int) (k : Nat) : Int := (List.range k).foldl (fun n i => if 0 < need.getD i 0 then min n (left.getD i 0 / need.getD i 0) else n) 20
def timesL (left need : List Int) : Int := timesTo left need 3
theorem timesTo_succ {left need : List Int} {k : Nat} {x y : Int} (h : left[k]? = some x) (h' : need[k]? = some y) : timesTo left need (k + 1) = if 0 < y then min (timesTo left need k) (x / y) else timesTo left need k := by
  unfold timesTo; rw [List.range_succ, List.foldl_append]; simp [List.getD, h, h']
def leftL (room : List Int) (ts : List TaskD) : List Int := addL room (loadL ts) (-1)
def needOk (need : List Int) : Bool := vecOk need && decide (0 < sumL need)
def spareTo (c : ClusD) (need : List Int) (k : Nat) : Int := (c.units.take k).foldl (fun n u => if u.opened then n + timesL (leftL c.room u.tasks) need else n) 0
def spareL (c : ClusD) (need : List Int) : Int := spareTo c need c.units.length
theorem spareTo_succ {c : ClusD} {k : Nat} {u : UnitD} (h : c.units[k]? = some u) (need : List Int) : spareTo c need (k + 1) = if u.opened then spareTo c need k + timesL (leftL c.room u.tasks) need else spareTo c need k := by
  unfold spareTo; rw [take_snoc h, List.foldl_append]; rfl
def spareN (c : ClusD) (need : List Int) : Int := if clusOk c && needOk need then spareL c need else -1

end Go.Proofs.Ytcfpilkhjpegcaa

/- What a valid cluster is. No program in sight. -/
namespace Go.Proofs.Ytcfpilkhjpegcaa

theorem clusOk_bins {c : ClusD} (h : clusOk c = true) : binsOk c.room (c.units.map (·.tasks)) = true := by
  simp only [clusOk, Bool.and_eq_true] at h; exact h.2.2
theorem clusOk_len {c : ClusD} (h : clusOk c = true) : 1 ≤ c.units.length ∧ c.units.length ≤ 10 := by
  simp only [clusOk, Bool.and_eq_true] at h
  have := h.2.1
  simp [inB] at this
  omega
theorem binsOk_tk {room : List Int} {bs : List (List TaskD)} (h : binsOk room bs = true) : tasksOk room bs.flatten = true := by simp only [binsOk, Bool.and_eq_true] at h; exact h.1
theorem binsOk_fits {room : List Int} {bs : List (List TaskD)} (h : binsOk room bs = true) {b : List TaskD} (hb : b ∈ bs) : fitsL (loadL b) room = true := by
  simp only [binsOk, Bool.and_eq_true, List.all_eq_true] at h; exact h.2.2 b hb
theorem clusOk_room {c : ClusD} (h : clusOk c = true) : roomOk c.room = true := tasksOk_room (binsOk_tk (clusOk_bins h))
theorem clusOk_unit {c : ClusD} (h : clusOk c = true) {u : UnitD} (hu : u ∈ c.units) : GoodTs u.tasks ∧ fitsL (loadL u.tasks) c.room = true := by
  have hb : u.tasks ∈ c.units.map (·.tasks) := List.mem_map.2 ⟨u, hu, rfl⟩
  exact ⟨binsOk_tasks (binsOk_tk (clusOk_bins h)) hb, binsOk_fits (clusOk_bins h) hb⟩
theorem fitsL_at {a b : List Int} (h : fitsL a b = true) {i : Nat} (hi : i < 3) : a.getD i 0 ≤ b.getD i 0 := by
  simp only [fitsL, fitsTo, List.all_eq_true] at h
  simpa using h i (by simpa using hi)
theorem fitsL_of {a b : List Int} (h : ∀ i, i < 3 → a.getD i 0 ≤ b.getD i 0) : fitsL a b = true := by
  simp only [fitsL, fitsTo, List.all_eq_true]
  intro i hi
  simpa using h i (by simpa using hi)
def Nn (M : Int) (xs : List Int) : Prop := ∀ x ∈ xs, 0 ≤ x ∧ x ≤ M
theorem left_nn {room : List Int} {ts : List TaskD} (hr : vecOk room = true) (hg : GoodTs ts) (hf : fitsL (loadL ts) room = true) : Nn 10000000 (leftL room ts) := by
  intro x hx
  simp only [leftL, addL, addTo, List.mem_map] at hx
  obtain ⟨i, hi, rfl⟩ := hx
  have h1 := fitsL_at hf (i := i) (by simpa using hi)
  have h2 := (load_bd hg).getD (by omega) i
  have h3 := (vecOk_bd hr).getD (by omega) i
  omega
theorem vecOk_nn {xs : List Int} (h : vecOk xs = true) : Nn 10000000 xs := fun x hx => by have := vecOk_mem h x hx; omega
theorem leftL_len (room : List Int) (ts : List TaskD) : (leftL room ts).length = 3 := addL_len _ _ _

theorem Nn.getD {M : Int} {xs : List Int} (h : Nn M xs) (hM : 0 ≤ M) (i : Nat) : 0 ≤ xs.getD i 0 ∧ xs.getD i 0 ≤ M := by
  rw [List.getD_eq_getElem?_getD]
  cases hx : xs[i]? with
  | none => simp; omega
  | some x => exact h x (List.mem_of_getElem? hx)
theorem timesTo_bd {M : Int} {left need : List Int} (hl : Nn M left) (hM : 0 ≤ M) : ∀ k, 0 ≤ timesTo left need k ∧ timesTo left need k ≤ 20
  | 0 => by simp [timesTo]
  | k + 1 => by
    have ih := timesTo_bd (need := need) hl hM k
    have e : timesTo left need (k + 1) = if 0 < need.getD k 0 then min (timesTo left need k) (left.getD k 0 / need.getD k 0) else timesTo left need k := by
      unfold timesTo; rw [List.range_succ, List.foldl_append]; rfl
    rw [e]
    split
    · rename_i hp
      have h1 := (hl.getD hM k).1
      have : 0 ≤ left.getD k 0 / need.getD k 0 := Int.ediv_nonneg h1 (by omega)
      omega
    · exact ih
theorem spareTo_bd {c : ClusD} (h : clusOk c = true) (need : List Int) : ∀ k, k ≤ c.units.length → 0 ≤ spareTo c need k ∧ spareTo c need k ≤ 20 * k
  | 0, _ => by simp [spareTo]
  | k + 1, hk => by
    have ih := spareTo_bd h need k (by omega)
    have hx : c.units[k]? = some c.units[k] := List.getElem?_eq_getElem (by omega)
    rw [spareTo_succ hx]
    have hu := clusOk_unit h (List.getElem_mem (by omega : k < c.units.length))
    have hb := timesTo_bd (need := need) (left_nn (roomOk_vec (clusOk_room h)) hu.1 hu.2) (by omega) 3
    unfold timesL
    split <;> omega

end Go.Proofs.Ytcfpilkhjpegcaa

/- Nodes that would have to be opened. No program in sight. -/
namespace Go.Proofs.Ytcfpilkhjpegcaa

/-- the open ones of the first k nodes -/
def openTo (us : List UnitD) (k : Nat) : Nat := (us.take k).countP fun u => u.opened
def openN (c : ClusD) : Nat := openTo c.units c.units.length
theorem openTo_succ {us : List UnitD} {k : Nat} {u : UnitD} (h : us[k]? = some u) : openTo us (k + 1) = if u.opened then openTo us k + 1 else openTo us k := by
  unfold openTo
  rw [take_snoc h, List.countP_append]
  cases hu : u.opened <;> simp [hu]
theorem openTo_le (us : List UnitD) (k : Nat) : openTo us k ≤ us.length := by
  unfold openTo
  have h1 : (us.take k).countP (fun u => u.opened) ≤ (us.take k).length := List.countP_le_length
  have h2 := List.length_take_le' k us
  omega
/-- the first number of nodes that is enough, or -1 -/
def enough (have_ full want : Int) (m : Nat) : Int := match (List.range m).findIdx? (fun n : Nat => decide (want ≤ have_ + (n : Int) * full)) with | some i => i | none => -1
theorem enough_hit {h f want : Int} {m k : Nat} (hk : k < m) (hp : want ≤ h + (k : Int) * f) (hn : ∀ j : Nat, j < k → h + (j : Int) * f < want) : enough h f want m = k := by
  have : (List.range m).findIdx? (fun n : Nat => decide (want ≤ h + (n : Int) * f)) = some k := by
    rw [List.findIdx?_eq_some_iff_getElem]
    refine ⟨by simpa using hk, by simpa using hp, fun j hj => ?_⟩
    have := hn j hj
    simp
    omega
  unfold enough
  rw [this]
theorem enough_miss {h f want : Int} {m : Nat} (hn : ∀ j : Nat, j < m → h + (j : Int) * f < want) : enough h f want m = -1 := by
  have : (List.range m).findIdx? (fun n : Nat => decide (want ≤ h + (n : Int) * f)) = none := by
    rw [List.findIdx?_eq_none_iff]
    intro j hj
    have := hn j (by simpa using hj)
    simp
    omega
  unfold enough
  rw [this]
def outN (c : ClusD) (need : List Int) (want : Int) : Int := if clusOk c && needOk need && inB want 0 999 then enough (spareL c need) (timesL c.room need) want (c.units.length - openN c + 1) else -1
theorem leftL_nil {room : List Int} (h : room.length = 3) : leftL room [] = room := by
  match room, h with
  | [a, b, c], _ => simp [leftL, addL, addTo, loadL, List.range, List.range.loop]
theorem full_bd {c : ClusD} (h : clusOk c = true) (need : List Int) : 0 ≤ timesL c.room need ∧ timesL c.room need ≤ 20 := timesTo_bd (M := 20) (fun x hx => vecOk_mem (roomOk_vec (clusOk_room h)) x hx) (by omega) 3
theorem spare_bd {c : ClusD} (h : clusOk c = true) (need : List Int) : 0 ≤ spareL c need ∧ spareL c need ≤ 200 := by
  have h1 := spareTo_bd h need c.units.length (Nat.le_refl _)
  have h2 := (clusOk_len h).2
  unfold spareL
  omega
theorem mul_bd {k f : Int} (hk0 : 0 ≤ k) (hk : k ≤ 100) (hf0 : 0 ≤ f) (hf : f ≤ 20) : 0 ≤ k * f ∧ k * f ≤ 2000 := by
  have h1 : 0 ≤ k * f := Int.mul_nonneg hk0 hf0
  have h2 : k * f ≤ 100 * 20 := Int.mul_le_mul hk hf hf0 (by omega)
  omega

end Go.Proofs.Ytcfpilkhjpegcaa

/- A task is taken out of a row; a task beside a row's tasks. No program in sight. -/
namespace Go.Proofs.Ytcfpilkhjpegcaa

/-- a task fits beside tasks -/
def l11fits (room : List Int) (b : List TaskD) (t : TaskD) : Bool := fitsL (addL (loadL b) t.need 1) room
def takeL (id : Int) (ts : List TaskD) : List TaskD := ts.filter fun t => !(t.id == id)
def lastL (id : Int) (ts : List TaskD) : TaskD := ts.foldl (fun x t => if t.id == id then t else x) ⟨0, []⟩
theorem takeL_snoc (id : Int) (ts : List TaskD) (t : TaskD) : takeL id (ts ++ [t]) = if t.id == id then takeL id ts else takeL id ts ++ [t] := by
  unfold takeL
  rw [List.filter_append]
  cases h : t.id == id <;> simp [h]
theorem lastL_snoc (id : Int) (ts : List TaskD) (t : TaskD) : lastL id (ts ++ [t]) = if t.id == id then t else lastL id ts := by simp [lastL, List.foldl_append]

end Go.Proofs.Ytcfpilkhjpegcaa
