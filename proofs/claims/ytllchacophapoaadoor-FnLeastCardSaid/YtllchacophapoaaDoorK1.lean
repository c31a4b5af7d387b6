/- The plain mathematics: vectors, tasks, nodes. No program in sight. -/
namespace Go.Proofs.YtllchacophapoaaDoor

/-- a task -/
structure TaskD where
  id : Int
  need : List Int
deriving DecidableEq, Inhabited

/-- a node of a cluster -/
structure UnitD where
  opened : Bool
  tasks : List TaskD
deriving DecidableEq, Inhabited

/-- a cluster -/
structure ClusD where
  room : List Int
  units : List UnitD
deriving DecidableEq, Inhabited

def inB (a l h : Int) : Bool := decide (l ≤ a) && decide (a ≤ h)

/-- the first k numbers are in range -/
def vecTo (xs : List Int) (k : Nat) : Bool := (xs.take k).all fun x => inB x 0 20
def vecOk (xs : List Int) : Bool := (xs.all fun x => inB x 0 20) && xs.length == 3
def roomTo (xs : List Int) (k : Nat) : Bool := (xs.take k).all fun x => decide (1 ≤ x)
def roomOk (xs : List Int) : Bool := (xs.all fun x => decide (1 ≤ x)) && vecOk xs
def fitsTo (a b : List Int) (k : Nat) : Bool := (List.range k).all fun i => decide (a.getD i 0 ≤ b.getD i 0)
def fitsL (a b : List Int) : Bool := fitsTo a b 3
def vecFits (a b : List Int) : Bool := vecOk a && (vecOk b && fitsL a b)
def addTo (a b : List Int) (t : Int) (k : Nat) : List Int := (List.range k).map fun i => a.getD i 0 + t * b.getD i 0
def addL (a b : List Int) (t : Int) : List Int := addTo a b t 3
def loadL (ts : List TaskD) : List Int := ts.foldl (fun acc t => addL acc t.need 1) [0, 0, 0]
def hasId (ts : List TaskD) (id : Int) : Bool := ts.any fun t => t.id == id
/-- a task is fine beside those before it -/
def taskFine (room : List Int) (before : List TaskD) (t : TaskD) : Bool := inB t.id 1 40 && (!hasId before t.id && vecFits t.need room)
def tasksTo (room : List Int) (ts : List TaskD) (k : Nat) : Bool := (List.range k).all fun i => taskFine room (ts.take i) (ts.getD i default)
def tasksOk (room : List Int) (ts : List TaskD) : Bool := roomOk room && (tasksTo room ts ts.length && decide (ts.length ≤ 14))
def binsTo (room : List Int) (bs : List (List TaskD)) (k : Nat) : Bool := (bs.take k).all fun b => fitsL (loadL b) room
def binsOk (room : List Int) (bs : List (List TaskD)) : Bool := tasksOk room bs.flatten && (decide (bs.length ≤ 14) && bs.all fun b => fitsL (loadL b) room)
def sumL (xs : List Int) : Int := xs.foldl (· + ·) 0

theorem take_snoc {α : Type} {xs : List α} {k : Nat} {x : α} (h : xs[k]? = some x) : xs.take (k + 1) = xs.take k ++ [x] := by
  rw [List.take_add_one, h]; rfl

theorem len_beq (n m : Nat) : (((n : Nat) : Int) == (m : Int)) = (n == m) := by
  rw [Bool.eq_iff_iff]; simp; omega
theorem len_beq3 (n : Nat) : (((n : Nat) : Int) == 3) = (n == 3) := len_beq n 3
theorem vecTo_succ {xs : List Int} {k : Nat} {x : Int} (h : xs[k]? = some x) : vecTo xs (k + 1) = (vecTo xs k && inB x 0 20) := by
  unfold vecTo; rw [take_snoc h]; simp
theorem vecTo_all (xs : List Int) : vecTo xs xs.length = xs.all fun x => inB x 0 20 := by unfold vecTo; rw [List.take_length]
theorem all_false_of {α : Type} {p : α → Bool} {xs : List α} {k : Nat} {x : α} (h : xs[k]? = some x) (hp : p x = false) : xs.all p = false :=
  List.all_eq_false.2 ⟨x, List.mem_of_getElem? h, by simp [hp]⟩
theorem roomTo_succ {xs : List Int} {k : Nat} {x : Int} (h : xs[k]? = some x) : roomTo xs (k + 1) = (roomTo xs k && decide (1 ≤ x)) := by
  unfold roomTo; rw [take_snoc h]; simp
theorem fitsTo_succ {a b : List Int} {k : Nat} {x y : Int} (h : a[k]? = some x) (h' : b[k]? = some y) : fitsTo a b (k + 1) = (fitsTo a b k && decide (x ≤ y)) := by
  unfold fitsTo; rw [List.range_succ, List.all_append]; simp [List.getD, h, h']
theorem fitsL_false {a b : List Int} {k : Nat} {x y : Int} (hk : k < 3) (h : a[k]? = some x) (h' : b[k]? = some y) (hxy : y < x) : fitsL a b = false := by
  unfold fitsL fitsTo
  exact List.all_eq_false.2 ⟨k, by simpa using hk, by simp [List.getD, h, h', hxy]⟩
theorem addTo_succ {a b : List Int} {k : Nat} {x y : Int} (t : Int) (h : a[k]? = some x) (h' : b[k]? = some y) : addTo a b t (k + 1) = addTo a b t k ++ [x + t * y] := by
  unfold addTo; rw [List.range_succ, List.map_append]; simp [List.getD, h, h']
theorem addTo_len (a b : List Int) (t : Int) (k : Nat) : (addTo a b t k).length = k := by simp [addTo]
theorem addL_len (a b : List Int) (t : Int) : (addL a b t).length = 3 := addTo_len _ _ _ _
theorem loadL_snoc (ts : List TaskD) (t : TaskD) : loadL (ts ++ [t]) = addL (loadL ts) t.need 1 := by simp [loadL]
theorem loadL_len (ts : List TaskD) : (loadL ts).length = 3 := by
  rcases List.eq_nil_or_concat ts with rfl | ⟨l, t, rfl⟩
  · rfl
  · rw [List.concat_eq_append, loadL_snoc, addL_len]
theorem vecOk_len {xs : List Int} (h : vecOk xs = true) : xs.length = 3 := by simp [vecOk] at h; exact h.2
theorem vecOk_mem {xs : List Int} (h : vecOk xs = true) : ∀ x ∈ xs, 0 ≤ x ∧ x ≤ 20 := by
  simp only [vecOk, Bool.and_eq_true, List.all_eq_true] at h
  intro x hx
  have := h.1 x hx
  simpa [inB] using this

def Bd (M : Int) (xs : List Int) : Prop := ∀ x ∈ xs, -M ≤ x ∧ x ≤ M
theorem Bd.mono {M M' : Int} {xs : List Int} (h : Bd M xs) (hM : M ≤ M') : Bd M' xs := fun x hx => by have := h x hx; omega
theorem Bd.getD {M : Int} {xs : List Int} (h : Bd M xs) (hM : 0 ≤ M) (i : Nat) : -M ≤ xs.getD i 0 ∧ xs.getD i 0 ≤ M := by
  rw [List.getD_eq_getElem?_getD]
  cases hx : xs[i]? with
  | none => simp; omega
  | some x => exact h x (List.mem_of_getElem? hx)
theorem Bd.add {M M' : Int} {a b : List Int} (h : Bd M a) (h' : Bd M' b) (hM : 0 ≤ M) (hM' : 0 ≤ M') (t : Int) (ht : t = 1 ∨ t = -1) : Bd (M + M') (addL a b t) := by
  intro x hx
  simp only [addL, addTo, List.mem_map] at hx
  obtain ⟨i, _, rfl⟩ := hx
  have h1 := h.getD hM i
  have h2 := h'.getD hM' i
  rcases ht with rfl | rfl <;> omega
/-- tasks whose load may be reckoned -/
def GoodTs (ts : List TaskD) : Prop := ts.length ≤ 900 ∧ ∀ t ∈ ts, t.need.length = 3 ∧ Bd 1000 t.need
theorem load_bd_from : ∀ (ts : List TaskD) (acc : List Int) (M : Int), 0 ≤ M → Bd M acc → (∀ t ∈ ts, t.need.length = 3 ∧ Bd 1000 t.need) → Bd (M + 1000 * (ts.length : Int)) (ts.foldl (fun acc t => addL acc t.need 1) acc)
  | [], acc, M, _, h, _ => by simpa using h
  | t :: ts, acc, M, hM, h, hg => by
    have h1 := Bd.add h (hg t (by simp)).2 hM (by omega) 1 (.inl rfl)
    have h2 := load_bd_from ts _ (M + 1000) (by omega) h1 (fun u hu => hg u (by simp [hu]))
    simp only [List.foldl_cons, List.length_cons]
    exact h2.mono (by omega)
theorem load_bd {ts : List TaskD} (h : GoodTs ts) : Bd 1000000 (loadL ts) := by
  have := load_bd_from ts [0, 0, 0] 0 (by omega) (by intro x hx; simp at hx; omega) h.2
  exact Bd.mono this (by have := h.1; omega)
theorem GoodTs.take {ts : List TaskD} (h : GoodTs ts) (k : Nat) : GoodTs (ts.take k) := ⟨by have := h.1; rw [List.length_take]; omega, fun t ht => h.2 t (List.mem_of_mem_take ht)⟩
theorem loadL_take_succ {ts : List TaskD} {k : Nat} {t : TaskD} (h : ts[k]? = some t) : loadL (ts.take (k + 1)) = addL (loadL (ts.take k)) t.need 1 := by rw [take_snoc h, loadL_snoc]

theorem hasId_take_succ {ts : List TaskD} {k : Nat} {t : TaskD} (h : ts[k]? = some t) (id : Int) : hasId (ts.take (k + 1)) id = (hasId (ts.take k) id || t.id == id) := by
  unfold hasId; rw [take_snoc h]; simp
theorem hasId_hit {ts : List TaskD} {k n : Nat} {t : TaskD} (h : ts[k]? = some t) (hk : k < n) {id : Int} (he : t.id = id) : hasId (ts.take n) id = true := by
  unfold hasId
  rw [List.any_eq_true]
  exact ⟨t, List.mem_of_getElem? (i := k) (by rw [List.getElem?_take, if_pos hk, h]), by simp [he]⟩
theorem tasksTo_succ (room : List Int) {ts : List TaskD} {k : Nat} {t : TaskD} (h : ts[k]? = some t) : tasksTo room ts (k + 1) = (tasksTo room ts k && taskFine room (ts.take k) t) := by
  unfold tasksTo; rw [List.range_succ, List.all_append]; simp [List.getD, h]
theorem tasksOk_bad {room : List Int} {ts : List TaskD} {k : Nat} {t : TaskD} (h : ts[k]? = some t) (hf : taskFine room (ts.take k) t = false) : tasksOk room ts = false := by
  have : tasksTo room ts ts.length = false := by
    unfold tasksTo
    exact List.all_eq_false.2 ⟨k, by simpa using (List.getElem?_eq_some_iff.1 h).1, by simp [List.getD, h, hf]⟩
  simp [tasksOk, this]
theorem tasksOk_fine {room : List Int} {ts : List TaskD} (h : tasksOk room ts = true) {k : Nat} {t : TaskD} (hk : ts[k]? = some t) : taskFine room (ts.take k) t = true := by
  simp only [tasksOk, tasksTo, Bool.and_eq_true, List.all_eq_true] at h
  have := h.2.1 k (by simpa using (List.getElem?_eq_some_iff.1 hk).1)
  simpa [List.getD, hk] using this
theorem tasksOk_mem {room : List Int} {ts : List TaskD} (h : tasksOk room ts = true) {t : TaskD} (ht : t ∈ ts) : inB t.id 1 40 = true ∧ vecFits t.need room = true := by
  obtain ⟨k, hk⟩ := List.getElem?_of_mem ht
  have := tasksOk_fine h hk
  simp only [taskFine, Bool.and_eq_true] at this
  exact ⟨this.1, this.2.2⟩
theorem vecFits_ok {a b : List Int} (h : vecFits a b = true) : vecOk a = true ∧ vecOk b = true ∧ fitsL a b = true := by simpa [vecFits] using h
theorem vecOk_bd {a : List Int} (h : vecOk a = true) : Bd 20 a := fun x hx => by have := vecOk_mem h x hx; omega
theorem tasksOk_len {room : List Int} {ts : List TaskD} (h : tasksOk room ts = true) : ts.length ≤ 14 := by simp [tasksOk] at h; exact h.2.2
theorem tasksOk_room {room : List Int} {ts : List TaskD} (h : tasksOk room ts = true) : roomOk room = true := by simp only [tasksOk, Bool.and_eq_true] at h; exact h.1
theorem roomOk_vec {room : List Int} (h : roomOk room = true) : vecOk room = true := by simp only [roomOk, Bool.and_eq_true] at h; exact h.2
theorem tasksOk_good {room : List Int} {ts : List TaskD} (h : tasksOk room ts = true) : GoodTs ts :=
  ⟨by have := tasksOk_len h; omega, fun t ht => by
    have h1 := (vecFits_ok (tasksOk_mem h ht).2).1
    exact ⟨vecOk_len h1, (vecOk_bd h1).mono (by omega)⟩⟩
theorem flatten_take_succ {α : Type} {bs : List (List α)} {k : Nat} {b : List α} (h : bs[k]? = some b) : (bs.take (k + 1)).flatten = (bs.take k).flatten ++ b := by rw [take_snoc h]; simp
theorem flatten_take_le {α : Type} (bs : List (List α)) (k : Nat) : (bs.take k).flatten.length ≤ bs.flatten.length := by
  have h : bs.flatten = (bs.take k).flatten ++ (bs.drop k).flatten := by rw [← List.flatten_append, List.take_append_drop]
  rw [h, List.length_append]; omega
theorem binsOk_tasks {room : List Int} {bs : List (List TaskD)} (h : tasksOk room bs.flatten = true) {b : List TaskD} (hb : b ∈ bs) : GoodTs b := by
  have hg := tasksOk_good h
  have hsub : ∀ t ∈ b, t ∈ bs.flatten := fun t ht => List.mem_flatten.2 ⟨b, hb, ht⟩
  refine ⟨?_, fun t ht => hg.2 t (hsub t ht)⟩
  have : b.length ≤ bs.flatten.length := by
    obtain ⟨k, hk⟩ := List.getElem?_of_mem hb
    have := flatten_take_le bs (k + 1)
    rw [flatten_take_succ hk, List.length_append] at this
    omega
  have := hg.1
  omega
theorem binsTo_succ (room : List Int) {bs : List (List TaskD)} {k : Nat} {b : List TaskD} (h : bs[k]? = some b) : binsTo room bs (k + 1) = (binsTo room bs k && fitsL (loadL b) room) := by
  unfold binsTo; rw [take_snoc h]; simp
/-- where a task is -/
def whereL (bs : List (List TaskD)) (id : Int) : Int := match bs.findIdx? (fun b => hasId b id) with | some i => i | none => -1
theorem whereL_hit {bs : List (List TaskD)} {id : Int} {k : Nat} {b : List TaskD} (hb : bs[k]? = some b) (h : hasId b id = true) (hn : ∀ (j : Nat) c, j < k → bs[j]? = some c → hasId c id = false) : whereL bs id = k := by
  have hk : k < bs.length := (List.getElem?_eq_some_iff.1 hb).1
  have hbk : bs[k] = b := (List.getElem?_eq_some_iff.1 hb).2
  have : bs.findIdx? (fun b => hasId b id) = some k := by
    rw [List.findIdx?_eq_some_iff_getElem]
    exact ⟨hk, by rw [hbk]; exact h, fun j hj => by simpa using hn j bs[j] hj (List.getElem?_eq_getElem (by omega))⟩
  unfold whereL
  rw [this]
theorem whereL_miss {bs : List (List TaskD)} {id : Int} (hn : ∀ (j : Nat) c, bs[j]? = some c → hasId c id = false) : whereL bs id = -1 := by
  have : bs.findIdx? (fun b => hasId b id) = none := by
    rw [List.findIdx?_eq_none_iff]
    intro b hb
    obtain ⟨k, hk⟩ := List.getElem?_of_mem hb
    exact hn k b hk
  unfold whereL
  rw [this]

def clusTo (us : List UnitD) (k : Nat) : Bool := (us.take k).all fun u => u.opened || u.tasks.isEmpty
def clusOk (c : ClusD) : Bool := (c.units.all fun u => u.opened || u.tasks.isEmpty) && (inB c.units.length 1 10 && binsOk c.room (c.units.map (·.tasks)))
theorem clusTo_succ {us : List UnitD} {k : Nat} {u : UnitD} (h : us[k]? = some u) : clusTo us (k + 1) = (clusTo us k && (u.opened || u.tasks.isEmpty)) := by
  unfold clusTo; rw [take_snoc h]; simp
theorem clusOk_bad {c : ClusD} {k : Nat} {u : UnitD} (h : c.units[k]? = some u) (ho : u.opened = false) (ht : 0 < u.tasks.length) : clusOk c = false := by
  unfold clusOk
  rw [all_false_of h]
  · rfl
  · cases hu : u.tasks with
    | nil => simp [hu] at ht
    | cons => simp [ho]
theorem tasks_take_succ {us : List UnitD} {k : Nat} {u : UnitD} (h : us[k]? = some u) : (us.take (k + 1)).map (·.tasks) = (us.take k).map (·.tasks) ++ [u.tasks] := by rw [take_snoc h]; simp

/-- how often a need fits what is left, the first k dimensions -/
def timesTo (left need : List Int) (k : Nat) : Int := (List.range k).foldl (fun n i => if 0 < need.getD i 0 then min n (left.getD i 0 / need.getD i 0) else n) 20
def timesL (left need : List Int) : Int := timesTo left need 3
theorem timesTo_succ {left need : List Int} {k : Nat} {x y : Int} (h : left[k]? = some x) (h' : need[k]? = some y) : timesTo left need (k + 1) = if 0 < y then min (timesTo left need k) (x / y) else timesTo left need k := by
  unfold timesTo; rw [List.range_succ, List.foldl_append]; simp [List.getD, h, h']
def leftL (room : List Int) (ts : List TaskD) : List Int := addL room (loadL ts) (-1)
def needOk (need : List Int) : Bool := vecOk need && decide (0 < sumL need)
def spareTo (c : ClusD) (need : List Int) (k : Nat) : Int := (c.units.take k).foldl (fun n u => if u.opened then n + timesL (leftL c.room u.tasks) need else n) 0
def spareL (c : ClusD) (need : List Int) : Int := spareTo c need c.units.length
theorem spareTo_succ {c : ClusD} {k : Nat} {u : UnitD} (h : c.units[k]? = some u) (need : List Int) : spareTo c need (k + 1) = if u.opened then spareTo c need k + timesL (leftL c.room u.tasks) need else spareTo c need k := by
  unfold spareTo; rw [take_snoc h, List.foldl_append]; rfl
def spareN (c : ClusD) (need : List Int) : Int := if clusOk c && needOk need then spareL c need else -1

end Go.Proofs.YtllchacophapoaaDoor

/- A task is taken out of a row; a task beside a row's tasks. No program in sight. -/
namespace Go.Proofs.YtllchacophapoaaDoor

/-- a task fits beside tasks -/
def l11fits (room : List Int) (b : List TaskD) (t : TaskD) : Bool := fitsL (addL (loadL b) t.need 1) room
def takeL (id : Int) (ts : List TaskD) : List TaskD := ts.filter fun t => !(t.id == id)
def lastL (id : Int) (ts : List TaskD) : TaskD := ts.foldl (fun x t => if t.id == id then t else x) ⟨0, []⟩
theorem takeL_snoc (id : Int) (ts : List TaskD) (t : TaskD) : takeL id (ts ++ [t]) = if t.id == id then takeL id ts else takeL id ts ++ [t] := by
  unfold takeL
  rw [List.filter_append]
  cases h : t.id == id <;> simp [h]
theorem lastL_snoc (id : Int) (ts : List TaskD) (t : TaskD) : lastL id (ts ++ [t]) = if t.id == id then t else lastL id ts := by simp [lastL, List.foldl_append]

end Go.Proofs.YtllchacophapoaaDoor

/- What a valid cluster is. No program in sight. -/
namespace Go.Proofs.YtllchacophapoaaDoor

theorem clusOk_bins {c : ClusD} (h : clusOk c = true) : binsOk c.room (c.units.map (·.tasks)) = true := by
  simp only [clusOk, Bool.and_eq_true] at h; exact h.2.2
theorem clusOk_len {c : ClusD} (h : clusOk c = true) : 1 ≤ c.units.length ∧ c.units.length ≤ 10 := by
  simp only [clusOk, Bool.and_eq_true] at h
  have := h.2.1
  simp [inB] at this
  omega
theorem binsOk_tk {room : List Int} {bs : List (List TaskD)} (h : binsOk room bs = true) : tasksOk room bs.flatten = true := by simp only [binsOk, Bool.and_eq_true] at h; exact h.1
theorem binsOk_fits {room : List Int} {bs : List (List TaskD)} (h : binsOk room bs = true) {b : List TaskD} (hb : b ∈ bs) : fitsL (loadL b) room = true := by
  simp only [binsOk, Bool.and_eq_true, List.all_eq_true] at h; exact h.2.2 b hb
theorem clusOk_room {c : ClusD} (h : clusOk c = true) : roomOk c.room = true := tasksOk_room (binsOk_tk (clusOk_bins h))
theorem clusOk_unit {c : ClusD} (h : clusOk c = true) {u : UnitD} (hu : u ∈ c.units) : GoodTs u.tasks ∧ fitsL (loadL u.tasks) c.room = true := by
  have hb : u.tasks ∈ c.units.map (·.tasks) := List.mem_map.2 ⟨u, hu, rfl⟩
  exact ⟨binsOk_tasks (binsOk_tk (clusOk_bins h)) hb, binsOk_fits (clusOk_bins h) hb⟩
theorem fitsL_at {a b : List Int} (h : fitsL a b = true) {i : Nat} (hi : i < 3) : a.getD i 0 ≤ b.getD i 0 := by
  simp only [fitsL, fitsTo, List.all_eq_true] at h
  simpa using h i (by simpa using hi)
theorem fitsL_of {a b : List Int} (h : ∀ i, i < 3 → a.getD i 0 ≤ b.getD i 0) : fitsL a b = true := by
  simp only [fitsL, fitsTo, List.all_eq_true]
  intro i hi
  simpa using h i (by simpa using hi)
def Nn (M : Int) (xs : List Int) : Prop := ∀ x ∈ xs, 0 ≤ x ∧ x ≤ M
theorem left_nn {room : List Int} {ts : List TaskD} (hr : vecOk room = true) (hg : GoodTs ts) (hf : fitsL (loadL ts) room = true) : Nn 10000000 (leftL room ts) := by
  intro x hx
  simp only [leftL, addL, addTo, List.mem_map] at hx
  obtain ⟨i, hi, rfl⟩ := hx
  have h1 := fitsL_at hf (i := i) (by simpa using hi)
  have h2 := (load_bd hg).getD (by omega) i
  have h3 := (vecOk_bd hr).getD (by omega) i
  omega
theorem vecOk_nn {xs : List Int} (h : vecOk xs = true) : Nn 10000000 xs := fun x hx => by have := vecOk_mem h x hx; omega
theorem leftL_len (room : List Int) (ts : List TaskD) : (leftL room ts).length = 3 := addL_len _ _ _

theorem Nn.getD {M : Int} {xs : List Int} (h : Nn M xs) (hM : 0 ≤ M) (i : Nat) : 0 ≤ xs.getD i 0 ∧ xs.getD i 0 ≤ M := by
  rw [List.getD_eq_getElem?_getD]
  cases hx : xs[i]? with
  | none => simp; omega
  | some x => exact h x (List.mem_of_getElem? hx)
theorem timesTo_bd {M : Int} {left need : List Int} (hl : Nn M left) (hM : 0 ≤ M) : ∀ k, 0 ≤ timesTo left need k ∧ timesTo left need k ≤ 20
  | 0 => by simp [timesTo]
  | k + 1 => by
    have ih := timesTo_bd (need := need) hl hM k
    have e : timesTo left need (k + 1) = if 0 < need.getD k 0 then min (timesTo left need k) (left.getD k 0 / need.getD k 0) else timesTo left need k := by
      unfold timesTo; rw [List.range_succ, List.foldl_append]; rfl
    rw [e]
    split
    · rename_i hp
      have h1 := (hl.getD hM k).1
      have : 0 ≤ left.getD k 0 / need.getD k 0 := Int.ediv_nonneg h1 (by omega)
      omega
    · exact ih
theorem spareTo_bd {c : ClusD} (h : clusOk c = true) (need : List Int) : ∀ k, k ≤ c.units.length → 0 ≤ spareTo c need k ∧ spareTo c need k ≤ 20 * k
  | 0, _ => by simp [spareTo]
  | k + 1, hk => by
    have ih := spareTo_bd h need k (by omega)
    have hx : c.units[k]? = some c.units[k] := List.getElem?_eq_getElem (by omega)
    rw [spareTo_succ hx]
    have hu := clusOk_unit h (List.getElem_mem (by omega : k < c.units.length))
    have hb := timesTo_bd (need := need) (left_nn (roomOk_vec (clusOk_room h)) hu.1 hu.2) (by omega) 3
    unfold timesL
    split <;> omega

end Go.Proofs.YtllchacophapoaaDoor

/- Moves between nodes: what they do. No program in sight. -/
namespace Go.Proofs.YtllchacophapoaaDoor

/-- a move -/
structure MoveD where
  id : Int
  to : Int
deriving DecidableEq, Inhabited

theorem tasksOk_iff (room : List Int) (ts : List TaskD) : tasksOk room ts = true ↔ roomOk room = true ∧ ts.length ≤ 14 ∧ (∀ t ∈ ts, inB t.id 1 40 = true ∧ vecFits t.need room = true) ∧ (ts.map (·.id)).Nodup := by
  constructor
  · intro h
    refine ⟨tasksOk_room h, tasksOk_len h, fun t ht => tasksOk_mem h ht, ?_⟩
    rw [List.nodup_iff_pairwise_ne, List.pairwise_iff_getElem]
    intro i j hi hj hij he
    simp only [List.length_map] at hi hj
    simp only [List.getElem_map] at he
    have hf := tasksOk_fine h (List.getElem?_eq_getElem hj)
    simp only [taskFine, Bool.and_eq_true] at hf
    have hh := hasId_hit (List.getElem?_eq_getElem hi) hij he
    rw [hh] at hf
    exact absurd hf.2.1 (by simp)
  · rintro ⟨hr, hl, hm, hn⟩
    simp only [tasksOk, Bool.and_eq_true, decide_eq_true_eq]
    refine ⟨hr, ?_, hl⟩
    simp only [tasksTo, List.all_eq_true]
    intro i hi
    have hi : i < ts.length := by simpa using hi
    have e : ts.getD i default = ts[i] := by simp [List.getD, hi]
    rw [e]
    obtain ⟨h1, h2⟩ := hm ts[i] (List.getElem_mem hi)
    simp only [taskFine, Bool.and_eq_true, Bool.not_eq_true']
    refine ⟨h1, ?_, h2⟩
    rw [hasId, List.any_eq_false]
    intro t ht he
    have he : t.id = ts[i].id := by simpa using he
    obtain ⟨j, hj⟩ := List.getElem?_of_mem ht
    rw [List.getElem?_take] at hj
    split at hj
    · rename_i hji
      have hj2 : j < ts.length := by omega
      rw [List.getElem?_eq_getElem hj2] at hj
      injection hj with hj
      subst hj
      rw [List.nodup_iff_pairwise_ne, List.pairwise_iff_getElem] at hn
      exact hn j i (by simpa using hj2) (by simpa using hi) hji (by simpa using he)
    · cases hj
theorem flatten_set_perm {α : Type} : ∀ (bs : List (List α)) (k : Nat) (b : List α) (x : α), bs[k]? = some b → (bs.set k (b ++ [x])).flatten.Perm (x :: bs.flatten)
  | [], _, _, _, h => by simp at h
  | b' :: bs, 0, b, x, h => by
    simp at h
    subst h
    simp only [List.set_cons_zero, List.flatten_cons, List.append_assoc]
    exact List.perm_middle
  | b' :: bs, k + 1, b, x, h => by
    have ih := flatten_set_perm bs k b x (by simpa using h)
    simp only [List.set_cons_succ, List.flatten_cons]
    exact (ih.append_left b').trans List.perm_middle
theorem cons_erase {α : Type} : ∀ {l : List α} {i : Nat} (hi : i < l.length), (l[i] :: l.eraseIdx i).Perm l
  | [], _, h => absurd h (by simp)
  | a :: l, 0, _ => by simp
  | a :: l, i + 1, h => by
    have ih := cons_erase (l := l) (i := i) (by simpa using h)
    simp only [List.getElem_cons_succ, List.eraseIdx_cons_succ]
    exact (List.Perm.swap _ _ _).trans (ih.cons a)
theorem flatten_set_erase {α : Type} : ∀ (bs : List (List α)) (k i : Nat) (b : List α) (x : α), bs[k]? = some b → b[i]? = some x → (x :: (bs.set k (b.eraseIdx i)).flatten).Perm bs.flatten
  | [], _, _, _, _, h, _ => by simp at h
  | b' :: bs, 0, i, b, x, h, hx => by
    simp at h
    subst h
    obtain ⟨hi, rfl⟩ := List.getElem?_eq_some_iff.1 hx
    simp only [List.set_cons_zero, List.flatten_cons]
    exact (cons_erase hi).append_right bs.flatten
  | b' :: bs, k + 1, i, b, x, h, hx => by
    have ih := flatten_set_erase bs k i b x (by simpa using h) hx
    simp only [List.set_cons_succ, List.flatten_cons]
    exact List.perm_middle.symm.trans (ih.append_left b')
theorem addTo_getD (a b : List Int) (t : Int) (i : Nat) (hi : i < 3) : (addL a b t).getD i 0 = a.getD i 0 + t * b.getD i 0 := by
  unfold addL addTo
  rw [List.getD_eq_getElem?_getD, List.getElem?_map, List.getElem?_range hi]
  rfl
theorem load_from (i : Nat) (hi : i < 3) : ∀ (ts : List TaskD) (acc : List Int), (ts.foldl (fun acc t => addL acc t.need 1) acc).getD i 0 = acc.getD i 0 + (ts.map fun t => t.need.getD i 0).sum
  | [], acc => by simp
  | t :: ts, acc => by
    rw [List.foldl_cons, load_from i hi ts, addTo_getD _ _ _ i hi]
    simp only [List.map_cons, List.sum_cons]
    omega
theorem loadL_getD (ts : List TaskD) (i : Nat) (hi : i < 3) : (loadL ts).getD i 0 = (ts.map fun t => t.need.getD i 0).sum := by
  unfold loadL
  rw [load_from i hi]
  match i, hi with
  | 0, _ => simp
  | 1, _ => simp
  | 2, _ => simp
theorem sum_sub : ∀ {a b : List Int}, a.Sublist b → (∀ x ∈ b, 0 ≤ x) → a.sum ≤ b.sum
  | _, _, .slnil, _ => Int.le_refl _
  | _, _, .cons x h, hp => by
    have ih := sum_sub h (fun y hy => hp y (by simp [hy]))
    have := hp x (by simp)
    simp only [List.sum_cons]
    omega
  | _, _, .cons_cons x h, hp => by
    have ih := sum_sub h (fun y hy => hp y (by simp [hy]))
    simp only [List.sum_cons]
    omega
theorem load_sub {a b : List TaskD} (h : a.Sublist b) (hp : ∀ t ∈ b, vecOk t.need = true) (i : Nat) (hi : i < 3) : (loadL a).getD i 0 ≤ (loadL b).getD i 0 := by
  rw [loadL_getD a i hi, loadL_getD b i hi]
  refine sum_sub (h.map _) (fun x hx => ?_)
  obtain ⟨t, ht, rfl⟩ := List.mem_map.1 hx
  exact ((vecOk_nn (hp t ht)).getD (by omega) i).1
theorem fits_sub {a b : List TaskD} {room : List Int} (h : a.Sublist b) (hp : ∀ t ∈ b, vecOk t.need = true) (hf : fitsL (loadL b) room = true) : fitsL (loadL a) room = true :=
  fitsL_of fun i hi => Int.le_trans (load_sub h hp i hi) (fitsL_at hf hi)
theorem sum_perm {a b : List Int} (h : a.Perm b) : a.sum = b.sum := by
  induction h with
  | nil => rfl
  | cons x _ ih => simp only [List.sum_cons, ih]
  | swap x y l => simp only [List.sum_cons]; omega
  | trans _ _ h1 h2 => exact h1.trans h2
theorem fits_perm {a b : List TaskD} {room : List Int} (h : a.Perm b) (hf : fitsL (loadL b) room = true) : fitsL (loadL a) room = true :=
  fitsL_of fun i hi => by
    have h1 := fitsL_at hf hi
    rw [loadL_getD b i hi] at h1
    rw [loadL_getD a i hi, sum_perm (h.map _)]
    exact h1
theorem fits_snoc {room : List Int} {b : List TaskD} {x : TaskD} : l11fits room b x = fitsL (loadL (b ++ [x])) room := by rw [loadL_snoc]; rfl
theorem set_all {α : Type} {P : α → Prop} {xs : List α} {k : Nat} {x : α} (h : ∀ y ∈ xs, P y) (hx : P x) : ∀ y ∈ xs.set k x, P y := fun y hy => by
  rcases List.mem_or_eq_of_mem_set hy with hy | rfl
  · exact h y hy
  · exact hx
theorem bins_vec {room : List Int} {bs : List (List TaskD)} (h : binsOk room bs = true) {b : List TaskD} (hb : b ∈ bs) : ∀ t ∈ b, vecOk t.need = true := fun t ht =>
  (vecFits_ok (tasksOk_mem (binsOk_tk h) (t := t) (List.mem_flatten.2 ⟨b, hb, ht⟩)).2).1
theorem bins_iff (room : List Int) (bs : List (List TaskD)) : binsOk room bs = true ↔ tasksOk room bs.flatten = true ∧ bs.length ≤ 14 ∧ ∀ b ∈ bs, fitsL (loadL b) room = true := by
  simp only [binsOk, Bool.and_eq_true, List.all_eq_true, decide_eq_true_eq]
theorem bins_once {room : List Int} {bs : List (List TaskD)} (h : binsOk room bs = true) : (bs.flatten.map (·.id)).Nodup := ((tasksOk_iff _ _).1 (binsOk_tk h)).2.2.2

/-- where tasks are, by what is in each node -/
theorem whereL_congr {cs bs : List (List TaskD)} {id : Int} (h : cs.map (fun b => hasId b id) = bs.map (fun b => hasId b id)) : whereL cs id = whereL bs id := by
  have e : ∀ ds : List (List TaskD), ds.findIdx? (fun b => hasId b id) = (ds.map (fun b => hasId b id)).findIdx? (fun b => b) := fun ds => by rw [List.findIdx?_map]; rfl
  unfold whereL
  rw [e cs, e bs, h]
theorem hasId_app (a b : List TaskD) (id : Int) : hasId (a ++ b) id = (hasId a id || hasId b id) := by unfold hasId; exact List.any_append
theorem hasId_one (x : TaskD) (id : Int) : hasId [x] id = (x.id == id) := by unfold hasId; simp
theorem hasId_take (ts : List TaskD) (id id' : Int) (h : id' ≠ id) : hasId (takeL id ts) id' = hasId ts id' := by
  unfold hasId takeL
  rw [List.any_filter]
  induction ts with
  | nil => rfl
  | cons t ts ih =>
    rw [List.any_cons, List.any_cons, ih]
    congr 1
    by_cases ht : t.id = id'
    · simp [ht, h]
    · simp [ht]
theorem hasId_gone (ts : List TaskD) (id : Int) : hasId (takeL id ts) id = false := by
  unfold hasId takeL
  rw [List.any_eq_false]
  intro t ht
  have := (List.mem_filter.1 ht).2
  simpa using this
theorem hasId_mem {ts : List TaskD} {t : TaskD} (h : t ∈ ts) : hasId ts t.id = true := List.any_eq_true.2 ⟨t, h, by simp⟩
theorem whereL_none {bs : List (List TaskD)} {id : Int} (h : whereL bs id < 0) : ∀ b ∈ bs, hasId b id = false := by
  intro b hb
  unfold whereL at h
  split at h
  · omega
  · rename_i hn
    rw [List.findIdx?_eq_none_iff] at hn
    exact hn b hb
theorem whereL_some {bs : List (List TaskD)} {id : Int} {k : Nat} (h : whereL bs id = k) : ∃ b, bs[k]? = some b ∧ hasId b id = true := by
  unfold whereL at h
  split at h
  · rename_i i hi
    have hik : i = k := by omega
    subst hik
    rw [List.findIdx?_eq_some_iff_getElem] at hi
    exact ⟨_, List.getElem?_eq_getElem hi.1, hi.2.1⟩
  · omega
theorem whereL_gone {bs : List (List TaskD)} {id : Int} (h : ∀ b ∈ bs, hasId b id = false) : whereL bs id = -1 := whereL_miss fun _ c hc => h c (List.mem_of_getElem? hc)
theorem whereL_lt (bs : List (List TaskD)) (id : Int) : whereL bs id < bs.length := by
  unfold whereL
  split
  · rename_i i hi
    rw [List.findIdx?_eq_some_iff_getElem] at hi
    have := hi.1
    omega
  · omega
theorem whereL_ge (bs : List (List TaskD)) (id : Int) : -1 ≤ whereL bs id := by unfold whereL; split <;> omega
theorem only_one : ∀ {bs : List (List TaskD)}, (bs.flatten.map (·.id)).Nodup → ∀ {j k : Nat} {a b : List TaskD}, bs[j]? = some a → bs[k]? = some b → ∀ {id : Int}, hasId a id = true → hasId b id = true → j = k
  | [], _, _, _, _, _, h, _, _, _, _ => by simp at h
  | c :: bs, hn, j, k, a, b, ha, hb, id, h1, h2 => by
    rw [List.flatten_cons, List.map_append] at hn
    obtain ⟨_, n2, n3⟩ := List.nodup_append.1 hn
    have mem : ∀ {d : List TaskD}, hasId d id = true → id ∈ d.map (·.id) := fun {d} hd => by
      unfold hasId at hd
      obtain ⟨t, ht, he⟩ := List.any_eq_true.1 hd
      exact List.mem_map.2 ⟨t, ht, by simpa using he⟩
    have sub : ∀ {i : Nat} {d : List TaskD}, bs[i]? = some d → hasId d id = true → id ∈ bs.flatten.map (·.id) := fun {i d} hd hh => by
      obtain ⟨t, ht, he⟩ := List.mem_map.1 (mem hh)
      exact List.mem_map.2 ⟨t, List.mem_flatten.2 ⟨d, List.mem_of_getElem? hd, ht⟩, he⟩
    match j, k with
    | 0, 0 => rfl
    | 0, k + 1 =>
      have ha : c = a := by simpa using ha
      subst ha
      exact absurd rfl (n3 id (mem h1) id (sub (by simpa using hb) h2))
    | j + 1, 0 =>
      have hb : c = b := by simpa using hb
      subst hb
      exact absurd rfl (n3 id (mem h2) id (sub (by simpa using ha) h1))
    | j + 1, k + 1 => exact congrArg (· + 1) (only_one n2 (by simpa using ha) (by simpa using hb) h1 h2)
theorem take_all {ts : List TaskD} {id : Int} (h : hasId ts id = false) : takeL id ts = ts := by
  unfold takeL
  rw [List.filter_eq_self]
  intro t ht
  unfold hasId at h
  rw [List.any_eq_false] at h
  have := h t ht
  simpa using this
theorem takeL_erase (id : Int) : ∀ (ts : List TaskD) (j : Nat), ts.findIdx? (fun t => t.id == id) = some j → (ts.map (·.id)).Nodup → ts.eraseIdx j = takeL id ts
  | [], j, h, _ => by simp at h
  | t :: ts, j, h, hn => by
    rw [List.findIdx?_cons] at h
    have hn := List.nodup_cons.1 (show (t.id :: ts.map (·.id)).Nodup from hn)
    by_cases ht : (t.id == id) = true
    · rw [if_pos ht] at h
      injection h with h
      subst h
      show ts = takeL id (t :: ts)
      unfold takeL
      rw [List.filter_cons_of_neg (by simp [ht]), List.filter_eq_self.2 (fun y hy => ?_)]
      have h1 : t.id = id := by simpa using ht
      have h2 : y.id ≠ id := fun e => hn.1 (by rw [h1, ← e]; exact List.mem_map.2 ⟨y, hy, rfl⟩)
      simpa using h2
    · rw [if_neg ht] at h
      obtain ⟨j', hj', rfl⟩ := Option.map_eq_some_iff.1 h
      show t :: ts.eraseIdx j' = takeL id (t :: ts)
      rw [takeL_erase id ts j' hj' hn.2]
      unfold takeL
      rw [List.filter_cons_of_pos (by simpa using ht)]
theorem last_none (id : Int) : ∀ (ts : List TaskD) (acc : TaskD), (∀ t ∈ ts, t.id ≠ id) → ts.foldl (fun x t => if t.id == id then t else x) acc = acc
  | [], _, _ => rfl
  | t :: ts, acc, h => by
    have ht : (t.id == id) = false := by simpa using h t (by simp)
    rw [List.foldl_cons, ht]
    exact last_none id ts acc (fun y hy => h y (by simp [hy]))
theorem last_from (id : Int) : ∀ (ts : List TaskD) (acc x : TaskD), (ts.map (·.id)).Nodup → x ∈ ts → x.id = id → ts.foldl (fun x t => if t.id == id then t else x) acc = x
  | [], _, _, _, h, _ => by simp at h
  | t :: ts, acc, x, hn, hx, hi => by
    have hn := List.nodup_cons.1 (show (t.id :: ts.map (·.id)).Nodup from hn)
    rw [List.foldl_cons]
    rcases List.mem_cons.1 hx with rfl | hx
    · have ht : (x.id == id) = true := by simpa using hi
      rw [if_pos ht]
      exact last_none id ts x (fun y hy e => hn.1 (by rw [hi, ← e]; exact List.mem_map.2 ⟨y, hy, rfl⟩))
    · exact last_from id ts _ x hn.2 hx hi
theorem last_eq {id : Int} {ts : List TaskD} {x : TaskD} (hn : (ts.map (·.id)).Nodup) (hx : x ∈ ts) (hi : x.id = id) : lastL id ts = x := last_from id ts _ x hn hx hi

/-- a task is put into a node, or alone into a further one -/
def putL (bs : List (List TaskD)) (at' : Int) (x : TaskD) : List (List TaskD) := if at' < 0 then bs ++ [[x]] else bs.set at'.toNat (bs.getD at'.toNat [] ++ [x])
def takeBs (bs : List (List TaskD)) (id : Int) : List (List TaskD) := bs.map (takeL id)
def canMove (room : List Int) (bs : List (List TaskD)) (m : MoveD) : Bool :=
  decide (0 ≤ whereL bs m.id) && (inB m.to 0 ((bs.length : Int) - 1) && (!(m.to == whereL bs m.id) && l11fits room (bs.getD m.to.toNat []) (lastL m.id bs.flatten)))
def doMove (bs : List (List TaskD)) (m : MoveD) : List (List TaskD) := putL (takeBs bs m.id) m.to (lastL m.id bs.flatten)
def moveDo (room : List Int) (bs : List (List TaskD)) (m : MoveD) : List (List TaskD) × Bool := if binsOk room bs && canMove room bs m then (doMove bs m, true) else ([], false)
/-- moves up to the first that is not possible -/
def movesRun (room : List Int) : List (List TaskD) → List MoveD → List (List TaskD) × Nat
  | bs, [] => (bs, 0)
  | bs, m :: ms => if canMove room bs m then ((movesRun room (doMove bs m) ms).1, (movesRun room (doMove bs m) ms).2 + 1) else (bs, 0)
def movesDo (room : List Int) (bs : List (List TaskD)) (ms : List MoveD) : List (List TaskD) × Int :=
  if binsOk room bs && decide (ms.length ≤ 20) then ((movesRun room bs ms).1, ((movesRun room bs ms).2 : Int)) else ([], -1)
def movesOf (room : List Int) (bs : List (List TaskD)) : List MoveD :=
  if binsOk room bs then bs.flatten.flatMap fun x => ((List.range bs.length).filter fun (j : Nat) => canMove room bs ⟨x.id, (j : Int)⟩).map fun (j : Nat) => ⟨x.id, (j : Int)⟩ else []

/-- where a task of a valid row of nodes lies -/
theorem where_parts {bs : List (List TaskD)} (hn : (bs.flatten.map (·.id)).Nodup) {id : Int} {f : Nat} (hf : whereL bs id = (f : Int)) :
    ∃ b k x, bs[f]? = some b ∧ b.findIdx? (fun t => t.id == id) = some k ∧ b[k]? = some x ∧ x.id = id ∧ lastL id bs.flatten = x ∧ takeBs bs id = bs.set f (b.eraseIdx k) := by
  obtain ⟨b, hb, hh⟩ := whereL_some hf
  have hbm := List.mem_of_getElem? hb
  have hbn : (b.map (·.id)).Nodup := ((List.sublist_flatten_of_mem hbm).map (fun t : TaskD => t.id)).nodup hn
  cases hk : b.findIdx? (fun t => t.id == id) with
  | none =>
    rw [List.findIdx?_eq_none_iff] at hk
    obtain ⟨t, ht, he⟩ := List.any_eq_true.1 hh
    rw [hk t ht] at he
    cases he
  | some k =>
    obtain ⟨hkl, hp, _⟩ := List.findIdx?_eq_some_iff_getElem.1 hk
    have hx := List.getElem?_eq_getElem hkl
    have hi : b[k].id = id := by simpa using hp
    refine ⟨b, k, b[k], hb, hk, hx, hi, last_eq hn (List.mem_flatten.2 ⟨b, hbm, List.getElem_mem hkl⟩) hi, ?_⟩
    rw [takeL_erase id b k hk hbn]
    refine List.ext_getElem? fun j => ?_
    unfold takeBs
    rw [List.getElem?_map]
    by_cases hj : j = f
    · subst hj
      rw [List.getElem?_set_self (List.getElem?_eq_some_iff.1 hb).1, hb]
      rfl
    · rw [List.getElem?_set_ne (Ne.symm hj)]
      cases hc : bs[j]? with
      | none => rfl
      | some c =>
        show some (takeL id c) = some c
        rw [take_all]
        cases hx : hasId c id with
        | false => rfl
        | true => exact absurd (only_one hn hc hb hx hh) hj
theorem can_eq {room : List Int} {bs : List (List TaskD)} {m : MoveD} {f : Nat} (hf : whereL bs m.id = (f : Int)) {x : TaskD} (hx : lastL m.id bs.flatten = x) :
    canMove room bs m = (inB m.to 0 ((bs.length : Int) - 1) && (!(m.to == (f : Int)) && l11fits room (bs.getD m.to.toNat []) x)) := by
  unfold canMove
  rw [hf, hx]
  simp

/-- a move that can be done -/
structure MoveP (room : List Int) (bs : List (List TaskD)) (m : MoveD) (f t k : Nat) (b c : List TaskD) (x : TaskD) : Prop where
  wf : whereL bs m.id = (f : Int)
  to : m.to = (t : Int)
  ne : t ≠ f
  hb : bs[f]? = some b
  hc : bs[t]? = some c
  hk : b.findIdx? (fun t => t.id == m.id) = some k
  hx : b[k]? = some x
  hi : x.id = m.id
  fit : l11fits room c x = true
  eq : doMove bs m = (bs.set f (b.eraseIdx k)).set t (c ++ [x])
theorem do_eq {bs : List (List TaskD)} {m : MoveD} {f t k : Nat} {b c : List TaskD} {x : TaskD} (ht : m.to = (t : Int)) (hne : t ≠ f) (hc : bs[t]? = some c) (hx : lastL m.id bs.flatten = x) (hs : takeBs bs m.id = bs.set f (b.eraseIdx k)) : doMove bs m = (bs.set f (b.eraseIdx k)).set t (c ++ [x]) := by
  unfold doMove putL
  rw [ht, if_neg (by omega), hx, hs, Int.toNat_natCast]
  congr 2
  rw [List.getD_eq_getElem?_getD, List.getElem?_set_ne (Ne.symm hne), hc]
  rfl
theorem can_parts {room : List Int} {bs : List (List TaskD)} {m : MoveD} (hn : (bs.flatten.map (·.id)).Nodup) (h : canMove room bs m = true) : ∃ f t k b c x, MoveP room bs m f t k b c x := by
  have h0 : 0 ≤ whereL bs m.id := by
    unfold canMove at h
    simp only [Bool.and_eq_true, decide_eq_true_eq] at h
    exact h.1
  obtain ⟨f, hf⟩ : ∃ f : Nat, whereL bs m.id = (f : Int) := ⟨(whereL bs m.id).toNat, by omega⟩
  obtain ⟨b, k, x, hb, hk, hx, hi, hl, hs⟩ := where_parts hn hf
  rw [can_eq hf hl] at h
  simp only [Bool.and_eq_true, Bool.not_eq_true', inB, decide_eq_true_eq, beq_eq_false_iff_ne, ne_eq] at h
  obtain ⟨⟨h1, h2⟩, h3, h4⟩ := h
  obtain ⟨t, ht⟩ : ∃ t : Nat, m.to = (t : Int) := ⟨m.to.toNat, by omega⟩
  have htl : t < bs.length := by omega
  have hne : t ≠ f := by omega
  have hc := List.getElem?_eq_getElem htl
  refine ⟨f, t, k, b, bs[t], x, hf, ht, hne, hb, hc, hk, hx, hi, ?_, do_eq ht hne hc hl hs⟩
  rw [ht, Int.toNat_natCast, List.getD_eq_getElem?_getD, hc] at h4
  exact h4
section
variable {room : List Int} {bs : List (List TaskD)} {m : MoveD} {f t k : Nat} {b c : List TaskD} {x : TaskD}
theorem MoveP.len (h : MoveP room bs m f t k b c x) : (doMove bs m).length = bs.length := by rw [h.eq]; simp
theorem MoveP.perm (h : MoveP room bs m f t k b c x) : (doMove bs m).flatten.Perm bs.flatten := by
  rw [h.eq]
  exact (flatten_set_perm _ t c x (by rw [List.getElem?_set_ne (Ne.symm h.ne)]; exact h.hc)).trans (flatten_set_erase bs f k b x h.hb h.hx)
theorem MoveP.valid (h : MoveP room bs m f t k b c x) (hv : binsOk room bs = true) : binsOk room (doMove bs m) = true := by
  obtain ⟨h1, h2, h3⟩ := (bins_iff _ _).1 hv
  refine (bins_iff _ _).2 ⟨?_, by rw [h.len]; exact h2, ?_⟩
  · obtain ⟨a1, a2, a3, a4⟩ := (tasksOk_iff _ _).1 h1
    exact (tasksOk_iff _ _).2 ⟨a1, by rw [h.perm.length_eq]; exact a2, fun t ht => a3 t (h.perm.mem_iff.1 ht), (h.perm.map _).nodup_iff.2 a4⟩
  · rw [h.eq]
    have hbm := List.mem_of_getElem? h.hb
    refine set_all (set_all h3 ?_) ?_
    · exact fits_sub (List.eraseIdx_sublist _ _) (bins_vec hv hbm) (h3 b hbm)
    · rw [← fits_snoc]; exact h.fit
/-- the node of each other task -/
theorem MoveP.at_ (h : MoveP room bs m f t k b c x) (hn : (bs.flatten.map (·.id)).Nodup) (j : Nat) : (doMove bs m)[j]? = if j = t then some (c ++ [x]) else if j = f then some (takeL m.id b) else bs[j]? := by
  have hfl := (List.getElem?_eq_some_iff.1 h.hb).1
  have htl := (List.getElem?_eq_some_iff.1 h.hc).1
  have hbn : (b.map (·.id)).Nodup := ((List.sublist_flatten_of_mem (List.mem_of_getElem? h.hb)).map (fun t : TaskD => t.id)).nodup hn
  rw [h.eq, takeL_erase m.id b k h.hk hbn]
  split
  · rename_i hj
    subst hj
    rw [List.getElem?_set_self (by simpa using htl)]
  · rename_i hj
    rw [List.getElem?_set_ne (Ne.symm hj)]
    split
    · rename_i hj2
      subst hj2
      rw [List.getElem?_set_self hfl]
    · rename_i hj2
      rw [List.getElem?_set_ne (Ne.symm hj2)]
theorem MoveP.other (h : MoveP room bs m f t k b c x) (hn : (bs.flatten.map (·.id)).Nodup) {id : Int} (hi : id ≠ m.id) : whereL (doMove bs m) id = whereL bs id := by
  apply whereL_congr
  refine List.ext_getElem? fun j => ?_
  rw [List.getElem?_map, List.getElem?_map, h.at_ hn]
  split
  · rename_i hj
    subst hj
    rw [h.hc]
    show some (hasId (c ++ [x]) id) = some (hasId c id)
    rw [hasId_app, hasId_one, h.hi]
    have : (m.id == id) = false := by simpa using fun e => hi e.symm
    rw [this, Bool.or_false]
  · split
    · rename_i hj
      subst hj
      rw [h.hb]
      show some (hasId (takeL m.id b) id) = some (hasId b id)
      rw [hasId_take _ _ _ hi]
    · rfl
theorem MoveP.has (h : MoveP room bs m f t k b c x) : hasId b m.id = true := by
  have hxm := List.mem_of_getElem? h.hx
  have := hasId_mem hxm
  rwa [h.hi] at this
theorem MoveP.not (h : MoveP room bs m f t k b c x) (hn : (bs.flatten.map (·.id)).Nodup) {j : Nat} {d : List TaskD} (hj : j ≠ f) (hd : bs[j]? = some d) : hasId d m.id = false := by
  cases hx : hasId d m.id with
  | false => rfl
  | true => exact absurd (only_one hn hd h.hb hx h.has) hj
theorem MoveP.where_ (h : MoveP room bs m f t k b c x) (hn : (bs.flatten.map (·.id)).Nodup) : whereL (doMove bs m) m.id = (t : Int) := by
  refine whereL_hit (b := c ++ [x]) (by rw [h.at_ hn, if_pos rfl]) (by rw [hasId_app, hasId_one, h.hi]; simp) (fun j d hj hd => ?_)
  rw [h.at_ hn, if_neg (by omega)] at hd
  split at hd
  · injection hd with hd
    rw [← hd]
    exact hasId_gone _ _
  · rename_i hjf
    exact h.not hn hjf hd
/-- the way back -/
theorem MoveP.back (h : MoveP room bs m f t k b c x) (hv : binsOk room bs = true) : canMove room (doMove bs m) ⟨m.id, (f : Int)⟩ = true := by
  have hn := bins_once hv
  have hn2 := bins_once (h.valid hv)
  have hw := h.where_ hn
  have hl : lastL m.id (doMove bs m).flatten = x := last_eq hn2 (List.mem_flatten.2 ⟨c ++ [x], List.mem_of_getElem? (i := t) (by rw [h.at_ hn, if_pos rfl]), by simp⟩) h.hi
  have hfl := (List.getElem?_eq_some_iff.1 h.hb).1
  have hf : (doMove bs m)[f]? = some (takeL m.id b) := by rw [h.at_ hn, if_neg (fun e => h.ne e.symm), if_pos rfl]
  have hbm := List.mem_of_getElem? h.hb
  have hbn : (b.map (·.id)).Nodup := ((List.sublist_flatten_of_mem hbm).map (fun t : TaskD => t.id)).nodup hn
  rw [can_eq (m := ⟨m.id, (f : Int)⟩) hw hl]
  simp only [Bool.and_eq_true, Bool.not_eq_true', inB, decide_eq_true_eq, beq_eq_false_iff_ne, ne_eq]
  refine ⟨⟨by omega, by rw [h.len]; omega⟩, fun e => h.ne (by omega), ?_⟩
  rw [Int.toNat_natCast, List.getD_eq_getElem?_getD, hf]
  show l11fits room (takeL m.id b) x = true
  rw [fits_snoc, ← takeL_erase m.id b k h.hk hbn]
  obtain ⟨hkl, hxk⟩ := List.getElem?_eq_some_iff.1 h.hx
  have hp : (b.eraseIdx k ++ [x]).Perm b := by
    rw [← hxk]
    exact (List.perm_append_singleton _ _).trans (cons_erase hkl)
  exact fits_perm hp (binsOk_fits hv hbm)
theorem MoveP.back_mem (h : MoveP room bs m f t k b c x) (hv : binsOk room bs = true) {i : Nat} {d : List TaskD} (hd : bs[i]? = some d) : ∃ e, (doMove (doMove bs m) ⟨m.id, (f : Int)⟩)[i]? = some e ∧ ∀ y ∈ d, y ∈ e := by
  have hn := bins_once hv
  have hn2 := bins_once (h.valid hv)
  obtain ⟨f2, t2, k2, b2, c2, x2, h2⟩ := can_parts hn2 (h.back hv)
  have hw := h.where_ hn
  have e1 : f2 = t := by have := h2.wf; rw [hw] at this; omega
  have e2 : t2 = f := by have := h2.to; simp only at this; omega
  subst e1 e2
  have hb2 : b2 = c ++ [x] := by
    have := h2.hb
    rw [h.at_ hn, if_pos rfl] at this
    injection this with this
    exact this.symm
  have hc2 : c2 = takeL m.id b := by
    have := h2.hc
    rw [h.at_ hn, if_neg h2.ne, if_pos rfl] at this
    injection this with this
    exact this.symm
  have hx2 : x2 = x := by
    have h3 := List.mem_of_getElem? h2.hx
    rw [hb2] at h3
    rcases List.mem_append.1 h3 with h4 | h4
    · have h5 := hasId_mem h4
      rw [h2.hi] at h5
      have h6 := h.not hn h.ne h.hc
      rw [show (⟨m.id, (t2 : Int)⟩ : MoveD).id = m.id from rfl, h6] at h5
      cases h5
    · exact List.mem_singleton.1 h4
  refine ⟨if i = t2 then c2 ++ [x2] else if i = f2 then takeL m.id b2 else d, ?_, ?_⟩
  · rw [h2.at_ hn2]
    split
    · rfl
    · rename_i hi
      split
      · rfl
      · rename_i hi2
        rw [h.at_ hn, if_neg hi2, if_neg hi]
        exact hd
  · intro y hy
    split
    · rename_i hi
      subst hi
      rw [h.hb] at hd
      injection hd with hd
      subst hd
      rw [hc2, hx2]
      by_cases hyi : y.id = m.id
      · have : y = x := by
          have hbn : (b.map (·.id)).Nodup := ((List.sublist_flatten_of_mem (List.mem_of_getElem? h.hb)).map (fun t : TaskD => t.id)).nodup hn
          rw [← last_eq hbn hy hyi, ← last_eq hbn (List.mem_of_getElem? h.hx) h.hi]
        rw [this]; simp
      · refine List.mem_append.2 (.inl (List.mem_filter.2 ⟨hy, by simpa using hyi⟩))
    · split
      · rename_i hi hi2
        subst hi2
        rw [h.hc] at hd
        injection hd with hd
        subst hd
        rw [hb2, takeL_snoc, if_pos (by simpa using h.hi), take_all (h.not hn h.ne h.hc)]
        exact hy
      · exact hy
end
theorem move_valid {room : List Int} {bs : List (List TaskD)} {m : MoveD} (hv : binsOk room bs = true) (h : canMove room bs m = true) : binsOk room (doMove bs m) = true := by
  obtain ⟨f, t, k, b, c, x, hp⟩ := can_parts (bins_once hv) h
  exact hp.valid hv
theorem move_len {room : List Int} {bs : List (List TaskD)} {m : MoveD} (hv : binsOk room bs = true) (h : canMove room bs m = true) : (doMove bs m).length = bs.length := by
  obtain ⟨f, t, k, b, c, x, hp⟩ := can_parts (bins_once hv) h
  exact hp.len
theorem mem_moves {room : List Int} {bs : List (List TaskD)} (hv : binsOk room bs = true) (m : MoveD) : m ∈ movesOf room bs ↔ canMove room bs m = true := by
  unfold movesOf
  rw [if_pos hv, List.mem_flatMap]
  constructor
  · rintro ⟨x, hx, hm⟩
    obtain ⟨j, hj, rfl⟩ := List.mem_map.1 hm
    exact (List.mem_filter.1 hj).2
  · intro h
    obtain ⟨f, t, k, b, c, x, hp⟩ := can_parts (bins_once hv) h
    have e : (⟨x.id, (t : Int)⟩ : MoveD) = m := by
      cases m
      have h1 := hp.hi
      have h2 := hp.to
      simp only at h1 h2
      rw [h1, h2]
    refine ⟨x, List.mem_flatten.2 ⟨b, List.mem_of_getElem? hp.hb, List.mem_of_getElem? hp.hx⟩, List.mem_map.2 ⟨t, List.mem_filter.2 ⟨List.mem_range.2 (List.getElem?_eq_some_iff.1 hp.hc).1, by rw [e]; exact h⟩, e⟩⟩

theorem run_valid {room : List Int} : ∀ (ms : List MoveD) {bs : List (List TaskD)}, binsOk room bs = true → binsOk room (movesRun room bs ms).1 = true ∧ (movesRun room bs ms).1.length = bs.length ∧ (movesRun room bs ms).2 ≤ ms.length
  | [], bs, h => ⟨h, rfl, Nat.le_refl _⟩
  | m :: ms, bs, h => by
    unfold movesRun
    split
    · rename_i hc
      obtain ⟨h1, h2, h3⟩ := run_valid ms (move_valid h hc)
      exact ⟨h1, by rw [h2, move_len h hc], by simp only [List.length_cons]; omega⟩
    · exact ⟨h, rfl, Nat.zero_le _⟩
theorem run_stop {room : List Int} : ∀ (ms : List MoveD) (bs : List (List TaskD)) {m : MoveD}, ms[(movesRun room bs ms).2]? = some m → canMove room (movesRun room bs ms).1 m = false
  | [], bs, m, h => by simp at h
  | m' :: ms, bs, m, h => by
    unfold movesRun at h ⊢
    split
    · rename_i hc
      rw [if_pos hc] at h
      exact run_stop ms (doMove bs m') (by simpa using h)
    · rename_i hc
      rw [if_neg hc] at h
      have h : m' = m := by simpa using h
      subst h
      simpa using hc
theorem run_app {room : List Int} : ∀ (a c : List MoveD) (bs : List (List TaskD)), movesRun room bs (a ++ c) = if (movesRun room bs a).2 = a.length then ((movesRun room (movesRun room bs a).1 c).1, a.length + (movesRun room (movesRun room bs a).1 c).2) else movesRun room bs a
  | [], c, bs => by simp [movesRun]
  | m :: a, c, bs => by
    by_cases hc : canMove room bs m = true
    · have e1 : ∀ l, movesRun room bs (m :: l) = ((movesRun room (doMove bs m) l).1, (movesRun room (doMove bs m) l).2 + 1) := fun l => by
        show (if canMove room bs m then _ else _) = _
        rw [if_pos hc]
      rw [List.cons_append, e1, e1, run_app a c (doMove bs m)]
      simp only [List.length_cons]
      split
      · rename_i h
        rw [if_pos (by omega)]
        simp only [Prod.mk.injEq, true_and]
        omega
      · rename_i h
        rw [if_neg (by omega)]
    · have e1 : ∀ l, movesRun room bs (m :: l) = (bs, 0) := fun l => by
        show (if canMove room bs m then _ else _) = _
        rw [if_neg hc]
      rw [List.cons_append, e1, e1, if_neg (by simp)]
/-- one more -/
theorem run_step {room : List Int} {bs : List (List TaskD)} {ms : List MoveD} {k : Nat} {m : MoveD} (hm : ms[k]? = some m) {cur : List (List TaskD)} (h : movesRun room bs (ms.take k) = (cur, k)) (hc : canMove room cur m = true) : movesRun room bs (ms.take (k + 1)) = (doMove cur m, k + 1) := by
  have hk := (List.getElem?_eq_some_iff.1 hm).1
  have hl : (ms.take k).length = k := by rw [List.length_take]; omega
  rw [take_snoc hm, run_app, h, hl, if_pos rfl]
  show ((movesRun room cur [m]).1, k + (movesRun room cur [m]).2) = _
  unfold movesRun
  rw [if_pos hc]
  rfl
theorem run_end {room : List Int} {bs : List (List TaskD)} {ms : List MoveD} {k : Nat} {m : MoveD} (hm : ms[k]? = some m) {cur : List (List TaskD)} (h : movesRun room bs (ms.take k) = (cur, k)) (hc : canMove room cur m = false) : movesRun room bs ms = (cur, k) := by
  have hk := (List.getElem?_eq_some_iff.1 hm).1
  have hl : (ms.take k).length = k := by rw [List.length_take]; omega
  have hd : ms = ms.take k ++ ms.drop k := (List.take_append_drop k ms).symm
  rw [hd, run_app, h, hl, if_pos rfl, List.drop_eq_getElem_cons hk]
  have : ms[k] = m := by rw [List.getElem?_eq_getElem hk] at hm; injection hm
  rw [this]
  show ((movesRun room cur (m :: _)).1, k + (movesRun room cur (m :: _)).2) = _
  unfold movesRun
  rw [if_neg (by rw [hc]; simp)]
  rfl

end Go.Proofs.YtllchacophapoaaDoor

/- Gathering: the next move, a plan. No program in sight. -/
namespace Go.Proofs.YtllchacophapoaaDoor

/-- the first node that has room, or -1 -/
def firstAt (room : List Int) (bs : List (List TaskD)) (x : TaskD) : Int := match bs.findIdx? (fun b => l11fits room b x) with | some i => i | none => -1
theorem firstAt_hit {room : List Int} {bs : List (List TaskD)} {x : TaskD} {k : Nat} {b : List TaskD} (hb : bs[k]? = some b) (h : l11fits room b x = true) (hn : ∀ (j : Nat) c, j < k → bs[j]? = some c → l11fits room c x = false) : firstAt room bs x = k := by
  have hk : k < bs.length := (List.getElem?_eq_some_iff.1 hb).1
  have hbk : bs[k] = b := (List.getElem?_eq_some_iff.1 hb).2
  have : bs.findIdx? (fun b => l11fits room b x) = some k := by
    rw [List.findIdx?_eq_some_iff_getElem]
    exact ⟨hk, by rw [hbk]; exact h, fun j hj => by simpa using hn j bs[j] hj (List.getElem?_eq_getElem (by omega))⟩
  unfold firstAt
  rw [this]
theorem firstAt_miss {room : List Int} {bs : List (List TaskD)} {x : TaskD} (hn : ∀ (j : Nat) c, bs[j]? = some c → l11fits room c x = false) : firstAt room bs x = -1 := by
  have : bs.findIdx? (fun b => l11fits room b x) = none := by
    rw [List.findIdx?_eq_none_iff]
    intro b hb
    obtain ⟨k, hk⟩ := List.getElem?_of_mem hb
    exact hn k b hk
  unfold firstAt
  rw [this]
theorem firstAt_ge (room : List Int) (bs : List (List TaskD)) (x : TaskD) : -1 ≤ firstAt room bs x := by unfold firstAt; split <;> omega
theorem firstAt_some {room : List Int} {bs : List (List TaskD)} {x : TaskD} (h : 0 ≤ firstAt room bs x) : ∃ (k : Nat) (b : List TaskD), firstAt room bs x = (k : Int) ∧ bs[k]? = some b ∧ l11fits room b x = true := by
  unfold firstAt at h ⊢
  split at h
  · rename_i i hi
    rw [List.findIdx?_eq_some_iff_getElem] at hi
    exact ⟨i, bs[i]'hi.1, rfl, List.getElem?_eq_getElem hi.1, hi.2.1⟩
  · omega

/-- the tasks of all nodes with their nodes, those of the last one first -/
def cands (bs : List (List TaskD)) : List (TaskD × Nat) := (List.range bs.length).reverse.flatMap fun i => (bs.getD i []).map fun t => (t, i)
def tryOne (room : List Int) (bs : List (List TaskD)) (p : TaskD × Nat) : Option MoveD := if 0 ≤ firstAt room (bs.take p.2) p.1 then some ⟨p.1.id, firstAt room (bs.take p.2) p.1⟩ else none
def nextMv (room : List Int) (bs : List (List TaskD)) : Option MoveD := (cands bs).findSome? (tryOne room bs)
def plan (room : List Int) : Nat → List (List TaskD) → List MoveD
  | 0, _ => []
  | n + 1, bs => match nextMv room bs with | none => [] | some m => m :: plan room n (doMove bs m)
def gatherPlan (room : List Int) (bs : List (List TaskD)) (most : Int) : List MoveD := if binsOk room bs && inB most 0 20 then plan room most.toNat bs else []

theorem next_parts {room : List Int} {bs : List (List TaskD)} {m : MoveD} (hv : binsOk room bs = true) (h : nextMv room bs = some m) : canMove room bs m = true ∧ m.to < whereL bs m.id := by
  obtain ⟨p, hp, hm⟩ := List.exists_of_findSome?_eq_some h
  obtain ⟨i, hi, hp⟩ := List.mem_flatMap.1 hp
  obtain ⟨t, ht, rfl⟩ := List.mem_map.1 hp
  have hil : i < bs.length := by simpa using hi
  have hb := List.getElem?_eq_getElem hil
  rw [List.getD_eq_getElem?_getD, hb] at ht
  have ht : t ∈ bs[i] := ht
  unfold tryOne at hm
  simp only at hm
  split at hm
  · rename_i ha
    injection hm with hm
    subst hm
    obtain ⟨k, c, hk, hc, hf⟩ := firstAt_some ha
    rw [hk]
    have hn := bins_once hv
    have hki : k < i := by
      have h1 := (List.getElem?_eq_some_iff.1 hc).1
      rw [List.length_take] at h1
      omega
    have hc2 : bs[k]? = some c := by rw [List.getElem?_take, if_pos hki] at hc; exact hc
    have hw : whereL bs t.id = (i : Int) := by
      refine whereL_hit hb (hasId_mem ht) (fun j d hj hd => ?_)
      cases hx : hasId d t.id with
      | false => rfl
      | true => exact absurd (only_one hn hd hb hx (hasId_mem ht)) (by omega)
    have hl : lastL t.id bs.flatten = t := last_eq hn (List.mem_flatten.2 ⟨_, List.mem_of_getElem? hb, ht⟩) rfl
    refine ⟨?_, by show (k : Int) < whereL bs t.id; omega⟩
    rw [can_eq (m := ⟨t.id, (k : Int)⟩) hw hl]
    simp only [Bool.and_eq_true, Bool.not_eq_true', inB, decide_eq_true_eq, beq_eq_false_iff_ne, ne_eq]
    refine ⟨⟨by omega, by omega⟩, by omega, ?_⟩
    rw [Int.toNat_natCast, List.getD_eq_getElem?_getD, hc2]
    exact hf
  · cases hm
theorem plan_run {room : List Int} : ∀ (n : Nat) {bs : List (List TaskD)}, binsOk room bs = true →
    (movesRun room bs (plan room n bs)).2 = (plan room n bs).length ∧ (plan room n bs).length ≤ n ∧ ((plan room n bs).length < n → nextMv room (movesRun room bs (plan room n bs)).1 = none)
  | 0, bs, _ => ⟨rfl, Nat.le_refl _, fun h => absurd h (by simp [plan])⟩
  | n + 1, bs, hv => by
    unfold plan
    cases hm : nextMv room bs with
    | none => exact ⟨rfl, Nat.zero_le _, fun _ => hm⟩
    | some m =>
      obtain ⟨hc, _⟩ := next_parts hv hm
      obtain ⟨h1, h2, h3⟩ := plan_run n (move_valid hv hc)
      simp only
      unfold movesRun
      rw [if_pos hc]
      refine ⟨by simp only [List.length_cons]; omega, by simp only [List.length_cons]; omega, fun h => h3 (by simp only [List.length_cons] at h; omega)⟩
theorem move_where {room : List Int} {bs : List (List TaskD)} {m : MoveD} (hv : binsOk room bs = true) (hc : canMove room bs m = true) (hlt : m.to < whereL bs m.id) (id : Int) : whereL (doMove bs m) id ≤ whereL bs id := by
  have hn := bins_once hv
  obtain ⟨f, t, k, b, c, x, hp⟩ := can_parts hn hc
  by_cases hi : id = m.id
  · subst hi
    rw [hp.where_ hn]
    have := hp.to
    omega
  · rw [hp.other hn hi]
    exact Int.le_refl _
theorem plan_less {room : List Int} : ∀ (n : Nat) {bs : List (List TaskD)}, binsOk room bs = true → ∀ m ∈ plan room n bs, m.to < whereL bs m.id
  | 0, bs, _, m, h => by simp [plan] at h
  | n + 1, bs, hv, m, h => by
    unfold plan at h
    cases hm : nextMv room bs with
    | none => rw [hm] at h; simp at h
    | some m' =>
      rw [hm] at h
      obtain ⟨hc, hlt⟩ := next_parts hv hm
      rcases List.mem_cons.1 h with rfl | h
      · exact hlt
      · have h1 := plan_less n (move_valid hv hc) m h
        have h2 := move_where hv hc hlt m.id
        omega
/-- nodes from one on stay empty -/
theorem plan_empty {room : List Int} (last : Nat) : ∀ (n : Nat) {bs : List (List TaskD)}, binsOk room bs = true → (∀ (i : Nat) b, last ≤ i → bs[i]? = some b → b = []) → ∀ (i : Nat) b, last ≤ i → (movesRun room bs (plan room n bs)).1[i]? = some b → b = []
  | 0, bs, _, h => h
  | n + 1, bs, hv, h => by
    unfold plan
    cases hm : nextMv room bs with
    | none => exact h
    | some m =>
      obtain ⟨hc, hlt⟩ := next_parts hv hm
      have hn := bins_once hv
      simp only
      unfold movesRun
      rw [if_pos hc]
      refine plan_empty last n (move_valid hv hc) (fun i d hi hd => ?_)
      obtain ⟨f, t, k, b, c, x, hp⟩ := can_parts hn hc
      have hfl : f < last := by
        refine Nat.lt_of_not_le fun hle => ?_
        have h1 := h f b hle hp.hb
        have h2 := hp.hx
        rw [h1] at h2
        simp at h2
      have htf : t < f := by have h1 := hp.to; have h2 := hp.wf; omega
      rw [hp.at_ hn, if_neg (by omega), if_neg (by omega)] at hd
      exact h i d hi hd

end Go.Proofs.YtllchacophapoaaDoor
