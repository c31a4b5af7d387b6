/- What the nodes of a cluster bear; which one has most left. No program in sight. -/
import Derived.Test.YtcfpilkhjpegcaaK1
import Derived.Test.YtcfpilkhjpegcaaK2
namespace Go.Proofs.Ytcfpilkhjpegcaa

theorem snocRec {α : Type} {motive : List α → Prop} (nil : motive []) (snoc : ∀ xs x, motive xs → motive (xs ++ [x])) (xs : List α) : motive xs := by
  have h : ∀ ys : List α, motive ys.reverse := fun ys => by
    induction ys with
    | nil => exact nil
    | cons y ys ih => rw [List.reverse_cons]; exact snoc _ _ ih
  have := h xs.reverse
  rwa [List.reverse_reverse] at this
theorem addL_eq (a b : List Int) (t : Int) : addL a b t = [a.getD 0 0 + t * b.getD 0 0, a.getD 1 0 + t * b.getD 1 0, a.getD 2 0 + t * b.getD 2 0] := rfl
theorem len3 {xs : List Int} (h : xs.length = 3) : xs = [xs.getD 0 0, xs.getD 1 0, xs.getD 2 0] := by
  match xs, h with
  | [a, b, c], _ => rfl
theorem addL_zero {a : List Int} (h : a.length = 3) : addL a [0, 0, 0] 1 = a := by
  match a, h with
  | [x, y, z], _ => simp [addL_eq]
theorem addL_assoc (a b c : List Int) : addL (addL a b 1) c 1 = addL a (addL b c 1) 1 := by
  simp [addL_eq]; omega
theorem loadL_app (xs ys : List TaskD) : loadL (xs ++ ys) = addL (loadL xs) (loadL ys) 1 := by
  induction ys using snocRec with
  | nil => rw [List.append_nil]; exact (addL_zero (loadL_len xs)).symm
  | snoc ys t ih => rw [← List.append_assoc, loadL_snoc, ih, loadL_snoc, addL_assoc]
/-- loads, added up -/
def togL (ls : List (List Int)) : List Int := ls.foldl (fun acc a => addL acc a 1) [0, 0, 0]
theorem togL_snoc (ls : List (List Int)) (a : List Int) : togL (ls ++ [a]) = addL (togL ls) a 1 := by simp [togL]
theorem togL_len (ls : List (List Int)) : (togL ls).length = 3 := by
  rcases List.eq_nil_or_concat ls with rfl | ⟨l, t, rfl⟩
  · rfl
  · rw [List.concat_eq_append, togL_snoc, addL_len]
theorem togL_succ {ls : List (List Int)} {k : Nat} {a : List Int} (h : ls[k]? = some a) : togL (ls.take (k + 1)) = addL (togL (ls.take k)) a 1 := by rw [take_snoc h, togL_snoc]
theorem togL_bd {ls : List (List Int)} (h : ∀ a ∈ ls, Bd 20 a) : ∀ k : Nat, k ≤ ls.length → Bd (20 * (k : Int)) (togL (ls.take k))
  | 0, _ => by intro x hx; simp [togL] at hx; omega
  | k + 1, hk => by
    have hx : ls[k]? = some ls[k] := List.getElem?_eq_getElem (by omega)
    rw [togL_succ hx]
    exact (Bd.add (togL_bd h k (by omega)) (h _ (List.getElem_mem _)) (by omega) (by omega) 1 (.inl rfl)).mono (by omega)
theorem tog_loads (us : List UnitD) : togL (us.map fun u => loadL u.tasks) = loadL (us.map (·.tasks)).flatten := by
  induction us using snocRec with
  | nil => rfl
  | snoc us u ih => rw [List.map_append, List.map_append, List.flatten_append, loadL_app, ← ih]; simp [togL_snoc]

/-- all tasks of a cluster -/
def allT (C : ClusD) : List TaskD := (C.units.map (·.tasks)).flatten
def loadsL (C : ClusD) : List (List Int) := C.units.map fun u => loadL u.tasks
def usageL (C : ClusD) : List Int := loadL (allT C)
theorem tog_usage (C : ClusD) : togL (loadsL C) = usageL C := tog_loads C.units
theorem usageL_len (C : ClusD) : (usageL C).length = 3 := loadL_len _
/-- the usage, or nothing -/
def usageOf (C : ClusD) : List Int := if clusOk C then usageL C else []

theorem unit_vec {C : ClusD} (h : clusOk C = true) {u : UnitD} (hu : u ∈ C.units) : ∀ t ∈ u.tasks, vecOk t.need = true := fun _t ht =>
  (vecFits_ok (tasksOk_mem (binsOk_tk (clusOk_bins h)) (List.mem_flatten.2 ⟨u.tasks, List.mem_map.2 ⟨u, hu, rfl⟩, ht⟩)).2).1
theorem loads_nn : ∀ {ts : List TaskD}, (∀ t ∈ ts, vecOk t.need = true) → ∀ i, i < 3 → 0 ≤ (loadL ts).getD i 0 := by
  intro ts
  induction ts using snocRec with
  | nil => intro _ i hi; match i, hi with
    | 0, _ => exact Int.le_refl _
    | 1, _ => exact Int.le_refl _
    | 2, _ => exact Int.le_refl _
  | snoc ts t ih =>
    intro h i hi
    have h1 := ih (fun x hx => h x (by simp [hx])) i hi
    have h2 := ((vecOk_nn (h t (by simp))).getD (by omega) i).1
    rw [loadL_snoc, addL_eq]
    match i, hi, h1, h2 with
    | 0, _, h1, h2 => simp at h1 h2 ⊢; omega
    | 1, _, h1, h2 => simp at h1 h2 ⊢; omega
    | 2, _, h1, h2 => simp at h1 h2 ⊢; omega
theorem vecOk3 {xs : List Int} (hl : xs.length = 3) (h : ∀ i, i < 3 → 0 ≤ xs.getD i 0 ∧ xs.getD i 0 ≤ 20) : vecOk xs = true := by
  match xs, hl with
  | [a, b, c], _ =>
    have h0 := h 0 (by omega)
    have h1 := h 1 (by omega)
    have h2 := h 2 (by omega)
    simp at h0 h1 h2
    simp [vecOk, inB]
    omega
theorem vecOk_at {xs : List Int} (h : vecOk xs = true) {i : Nat} (hi : i < 3) : 0 ≤ xs.getD i 0 ∧ xs.getD i 0 ≤ 20 := by
  have hl := vecOk_len h
  have e : xs[i]? = some (xs.getD i 0) := by rw [List.getD_eq_getElem?_getD, List.getElem?_eq_getElem (by omega)]; rfl
  exact vecOk_mem h _ (List.mem_of_getElem? e)
theorem load_vec {C : ClusD} (h : clusOk C = true) {u : UnitD} (hu : u ∈ C.units) : vecOk (loadL u.tasks) = true :=
  vecOk3 (loadL_len _) fun i hi => ⟨loads_nn (unit_vec h hu) i hi, Int.le_trans (fitsL_at (clusOk_unit h hu).2 hi) (vecOk_at (roomOk_vec (clusOk_room h)) hi).2⟩
theorem leftL_at (room : List Int) (ts : List TaskD) {i : Nat} (hi : i < 3) : (leftL room ts).getD i 0 = room.getD i 0 - (loadL ts).getD i 0 := by
  unfold leftL
  rw [addL_eq]
  match i, hi with
  | 0, _ => simp; omega
  | 1, _ => simp; omega
  | 2, _ => simp; omega
theorem left_vec {C : ClusD} (h : clusOk C = true) {u : UnitD} (hu : u ∈ C.units) : vecOk (leftL C.room u.tasks) = true :=
  vecOk3 (leftL_len _ _) fun i hi => by
    have h1 := loads_nn (unit_vec h hu) i hi
    have h2 := fitsL_at (clusOk_unit h hu).2 hi
    have h3 := vecOk_at (roomOk_vec (clusOk_room h)) hi
    rw [leftL_at _ _ hi]
    omega
theorem sumL3 {xs : List Int} (h : xs.length = 3) : sumL xs = xs.getD 0 0 + xs.getD 1 0 + xs.getD 2 0 := by
  match xs, h with
  | [a, b, c], _ => simp [sumL]
theorem sumL_vec {xs : List Int} (h : vecOk xs = true) : 0 ≤ sumL xs ∧ sumL xs ≤ 60 := by
  rw [sumL3 (vecOk_len h)]
  have h0 := vecOk_at h (i := 0) (by omega)
  have h1 := vecOk_at h (i := 1) (by omega)
  have h2 := vecOk_at h (i := 2) (by omega)
  omega
/-- what is left of a node -/
def leftN (C : ClusD) (u : UnitD) : Int := sumL C.room - sumL (loadL u.tasks)
theorem leftN_eq {C : ClusD} (hr : C.room.length = 3) (u : UnitD) : sumL (leftL C.room u.tasks) = leftN C u := by
  unfold leftN
  rw [sumL3 (leftL_len _ _), sumL3 hr, sumL3 (loadL_len _), leftL_at _ _ (by omega), leftL_at _ _ (by omega), leftL_at _ _ (by omega)]
  omega
theorem leftN_bd {C : ClusD} (h : clusOk C = true) {u : UnitD} (hu : u ∈ C.units) : 0 ≤ leftN C u ∧ leftN C u ≤ 60 := by
  rw [← leftN_eq (vecOk_len (roomOk_vec (clusOk_room h)))]
  exact sumL_vec (left_vec h hu)
/-- what is left of an open node, -1 of a closed one -/
def leftOr (C : ClusD) (u : UnitD) : Int := if u.opened then leftN C u else -1
def leftsL (C : ClusD) : List Int := C.units.map (leftOr C)
/-- the sum of what is left of the first k nodes -/
def leftTo (C : ClusD) (k : Nat) : Int := (C.units.take k).foldl (fun n u => if u.opened then n + leftN C u else n) 0
theorem leftTo_succ {C : ClusD} {k : Nat} {u : UnitD} (h : C.units[k]? = some u) : leftTo C (k + 1) = if u.opened then leftTo C k + leftN C u else leftTo C k := by
  unfold leftTo; rw [take_snoc h, List.foldl_append]; rfl
theorem leftTo_bd {C : ClusD} (h : clusOk C = true) : ∀ k : Nat, k ≤ C.units.length → 0 ≤ leftTo C k ∧ leftTo C k ≤ 60 * (k : Int)
  | 0, _ => by simp [leftTo]
  | k + 1, hk => by
    have ih := leftTo_bd h k (by omega)
    have hx : C.units[k]? = some C.units[k] := List.getElem?_eq_getElem (by omega)
    have hb := leftN_bd h (List.getElem_mem (by omega : k < C.units.length))
    rw [leftTo_succ hx]
    split <;> omega
/-- what is left of all open nodes, or -1 -/
def leftAll (C : ClusD) : Int := if clusOk C then leftTo C C.units.length else -1
theorem leftTo_max {C : ClusD} (h : clusOk C = true) {k : Nat} {u : UnitD} (hu : C.units[k]? = some u) : leftTo C (k + 1) = leftTo C k + max (leftOr C u) 0 := by
  have hb := leftN_bd h (List.mem_of_getElem? hu)
  rw [leftTo_succ hu]
  unfold leftOr
  split <;> omega

/-- the share of the room of all open nodes that is used -/
def shareN (C : ClusD) (dim : Int) : Int :=
  if clusOk C && inB dim 0 2 then (if openN C = 0 then 0 else (100 * (usageL C).getD dim.toNat 0).tdiv ((openN C : Int) * C.room.getD dim.toNat 0)) else -1

/-- the open node of which most is left, among the first k -/
def loosTo (C : ClusD) : Nat → Int
  | 0 => -1
  | k + 1 => match C.units[k]? with
    | some u => if u.opened && (decide (loosTo C k < 0) || decide (leftN C (C.units.getD (loosTo C k).toNat default) < leftN C u)) then (k : Int) else loosTo C k
    | none => loosTo C k
theorem loosTo_succ {C : ClusD} {k : Nat} {u : UnitD} (h : C.units[k]? = some u) : loosTo C (k + 1) = if u.opened && (decide (loosTo C k < 0) || decide (leftN C (C.units.getD (loosTo C k).toNat default) < leftN C u)) then (k : Int) else loosTo C k := by
  show (match C.units[k]? with | some u => _ | none => _) = _
  rw [h]
/-- what the search knows -/
theorem loosTo_inv {C : ClusD} (h : clusOk C = true) : ∀ k : Nat, k ≤ C.units.length →
    (loosTo C k = -1 ∧ ∀ (j : Nat) u, j < k → C.units[j]? = some u → u.opened = false) ∨
    ∃ (j : Nat) (v : UnitD), loosTo C k = j ∧ j < k ∧ C.units[j]? = some v ∧ v.opened = true ∧ ∀ (i : Nat) u, i < k → C.units[i]? = some u → leftOr C u ≤ leftN C v ∧ (i < j → leftOr C u < leftN C v)
  | 0, _ => .inl ⟨rfl, fun j u hj => absurd hj (by omega)⟩
  | k + 1, hk => by
    have hx : C.units[k]? = some C.units[k] := List.getElem?_eq_getElem (by omega)
    obtain ⟨x, hxe⟩ : ∃ x, x = C.units[k] := ⟨_, rfl⟩
    rw [← hxe] at hx
    clear hxe
    have hb := leftN_bd h (List.mem_of_getElem? hx)
    rw [loosTo_succ hx]
    rcases loosTo_inv h k (by omega) with ⟨e, hn⟩ | ⟨j, v, e, hj, hv, ho, hm⟩
    · rw [e]
      cases hxo : x.opened with
      | false =>
        left
        refine ⟨by simp, fun i u hi hu => ?_⟩
        by_cases hik : i = k
        · subst hik; rw [hx] at hu; injection hu with hu; rw [← hu]; exact hxo
        · exact hn i u (by omega) hu
      | true =>
        right
        refine ⟨k, x, by simp, by omega, hx, hxo, fun i u hi hu => ?_⟩
        by_cases hik : i = k
        · subst hik; rw [hx] at hu; injection hu with hu; rw [← hu]; refine ⟨by simp [leftOr, hxo], fun hlt => absurd hlt (by omega)⟩
        · have := hn i u (by omega) hu
          simp only [leftOr, this]
          refine ⟨?_, fun _ => ?_⟩ <;> simp <;> omega
    · rw [e]
      have e2 : C.units.getD (j : Int).toNat default = v := by simp [List.getD, hv]
      rw [e2]
      have hj0 : decide ((j : Int) < 0) = false := by simp
      rw [hj0]
      by_cases hc : (x.opened && (false || decide (leftN C v < leftN C x))) = true
      · rw [if_pos hc]
        simp only [Bool.and_eq_true, Bool.false_or, decide_eq_true_eq] at hc
        right
        refine ⟨k, x, rfl, by omega, hx, hc.1, fun i u hi hu => ?_⟩
        by_cases hik : i = k
        · subst hik; rw [hx] at hu; injection hu with hu; rw [← hu]; refine ⟨by simp [leftOr, hc.1], fun hlt => absurd hlt (by omega)⟩
        · have := (hm i u (by omega) hu).1
          exact ⟨by omega, fun _ => by omega⟩
      · rw [if_neg hc]
        right
        refine ⟨j, v, rfl, by omega, hv, ho, fun i u hi hu => ?_⟩
        by_cases hik : i = k
        · subst hik
          rw [hx] at hu
          injection hu with hu
          rw [← hu]
          have hbv := leftN_bd h (List.mem_of_getElem? hv)
          refine ⟨?_, fun hlt => absurd hlt (by omega)⟩
          unfold leftOr
          cases hxo : x.opened with
          | false => simp; omega
          | true => simp [hxo] at hc; simp; omega
        · exact hm i u (by omega) hu
/-- the open node of which most is left, or -1 -/
def loosN (C : ClusD) : Int := if clusOk C then loosTo C C.units.length else -1
theorem loos_none {C : ClusD} (h : clusOk C = true) (h0 : openN C = 0) : loosN C = -1 := by
  unfold loosN
  rw [if_pos h]
  rcases loosTo_inv h _ (Nat.le_refl _) with ⟨e, _⟩ | ⟨j, v, e, hj, hv, ho, _⟩
  · exact e
  · exfalso
    have : 0 < openN C := by
      unfold openN openTo
      rw [List.take_length]
      exact List.countP_pos_iff.2 ⟨v, List.mem_of_getElem? hv, ho⟩
    omega
theorem loos_some {C : ClusD} (h : clusOk C = true) (h0 : openN C ≠ 0) {m : Int} (hm : ∀ t : Int, decide (t < m) = (leftsL C).any fun x => decide (t < x)) : loosN C = idxI (fun x => m == x) (leftsL C) := by
  unfold loosN
  rw [if_pos h]
  have at_ : ∀ (i : Nat) x, (leftsL C)[i]? = some x → ∃ u, C.units[i]? = some u ∧ x = leftOr C u := fun i x hx => by
    unfold leftsL at hx
    rw [List.getElem?_map] at hx
    obtain ⟨u, hu, e⟩ := Option.map_eq_some_iff.1 hx
    exact ⟨u, hu, e.symm⟩
  rcases loosTo_inv h _ (Nat.le_refl _) with ⟨_, hn⟩ | ⟨j, v, e, hj, hv, ho, hk⟩
  · exfalso
    refine h0 ?_
    unfold openN openTo
    rw [List.take_length]
    refine List.countP_eq_zero.2 fun u hu => ?_
    obtain ⟨i, hi⟩ := List.getElem?_of_mem hu
    have := hn i u (List.getElem?_eq_some_iff.1 hi).1 hi
    simp [this]
  · rw [e]
    have hjl : (leftsL C)[j]? = some (leftN C v) := by
      unfold leftsL
      rw [List.getElem?_map, hv]
      simp [leftOr, ho]
    have hle : ∀ x ∈ leftsL C, x ≤ leftN C v := fun x hx => by
      obtain ⟨i, hi⟩ := List.getElem?_of_mem hx
      obtain ⟨u, hu, rfl⟩ := at_ i x hi
      exact (hk i u (List.getElem?_eq_some_iff.1 hu).1 hu).1
    have hmv : m = leftN C v := by
      have h1 := hm (leftN C v - 1)
      have h2 := hm (leftN C v)
      have e1 : ((leftsL C).any fun x => decide (leftN C v - 1 < x)) = true := List.any_eq_true.2 ⟨_, List.mem_of_getElem? hjl, by simp; omega⟩
      have e2 : ((leftsL C).any fun x => decide (leftN C v < x)) = false := List.any_eq_false.2 fun x hx => by have := hle x hx; simp; omega
      rw [e1] at h1
      rw [e2] at h2
      simp at h1 h2
      omega
    refine (idxI_hit hjl (by simp [hmv]) fun i x hi hx => ?_).symm
    obtain ⟨u, hu, rfl⟩ := at_ i x hx
    have := (hk i u (List.getElem?_eq_some_iff.1 hu).1 hu).2 hi
    simp
    omega
end Go.Proofs.Ytcfpilkhjpegcaa

/- A share is at most everything. No program in sight. -/
namespace Go.Proofs.Ytcfpilkhjpegcaa

theorem addL_getD (a b : List Int) {d : Nat} (hd : d < 3) : (addL a b 1).getD d 0 = a.getD d 0 + b.getD d 0 := by
  rw [addL_eq]
  match d, hd with
  | 0, _ => simp
  | 1, _ => simp
  | 2, _ => simp
theorem tog_le {C : ClusD} (h : clusOk C = true) {d : Nat} (hd : d < 3) : ∀ k : Nat, k ≤ C.units.length → 0 ≤ (togL ((loadsL C).take k)).getD d 0 ∧ (togL ((loadsL C).take k)).getD d 0 ≤ (openTo C.units k : Int) * C.room.getD d 0
  | 0, _ => by
    simp only [List.take_zero, togL, List.foldl_nil, openTo, List.countP_nil]
    match d, hd with
    | 0, _ => simp
    | 1, _ => simp
    | 2, _ => simp
  | k + 1, hk => by
    have ih := tog_le h hd k (by omega)
    have hx : C.units[k]? = some C.units[k] := List.getElem?_eq_getElem (by omega)
    obtain ⟨x, hxe⟩ : ∃ x, x = C.units[k] := ⟨_, rfl⟩
    rw [← hxe] at hx
    have hm := List.mem_of_getElem? hx
    have hl : (loadsL C)[k]? = some (loadL x.tasks) := by unfold loadsL; rw [List.getElem?_map, hx]; rfl
    rw [togL_succ hl, addL_getD _ _ hd, openTo_succ hx]
    have h1 := loads_nn (unit_vec h hm) d hd
    have h2 := fitsL_at (clusOk_unit h hm).2 hd
    have h3 := vecOk_at (roomOk_vec (clusOk_room h)) hd
    cases ho : x.opened with
    | true =>
      simp only [if_true]
      have e : ((openTo C.units k + 1 : Nat) : Int) * C.room.getD d 0 = (openTo C.units k : Int) * C.room.getD d 0 + C.room.getD d 0 := by rw [Int.natCast_add, Int.add_mul]; simp
      rw [e]
      omega
    | false =>
      have ht : x.tasks = [] := by
        simp only [clusOk, Bool.and_eq_true, List.all_eq_true] at h
        have := h.1 x hm
        rw [ho] at this
        simpa using this
      have h4 : (loadL x.tasks).getD d 0 = 0 := by
        rw [ht]
        match d, hd with
        | 0, _ => rfl
        | 1, _ => rfl
        | 2, _ => rfl
      simp only [Bool.false_eq_true, if_false]
      omega
theorem usage_bd {C : ClusD} (h : clusOk C = true) {d : Nat} (hd : d < 3) : 0 ≤ (usageL C).getD d 0 ∧ (usageL C).getD d 0 ≤ (openN C : Int) * C.room.getD d 0 := by
  have := tog_le h hd C.units.length (Nat.le_refl _)
  have e : (loadsL C).take C.units.length = loadsL C := by
    have : (loadsL C).length = C.units.length := by unfold loadsL; rw [List.length_map]
    rw [← this, List.take_length]
  rw [e, tog_usage] at this
  exact this
theorem room_bd {C : ClusD} (h : clusOk C = true) {d : Nat} (hd : d < 3) : 1 ≤ C.room.getD d 0 ∧ C.room.getD d 0 ≤ 20 := by
  have h1 := vecOk_at (roomOk_vec (clusOk_room h)) hd
  have h2 := clusOk_room h
  simp only [roomOk, Bool.and_eq_true, List.all_eq_true] at h2
  have hl := vecOk_len h2.2
  have e : C.room[d]? = some (C.room.getD d 0) := by rw [List.getD_eq_getElem?_getD, List.getElem?_eq_getElem (by omega)]; rfl
  have h3 : 1 ≤ C.room.getD d 0 := of_decide_eq_true (h2.1 _ (List.mem_of_getElem? e))
  omega
theorem open_le {C : ClusD} (h : clusOk C = true) : openN C ≤ 10 := Nat.le_trans (openTo_le _ _) (clusOk_len h).2
/-- all the room of the open nodes -/
theorem all_bd {C : ClusD} (h : clusOk C = true) {d : Nat} (hd : d < 3) : 0 ≤ (openN C : Int) * C.room.getD d 0 ∧ (openN C : Int) * C.room.getD d 0 ≤ 200 ∧ (openN C ≠ 0 → 0 < (openN C : Int) * C.room.getD d 0) := by
  have h1 := room_bd h hd
  have h2 := open_le h
  have e1 : (openN C : Int) * C.room.getD d 0 ≤ (openN C : Int) * 20 := Int.mul_le_mul_of_nonneg_left h1.2 (by omega)
  refine ⟨Int.mul_nonneg (by omega) (by omega), by omega, fun h0 => Int.mul_pos (by omega) (by omega)⟩
/-- the share, reckoned -/
theorem share_eq {C : ClusD} (h : clusOk C = true) {d : Nat} (hd : d < 3) (h0 : openN C ≠ 0) : shareN C d = (100 * (usageL C).getD d 0) / ((openN C : Int) * C.room.getD d 0) := by
  unfold shareN
  have hi : inB (d : Int) 0 2 = true := by simp [inB]; omega
  rw [h, hi, if_neg h0]
  simp only [Bool.and_self, if_true, Int.toNat_natCast]
  exact Int.tdiv_eq_ediv_of_nonneg (by have := (usage_bd h hd).1; omega)
theorem share_law {C : ClusD} (h : clusOk C = true) {d : Nat} (hd : d < 3) {out n u : Int} (ho : out = shareN C d) (hn : n = (openN C : Int) * C.room.getD d 0) (hu : u = (usageL C).getD d 0) :
    0 ≤ out ∧ out ≤ 100 ∧ out * n ≤ 100 * u ∧ (n = 0 → out = 0) ∧ (n ≠ 0 → 100 * u < (out + 1) * n) ∧ 0 ≤ n ∧ n ≤ 200 ∧ 0 ≤ u ∧ u ≤ 200 ∧ 0 ≤ out * n ∧ out * n ≤ 20000 ∧ (out + 1) * n ≤ 20200 ∧ 0 ≤ (out + 1) * n := by
  have hb := usage_bd h hd
  have ha := all_bd h hd
  rw [← hn, ← hu] at hb
  rw [← hn] at ha
  by_cases h0 : openN C = 0
  · have e : shareN C d = 0 := by
      unfold shareN
      have hi : inB (d : Int) 0 2 = true := by simp [inB]; omega
      rw [h, hi, if_pos h0]
      simp
    rw [e] at ho
    have hn0 : n = 0 := by rw [hn, h0]; simp
    subst ho
    subst hn0
    refine ⟨by omega, by omega, by omega, fun _ => rfl, fun hx => absurd rfl hx, by omega, by omega, by omega, by omega, by omega, by omega, by omega, by omega⟩
  · have hp := ha.2.2 h0
    have e := share_eq h hd h0
    rw [← ho, ← hn, ← hu] at e
    have h1 : 0 ≤ out := by rw [e]; exact Int.ediv_nonneg (by omega) (by omega)
    have h2 : out * n ≤ 100 * u := by rw [e]; exact Int.ediv_mul_le _ (by omega)
    have h3 : 100 * u < (out + 1) * n := by
      have := Int.lt_ediv_add_one_mul_self (100 * u) hp
      rw [e]
      exact this
    have h4 : out ≤ 100 := by
      have : out * n ≤ 100 * n := by omega
      exact Int.le_of_mul_le_mul_right this hp
    have h5 : 0 ≤ out * n := Int.mul_nonneg h1 (by omega)
    have h6 : (out + 1) * n = out * n + n := by rw [Int.add_mul]; simp
    refine ⟨h1, h4, h2, fun hx => by omega, fun _ => h3, by omega, by omega, by omega, by omega, h5, by omega, by omega, by omega⟩
end Go.Proofs.Ytcfpilkhjpegcaa
