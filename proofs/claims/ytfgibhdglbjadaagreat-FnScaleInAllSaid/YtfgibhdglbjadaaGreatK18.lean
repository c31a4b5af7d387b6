/- What arriving and departing do, told of the data. No program in sight. -/
import Derived.Test.YtfgibhdglbjadaaGreatK15
import Derived.Test.YtfgibhdglbjadaaGreatK1
namespace Go.Proofs.YtfgibhdglbjadaaGreat
open Go.RowKit
set_option maxRecDepth 4000
set_option maxRecDepth 4000

theorem idxI_some {α : Type} {p : α → Bool} {xs : List α} {k : Nat} (h : idxI p xs = k) : ∃ x, xs[k]? = some x ∧ p x = true := by
  unfold idxI at h
  split at h
  · rename_i i hi
    have hik : i = k := by omega
    subst hik
    rw [List.findIdx?_eq_some_iff_getElem] at hi
    exact ⟨_, List.getElem?_eq_getElem hi.1, hi.2.1⟩
  · omega
theorem idxI_none {α : Type} {p : α → Bool} {xs : List α} (h : idxI p xs < 0) : ∀ x ∈ xs, p x = false := by
  intro x hx
  cases hp : p x with
  | false => rfl
  | true =>
    have h1 := idxI_ge p xs
    rw [decide_eq_false (by omega)] at h1
    have h2 : xs.any p = true := List.any_eq_true.2 ⟨x, hx, hp⟩
    rw [h2] at h1
    cases h1
theorem idxI_low {α : Type} (p : α → Bool) (xs : List α) : -1 ≤ idxI p xs := by unfold idxI; split <;> omega

/-- the parts of an arrival that is done -/
theorem arrive_done {C : ClusD} {x : TaskD} {g : Bool} (h : (arriveC C x g).2 = 0) : clusOk C = true ∧ tasksOk C.room [x] = true ∧ whereL (C.units.map (·.tasks)) x.id < 0 ∧ (C.units.map (·.tasks)).flatten.length ≠ 14 ∧
    ∃ (k : Nat) (u : UnitD), C.units[k]? = some u ∧ (arriveC C x g).1 = ⟨C.room, C.units.set k ⟨true, u.tasks ++ [x]⟩⟩ ∧ l11fits C.room u.tasks x = true ∧ (u.opened = true ∧ atC C x true = k ∨ g = true ∧ atC C x true < 0 ∧ u.opened = false) := by
  unfold arriveC at h ⊢
  split at h
  · rename_i h1
    rw [if_pos h1]
    split at h
    · rename_i h2
      rw [if_pos h2]
      split at h
      · exact absurd h (by simp)
      · rename_i h3
        rw [if_neg h3]
        unfold arrC at h ⊢
        split at h
        · exact absurd h (by simp)
        · rename_i h4
          rw [if_neg h4]
          split at h
          · exact absurd h (by simp)
          · rename_i u hu
            have h5 : 0 ≤ atB C x g ∧ (C.units.map (·.tasks)).flatten.length ≠ 14 := by
              constructor
              · exact Int.not_lt.1 fun hc => h4 (.inl hc)
              · exact fun hc => h4 (.inr hc)
            obtain ⟨k, hk⟩ : ∃ k : Nat, atB C x g = k := ⟨(atB C x g).toNat, by omega⟩
            have hkk : (atB C x g).toNat = k := by omega
            rw [hkk] at hu ⊢
            refine ⟨h1, h2, by omega, h5.2, k, u, hu, rfl, ?_⟩
            unfold atB at hk
            split at hk
            · rename_i h6
              obtain ⟨u', hu', hc⟩ := idxI_some hk
              rw [hu] at hu'
              injection hu' with hu'
              subst hu'
              simp only [canC, Bool.and_eq_true, beq_iff_eq] at hc
              exact ⟨hc.2, .inr ⟨h6.2, h6.1, hc.1⟩⟩
            · obtain ⟨u', hu', hc⟩ := idxI_some hk
              rw [hu] at hu'
              injection hu' with hu'
              subst hu'
              simp only [canC, Bool.and_eq_true, beq_iff_eq] at hc
              exact ⟨hc.2, .inl ⟨hc.1, hk⟩⟩
    · exact absurd h (by simp)
  · exact absurd h (by simp)
theorem arrC_code (C : ClusD) (x : TaskD) (g : Bool) : ((arrC C x g).2 = 0 ∨ (arrC C x g).2 = 3 ∧ (arrC C x g).1 = C) := by
  unfold arrC
  split
  · exact .inr ⟨rfl, rfl⟩
  · split
    · exact .inr ⟨rfl, rfl⟩
    · exact .inl rfl
theorem arrive_bad {C : ClusD} (h : clusOk C = true) {x : TaskD} (hx : tasksOk C.room [x] = false) (g : Bool) : arriveC C x g = (C, 1) := by
  unfold arriveC
  rw [if_pos h, if_neg (by rw [hx]; simp)]
theorem arrive_twice {C : ClusD} (h : clusOk C = true) {x : TaskD} (hx : tasksOk C.room [x] = true) (hw : 0 ≤ whereL (C.units.map (·.tasks)) x.id) (g : Bool) : arriveC C x g = (C, 2) := by
  unfold arriveC
  rw [if_pos h, if_pos hx, if_pos hw]
theorem arrive_else {C : ClusD} (h : clusOk C = true) {x : TaskD} (hx : tasksOk C.room [x] = true) (hw : whereL (C.units.map (·.tasks)) x.id < 0) (g : Bool) : arriveC C x g = arrC C x g := by
  unfold arriveC
  rw [if_pos h, if_pos hx, if_neg (by omega)]
theorem arrive_else_code {C : ClusD} (h : clusOk C = true) {x : TaskD} (hx : tasksOk C.room [x] = true) (hw : whereL (C.units.map (·.tasks)) x.id < 0) (g : Bool) : ((arriveC C x g).2 == 1) = false ∧ ((arriveC C x g).2 == 2) = false := by
  rw [arrive_else h hx hw]
  rcases arrC_code C x g with h1 | ⟨h1, _⟩ <;> rw [h1] <;> exact ⟨rfl, rfl⟩
/-- what is refused changes nothing -/
theorem arrive_not {C : ClusD} (h : clusOk C = true) {x : TaskD} {g : Bool} (hn : (arriveC C x g).2 ≠ 0) : (arriveC C x g).1 = C := by
  unfold arriveC at hn ⊢
  rw [if_pos h] at hn ⊢
  split at hn
  · rename_i h2
    rw [if_pos h2]
    split at hn
    · rename_i h3
      rw [if_pos h3]
    · rename_i h3
      rw [if_neg h3]
      rcases arrC_code C x g with h4 | ⟨_, h4⟩
      · exact absurd h4 hn
      · exact h4
  · rename_i h2
    rw [if_neg h2]
/-- a grant does no harm -/
theorem arrive_grant {C : ClusD} {x : TaskD} (h : (arriveC C x false).2 = 0) : arriveC C x true = arriveC C x false := by
  obtain ⟨h1, h2, h3, _, k, u, hu, _, _, ha⟩ := arrive_done h
  have hk : atC C x true = k := by
    rcases ha with ha | ha
    · exact ha.2
    · exact absurd ha.1 (by simp)
  have hb : atB C x true = atB C x false := by
    unfold atB
    rw [if_neg (by omega), if_neg (by omega)]
  rw [arrive_else h1 h2 h3, arrive_else h1 h2 h3]
  unfold arrC
  rw [hb]
theorem arrive_valid {C : ClusD} {x : TaskD} {g : Bool} (h : (arriveC C x g).2 = 0) : clusOk (arriveC C x g).1 = true := by
  obtain ⟨h1, h2, h3, h4, k, u, hu, hr, hf, _⟩ := arrive_done h
  rw [hr]
  refine clus_more h1 hu h2 h3 ?_ h4
  unfold l11fits at hf
  rw [loadL_snoc]
  exact hf

/-- where tasks are, by what is in each node -/
theorem whereL_congr {cs bs : List (List TaskD)} {id : Int} (h : cs.map (fun b => hasId b id) = bs.map (fun b => hasId b id)) : whereL cs id = whereL bs id := by
  have e : ∀ ds : List (List TaskD), ds.findIdx? (fun b => hasId b id) = (ds.map (fun b => hasId b id)).findIdx? (fun b => b) := fun ds => by rw [List.findIdx?_map]; rfl
  unfold whereL
  rw [e cs, e bs, h]
theorem where_set {us : List UnitD} {k : Nat} {u y : UnitD} (hu : us[k]? = some u) {id : Int} (h : hasId y.tasks id = hasId u.tasks id) : whereL ((us.set k y).map (·.tasks)) id = whereL (us.map (·.tasks)) id := by
  apply whereL_congr
  rw [List.map_map, List.map_map, List.map_set]
  refine set_same ?_
  rw [List.getElem?_map, hu]
  exact congrArg some h.symm
theorem hasId_app (a b : List TaskD) (id : Int) : hasId (a ++ b) id = (hasId a id || hasId b id) := by unfold hasId; exact List.any_append
theorem hasId_one (x : TaskD) (id : Int) : hasId [x] id = (x.id == id) := by unfold hasId; simp
theorem hasId_take (ts : List TaskD) (id id' : Int) (h : id' ≠ id) : hasId (takeL id ts) id' = hasId ts id' := by
  unfold hasId takeL
  rw [List.any_filter]
  induction ts with
  | nil => rfl
  | cons t ts ih =>
    rw [List.any_cons, List.any_cons, ih]
    congr 1
    by_cases ht : t.id = id'
    · simp [ht, h]
    · simp [ht]
theorem hasId_gone (ts : List TaskD) (id : Int) : hasId (takeL id ts) id = false := by
  unfold hasId takeL
  rw [List.any_eq_false]
  intro t ht
  have := (List.mem_filter.1 ht).2
  simpa using this
theorem whereL_none {bs : List (List TaskD)} {id : Int} (h : whereL bs id < 0) : ∀ b ∈ bs, hasId b id = false := by
  intro b hb
  unfold whereL at h
  split at h
  · omega
  · rename_i hn
    rw [List.findIdx?_eq_none_iff] at hn
    exact hn b hb
theorem whereL_some {bs : List (List TaskD)} {id : Int} {k : Nat} (h : whereL bs id = k) : ∃ b, bs[k]? = some b ∧ hasId b id = true := by
  unfold whereL at h
  split at h
  · rename_i i hi
    have hik : i = k := by omega
    subst hik
    rw [List.findIdx?_eq_some_iff_getElem] at hi
    exact ⟨_, List.getElem?_eq_getElem hi.1, hi.2.1⟩
  · omega
theorem whereL_gone {bs : List (List TaskD)} {id : Int} (h : ∀ b ∈ bs, hasId b id = false) : whereL bs id = -1 := whereL_miss fun _ c hc => h c (List.mem_of_getElem? hc)
/-- other tasks stay where they are -/
theorem arrive_where {C : ClusD} {x : TaskD} {g : Bool} (h : (arriveC C x g).2 = 0) {id : Int} (hid : id ≠ x.id) : whereL ((arriveC C x g).1.units.map (·.tasks)) id = whereL (C.units.map (·.tasks)) id := by
  obtain ⟨_, _, _, _, k, u, hu, hr, _, _⟩ := arrive_done h
  rw [hr]
  refine where_set hu ?_
  show hasId (u.tasks ++ [x]) id = _
  rw [hasId_app, hasId_one]
  have : (x.id == id) = false := by simpa using fun e => hid e.symm
  rw [this, Bool.or_false]
/-- where the task is -/
theorem arrive_at {C : ClusD} {x : TaskD} {g : Bool} (h : (arriveC C x g).2 = 0) : ∃ (k : Nat) (ts : List TaskD), whereL ((arriveC C x g).1.units.map (·.tasks)) x.id = k ∧ (arriveC C x g).1.units[k]? = some ⟨true, ts⟩ := by
  obtain ⟨_, _, hw, _, k, u, hu, hr, _, _⟩ := arrive_done h
  have hk := (List.getElem?_eq_some_iff.1 hu).1
  refine ⟨k, u.tasks ++ [x], ?_, by rw [hr]; exact List.getElem?_set_self hk⟩
  rw [hr]
  refine whereL_hit (b := u.tasks ++ [x]) ?_ (by rw [hasId_app, hasId_one]; simp) ?_
  · show ((C.units.set k ⟨true, u.tasks ++ [x]⟩).map (·.tasks))[k]? = _
    rw [List.getElem?_map, List.getElem?_set_self hk]
    rfl
  · intro j c hj hc
    have hc : ((C.units.set k ⟨true, u.tasks ++ [x]⟩).map (·.tasks))[j]? = some c := hc
    rw [List.getElem?_map, List.getElem?_set_ne (by omega), ← List.getElem?_map] at hc
    exact whereL_none hw c (List.mem_of_getElem? hc)

theorem flatten_set_len {α : Type} : ∀ (bs : List (List α)) (k : Nat) (b b2 : List α), bs[k]? = some b → (bs.set k b2).flatten.length + b.length = bs.flatten.length + b2.length
  | [], _, _, _, h => by simp at h
  | b' :: bs, 0, b, b2, h => by
    simp at h
    subst h
    simp only [List.set_cons_zero, List.flatten_cons, List.length_append]
    omega
  | b' :: bs, k + 1, b, b2, h => by
    have ih := flatten_set_len bs k b b2 (by simpa using h)
    simp only [List.set_cons_succ, List.flatten_cons, List.length_append]
    omega
theorem units_set_len {us : List UnitD} {k : Nat} {u y : UnitD} (hu : us[k]? = some u) : ((us.set k y).map (·.tasks)).flatten.length + u.tasks.length = (us.map (·.tasks)).flatten.length + y.tasks.length := by
  rw [List.map_set]
  exact flatten_set_len _ k u.tasks y.tasks (by rw [List.getElem?_map, hu]; rfl)
theorem openN_eq (C : ClusD) : openN C = C.units.countP fun u => u.opened := by unfold openN openTo; rw [List.take_length]
theorem openN_set {C : ClusD} {k : Nat} {u y : UnitD} (hu : C.units[k]? = some u) : openN ⟨C.room, C.units.set k y⟩ + (if u.opened then 1 else 0) = openN C + (if y.opened then 1 else 0) := by
  have hk := (List.getElem?_eq_some_iff.1 hu).1
  have hku := (List.getElem?_eq_some_iff.1 hu).2
  rw [openN_eq, openN_eq]
  show (C.units.set k y).countP _ + _ = _
  rw [List.countP_set hk, hku]
  cases ho : u.opened with
  | false => simp
  | true =>
    have : 0 < C.units.countP fun u => u.opened := List.countP_pos_iff.2 ⟨u, List.mem_of_getElem? hu, ho⟩
    simp
    omega
theorem arrive_many {C : ClusD} {x : TaskD} {g : Bool} (h : (arriveC C x g).2 = 0) : ((arriveC C x g).1.units.map (·.tasks)).flatten.length = (C.units.map (·.tasks)).flatten.length + 1 := by
  obtain ⟨_, _, _, _, k, u, hu, hr, _, _⟩ := arrive_done h
  have := units_set_len (y := ⟨true, u.tasks ++ [x]⟩) hu
  simp only [List.length_append, List.length_singleton] at this
  rw [hr]
  show ((C.units.set k ⟨true, u.tasks ++ [x]⟩).map (·.tasks)).flatten.length = _
  omega
/-- a node is opened only with a grant, and only if no open one has room -/
theorem arrive_open {C : ClusD} {x : TaskD} {g : Bool} (h : (arriveC C x g).2 = 0) (hn : openN (arriveC C x g).1 ≠ openN C) : g = true ∧ openN (arriveC C x g).1 = openN C + 1 ∧ atC C x true < 0 := by
  obtain ⟨_, _, _, _, k, u, hu, hr, _, ha⟩ := arrive_done h
  have he := openN_set (C := C) (y := ⟨true, u.tasks ++ [x]⟩) hu
  rw [hr] at hn ⊢
  rcases ha with ha | ha
  · rw [ha.1] at he
    simp at he
    exact absurd he hn
  · rw [ha.2.2] at he
    simp at he
    exact ⟨ha.1, he, ha.2.1⟩
/-- an open node that has no room -/
theorem no_room {C : ClusD} {x : TaskD} (h : atC C x true < 0) {u : UnitD} (hu : u ∈ C.units) (ho : u.opened = true) : binsOk C.room [u.tasks ++ [x]] = false := by
  have hc := idxI_none h u hu
  unfold canC l11fits at hc
  rw [ho] at hc
  have hc : fitsL (addL (loadL u.tasks) x.need 1) C.room = false := by simpa using hc
  cases hb : binsOk C.room [u.tasks ++ [x]] with
  | false => rfl
  | true =>
    have := binsOk_fits hb (List.mem_singleton.2 rfl)
    rw [loadL_snoc, hc] at this
    cases this
/-- a task is turned away only if there is no room -/
theorem arrive_full {C : ClusD} {x : TaskD} {g : Bool} (h : (arriveC C x g).2 = 3) (hl : (C.units.map (·.tasks)).flatten.length ≠ 14) : clusOk C = true ∧ atC C x true < 0 ∧ (g = true → ∀ u ∈ C.units, u.opened = true) := by
  unfold arriveC at h
  split at h
  · rename_i h1
    refine ⟨h1, ?_⟩
    split at h
    · rename_i h2
      split at h
      · exact absurd h (by simp)
      · unfold arrC at h
        split at h
        · rename_i h4
          rcases h4 with h4 | h4
          · have hp := place_at h1 h2 g
            rw [← hp] at h4
            have hat : atC C x true < 0 := by
              unfold placeU at h4
              split at h4 <;> omega
            refine ⟨hat, fun hg u hu => ?_⟩
            unfold placeU at h4
            rw [if_neg (by omega), hg] at h4
            have := idxI_none h4 u hu
            simpa using this
          · exact absurd h4 hl
        · rename_i h4
          split at h
          · rename_i hu
            have h5 : 0 ≤ atB C x g := Int.not_lt.1 fun hc => h4 (.inl hc)
            obtain ⟨k, hk⟩ : ∃ k : Nat, atB C x g = k := ⟨(atB C x g).toNat, by omega⟩
            have hkk : (atB C x g).toNat = k := by omega
            rw [hkk] at hu
            unfold atB at hk
            split at hk
            · obtain ⟨u', hu', _⟩ := idxI_some hk
              rw [hu] at hu'
              cases hu'
            · obtain ⟨u', hu', _⟩ := idxI_some hk
              rw [hu] at hu'
              cases hu'
          · exact absurd h (by simp)
    · exact absurd h (by simp)
  · exact absurd h (by simp)

/-- a number is in one node alone -/
theorem only_one : ∀ {bs : List (List TaskD)}, (bs.flatten.map (·.id)).Nodup → ∀ {j k : Nat} {a b : List TaskD}, bs[j]? = some a → bs[k]? = some b → ∀ {id : Int}, hasId a id = true → hasId b id = true → j = k
  | [], _, _, _, _, _, h, _, _, _, _ => by simp at h
  | c :: bs, hn, j, k, a, b, ha, hb, id, h1, h2 => by
    rw [List.flatten_cons, List.map_append] at hn
    obtain ⟨_, n2, n3⟩ := List.nodup_append.1 hn
    have mem : ∀ {d : List TaskD}, hasId d id = true → id ∈ d.map (·.id) := fun {d} hd => by
      unfold hasId at hd
      obtain ⟨t, ht, he⟩ := List.any_eq_true.1 hd
      exact List.mem_map.2 ⟨t, ht, by simpa using he⟩
    have sub : ∀ {i : Nat} {d : List TaskD}, bs[i]? = some d → hasId d id = true → id ∈ bs.flatten.map (·.id) := fun {i d} hd hh => by
      obtain ⟨t, ht, he⟩ := List.mem_map.1 (mem hh)
      exact List.mem_map.2 ⟨t, List.mem_flatten.2 ⟨d, List.mem_of_getElem? hd, ht⟩, he⟩
    match j, k with
    | 0, 0 => rfl
    | 0, k + 1 =>
      have ha : c = a := by simpa using ha
      subst ha
      exact absurd rfl (n3 id (mem h1) id (sub (by simpa using hb) h2))
    | j + 1, 0 =>
      have hb : c = b := by simpa using hb
      subst hb
      exact absurd rfl (n3 id (mem h2) id (sub (by simpa using ha) h1))
    | j + 1, k + 1 => exact congrArg (· + 1) (only_one n2 (by simpa using ha) (by simpa using hb) h1 h2)
/-- the parts of a departure that is done -/
theorem depart_done {C : ClusD} {id : Int} (h : (departC C id).2 = 0) : clusOk C = true ∧ ∃ (k : Nat) (u : UnitD), whereL (C.units.map (·.tasks)) id = k ∧ C.units[k]? = some u ∧ hasId u.tasks id = true ∧ (departC C id).1 = ⟨C.room, C.units.set k ⟨u.opened, takeL id u.tasks⟩⟩ := by
  unfold departC at h ⊢
  split at h
  · rename_i h1
    rw [if_pos h1]
    refine ⟨h1, ?_⟩
    split at h
    · exact absurd h (by simp)
    · rename_i h2
      rw [if_neg h2]
      split at h
      · exact absurd h (by simp)
      · rename_i u hu
        obtain ⟨k, hk⟩ : ∃ k : Nat, whereL (C.units.map (·.tasks)) id = k := ⟨(whereL (C.units.map (·.tasks)) id).toNat, by omega⟩
        have hkk : (whereL (C.units.map (·.tasks)) id).toNat = k := by omega
        rw [hkk] at hu ⊢
        obtain ⟨b, hb, hh⟩ := whereL_some hk
        rw [List.getElem?_map, hu] at hb
        have hb : u.tasks = b := by simpa using hb
        subst hb
        exact ⟨k, u, hk, hu, hh, rfl⟩
  · exact absurd h (by simp)
theorem depart_none {C : ClusD} (h : clusOk C = true) {id : Int} (hw : whereL (C.units.map (·.tasks)) id < 0) : departC C id = (C, 4) := by
  unfold departC
  rw [if_pos h, if_pos hw]
theorem depart_some {C : ClusD} (h : clusOk C = true) {id : Int} (hw : ¬ whereL (C.units.map (·.tasks)) id < 0) : (departC C id).2 = 0 := by
  unfold departC
  rw [if_pos h, if_neg hw]
  split
  · rename_i hu
    obtain ⟨k, hk⟩ : ∃ k : Nat, whereL (C.units.map (·.tasks)) id = k := ⟨(whereL (C.units.map (·.tasks)) id).toNat, by omega⟩
    have hkk : (whereL (C.units.map (·.tasks)) id).toNat = k := by omega
    rw [hkk] at hu
    obtain ⟨b, hb, _⟩ := whereL_some hk
    rw [List.getElem?_map, hu] at hb
    cases hb
  · rfl
theorem depart_where {C : ClusD} {id : Int} (h : (departC C id).2 = 0) {id' : Int} (hid : id' ≠ id) : whereL ((departC C id).1.units.map (·.tasks)) id' = whereL (C.units.map (·.tasks)) id' := by
  obtain ⟨_, k, u, _, hu, _, hr⟩ := depart_done h
  rw [hr]
  exact where_set hu (hasId_take _ _ _ hid)
theorem depart_valid {C : ClusD} {id : Int} (h : (departC C id).2 = 0) : clusOk (departC C id).1 = true := by
  obtain ⟨h1, k, u, _, hu, _, hr⟩ := depart_done h
  rw [hr]
  exact clus_less h1 hu List.filter_sublist
theorem clus_once {C : ClusD} (h : clusOk C = true) : ((C.units.map (·.tasks)).flatten.map (·.id)).Nodup := ((tasksOk_iff _ _).1 ((clus_iff C).1 h).2.2.1).2.2.2
/-- a task that departs is gone -/
theorem depart_gone {C : ClusD} {id : Int} (h : (departC C id).2 = 0) : whereL ((departC C id).1.units.map (·.tasks)) id = -1 := by
  obtain ⟨h1, k, u, _, hu, hh, hr⟩ := depart_done h
  rw [hr]
  refine whereL_miss fun j c hc => ?_
  have hc : ((C.units.set k ⟨u.opened, takeL id u.tasks⟩).map (·.tasks))[j]? = some c := hc
  have hk := (List.getElem?_eq_some_iff.1 hu).1
  rw [List.getElem?_map] at hc
  by_cases hj : j = k
  · subst hj
    rw [List.getElem?_set_self hk] at hc
    have hc : takeL id u.tasks = c := by simpa using hc
    rw [← hc]
    exact hasId_gone _ _
  · rw [List.getElem?_set_ne (Ne.symm hj)] at hc
    cases hx : hasId c id with
    | false => rfl
    | true =>
      exact absurd (only_one (clus_once h1) (by rw [List.getElem?_map]; exact hc) (by rw [List.getElem?_map, hu]; rfl) hx hh) hj
theorem take_len {ts : List TaskD} {id : Int} (hn : (ts.map (·.id)).Nodup) (h : hasId ts id = true) : (takeL id ts).length + 1 = ts.length := by
  cases hj : ts.findIdx? (fun t => t.id == id) with
  | none =>
    rw [List.findIdx?_eq_none_iff] at hj
    unfold hasId at h
    obtain ⟨t, ht, he⟩ := List.any_eq_true.1 h
    rw [hj t ht] at he
    cases he
  | some j =>
    rw [← takeL_erase id ts j hj hn]
    have := (List.findIdx?_eq_some_iff_getElem.1 hj).1
    rw [List.length_eraseIdx, if_pos this]
    omega
theorem depart_many {C : ClusD} {id : Int} (h : (departC C id).2 = 0) : ((departC C id).1.units.map (·.tasks)).flatten.length + 1 = (C.units.map (·.tasks)).flatten.length := by
  obtain ⟨h1, k, u, _, hu, hh, hr⟩ := depart_done h
  have := units_set_len (y := ⟨u.opened, takeL id u.tasks⟩) hu
  have h2 := take_len (clus_nodup h1 (List.mem_of_getElem? hu)) hh
  rw [hr]
  show ((C.units.set k ⟨u.opened, takeL id u.tasks⟩).map (·.tasks)).flatten.length + 1 = _
  simp only at this
  omega
theorem depart_open {C : ClusD} {id : Int} (h : (departC C id).2 = 0) : openN (departC C id).1 = openN C := by
  obtain ⟨_, k, u, _, hu, _, hr⟩ := depart_done h
  have he := openN_set (C := C) (y := ⟨u.opened, takeL id u.tasks⟩) hu
  rw [hr]
  simp only at he
  omega
theorem take_all {ts : List TaskD} {id : Int} (h : hasId ts id = false) : takeL id ts = ts := by
  unfold takeL
  rw [List.filter_eq_self]
  intro t ht
  unfold hasId at h
  rw [List.any_eq_false] at h
  have := h t ht
  simpa using this
/-- a task can come and go -/
theorem arrive_depart {C : ClusD} {x : TaskD} {g : Bool} (h : (arriveC C x g).2 = 0) : (departC (arriveC C x g).1 x.id).2 = 0 ∧ (openN (arriveC C x g).1 = openN C → (departC (arriveC C x g).1 x.id).1 = C) := by
  have hv := arrive_valid h
  obtain ⟨k, ts, hw, hk⟩ := arrive_at h
  have hd := depart_some hv (id := x.id) (by omega)
  refine ⟨hd, fun ho => ?_⟩
  obtain ⟨_, k', u', hw', hu', _, hr'⟩ := depart_done hd
  have : k' = k := by omega
  subst this
  rw [hk] at hu'
  injection hu' with hu'
  subst hu'
  rw [hr']
  obtain ⟨h1, _, hw0, _, m, u, hu, hr, _, ha⟩ := arrive_done h
  have hmk : m = k' := by
    have hm := (List.getElem?_eq_some_iff.1 hu).1
    refine only_one (clus_once hv) (a := u.tasks ++ [x]) (b := ts) ?_ (by rw [List.getElem?_map, hk]; rfl) (id := x.id) (by rw [hasId_app, hasId_one]; simp) ?_
    · rw [hr, List.getElem?_map]
      show ((C.units.set m ⟨true, u.tasks ++ [x]⟩)[m]?).map _ = _
      rw [List.getElem?_set_self hm]
      rfl
    · obtain ⟨b, hb, hh⟩ := whereL_some hw
      rw [List.getElem?_map, hk] at hb
      have hb : ts = b := by simpa using hb
      rw [hb]
      exact hh
  subst hmk
  have hm := (List.getElem?_eq_some_iff.1 hu).1
  rw [hr] at hk ho ⊢
  have hts : (⟨true, u.tasks ++ [x]⟩ : UnitD) = ⟨true, ts⟩ := by
    have hk : (C.units.set m ⟨true, u.tasks ++ [x]⟩)[m]? = some ⟨true, ts⟩ := hk
    rw [List.getElem?_set_self hm] at hk
    injection hk
  have hts : u.tasks ++ [x] = ts := by injection hts
  have he := openN_set (C := C) (y := ⟨true, u.tasks ++ [x]⟩) hu
  have hop : u.opened = true := by
    cases hc : u.opened with
    | true => rfl
    | false =>
      rw [hc] at he
      simp at he
      omega
  have hno := whereL_none hw0 u.tasks (List.mem_map.2 ⟨u, List.mem_of_getElem? hu, rfl⟩)
  have htk : takeL x.id ts = u.tasks := by
    rw [← hts, takeL_snoc, if_pos (by simp), take_all hno]
  show (⟨C.room, (C.units.set m ⟨true, u.tasks ++ [x]⟩).set m ⟨true, takeL x.id ts⟩⟩ : ClusD) = C
  rw [htk, List.set_set, show (⟨true, u.tasks⟩ : UnitD) = u by rw [← hop], set_same hu]

end Go.Proofs.YtfgibhdglbjadaaGreat

/- Room of clusters, told of the data. No program in sight. -/
namespace Go.Proofs.YtfgibhdglbjadaaGreat
open Go.RowKit
set_option maxRecDepth 4000

/-- a node's part of the room -/
def partU (room need : List Int) (u : UnitD) : Int := if u.opened then timesL (leftL room u.tasks) need else 0
theorem spareTo_sum (C : ClusD) (need : List Int) : ∀ k, spareTo C need k = ((C.units.take k).map (partU C.room need)).sum := by
  intro k
  unfold spareTo
  have : ∀ (us : List UnitD) (a : Int), us.foldl (fun n u => if u.opened then n + timesL (leftL C.room u.tasks) need else n) a = a + (us.map (partU C.room need)).sum := by
    intro us
    induction us with
    | nil => intro a; simp
    | cons u us ih =>
      intro a
      rw [List.foldl_cons, ih, List.map_cons, List.sum_cons]
      unfold partU
      cases u.opened <;> simp <;> omega
  rw [this]
  omega
theorem spareL_sum (C : ClusD) (need : List Int) : spareL C need = (C.units.map (partU C.room need)).sum := by
  unfold spareL
  rw [spareTo_sum, List.take_length]
theorem sum_set : ∀ (xs : List Int) (k : Nat) (x y : Int), xs[k]? = some x → (xs.set k y).sum = xs.sum - x + y
  | [], _, _, _, h => by simp at h
  | z :: xs, 0, x, y, h => by
    have h : z = x := by simpa using h
    subst h
    simp only [List.set_cons_zero, List.sum_cons]
    omega
  | z :: xs, k + 1, x, y, h => by
    have ih := sum_set xs k x y (by simpa using h)
    simp only [List.set_cons_succ, List.sum_cons]
    omega
theorem spare_set {C : ClusD} {k : Nat} {u : UnitD} (hu : C.units[k]? = some u) (y : UnitD) (need : List Int) : spareL ⟨C.room, C.units.set k y⟩ need = spareL C need - partU C.room need u + partU C.room need y := by
  rw [spareL_sum, spareL_sum]
  show ((C.units.set k y).map (partU C.room need)).sum = _
  rw [List.map_set]
  exact sum_set _ k _ _ (by rw [List.getElem?_map, hu]; rfl)
theorem spareN_ok {C : ClusD} {need : List Int} (h : clusOk C = true) (hn : needOk need = true) : spareN C need = spareL C need := by
  unfold spareN
  rw [h, hn]
  rfl
/-- an empty node is opened or closed: the room turns by a node's whole -/
theorem spare_open {C : ClusD} (h : clusOk C = true) {k : Nat} {u : UnitD} (hu : C.units[k]? = some u) (ht : u.tasks = []) (ho : u.opened = false) (need : List Int) : spareL ⟨C.room, C.units.set k ⟨true, u.tasks⟩⟩ need = spareL C need + timesL C.room need := by
  rw [spare_set hu]
  unfold partU
  rw [ho, ht, leftL_nil (vecOk_len (roomOk_vec (clusOk_room h)))]
  simp
theorem spare_close {C : ClusD} (h : clusOk C = true) {k : Nat} {u : UnitD} (hu : C.units[k]? = some u) (ht : u.tasks = []) (ho : u.opened = true) (need : List Int) : spareL ⟨C.room, C.units.set k ⟨false, u.tasks⟩⟩ need = spareL C need - timesL C.room need := by
  rw [spare_set hu]
  unfold partU
  rw [ho, ht, leftL_nil (vecOk_len (roomOk_vec (clusOk_room h)))]
  simp
/-- a node has a place for a need, if the need fits what is left -/
theorem times_pos {left need : List Int} (hn : needOk need = true) (hl : Nn 10000000 left) : (1 ≤ timesL left need) ↔ fitsL need left = true := by
  have hv : vecOk need = true := by
    unfold needOk at hn
    rw [Bool.and_eq_true] at hn
    exact hn.1
  have n0 : ∀ i, 0 ≤ need.getD i 0 := fun i => ((vecOk_nn hv).getD (by omega) i).1
  have l0 : ∀ i, 0 ≤ left.getD i 0 := fun i => (hl.getD (by omega) i).1
  have step : ∀ k, (1 ≤ timesTo left need (k + 1)) ↔ (1 ≤ timesTo left need k ∧ need.getD k 0 ≤ left.getD k 0) := fun k => by
    rw [timesTo_step]
    have h1 := n0 k
    have h2 := l0 k
    split
    · rename_i hp
      rw [show (1 ≤ min (timesTo left need k) (left.getD k 0 / need.getD k 0)) ↔ (1 ≤ timesTo left need k ∧ 1 ≤ left.getD k 0 / need.getD k 0) by omega, Int.le_ediv_iff_mul_le hp, Int.one_mul]
    · constructor
      · exact fun h => ⟨h, by omega⟩
      · exact fun h => h.1
  have z : (1 ≤ timesTo left need 0) := by unfold timesTo; simp
  unfold timesL
  rw [step 2, step 1, step 0]
  constructor
  · rintro ⟨⟨⟨_, h0⟩, h1⟩, h2⟩
    refine fitsL_of fun i hi => ?_
    match i, hi with
    | 0, _ => exact h0
    | 1, _ => exact h1
    | 2, _ => exact h2
  · intro h
    exact ⟨⟨⟨z, fitsL_at h (by omega)⟩, fitsL_at h (by omega)⟩, fitsL_at h (by omega)⟩
theorem needOk_vec {need : List Int} (hn : needOk need = true) : vecOk need = true := by
  unfold needOk at hn
  rw [Bool.and_eq_true] at hn
  exact hn.1
/-- an open node more has more room -/
theorem open_more {C : ClusD} {need : List Int} (h : ¬ spareN C need < 0) {k : Nat} (hk : (openC C k true).2 = 0) : spareN (openC C k true).1 need = spareN C need + timesL C.room need ∧ (vecFits need C.room = decide (0 < timesL C.room need)) := by
  obtain ⟨h1, h2, h3⟩ := spareN_ge h
  have hin : inB (k : Int) 0 ((C.units.length : Int) - 1) = true := by
    cases hc : inB (k : Int) 0 ((C.units.length : Int) - 1) with
    | true => rfl
    | false =>
      unfold openC at hk
      rw [if_pos h1, if_neg (by rw [hc]; simp)] at hk
      exact absurd hk (by simp)
  have hlt : k < C.units.length := by
    rw [inB, Bool.and_eq_true, decide_eq_true_eq, decide_eq_true_eq] at hin
    omega
  obtain ⟨u, hu⟩ : ∃ u, C.units[k]? = some u := ⟨_, List.getElem?_eq_getElem hlt⟩
  have ha := open_at (op := true) h1 hin hu
  rw [ha] at hk ⊢
  have ho : u.opened = false := by
    cases hc : u.opened with
    | false => rfl
    | true => rw [hc] at hk; exact absurd hk (by simp)
  rw [ho] at hk ⊢
  have ht : u.tasks = [] := by
    by_cases hc : 0 < u.tasks.length
    · rw [if_neg (by decide), if_pos hc] at hk
      exact absurd hk (by simp)
    · exact List.eq_nil_of_length_eq_zero (by omega)
  rw [if_neg (by decide), if_neg (by rw [ht]; simp)]
  refine ⟨?_, ?_⟩
  · rw [spareN_ok (clus_open h1 hu true (.inl rfl)) h2, h3]
    exact spare_open h1 hu ht ho need
  · have hr := roomOk_vec (clusOk_room h1)
    have := times_pos h2 (vecOk_nn hr)
    unfold vecFits
    rw [needOk_vec h2, hr]
    rw [Bool.eq_iff_iff]
    simp only [Bool.true_and, decide_eq_true_eq]
    rw [← this]
    omega

/-- closing from the last node on: what is left, and the nodes -/
def inSt (us : List UnitD) (full want h0 : Int) : Nat → Int × List Int
  | 0 => (h0, [])
  | m + 1 => match us[us.length - 1 - m]? with
    | some u => if u.opened && u.tasks.isEmpty && decide (want ≤ (inSt us full want h0 m).1 - full) then ((inSt us full want h0 m).1 - full, (inSt us full want h0 m).2 ++ [((us.length - 1 - m : Nat) : Int)]) else inSt us full want h0 m
    | none => inSt us full want h0 m
def inN (C : ClusD) (need : List Int) (want : Int) : List Int := if clusOk C && needOk need && inB want 0 999 then (inSt C.units (timesL C.room need) want (spareL C need) C.units.length).2 else []
theorem inSt_succ {us : List UnitD} {full want h0 : Int} {m k : Nat} {u : UnitD} (hk : us[k]? = some u) (hm : k + 1 + m = us.length) : inSt us full want h0 (m + 1) = if u.opened && u.tasks.isEmpty && decide (want ≤ (inSt us full want h0 m).1 - full) then ((inSt us full want h0 m).1 - full, (inSt us full want h0 m).2 ++ [(k : Int)]) else inSt us full want h0 m := by
  have e : us.length - 1 - m = k := by omega
  rw [inSt, e, hk]
/-- nodes are closed, one after the other -/
def closeAll (C : ClusD) : List Int → ClusD
  | [] => C
  | i :: is => closeAll (openC C i false).1 is
theorem closeAll_snoc (C : ClusD) : ∀ (is : List Int) (i : Int), closeAll C (is ++ [i]) = (openC (closeAll C is) i false).1
  | [], _ => rfl
  | _ :: is, i => closeAll_snoc _ is i
/-- what holds after m nodes have been looked at, from the last on -/
structure InS (C : ClusD) (need : List Int) (want : Int) (m : Nat) (D : ClusD) : Prop where
  ok : clusOk D = true
  room : D.room = C.room
  len : D.units.length = C.units.length
  low : ∀ k, k + m < C.units.length → D.units[k]? = C.units[k]?
  left : (inSt C.units (timesL C.room need) want (spareL C need) m).1 = spareL D need
  eq : closeAll C (inSt C.units (timesL C.room need) want (spareL C need) m).2 = D
  range : ∀ i ∈ (inSt C.units (timesL C.room need) want (spareL C need) m).2, ∃ k : Nat, i = k ∧ k < C.units.length ∧ C.units.length ≤ k + m
  /-- an open empty node that has been looked at could not be closed -/
  rest : ∀ (k : Nat) u, C.units.length ≤ k + m → D.units[k]? = some u → u.opened = true → u.tasks = [] → spareL D need - timesL C.room need < want
  /-- each of them could be closed when its turn came -/
  done : ∀ (n : Nat) (i : Int), (inSt C.units (timesL C.room need) want (spareL C need) m).2[n]? = some i → (openC (closeAll C ((inSt C.units (timesL C.room need) want (spareL C need) m).2.take n)) i false).2 = 0
  down : ∀ (n : Nat) (i j : Int), (inSt C.units (timesL C.room need) want (spareL C need) m).2[n]? = some i → (inSt C.units (timesL C.room need) want (spareL C need) m).2[n + 1]? = some j → j < i
  last : (inSt C.units (timesL C.room need) want (spareL C need) m).2 ≠ [] → want ≤ spareL D need
theorem open_ok {C : ClusD} (h : clusOk C = true) {k : Nat} {u : UnitD} (hu : C.units[k]? = some u) (op : Bool) (ho : u.opened = !op) (ht : u.tasks = []) : openC C k op = (⟨C.room, C.units.set k ⟨op, u.tasks⟩⟩, 0) := by
  have hlt := (List.getElem?_eq_some_iff.1 hu).1
  rw [open_at h (by rw [inB, Bool.and_eq_true, decide_eq_true_eq, decide_eq_true_eq]; omega) hu, ho, if_neg (by cases op <;> decide), if_neg (by rw [ht]; simp)]
theorem inS {C : ClusD} (h : clusOk C = true) (need : List Int) (want : Int) : ∀ m, m ≤ C.units.length → ∃ D, InS C need want m D
  | 0, _ => ⟨C, h, rfl, rfl, fun _ _ => rfl, rfl, rfl, fun i hi => by simp [inSt] at hi, fun k u hk hu _ _ => by have := (List.getElem?_eq_some_iff.1 hu).1; omega, fun n i hi => by simp [inSt] at hi, fun n i j hi _ => by simp [inSt] at hi, fun hc => absurd rfl hc⟩
  | m + 1, hm => by
    obtain ⟨D, hD⟩ := inS h need want m (by omega)
    obtain ⟨k, hk⟩ : ∃ k, k + 1 + m = C.units.length := ⟨C.units.length - 1 - m, by omega⟩
    obtain ⟨u, hu⟩ : ∃ u, C.units[k]? = some u := ⟨_, List.getElem?_eq_getElem (by omega)⟩
    have hDu : D.units[k]? = some u := by rw [hD.low k (by omega), hu]
    have he := inSt_succ (full := timesL C.room need) (want := want) (h0 := spareL C need) hu hk
    by_cases hc : u.opened && u.tasks.isEmpty && decide (want ≤ (inSt C.units (timesL C.room need) want (spareL C need) m).1 - timesL C.room need)
    · rw [if_pos hc] at he
      simp only [Bool.and_eq_true, decide_eq_true_eq, List.isEmpty_iff] at hc
      obtain ⟨⟨ho, ht⟩, hw⟩ := hc
      rw [hD.left] at hw
      have hop := open_ok hD.ok hDu false (by rw [ho]; rfl) ht
      have hsp : spareL ⟨D.room, D.units.set k ⟨false, u.tasks⟩⟩ need = spareL D need - timesL C.room need := by rw [spare_close hD.ok hDu ht ho, hD.room]
      refine ⟨⟨D.room, D.units.set k ⟨false, u.tasks⟩⟩, clus_open hD.ok hDu false (.inr ht), hD.room, by show (D.units.set k _).length = _; rw [List.length_set, hD.len], fun j hj => ?_, ?_, ?_, ?_, ?_, ?_, ?_, ?_⟩
      · show (D.units.set k _)[j]? = _
        rw [List.getElem?_set_ne (by omega), hD.low j (by omega)]
      · rw [he, hsp, hD.left]
      · rw [he]
        show closeAll C (_ ++ [(k : Int)]) = _
        rw [closeAll_snoc, hD.eq, hop]
      · rw [he]
        intro i hi
        rcases List.mem_append.1 hi with hi | hi
        · obtain ⟨j, h1, h2, h3⟩ := hD.range i hi
          exact ⟨j, h1, h2, by omega⟩
        · exact ⟨k, List.mem_singleton.1 hi, by omega, by omega⟩
      · intro j v hj hv hvo hvt
        rw [hsp]
        have hv : (D.units.set k ⟨false, u.tasks⟩)[j]? = some v := hv
        have hjk : j ≠ k := fun e => by
          subst e
          rw [List.getElem?_set_self (List.getElem?_eq_some_iff.1 hDu).1] at hv
          injection hv with hv
          rw [← hv] at hvo
          cases hvo
        rw [List.getElem?_set_ne (Ne.symm hjk)] at hv
        have h1 := hD.rest j v (by omega) hv hvo hvt
        have h2 := (full_bd h need).1
        omega
      · rw [he]
        intro n i hi
        show (openC (closeAll C ((_ ++ [(k : Int)]).take n)) i false).2 = 0
        have hi : ((inSt C.units (timesL C.room need) want (spareL C need) m).2 ++ [(k : Int)])[n]? = some i := hi
        rw [List.getElem?_append] at hi
        split at hi
        · rename_i hn
          rw [List.take_append_of_le_length (by omega)]
          exact hD.done n i hi
        · rename_i hn
          have hn2 : n = (inSt C.units (timesL C.room need) want (spareL C need) m).2.length := by
            have := (List.getElem?_eq_some_iff.1 hi).1
            simp at this
            omega
          subst hn2
          simp at hi
          subst hi
          rw [List.take_left, hD.eq, hop]
      · rw [he]
        intro n i j hi hj
        have hi : ((inSt C.units (timesL C.room need) want (spareL C need) m).2 ++ [(k : Int)])[n]? = some i := hi
        have hj : ((inSt C.units (timesL C.room need) want (spareL C need) m).2 ++ [(k : Int)])[n + 1]? = some j := hj
        rw [List.getElem?_append] at hi hj
        split at hj
        · rw [if_pos (by omega)] at hi
          exact hD.down n i j hi hj
        · rename_i hn
          have hlt := (List.getElem?_eq_some_iff.1 hj).1
          simp at hlt
          rw [if_pos (by omega)] at hi
          have hn2 : n + 1 - (inSt C.units (timesL C.room need) want (spareL C need) m).2.length = 0 := by omega
          rw [hn2] at hj
          have hj : (k : Int) = j := by simpa using hj
          obtain ⟨i', h1, _, h3⟩ := hD.range i (List.mem_of_getElem? hi)
          omega
      · intro _
        rw [hsp]
        exact hw
    · rw [if_neg hc] at he
      refine ⟨D, hD.ok, hD.room, hD.len, fun j hj => hD.low j (by omega), by rw [he]; exact hD.left, by rw [he]; exact hD.eq, ?_, ?_, by rw [he]; exact hD.done, by rw [he]; exact hD.down, by rw [he]; exact hD.last⟩
      · rw [he]
        intro i hi
        obtain ⟨j, h1, h2, h3⟩ := hD.range i hi
        exact ⟨j, h1, h2, by omega⟩
      · intro j v hj hv hvo hvt
        by_cases hjk : j = k
        · subst hjk
          rw [hDu] at hv
          injection hv with hv
          subst hv
          rw [hD.left, hvo, hvt] at hc
          simp at hc
          omega
        · exact hD.rest j v (by omega) hv hvo hvt

/-- the first closed nodes are opened -/
def firstShut (C : ClusD) : Int := idxI (fun u : UnitD => !u.opened) C.units
def openMore (C : ClusD) : Nat → ClusD
  | 0 => C
  | k + 1 => (openC (openMore C k) (firstShut (openMore C k)) true).1
theorem openMore_ok {C : ClusD} (h : clusOk C = true) (need : List Int) : ∀ k, k + openN C ≤ C.units.length → clusOk (openMore C k) = true ∧ (openMore C k).room = C.room ∧ (openMore C k).units.length = C.units.length ∧ spareL (openMore C k) need = spareL C need + (k : Int) * timesL C.room need ∧ openN (openMore C k) = k + openN C
  | 0, _ => ⟨h, rfl, rfl, by simp [openMore], by simp [openMore]⟩
  | k + 1, hk => by
    obtain ⟨h1, h2, h3, h4, h5⟩ := openMore_ok h need k (by omega)
    obtain ⟨j, u, hj, hu, ho⟩ : ∃ (j : Nat) (u : UnitD), firstShut (openMore C k) = j ∧ (openMore C k).units[j]? = some u ∧ u.opened = false := by
      by_cases hf : firstShut (openMore C k) < 0
      · have hall := idxI_none hf
        have : openN (openMore C k) = (openMore C k).units.length := by
          rw [openN_eq]
          exact List.countP_eq_length.2 fun u hu => by simpa using hall u hu
        omega
      · obtain ⟨j, hj⟩ : ∃ j : Nat, firstShut (openMore C k) = j := ⟨(firstShut (openMore C k)).toNat, by omega⟩
        obtain ⟨u, hu, hp⟩ := idxI_some hj
        exact ⟨j, u, hj, hu, by simpa using hp⟩
    have ht : u.tasks = [] := by
      rcases ((clus_iff _).1 h1).1 u (List.mem_of_getElem? hu) with h6 | h6
      · rw [ho] at h6; cases h6
      · exact h6
    have he : openMore C (k + 1) = ⟨(openMore C k).room, (openMore C k).units.set j ⟨true, u.tasks⟩⟩ := by
      show (openC (openMore C k) (firstShut (openMore C k)) true).1 = _
      rw [hj, open_ok h1 hu true (by rw [ho]; rfl) ht]
    rw [he]
    refine ⟨clus_open h1 hu true (.inl rfl), h2, by show ((openMore C k).units.set j _).length = _; rw [List.length_set, h3], ?_, ?_⟩
    · rw [spare_open h1 hu ht ho, h4, h2]
      have : ((k + 1 : Nat) : Int) * timesL C.room need = (k : Int) * timesL C.room need + timesL C.room need := by
        rw [show ((k + 1 : Nat) : Int) = (k : Int) + 1 by omega, Int.add_mul, Int.one_mul]
      omega
    · have := openN_set (C := openMore C k) (y := ⟨true, u.tasks⟩) hu
      rw [ho] at this
      simp at this
      omega

end Go.Proofs.YtfgibhdglbjadaaGreat

/- A task with the need takes one place. No program in sight. -/
namespace Go.Proofs.YtfgibhdglbjadaaGreat
open Go.RowKit
set_option maxRecDepth 4000

theorem nodup_len : ∀ {l m : List Int}, l.Nodup → (∀ x ∈ l, x ∈ m) → l.length ≤ m.length
  | [], _, _, _ => Nat.zero_le _
  | a :: l, m, hn, hs => by
    have hn := List.nodup_cons.1 hn
    have ham := hs a (by simp)
    have ih := nodup_len (l := l) (m := m.erase a) hn.2 (fun x hx => (List.mem_erase_of_ne (fun e => hn.1 (by rw [← e]; exact hx))).2 (hs x (by simp [hx])))
    rw [List.length_erase_of_mem ham] at ih
    have : 0 < m.length := List.length_pos_of_mem ham
    simp only [List.length_cons]
    omega
theorem whereL_mem {bs : List (List TaskD)} {id : Int} (h : ¬ whereL bs id < 0) : id ∈ bs.flatten.map (·.id) := by
  obtain ⟨k, hk⟩ : ∃ k : Nat, whereL bs id = k := ⟨(whereL bs id).toNat, by omega⟩
  obtain ⟨b, hb, hh⟩ := whereL_some hk
  unfold hasId at hh
  obtain ⟨t, ht, he⟩ := List.any_eq_true.1 hh
  exact List.mem_map.2 ⟨t, List.mem_flatten.2 ⟨b, List.mem_of_getElem? hb, ht⟩, by simpa using he⟩
/-- some number up to 40 is free -/
theorem some_free {C : ClusD} (h : clusOk C = true) (hall : ∀ id : Int, 1 ≤ id → id ≤ 40 → ¬ whereL (C.units.map (·.tasks)) id < 0) : False := by
  have h1 : ((List.range 40).map fun i : Nat => (i : Int) + 1).Nodup := by decide +kernel
  have h2 := nodup_len h1 (m := (C.units.map (·.tasks)).flatten.map (·.id)) (fun x hx => by
    obtain ⟨i, hi, rfl⟩ := List.mem_map.1 hx
    have hi := List.mem_range.1 hi
    exact whereL_mem (hall _ (by omega) (by omega)))
  have h3 := tasksOk_len (((clus_iff C).1 h).2.2.1)
  simp only [List.length_map, List.length_range] at h2
  omega
theorem leftL_getD (room : List Int) (ts : List TaskD) (i : Nat) (hi : i < 3) : (leftL room ts).getD i 0 = room.getD i 0 - (loadL ts).getD i 0 := by
  unfold leftL
  rw [addTo_getD _ _ _ _ hi]
  omega
theorem load_nn {ts : List TaskD} (hp : ∀ t ∈ ts, vecOk t.need = true) (i : Nat) (hi : i < 3) : 0 ≤ (loadL ts).getD i 0 := by
  have := load_sub (List.nil_sublist ts) hp i hi
  have h0 : (loadL []).getD i 0 = 0 := by
    unfold loadL
    match i, hi with
    | 0, _ => rfl
    | 1, _ => rfl
    | 2, _ => rfl
  omega
/-- one task more: one place fewer -/
theorem times_less {left left' need : List Int} (hn : needOk need = true) (hl : ∀ i, i < 3 → left.getD i 0 ≤ 20) (he : ∀ i, i < 3 → left'.getD i 0 = left.getD i 0 - need.getD i 0) : timesL left' need = timesL left need - 1 := by
  have n0 : ∀ i, 0 ≤ need.getD i 0 := fun i => ((vecOk_nn (needOk_vec hn)).getD (by omega) i).1
  have step : ∀ k, k ≤ 3 → ((∀ i, i < k → need.getD i 0 = 0) ∧ timesTo left' need k = timesTo left need k ∧ timesTo left need k = 20) ∨ timesTo left' need k = timesTo left need k - 1 := fun k => by
    induction k with
    | zero => exact fun _ => .inl ⟨fun i hi => absurd hi (by omega), rfl, rfl⟩
    | succ k ih =>
      intro hk
      rw [timesTo_step, timesTo_step]
      by_cases hp : 0 < need.getD k 0
      · right
        rw [if_pos hp, if_pos hp, he k (by omega), show left.getD k 0 - need.getD k 0 = left.getD k 0 + (-1) * need.getD k 0 by omega, Int.add_mul_ediv_right _ _ (by omega)]
        have hq : left.getD k 0 / need.getD k 0 ≤ 20 := by
          have := hl k (by omega)
          by_cases h0 : 0 ≤ left.getD k 0
          · exact Int.le_trans (Int.ediv_le_self _ h0) this
          · have : left.getD k 0 / need.getD k 0 < 0 := Int.ediv_neg_of_neg_of_pos (by omega) hp
            omega
        rcases ih (by omega) with ⟨_, h1, h2⟩ | h1 <;> omega
      · rw [if_neg hp, if_neg hp]
        rcases ih (by omega) with ⟨h0, h1, h2⟩ | h1
        · refine .inl ⟨fun i hi => ?_, h1, h2⟩
          by_cases hik : i = k
          · subst hik
            have := n0 i
            omega
          · exact h0 i (by omega)
        · exact .inr h1
  unfold timesL
  rcases step 3 (by omega) with ⟨h0, _⟩ | h1
  · exfalso
    have hs : needOk need = false := by
      have hlen := vecOk_len (needOk_vec hn)
      match need, hlen with
      | [a, b, c], _ =>
        have e0 : a = 0 := h0 0 (by omega)
        have e1 : b = 0 := h0 1 (by omega)
        have e2 : c = 0 := h0 2 (by omega)
        rw [e0, e1, e2]
        rfl
    rw [hs] at hn
    cases hn
  · exact h1
theorem sum_pos_mem : ∀ {xs : List Int}, 1 ≤ xs.sum → ∃ x ∈ xs, 1 ≤ x
  | [], h => by simp at h
  | x :: xs, h => by
    by_cases hx : 1 ≤ x
    · exact ⟨x, by simp, hx⟩
    · simp only [List.sum_cons] at h
      obtain ⟨y, hy, h1⟩ := sum_pos_mem (xs := xs) (by omega)
      exact ⟨y, by simp [hy], h1⟩
theorem fits_left {room : List Int} {ts : List TaskD} {x : TaskD} : fitsL x.need (leftL room ts) = l11fits room ts x := by
  rw [Bool.eq_iff_iff]
  unfold l11fits
  constructor
  · intro h
    refine fitsL_of fun i hi => ?_
    have := fitsL_at h hi
    rw [leftL_getD _ _ _ hi] at this
    rw [addTo_getD _ _ _ _ hi]
    omega
  · intro h
    refine fitsL_of fun i hi => ?_
    have := fitsL_at h hi
    rw [addTo_getD _ _ _ _ hi] at this
    rw [leftL_getD _ _ _ hi]
    omega
/-- a task with the need takes one place -/
theorem spare_arrive {C : ClusD} {need : List Int} (h : ¬ spareN C need < 1) {id : Int} (hid : 1 ≤ id ∧ id ≤ 40) (hw : whereL (C.units.map (·.tasks)) id < 0) :
    ((C.units.map (·.tasks)).flatten.length = 14 → (arriveC C ⟨id, need⟩ false).2 = 3) ∧ ((C.units.map (·.tasks)).flatten.length ≠ 14 → (arriveC C ⟨id, need⟩ false).2 = 0 ∧ spareN (arriveC C ⟨id, need⟩ false).1 need = spareN C need - 1) := by
  obtain ⟨h1, h2, h3⟩ := spareN_ge (show ¬ spareN C need < 0 by omega)
  have hroom := clusOk_room h1
  have hrv := roomOk_vec hroom
  rw [h3, spareL_sum] at h
  obtain ⟨y, hy, hy1⟩ := sum_pos_mem (xs := C.units.map (partU C.room need)) (by omega)
  obtain ⟨u, hu, rfl⟩ := List.mem_map.1 hy
  have ho : u.opened = true := by
    cases hc : u.opened with
    | true => rfl
    | false => unfold partU at hy1; rw [hc] at hy1; simp at hy1
  unfold partU at hy1
  rw [ho, if_pos rfl] at hy1
  have hg := clusOk_unit h1 hu
  have hf := (times_pos h2 (left_nn hrv hg.1 hg.2)).1 hy1
  have hvt := clus_vec h1 hu
  have hx : tasksOk C.room [⟨id, need⟩] = true := by
    rw [tasksOk_iff]
    refine ⟨hroom, by simp, fun t ht => ?_, by simp⟩
    rw [List.mem_singleton.1 ht]
    refine ⟨by rw [inB, Bool.and_eq_true, decide_eq_true_eq, decide_eq_true_eq]; exact hid, ?_⟩
    show vecFits need C.room = true
    unfold vecFits
    rw [needOk_vec h2, hrv]
    refine fitsL_of fun i hi => ?_
    have e1 := fitsL_at hf hi
    rw [leftL_getD _ _ _ hi] at e1
    have e2 := load_nn hvt i hi
    omega
  have hat : ¬ atC C ⟨id, need⟩ true < 0 := fun hc => by
    have := idxI_none hc u hu
    unfold canC at this
    rw [ho, ← fits_left, hf] at this
    cases this
  have hae := arrive_else (x := ⟨id, need⟩) h1 hx hw false
  constructor
  · intro hl
    rw [hae]
    unfold arrC
    rw [if_pos (.inr hl)]
  · intro hl
    have h0 : (arriveC C ⟨id, need⟩ false).2 = 0 := by
      rw [hae]
      rcases arrC_code C ⟨id, need⟩ false with h4 | ⟨h4, _⟩
      · exact h4
      · exfalso
        exact hat (arrive_full (C := C) (x := ⟨id, need⟩) (g := false) (by rw [hae]; exact h4) hl).2.1
    refine ⟨h0, ?_⟩
    obtain ⟨_, _, _, _, k, v, hv, hr, hfv, ha⟩ := arrive_done h0
    have hvo : v.opened = true := by
      rcases ha with ha | ha
      · exact ha.1
      · exact absurd ha.1 (by simp)
    have hvm := List.mem_of_getElem? hv
    rw [spareN_ok (arrive_valid h0) h2, hr, spare_set hv, h3]
    unfold partU
    rw [hvo, if_pos rfl, if_pos rfl]
    have := times_less (left := leftL C.room v.tasks) (left' := leftL C.room (v.tasks ++ [⟨id, need⟩])) h2 (fun i hi => by
      rw [leftL_getD _ _ _ hi]
      have e1 := load_nn (clus_vec h1 hvm) i hi
      have e2 : C.room.getD i 0 ≤ 20 := by
        have := vecOk_bd hrv
        exact (this.getD (by omega) i).2
      omega) (fun i hi => by
      rw [leftL_getD _ _ _ hi, leftL_getD _ _ _ hi, loadL_snoc, addTo_getD _ _ _ _ hi]
      show _ - (_ + 1 * need.getD i 0) = _
      omega)
    generalize timesL (leftL C.room v.tasks) need = p at this ⊢
    rw [this]
    omega

end Go.Proofs.YtfgibhdglbjadaaGreat
