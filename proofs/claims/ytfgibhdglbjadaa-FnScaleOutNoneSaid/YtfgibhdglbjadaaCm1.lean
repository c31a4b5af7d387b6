/- Clusters that are small; a task arrives. No program in sight. -/
import Derived.Test.YtfgibhdglbjadaaCl7
import Derived.Test.YtfgibhdglbjadaaCl3
namespace Go.Proofs.Ytfgibhdglbjadaa
open Go.RowKit
set_option maxRecDepth 4000

/-- a cluster of few nodes, each with few tasks -/
structure SmallC (C : ClusD) : Prop where
  room : C.room.length ≤ 3
  units : C.units.length ≤ 10
  tasks : ∀ u ∈ C.units, u.tasks.length ≤ 902 ∧ ∀ t ∈ u.tasks, t.need.length ≤ 3 ∧ IdR t.id
theorem flatten_le {M : Nat} : ∀ (us : List UnitD), (∀ u ∈ us, u.tasks.length ≤ M) → ((us.map (·.tasks)).flatten).length ≤ us.length * M
  | [], _ => by simp
  | u :: us, h => by
    have h1 := h u (by simp)
    have h2 := flatten_le us (fun v hv => h v (by simp [hv]))
    simp only [List.map_cons, List.flatten_cons, List.length_append, List.length_cons]
    rw [Nat.add_mul]
    omega
theorem SmallC.flat {C : ClusD} (h : SmallC C) : (C.units.map (·.tasks)).flatten.length ≤ 4000000 := by
  have h1 := flatten_le C.units (fun u hu => (h.tasks u hu).1)
  have h2 := h.units
  have h3 : C.units.length * 902 ≤ 10 * 902 := Nat.mul_le_mul_right _ h2
  omega
theorem SmallC.ids {C : ClusD} (h : SmallC C) : ∀ t ∈ (C.units.map (·.tasks)).flatten, IdR t.id := by
  intro t ht
  obtain ⟨l, hl, ht⟩ := List.mem_flatten.1 ht
  obtain ⟨u, hu, rfl⟩ := List.mem_map.1 hl
  exact ((h.tasks u hu).2 t ht).2
theorem SmallC.len {C : ClusD} (h : SmallC C) : C.units.length ≤ 4000000 := Nat.le_trans h.units (by omega)
theorem SmallC.zero : SmallC ⟨[], []⟩ := ⟨by simp, by simp, fun u hu => by simp at hu⟩
/-- a valid one has few tasks, each number in its range -/
theorem clus_few {C : ClusD} (h : clusOk C = true) : ∀ u ∈ C.units, u.tasks.length ≤ 900 ∧ ∀ t ∈ u.tasks, t.need.length = 3 ∧ IdR t.id := by
  intro u hu
  have hg := (clusOk_unit h hu).1
  refine ⟨hg.1, fun t ht => ⟨(hg.2 t ht).1, ?_⟩⟩
  have hm := (tasksOk_mem (binsOk_tk (clusOk_bins h)) (t := t) (List.mem_flatten.2 ⟨u.tasks, List.mem_map.2 ⟨u, hu, rfl⟩, ht⟩)).1
  simp only [inB, Bool.and_eq_true, decide_eq_true_eq] at hm
  unfold IdR
  omega
theorem small_ok {C : ClusD} (h : clusOk C = true) : SmallC C :=
  ⟨by have := vecOk_len (roomOk_vec (clusOk_room h)); omega, (clusOk_len h).2, fun u hu => ⟨by have := (clus_few h u hu).1; omega, fun t ht => ⟨by have := ((clus_few h u hu).2 t ht).1; omega, ((clus_few h u hu).2 t ht).2⟩⟩⟩
theorem SmallC.set {C : ClusD} (h : SmallC C) (k : Nat) {u : UnitD} (hu : u.tasks.length ≤ 902 ∧ ∀ t ∈ u.tasks, t.need.length ≤ 3 ∧ IdR t.id) : SmallC ⟨C.room, C.units.set k u⟩ :=
  ⟨h.room, by simpa using h.units, fun v hv => by
    rcases List.mem_or_eq_of_mem_set hv with hv | rfl
    · exact h.tasks v hv
    · exact hu⟩
/-- whether there is room, once there are nodes -/
def Roomed (C : ClusD) : Prop := 0 < C.units.length → 2 ≤ C.room.length
theorem roomed_ok {C : ClusD} (h : clusOk C = true) (us : List UnitD) : Roomed ⟨C.room, us⟩ := fun _ => by
  have := vecOk_len (roomOk_vec (clusOk_room h))
  show 2 ≤ C.room.length
  omega
/-- few tasks a node: one more may come -/
structure Few (C : ClusD) : Prop where
  small : SmallC C
  roomed : Roomed C
  few : ∀ u ∈ C.units, u.tasks.length ≤ 901
theorem Few.zero : Few ⟨[], []⟩ := ⟨SmallC.zero, fun h => absurd h (by simp), fun u hu => by simp at hu⟩
theorem few_ok {C : ClusD} (h : clusOk C = true) : Few C := ⟨small_ok h, roomed_ok h _, fun u hu => by have := (clus_few h u hu).1; omega⟩
theorem few_set {C : ClusD} (h : clusOk C = true) (k : Nat) {u : UnitD} (hu : u.tasks.length ≤ 901 ∧ ∀ t ∈ u.tasks, t.need.length ≤ 3 ∧ IdR t.id) : Few ⟨C.room, C.units.set k u⟩ :=
  ⟨(small_ok h).set k ⟨by omega, hu.2⟩, roomed_ok h _, fun v hv => by
    rcases List.mem_or_eq_of_mem_set hv with hv | rfl
    · have := (clus_few h v hv).1; omega
    · exact hu.1⟩
theorem few_open (C : ClusD) (node : Int) (op : Bool) : Few (openC C node op).1 := by
  unfold openC
  split
  · rename_i h
    split
    · split
      · exact few_ok h
      · rename_i u hu
        split
        · exact few_ok h
        · split
          · exact few_ok h
          · have hm := clus_few h u (List.mem_of_getElem? hu)
            exact few_set h _ ⟨by show u.tasks.length ≤ 901; omega, fun t ht => ⟨by have := (hm.2 t ht).1; omega, (hm.2 t ht).2⟩⟩
    · exact few_ok h
  · exact Few.zero
theorem few_depart (C : ClusD) (id : Int) : Few (departC C id).1 := by
  unfold departC
  split
  · rename_i h
    split
    · exact few_ok h
    · split
      · exact few_ok h
      · rename_i u hu
        have hm := clus_few h u (List.mem_of_getElem? hu)
        exact few_set h _ ⟨Nat.le_trans (List.length_filter_le _ _) (by omega), fun t ht => by
          have ht := (List.mem_filter.1 ht).1
          exact ⟨by have := (hm.2 t ht).1; omega, (hm.2 t ht).2⟩⟩
  · exact Few.zero
theorem few_new (room : List Int) (nodes : Int) : Few (newC room nodes).1 := by
  unfold newC
  split
  · rename_i h1
    split
    · rename_i h2
      have hin : 1 ≤ nodes ∧ nodes ≤ 10 := by simpa [inB] using h2
      have hr := vecOk_len (roomOk_vec h1)
      have ht : ∀ u ∈ List.replicate nodes.toNat (⟨false, []⟩ : UnitD), u.tasks = [] := fun u hu => by rw [(List.mem_replicate.1 hu).2]
      exact ⟨⟨by show room.length ≤ 3; omega, by show (List.replicate _ _).length ≤ 10; rw [List.length_replicate]; omega, fun u hu => by rw [ht u hu]; simp⟩, fun _ => by show 2 ≤ room.length; omega, fun u hu => by rw [ht u hu]; simp⟩
    · exact Few.zero
  · exact Few.zero

/-- the node for a task -/
def atB (C : ClusD) (x : TaskD) (grant : Bool) : Int := if atC C x true < 0 ∧ grant = true then atC C x false else atC C x true
/-- a task is put into a valid cluster; the code -/
def arrC (C : ClusD) (x : TaskD) (grant : Bool) : ClusD × Int :=
  if atB C x grant < 0 ∨ (C.units.map (·.tasks)).flatten.length = 14 then (C, 3)
  else match C.units[(atB C x grant).toNat]? with
    | none => (C, 3)
    | some u => (⟨C.room, C.units.set (atB C x grant).toNat ⟨true, u.tasks ++ [x]⟩⟩, 0)
/-- a task arrives; the code -/
def arriveC (C : ClusD) (x : TaskD) (grant : Bool) : ClusD × Int :=
  if clusOk C then
    if tasksOk C.room [x] then
      if 0 ≤ whereL (C.units.map (·.tasks)) x.id then (C, 2) else arrC C x grant
    else (C, 1)
  else (⟨[], []⟩, 1)
theorem few_arrive (C : ClusD) (x : TaskD) (grant : Bool) : Few (arriveC C x grant).1 := by
  unfold arriveC
  split
  · rename_i h
    split
    · rename_i hx
      split
      · exact few_ok h
      · unfold arrC
        split
        · exact few_ok h
        · split
          · exact few_ok h
          · rename_i u hu
            have hm := clus_few h u (List.mem_of_getElem? hu)
            have ht := tasksOk_mem hx (List.mem_singleton.2 rfl)
            have h3 := vecOk_len (vecFits_ok ht.2).1
            have hi : IdR x.id := by
              have := ht.1
              simp only [inB, Bool.and_eq_true, decide_eq_true_eq] at this
              unfold IdR
              omega
            refine few_set h _ ⟨by show (u.tasks ++ [x]).length ≤ 901; rw [List.length_append]; simp; omega, fun t ht => ?_⟩
            rcases List.mem_append.1 ht with ht | ht
            · exact ⟨by have := (hm.2 t ht).1; omega, (hm.2 t ht).2⟩
            · rw [List.mem_singleton.1 ht]
              exact ⟨by omega, hi⟩
    · exact few_ok h
  · exact Few.zero

end Go.Proofs.Ytfgibhdglbjadaa
