/- Clusters that are small; a task arrives. No program in sight. -/
import Derived.Test.YtcfpilkhjpegcaaK7
namespace Go.Proofs.Ytcfpilkhjpegcaa
open Go.RowKit
set_option maxRecDepth 4000

/-- a cluster of few nodes, each with few tasks -/
structure SmallC (C : ClusD) : Prop where
  room : C.room.length ≤ 3
  units : C.units.length ≤ 10
  tasks : ∀ u ∈ C.units, u.tasks.length ≤ 902 ∧ ∀ t ∈ u.tasks, t.need.length ≤ 3 ∧ IdR t.id
theorem flatten_le {M : Nat} : ∀ (us : List UnitD), (∀ u ∈ us, u.tasks.length ≤ M) → ((us.map (·.tasks)).flatten).length ≤ us.length * M
  | [], _ => by simp
  | u :: us, h => by
    have h1 := h u (by simp)
    have h2 := flatten_le us (fun v hv => h v (by simp [hv]))
    simp only [List.map_cons, List.flatten_cons, List.length_append, List.length_cons]
    rw [Nat.add_mul]
    omega
theorem SmallC.flat {C : ClusD} (h : SmallC C) : (C.units.map (·.tasks)).flatten.length ≤ 4000000 := by
  have h1 := flatten_le C.units (fun u hu => (h.tasks u hu).1)
  have h2 := h.units
  have h3 : C.units.length * 902 ≤ 10 * 902 := Nat.mul_le_mul_right _ h2
  omega
theorem SmallC.ids {C : ClusD} (h : SmallC C) : ∀ t ∈ (C.units.map (·.tasks)).flatten, IdR t.id := by
  intro t ht
  obtain ⟨l, hl, ht⟩ := List.mem_flatten.1 ht
  obtain ⟨u, hu, rfl⟩ := List.mem_map.1 hl
  exact ((h.tasks u hu).2 t ht).2
theorem SmallC.len {C : ClusD} (h : SmallC C) : C.units.length ≤ 4000000 := Nat.le_trans h.units (by omega)
theorem SmallC.zero : SmallC ⟨[], []⟩ := ⟨by simp, by simp, fun u hu => by simp at hu⟩
/-- a valid one has few tasks, each number in its range -/
theorem clus_few {C : ClusD} (h : clusOk C = true) : ∀ u ∈ C.units, u.tasks.length ≤ 900 ∧ ∀ t ∈ u.tasks, t.need.length = 3 ∧ IdR t.id := by
  intro u hu
  have hg := (clusOk_unit h hu).1
  refine ⟨hg.1, fun t ht => ⟨(hg.2 t ht).1, ?_⟩⟩
  have hm := (tasksOk_mem (binsOk_tk (clusOk_bins h)) (t := t) (List.mem_flatten.2 ⟨u.tasks, List.mem_map.2 ⟨u, hu, rfl⟩, ht⟩)).1
  simp only [inB, Bool.and_eq_true, decide_eq_true_eq] at hm
  unfold IdR
  omega
theorem small_ok {C : ClusD} (h : clusOk C = true) : SmallC C :=
  ⟨by have := vecOk_len (roomOk_vec (clusOk_room h)); omega, (clusOk_len h).2, fun u hu => ⟨by have := (clus_few h u hu).1; omega, fun t ht => ⟨by have := ((clus_few h u hu).2 t ht).1; omega, ((clus_few h u hu).2 t ht).2⟩⟩⟩
theorem SmallC.set {C : ClusD} (h : SmallC C) (k : Nat) {u : UnitD} (hu : u.tasks.length ≤ 902 ∧ ∀ t ∈ u.tasks, t.need.length ≤ 3 ∧ IdR t.id) : SmallC ⟨C.room, C.units.set k u⟩ :=
  ⟨h.room, by simpa using h.units, fun v hv => by
    rcases List.mem_or_eq_of_mem_set hv with hv | rfl
    · exact h.tasks v hv
    · exact hu⟩
/-- whether there is room, once there are nodes -/
def Roomed (C : ClusD) : Prop := 0 < C.units.length → 2 ≤ C.room.length
theorem roomed_ok {C : ClusD} (h : clusOk C = true) (us : List UnitD) : Roomed ⟨C.room, us⟩ := fun _ => by
  have := vecOk_len (roomOk_vec (clusOk_room h))
  show 2 ≤ C.room.length
  omega
/-- few tasks a node: one more may come -/
structure Few (C : ClusD) : Prop where
  small : SmallC C
  roomed : Roomed C
  few : ∀ u ∈ C.units, u.tasks.length ≤ 901
theorem Few.zero : Few ⟨[], []⟩ := ⟨SmallC.zero, fun h => absurd h (by simp), fun u hu => by simp at hu⟩
theorem few_ok {C : ClusD} (h : clusOk C = true) : Few C := ⟨small_ok h, roomed_ok h _, fun u hu => by have := (clus_few h u hu).1; omega⟩
theorem few_set {C : ClusD} (h : clusOk C = true) (k : Nat) {u : UnitD} (hu : u.tasks.length ≤ 901 ∧ ∀ t ∈ u.tasks, t.need.length ≤ 3 ∧ IdR t.id) : Few ⟨C.room, C.units.set k u⟩ :=
  ⟨(small_ok h).set k ⟨by omega, hu.2⟩, roomed_ok h _, fun v hv => by
    rcases List.mem_or_eq_of_mem_set hv with hv | rfl
    · have := (clus_few h v hv).1; omega
    · exact hu.1⟩
theorem few_open (C : ClusD) (node : Int) (op : Bool) : Few (openC C node op).1 := by
  unfold openC
  split
  · rename_i h
    split
    · split
      · exact few_ok h
      · rename_i u hu
        split
        · exact few_ok h
        · split
          · exact few_ok h
          · have hm := clus_few h u (List.mem_of_getElem? hu)
            exact few_set h _ ⟨by show u.tasks.length ≤ 901; omega, fun t ht => ⟨by have := (hm.2 t ht).1; omega, (hm.2 t ht).2⟩⟩
    · exact few_ok h
  · exact Few.zero
theorem few_depart (C : ClusD) (id : Int) : Few (departC C id).1 := by
  unfold departC
  split
  · rename_i h
    split
    · exact few_ok h
    · split
      · exact few_ok h
      · rename_i u hu
        have hm := clus_few h u (List.mem_of_getElem? hu)
        exact few_set h _ ⟨Nat.le_trans (List.length_filter_le _ _) (by omega), fun t ht => by
          have ht := (List.mem_filter.1 ht).1
          exact ⟨by have := (hm.2 t ht).1; omega, (hm.2 t ht).2⟩⟩
  · exact Few.zero
theorem few_new (room : List Int) (nodes : Int) : Few (newC room nodes).1 := by
  unfold newC
  split
  · rename_i h1
    split
    · rename_i h2
      have hin : 1 ≤ nodes ∧ nodes ≤ 10 := by simpa [inB] using h2
      have hr := vecOk_len (roomOk_vec h1)
      have ht : ∀ u ∈ List.replicate nodes.toNat (⟨false, []⟩ : UnitD), u.tasks = [] := fun u hu => by rw [(List.mem_replicate.1 hu).2]
      exact ⟨⟨by show room.length ≤ 3; omega, by show (List.replicate _ _).length ≤ 10; rw [List.length_replicate]; omega, fun u hu => by rw [ht u hu]; simp⟩, fun _ => by show 2 ≤ room.length; omega, fun u hu => by rw [ht u hu]; simp⟩
    · exact Few.zero
  · exact Few.zero

/-- the node for a task -/
def atB (C : ClusD) (x : TaskD) (grant : Bool) : Int := if atC C x true < 0 ∧ grant = true then atC C x false else atC C x true
/-- a task is put into a valid cluster; the code -/
def arrC (C : ClusD) (x : TaskD) (grant : Bool) : ClusD × Int :=
  if atB C x grant < 0 ∨ (C.units.map (·.tasks)).flatten.length = 14 then (C, 3)
  else match C.units[(atB C x grant).toNat]? with
    | none => (C, 3)
    | some u => (⟨C.room, C.units.set (atB C x grant).toNat ⟨true, u.tasks ++ [x]⟩⟩, 0)
/-- a task arrives; the code -/
def arriveC (C : ClusD) (x : TaskD) (grant : Bool) : ClusD × Int :=
  if clusOk C then
    if tasksOk C.room [x] then
      if 0 ≤ whereL (C.units.map (·.tasks)) x.id then (C, 2) else arrC C x grant
    else (C, 1)
  else (⟨[], []⟩, 1)
theorem few_arrive (C : ClusD) (x : TaskD) (grant : Bool) : Few (arriveC C x grant).1 := by
  unfold arriveC
  split
  · rename_i h
    split
    · rename_i hx
      split
      · exact few_ok h
      · unfold arrC
        split
        · exact few_ok h
        · split
          · exact few_ok h
          · rename_i u hu
            have hm := clus_few h u (List.mem_of_getElem? hu)
            have ht := tasksOk_mem hx (List.mem_singleton.2 rfl)
            have h3 := vecOk_len (vecFits_ok ht.2).1
            have hi : IdR x.id := by
              have := ht.1
              simp only [inB, Bool.and_eq_true, decide_eq_true_eq] at this
              unfold IdR
              omega
            refine few_set h _ ⟨by show (u.tasks ++ [x]).length ≤ 901; rw [List.length_append]; simp; omega, fun t ht => ?_⟩
            rcases List.mem_append.1 ht with ht | ht
            · exact ⟨by have := (hm.2 t ht).1; omega, (hm.2 t ht).2⟩
            · rw [List.mem_singleton.1 ht]
              exact ⟨by omega, hi⟩
    · exact few_ok h
  · exact Few.zero

end Go.Proofs.Ytcfpilkhjpegcaa

/- The reference puts a task into a cluster: the walk. -/
namespace Go.Proofs.Ytcfpilkhjpegcaa
open Go.RowKit
set_option maxRecDepth 4000

set_option maxHeartbeats 8000000 in
theorem sArr21 (cv xv : Value) (C : ClusD) (x : TaskD) (grant : Bool) (w : World) (base : Nat) (h : OCl w base cv C) (hbase : base ≤ w.heap.size) (hx : TaskV w xv x) (hC : clusOk C = true) (hn : x.need.length = 3 ∧ Bd 1000 x.need) :
    Calls Try.prog 88 #[cv, xv, .bool grant] w fun e w' => ∃ cv', e = .returned (.tuple #[cv', .int .i64 (arrC C x grant).2]) ∧ OCl w' base cv' (arrC C x grant).1 ∧ Below base w w' := by
  have hCV := h.read
  obtain ⟨rv, uv, ps, rfl, hr, hou, hps, hnd⟩ := h
  have hpl : ps.length = C.units.length := by rw [← hps, List.length_map]
  have hlen := clusOk_len hC
  obtain ⟨gu, cu, rfl, hgu⟩ := Own.row hou (by omega)
  have hgu2 := (Own.lt hou gu rfl).2
  have HR := hid hr
  obtain ⟨Ar, cr, rfl, _⟩ := hr
  have HTX := hid hx
  obtain ⟨nv, rfl, hnv⟩ := hx
  have HNV := hid hnv
  obtain ⟨An, cn, rfl, _⟩ := hnv
  obtain ⟨O1, hO1⟩ : ∃ O1 : Obj, O1 = .cells #[.slice Ar C.room.length cr, .slice (some ⟨gu, 0, none⟩) ps.length cu] 26 := ⟨_, rfl⟩
  obtain ⟨O2, hO2⟩ : ∃ O2 : Obj, O2 = .cells #[.int .i64 x.id, .slice An x.need.length cn] 80 := ⟨_, rfl⟩
  obtain ⟨O3, hO3⟩ : ∃ O3 : Obj, O3 = .cells #[.slice none 0 0, .slice none 0 0] 26 := ⟨_, rfl⟩
  obtain ⟨W, hW⟩ : ∃ W, W = ((w.alloc O1).alloc O2).alloc O3 := ⟨_, rfl⟩
  have hEW : Ext w W := by rw [hW]; exact ((Ext.alloc _ _).trans (Ext.alloc _ _)).trans (Ext.alloc _ _)
  have hb0 : W.heap[w.heap.size]? = some O1 := by rw [hW]; exact (Ext.alloc _ _).obj ((Ext.alloc _ _).obj (heap_alloc_new w _))
  have hb1 : W.heap[w.heap.size + 1]? = some O2 := by rw [hW]; exact (Ext.alloc _ _).obj (heap_new (by simp))
  have hb2 : W.heap[w.heap.size + 2]? = some O3 := by rw [hW]; exact heap_new (by simp)
  subst hO1 hO2 hO3
  have KB : Hid (∀ w', Ext W w' → w'.cell? ⟨w.heap.size, 0, none⟩ = some (.slice Ar C.room.length cr) ∧ w'.cell? ⟨w.heap.size, 1, none⟩ = some (.slice (some ⟨gu, 0, none⟩) ps.length cu) ∧ w'.cell? ⟨w.heap.size + 1, 0, none⟩ = some (.int .i64 x.id) ∧ w'.cell? ⟨w.heap.size + 1, 1, none⟩ = some (.slice An x.need.length cn)) :=
    hid fun w' hw => ⟨obj_cell (hw.obj hb0) (i := 0) rfl, obj_cell (hw.obj hb0) (i := 1) rfl, obj_cell (hw.obj hb1) (i := 0) rfl, obj_cell (hw.obj hb1) (i := 1) rfl⟩
  have B0 := hid hb0
  have B1 := hid hb1
  have B2 := hid hb2
  have HCV := hid (hCV.ext hEW)
  have HX := hid (HTX.out.ext hEW)
  have HRW := hid (RI.ext HR.out hEW)
  have HNW := hid (RI.ext HNV.out hEW)
  have HOW := hid (Own.ext (EUV.ok _) hou hEW)
  have HPS := hid hps
  have HND := hid hnd
  have HLT := hid (OUV.lt hou)
  have HEW := hid hEW
  have HC := hid hC
  have HN := hid hn
  have HL : Hid (C.units.length ≤ 4000000) := hid (by omega)
  have HFLB : Hid ((C.units.map (·.tasks)).flatten.length ≤ 4000000) := hid (by have := tasksOk_len (binsOk_tk (clusOk_bins HC.out)); omega)
  obtain ⟨L, hL⟩ : ∃ L, L = (C.units.map (·.tasks)).flatten.length := ⟨_, rfl⟩
  obtain ⟨i0_int, hi0_int, hz0_int, hz1_int, hz2_int⟩ := info_parts info_int
  obtain ⟨i0_task, hi0_task, hz0_task, hz1_task, hz2_task⟩ := info_parts info_task
  have HPL := hid hpl
  have HLL := hid hL
  clear hL
  clear hpl hCV hou hps hnd hb0 hb1 hb2 hEW hC hn hlen HR HNV
  by_cases h1 : atC C x true < 0
  · by_cases h2 : grant = true
    · subst h2
      by_cases h3 : atC C x false < 0
      · have HA : Hid (arrC C x true = (C, 3)) := hid (by unfold arrC atB; rw [if_pos (.inl (by simp [h1, h3]))])
        go_enter Try.func88, Try.ntmps88
        go_wp2_with (first
          | (go_at_call 121; have hq := HE1.out; refine (sAt21 _ _ C x false _ (HCV.out.ext hq) (HX.out.ext hq) HC.out HN.out).mono ?_; rintro e w2 ⟨rfl, hE2⟩;  obtain ⟨c0, c1, x0, x1⟩ := KB.out _ (hq.trans hE2); have HE2 := hid (hq.trans hE2); clear hE2 hq; obtain ⟨e0, e1, y0, y1, y0f, y1f, k1, k1f, r0, r1, hsm⟩ := res2 (HE2.out.obj B2.out) (HE2.out.obj B0.out); have HSM := hid hsm; clear hsm)
          | (go_at_call 121; rw [← hW]; refine (sAt21 _ _ C x true _ HCV.out HX.out HC.out HN.out).mono ?_; rintro e w1 ⟨rfl, hE1⟩;  obtain ⟨c0, c1, x0, x1⟩ := KB.out _ hE1; have HE1 := hid hE1; clear hE1 hW; skip))
        refine bodyPost_ret (v := .tuple #[.agg #[.slice Ar C.room.length cr, .slice (some ⟨gu, 0, none⟩) ps.length cu], .int .i64 3]) (by simp [results, Try.results88, go_sem, r0, r1]) rfl ?_
        rw [HA.out]
        have HEL := hid (HEW.out.trans HE2.out)
        exact ⟨_, rfl, ⟨_, _, ps, rfl, RI.same (RI.ext HRW.out HE2.out) (HSM.out _ (by rintro t rfl; decide)), Own.same (EUV.ok _) (Own.ext (EUV.ok _) HOW.out HE2.out) (HSM.out _ notClu), HPS.out, HND.out⟩, Below.setCell (Below.setCell (HEL.out.mono hbase) (by show base ≤ w.heap.size + 2; omega) _) (by show base ≤ w.heap.size + 2; omega) _⟩
      · obtain ⟨k, hk⟩ : ∃ k : Nat, atC C x false = k := ⟨_, (Int.toNat_of_nonneg (by omega)).symm⟩
        have hkl : k < C.units.length := by have := idxI_lt (canC C x false) C.units; unfold atC at hk; omega
        obtain ⟨u, ex⟩ : ∃ u, Hid (C.units[k]? = some u) := ⟨_, hid (List.getElem?_eq_getElem hkl)⟩
        have HB : Hid (atB C x true = k) := hid (by unfold atB; simp [h1, hk])
        have ip : (k : Int) < (ps.length : Int) := by have := HPL.out; omega
        have i0 : ¬ (k : Int) < 0 := by omega
        have i00 : (0 : Int) ≤ (k : Int) := by omega
        by_cases hf : L = 14
        · have hf1 : ((L : Int) == 14) = true := by simpa using (by omega : (L : Int) = 14)
          have HA : Hid (arrC C x true = (C, 3)) := hid (by unfold arrC; rw [if_pos (.inr (HLL.out.symm.trans hf))])
          clear hf
          go_enter Try.func88, Try.ntmps88
          go_wp2_with (first
            | (go_at_call 121; have hq := HE1.out; refine (sAt21 _ _ C x false _ (HCV.out.ext hq) (HX.out.ext hq) HC.out HN.out).mono ?_; rintro e w2 ⟨rfl, hE2⟩; rw [hk]; obtain ⟨c0, c1, x0, x1⟩ := KB.out _ (hq.trans hE2); have HE2 := hid (hq.trans hE2); clear hE2 hq; skip)
            | (go_at_call 121; rw [← hW]; refine (sAt21 _ _ C x true _ HCV.out HX.out HC.out HN.out).mono ?_; rintro e w1 ⟨rfl, hE1⟩;  obtain ⟨c0, c1, x0, x1⟩ := KB.out _ hE1; have HE1 := hid hE1; clear hE1 hW; skip)
            | (go_at_call 42; refine (sBins21 _ C _ (HCV.out.ext HE2.out) HL.out).mono ?_; rintro e w3 ⟨v3, rfl, hv3, hE3⟩; have HV3 := hid hv3.read; have HE3 := hid (HE2.out.trans hE3); clear hv3 hE3)
            | (go_at_call 41; refine (sAll _ _ _ HV3.out HFLB.out).mono ?_; rintro e w4 ⟨v4, rfl, hv4, hE4⟩; obtain ⟨A4, c4, rfl, _, _⟩ := hv4.form; rw [← HLL.out]; have HE4 := hid (HE3.out.trans hE4); obtain ⟨c0, c1, x0, x1⟩ := KB.out _ HE4.out; clear hv4 hE4; obtain ⟨e0, e1, y0, y1, y0f, y1f, k1, k1f, r0, r1, hsm⟩ := res2 (HE4.out.obj B2.out) (HE4.out.obj B0.out); have HSM := hid hsm; clear hsm))
          refine bodyPost_ret (v := .tuple #[.agg #[.slice Ar C.room.length cr, .slice (some ⟨gu, 0, none⟩) ps.length cu], .int .i64 3]) (by simp [results, Try.results88, go_sem, r0, r1]) rfl ?_
          rw [HA.out]
          have HEL := hid (HEW.out.trans HE4.out)
          exact ⟨_, rfl, ⟨_, _, ps, rfl, RI.same (RI.ext HRW.out HE4.out) (HSM.out _ (by rintro t rfl; decide)), Own.same (EUV.ok _) (Own.ext (EUV.ok _) HOW.out HE4.out) (HSM.out _ notClu), HPS.out, HND.out⟩, Below.setCell (Below.setCell (HEL.out.mono hbase) (by show base ≤ w.heap.size + 2; omega) _) (by show base ≤ w.heap.size + 2; omega) _⟩
        · have hf1 : ((L : Int) == 14) = false := by simpa using (by omega : ¬ (L : Int) = 14)
          have HA : Hid (arrC C x true = (⟨C.room, C.units.set k ⟨true, u.tasks ++ [x]⟩⟩, 0)) := hid (by unfold arrC; rw [if_neg (by rw [HB.out, ← HLL.out]; omega), HB.out, Int.toNat_natCast, ex.out])
          clear hf
          go_enter Try.func88, Try.ntmps88
          go_wp2_with (first
            | (go_at_call 121; have hq := HE1.out; refine (sAt21 _ _ C x false _ (HCV.out.ext hq) (HX.out.ext hq) HC.out HN.out).mono ?_; rintro e w2 ⟨rfl, hE2⟩; rw [hk]; obtain ⟨c0, c1, x0, x1⟩ := KB.out _ (hq.trans hE2); have HE2 := hid (hq.trans hE2); clear hE2 hq; skip)
            | (go_at_call 121; rw [← hW]; refine (sAt21 _ _ C x true _ HCV.out HX.out HC.out HN.out).mono ?_; rintro e w1 ⟨rfl, hE1⟩;  obtain ⟨c0, c1, x0, x1⟩ := KB.out _ hE1; have HE1 := hid hE1; clear hE1 hW; skip)
            | (go_at_call 42; refine (sBins21 _ C _ (HCV.out.ext HE2.out) HL.out).mono ?_; rintro e w3 ⟨v3, rfl, hv3, hE3⟩; have HV3 := hid hv3.read; have HE3 := hid (HE2.out.trans hE3); clear hv3 hE3)
            | (go_at_call 41; refine (sAll _ _ _ HV3.out HFLB.out).mono ?_; rintro e w4 ⟨v4, rfl, hv4, hE4⟩; obtain ⟨A4, c4, rfl, _, _⟩ := hv4.form; rw [← HLL.out]; have HE4 := hid (HE3.out.trans hE4); obtain ⟨c0, c1, x0, x1⟩ := KB.out _ HE4.out; clear hv4 hE4; have HO4 := hid (Own.ext (EUV.ok _) HOW.out HE4.out); obtain ⟨tv, hpk⟩ := at_fst HPS.out ex.out; obtain ⟨cx, fx⟩ := OUV.at_ HO4.out hpk; have HPK := hid hpk; clear hpk))
          obtain ⟨W5, hW5⟩ : ∃ W5, W5 = w4.setCell ⟨gu, k * 2, none⟩ (.bool true) := ⟨_, rfl⟩
          rw [← hW5]
          have hset := OUV.set0 HO4.out HPK.out true
          have hC5 := obj_far (HE4.out.obj B0.out) (p := ⟨gu, k * 2, none⟩) (by show w.heap.size ≠ gu; omega) (.bool true)
          have hX5 := obj_far (HE4.out.obj B1.out) (p := ⟨gu, k * 2, none⟩) (by show w.heap.size + 1 ≠ gu; omega) (.bool true)
          have hZ5 := obj_far (HE4.out.obj B2.out) (p := ⟨gu, k * 2, none⟩) (by show w.heap.size + 2 ≠ gu; omega) (.bool true)
          have hB5 : Below base w (w4.setCell ⟨gu, k * 2, none⟩ (.bool true)) := Below.setCell ((HEW.out.trans HE4.out).mono hbase) hgu _
          have hI5 : SameT (fun t => t = 3) w4 (w4.setCell ⟨gu, k * 2, none⟩ (.bool true)) := hset.2.mono (by rintro t rfl; decide)
          have hR5 := RI.same (RI.ext HRW.out HE4.out) hI5
          have hN5 := RI.same (RI.ext HNW.out HE4.out) hI5
          rw [← hW5] at hset hC5 hX5 hZ5 hB5 hR5 hN5
          clear hI5 hW5 cx fx
          have HO5 := hid hset.1
          have hpk5 : (ps.set k (⟨true, u.tasks⟩, tv))[k]? = some (⟨true, u.tasks⟩, tv) := List.getElem?_set_self (List.getElem?_eq_some_iff.1 HPK.out).1
          have HND5 : Hid (blocksOf (ps.set k (⟨true, u.tasks⟩, tv))).Nodup := hid (by rw [blocksOf_set HPK.out]; exact HND.out)
          have HLT5 : Hid (∀ g ∈ blocksOf (ps.set k (⟨true, u.tasks⟩, tv)), g < w.heap.size) := hid (by rw [blocksOf_set HPK.out]; exact fun g hg => (HLT.out g hg).2)
          have hqs : (ps.set k (⟨true, u.tasks⟩, tv)).length = ps.length := List.length_set
          obtain ⟨qs, hqsd⟩ : ∃ qs, qs = ps.set k (⟨true, u.tasks⟩, tv) := ⟨_, rfl⟩
          have HMAP : Hid (qs.map (·.1) = C.units.set k ⟨true, u.tasks⟩) := hid (by rw [hqsd, List.map_set, HPS.out])
          rw [← hqsd] at HO5 hpk5 HND5 HLT5 hqs
          obtain ⟨d1, df1, htv, _⟩ := OUV.at1 HO5.out hpk5
          have htvl := htv.lt
          have htw : ∀ g, tv.ownBlock = some g → g < w.heap.size := fun g hg => HLT5.out g (List.mem_filterMap.2 ⟨_, List.mem_of_getElem? hpk5, hg⟩)
          obtain ⟨At, ct, htvf, _, _⟩ := htv.form
          subst htvf
          have HTV := hid htv
          have HTVL := hid htvl
          have HTW := hid htw
          have HPK5 := hid hpk5
          have HC5 := hid hC5
          have HX5 := hid hX5
          have HZ5 := hid hZ5
          have HB5 := hid hB5
          have HR5 := hid hR5
          have HN5 := hid hN5
          have HD1 := hid d1
          have c1 := obj_cell HC5.out (i := 1) rfl
          obtain ⟨curu, hcuru⟩ := Own.obj HO5.out
          have HU5 := hid hcuru
          clear hcuru
          have KS : Hid (∀ w' : World, w'.heap[w.heap.size]? = W5.heap[w.heap.size]? → w'.heap[w.heap.size + 1]? = W5.heap[w.heap.size + 1]? → w'.heap[gu]? = W5.heap[gu]? → w'.cell? ⟨w.heap.size, 1, none⟩ = some (.slice (some ⟨gu, 0, none⟩) ps.length cu) ∧ w'.cell? ⟨gu, k * 2 + 1, none⟩ = some (.slice At u.tasks.length ct) ∧ w'.cell? ⟨w.heap.size + 1, 0, none⟩ = some (.int .i64 x.id) ∧ w'.cell? ⟨w.heap.size + 1, 1, none⟩ = some (.slice An x.need.length cn)) :=
            hid fun w' h0 h1 h2 => ⟨obj_cell (h0.trans HC5.out) (i := 1) rfl, (World.cell?_of_block (w := W5) (a := ⟨gu, k * 2 + 1, none⟩) h2).trans HD1.out, obj_cell (h1.trans HX5.out) (i := 0) rfl, obj_cell (h1.trans HX5.out) (i := 1) rfl⟩
          have hgz : gu < W5.heap.size := (Own.lt HO5.out gu rfl).2
          have HGZ := hid hgz
          have hxz : w.heap.size + 2 < W5.heap.size := obj_lt HZ5.out
          have KE : Hid (∀ w', Ext W5 w' → w'.cell? ⟨w.heap.size, 1, none⟩ = some (.slice (some ⟨gu, 0, none⟩) ps.length cu) ∧ w'.cell? ⟨gu, k * 2 + 1, none⟩ = some (.slice At u.tasks.length ct) ∧ w'.cell? ⟨w.heap.size + 1, 0, none⟩ = some (.int .i64 x.id) ∧ w'.cell? ⟨w.heap.size + 1, 1, none⟩ = some (.slice An x.need.length cn)) :=
            hid fun w' hw => KS.out w' (hw.block _ (by omega)) (hw.block _ (by omega)) (hw.block _ hgz)
          have hED : Ext W5 W5.drew := Below.drew (Below.refl _ _)
          have HED := hid hED
          clear hset hC5 hX5 hZ5 hB5 hR5 hN5 hpk5 d1 htv htvl htw hED
          refine WG.start (fun w' => w'.cell? ⟨w.heap.size, 1, none⟩ = some (.slice (some ⟨gu, 0, none⟩) ps.length cu) ∧ w'.cell? ⟨gu, k * 2 + 1, none⟩ = some (.slice At u.tasks.length ct) ∧ w'.cell? ⟨w.heap.size + 1, 0, none⟩ = some (.int .i64 x.id) ∧ w'.cell? ⟨w.heap.size + 1, 1, none⟩ = some (.slice An x.need.length cn)) [20] (by kernel_rfl) (by exact KE.out _ HED.out) (fun hHeld => ?_)
          (refine WG.take (i := 0) (v := ?_) rfl (by kernel_rfl) (by kernel_rfl) (by kernel_rfl) (by kernel_rfl) (fun _ _ _ h => h) (Or.inl ⟨by rfl, ?_⟩) (by assumption) ?_; rotate_left; (intro w hSw; (try dsimp only at hSw); go_split_ands; go_simp; (try with_reducible rfl)); (try simp only [Act.put, List.setIfInBounds_toArray, List.set_cons_zero, List.set_cons_succ]))
          (refine WG.take (i := 1) (v := ?_) rfl (by kernel_rfl) (by kernel_rfl) (by kernel_rfl) (by kernel_rfl) (fun _ _ _ h => h) (Or.inl ⟨by rfl, ?_⟩) (by assumption) ?_; rotate_left; (intro w hSw; (try dsimp only at hSw); go_split_ands; go_simp; (try with_reducible rfl)); (try simp only [Act.put, List.setIfInBounds_toArray, List.set_cons_zero, List.set_cons_succ]))
          (refine WG.take (i := 2) (v := ?_) rfl (by kernel_rfl) (by kernel_rfl) (by kernel_rfl) (by kernel_rfl) (fun _ _ _ h => h) (Or.inl ⟨by rfl, ?_⟩) (by assumption) ?_; rotate_left; (intro w hSw; (try dsimp only at hSw); go_split_ands; go_simp; (try with_reducible rfl)); (try simp only [Act.put, List.setIfInBounds_toArray, List.set_cons_zero, List.set_cons_succ]))
          (refine WG.take (i := 3) (v := ?_) rfl (by kernel_rfl) (by kernel_rfl) (by kernel_rfl) (by kernel_rfl) (fun _ _ _ h => h) (Or.inl ⟨by rfl, ?_⟩) (by assumption) ?_; rotate_left; (intro w hSw; (try dsimp only at hSw); go_split_ands; go_simp; (try with_reducible rfl)); (try simp only [Act.put, List.setIfInBounds_toArray, List.set_cons_zero, List.set_cons_succ]))
          (refine WG.take (i := 4) (v := ?_) rfl (by kernel_rfl) (by kernel_rfl) (by kernel_rfl) (by kernel_rfl) (fun _ _ _ h => h) (Or.inl ⟨by rfl, ?_⟩) (by assumption) ?_; rotate_left; (intro w hSw; (try dsimp only at hSw); go_split_ands; go_simp; (try with_reducible rfl)); (try simp only [Act.put, List.setIfInBounds_toArray, List.set_cons_zero, List.set_cons_succ]))
          (refine WG.take (i := 5) (v := ?_) rfl (by kernel_rfl) (by kernel_rfl) (by kernel_rfl) (by kernel_rfl) (fun _ _ _ h => h) (Or.inl ⟨by rfl, ?_⟩) (by assumption) ?_; rotate_left; (intro w hSw; (try dsimp only at hSw); go_split_ands; go_simp; (try with_reducible rfl)); (try simp only [Act.put, List.setIfInBounds_toArray, List.set_cons_zero, List.set_cons_succ]))
          (refine WG.take (i := 6) (v := ?_) rfl (by kernel_rfl) (by kernel_rfl) (by kernel_rfl) (by kernel_rfl) (fun _ _ _ h => h) (Or.inl ⟨by rfl, ?_⟩) (by assumption) ?_; rotate_left; (intro w hSw; (try dsimp only at hSw); go_split_ands; go_simp; (try with_reducible rfl)); (try simp only [Act.put, List.setIfInBounds_toArray, List.set_cons_zero, List.set_cons_succ]))
          (refine WG.take (i := 7) (v := ?_) rfl (by kernel_rfl) (by kernel_rfl) (by kernel_rfl) (by kernel_rfl) (fun _ _ _ h => h) (Or.inl ⟨by rfl, ?_⟩) (by assumption) ?_; rotate_left; (intro w hSw; (try dsimp only at hSw); go_split_ands; go_simp; (try with_reducible rfl)); (try simp only [Act.put, List.setIfInBounds_toArray, List.set_cons_zero, List.set_cons_succ]))
          (refine WG.take (i := 8) (v := ?_) rfl (by kernel_rfl) (by kernel_rfl) (by kernel_rfl) (by kernel_rfl) (fun _ _ _ h => h) (Or.inl ⟨by rfl, ?_⟩) (by assumption) ?_; rotate_left; (intro w hSw; (try dsimp only at hSw); go_split_ands; go_simp; (try with_reducible rfl)); (try simp only [Act.put, List.setIfInBounds_toArray, List.set_cons_zero, List.set_cons_succ]))
          (refine WG.take (i := 9) (v := ?_) rfl (by kernel_rfl) (by kernel_rfl) (by kernel_rfl) (by kernel_rfl) (fun _ _ _ h => h) (Or.inl ⟨by rfl, ?_⟩) (by assumption) ?_; rotate_left; (intro w hSw; (try dsimp only at hSw); go_split_ands; go_simp; (try with_reducible rfl)); (try simp only [Act.put, List.setIfInBounds_toArray, List.set_cons_zero, List.set_cons_succ]))
          (refine WG.take (i := 10) (v := ?_) rfl (by kernel_rfl) (by kernel_rfl) (by kernel_rfl) (by kernel_rfl) (fun _ _ _ h => h) (Or.inl ⟨by rfl, ?_⟩) (by assumption) ?_; rotate_left; (intro w hSw; (try dsimp only at hSw); go_split_ands; go_simp; (try with_reducible rfl)); (try simp only [Act.put, List.setIfInBounds_toArray, List.set_cons_zero, List.set_cons_succ]))
          (refine WG.take (i := 12) (v := ?_) rfl (by kernel_rfl) (by kernel_rfl) (by kernel_rfl) (by kernel_rfl) (fun _ _ _ h => h) (Or.inl ⟨by rfl, ?_⟩) (by assumption) ?_; rotate_left; (intro w hSw; (try dsimp only at hSw); go_split_ands; go_simp; (try with_reducible rfl)); (try simp only [Act.put, List.setIfInBounds_toArray, List.set_cons_zero, List.set_cons_succ]))
          (refine WG.take (i := 13) (v := ?_) rfl (by kernel_rfl) (by kernel_rfl) (by kernel_rfl) (by kernel_rfl) (fun _ _ _ h => h) (Or.inl ⟨by rfl, ?_⟩) (by assumption) ?_; rotate_left; (intro w hSw; (try dsimp only at hSw); go_split_ands; go_simp; (try with_reducible rfl)); (try simp only [Act.put, List.setIfInBounds_toArray, List.set_cons_zero, List.set_cons_succ]))
          refine WG.one (i := 11) rfl (by kernel_rfl) (fun K hK => ?_)
          go_simp
          refine hK.out _ _ (by exact KE.out _ (HED.out.trans (Ext.alloc _ _))) (fun hHeld => ?_)
          clear hK K
          (try simp only [Act.put, List.setIfInBounds_toArray, List.set_cons_zero, List.set_cons_succ])
          have hEA : Ext W5 (W5.drew.alloc (.cells #[] 3)) := HED.out.trans (Ext.alloc _ _)
          have HM : Hid (OI (W5.drew.alloc (.cells #[] 3)) W5.heap.size (.slice (some ⟨W5.heap.size, 0, none⟩) 0 0) []) := hid (Own.madeAt (w := W5.drew) #[] 0 _ rfl (Nat.le_refl _) (by omega) rfl)
          have HNA := hid (RI.ext HN5.out hEA)
          have HEA := hid hEA
          clear hEA
          refine WG.one (i := 14) rfl (by kernel_rfl) (fun K hK => ?_)
          refine step_append_sl _ (by rfl) _ _ 23 (by rfl) EI.ok EI.flat (W5.heap.size) 3 EI.ne i0_int _ 1 8 Try.underlying23 hi0_int hz0_int hz1_int hz2_int rfl (by omega) _ (by rfl) _ (HM.out) _ (by rfl) _ (HNA.out) (by have := HN.out.1; simp; omega) (by have := HN.out.1; simp; omega) ?_ ?_; (focus (first | exact Nat.le_refl _ | (simp; done) | (simp; omega) | omega)); intro v6 w6 hO6 hg6 hat6 hs6; rw [List.nil_append] at hO6; obtain ⟨A6, c6, rfl, _, _⟩ := hO6.form; have hE6 := Ext.grown HEA.out hg6 HM.out.lt; have HO6 := hid hO6.read; have HE6 := hid hE6; clear hO6 hg6 hat6 hs6
          refine hK.out _ _ (by exact KE.out _ HE6.out) (fun hHeld => ?_)
          clear hK K
          (try simp only [Act.put, List.setIfInBounds_toArray, List.set_cons_zero, List.set_cons_succ])
          (refine WG.take (i := 15) (v := ?_) rfl (by kernel_rfl) (by kernel_rfl) (by kernel_rfl) (by kernel_rfl) (fun _ _ _ h => h) (Or.inl ⟨by rfl, ?_⟩) (by assumption) ?_; rotate_left; (intro w hSw; (try dsimp only at hSw); go_split_ands; go_simp; (try with_reducible rfl)); (try simp only [Act.put, List.setIfInBounds_toArray, List.set_cons_zero, List.set_cons_succ]))
          refine WG.one (i := 16) rfl (by kernel_rfl) (fun K hK => ?_)
          go_simp
          refine hK.out _ _ (by exact KE.out _ (HE6.out.trans (Ext.alloc _ _))) (fun hHeld => ?_)
          clear hK K
          (try simp only [Act.put, List.setIfInBounds_toArray, List.set_cons_zero, List.set_cons_succ])
          have hE7 : Ext W5 (w6.alloc (.cells #[.int .i64 x.id, .slice A6 x.need.length c6] 80)) := HE6.out.trans (Ext.alloc _ _)
          have HT7 := hid (Own.ext ET.ok HTV.out hE7)
          have HO7 := hid (Own.ext (EUV.ok _) HO5.out hE7)
          have HB7 := hid (Below.trans HB5.out (hE7.mono (by have := HB5.out.size; omega)))
          have HE7 := hid hE7
          have HR7 := hid (RI.ext HR5.out hE7)
          have hz7 := hE7.size
          have HUT : Hid (u.tasks.length ≤ 900) := hid (clusOk_unit HC.out (List.mem_of_getElem? ex.out)).1.1
          have hzw := HB7.out.size
          clear hE7
          refine WG.one (i := 17) rfl (by kernel_rfl) (fun K hK => ?_)
          refine step_append_sl _ (by rfl) _ _ 42 (by rfl) ET.ok ET.flat (base) 80 ET.ne i0_task _ 2 32 Try.underlying42 hi0_task hz0_task hz1_task hz2_task rfl (by omega) _ (by rfl) _ (HT7.out) _ (by rfl) _ (RSl.laid (cs := [.int .i64 x.id, .slice A6 x.need.length c6]) (heap_alloc_new _ _) rfl ⟨_, rfl, RI.ext HO6.out (Ext.alloc _ _)⟩) (by have := HUT.out; simp; omega) (by have := HUT.out; simp; omega) ?_ ?_; (focus (first | exact Nat.le_refl _ | (simp; done) | (simp; omega) | omega)); intro v8 w8 hO8 hg8 hat8 hs8; obtain ⟨A8, c8, rfl, _, _⟩ := hO8.form_app; have HO8 := hid hO8; have HG8 := hid hg8; have HAT8 := hid hat8; have HS8 := hid hs8; clear hO8 hg8 hat8 hs8
          refine hK.out _ _ (by exact KS.out _ ((HS8.out _ _ _ _ (by decide) (HE7.out.obj HC5.out)).trans HC5.out.symm) ((HG8.out.block _ (by omega) (fun e => by have := HTW.out _ e.symm; omega)).trans (HE7.out.block _ (by omega))) ((HG8.out.block _ (Nat.lt_of_lt_of_le HGZ.out HE7.out.size) (fun e => Own.block_ne (by decide) HT7.out HO7.out e.symm rfl)).trans (HE7.out.block _ HGZ.out))) (fun hHeld => ?_)
          clear hK K
          (try simp only [Act.put, List.setIfInBounds_toArray, List.set_cons_zero, List.set_cons_succ])
          (refine WG.take (i := 18) (v := ?_) rfl (by kernel_rfl) (by kernel_rfl) (by kernel_rfl) (by kernel_rfl) (fun _ _ _ h => h) (Or.inl ⟨by rfl, ?_⟩) (by assumption) ?_; rotate_left; (intro w hSw; (try dsimp only at hSw); go_split_ands; go_simp; (try with_reducible rfl)); (try simp only [Act.put, List.setIfInBounds_toArray, List.set_cons_zero, List.set_cons_succ]))
          (refine WG.take (i := 19) (v := ?_) rfl (by kernel_rfl) (by kernel_rfl) (by kernel_rfl) (by kernel_rfl) (fun _ _ _ h => h) (Or.inl ⟨by rfl, ?_⟩) (by assumption) ?_; rotate_left; (intro w hSw; (try dsimp only at hSw); go_split_ands; go_simp; (try with_reducible rfl)); (try simp only [Act.put, List.setIfInBounds_toArray, List.set_cons_zero, List.set_cons_succ]))
          have hgrow := OUV.grow HO7.out HND5.out HPK5.out HG8.out HS8.out HO8.out
          have hblk : w8.heap[gu]? = W5.heap[gu]? := (HG8.out.block _ (Nat.lt_of_lt_of_le HGZ.out HE7.out.size) (fun e => Own.block_ne (by decide) HT7.out HO7.out e.symm rfl)).trans (HE7.out.block _ HGZ.out)
          have cx8 := (World.cell?_of_block (w := W5) (a := ⟨gu, k * 2 + 1, none⟩) hblk).trans HD1.out
          have fx8 := obj_frozen (hblk.trans HU5.out) (k * 2 + 1)
          have HGROW := hid hgrow
          clear hgrow hblk
          refine WG.last (i := 20) rfl (by kernel_rfl) (by kernel_rfl) (fun K hK => ?_)
          go_simp
          refine hK.out _ _ ?_
          clear hK K
          (try simp only [Act.put, List.setIfInBounds_toArray, List.set_cons_zero, List.set_cons_succ])
          refine WG.done (by kernel_rfl) ?_
          have P9 := obj_far (HS8.out _ _ _ _ (by decide) (HE7.out.obj HZ5.out)) (p := ⟨gu, k * 2 + 1, none⟩) (by show w.heap.size + 2 ≠ gu; omega) (.slice A8 (u.tasks.length + 1) c8)
          have Q9 := obj_far (HS8.out _ _ _ _ (by decide) (HE7.out.obj HC5.out)) (p := ⟨gu, k * 2 + 1, none⟩) (by show w.heap.size ≠ gu; omega) (.slice A8 (u.tasks.length + 1) c8)
          obtain ⟨e0, e1, y0, y1, y0f, y1f, k1, k1f, r0, r1, hsm⟩ := res2 P9 Q9
          have HSM := hid hsm
          clear P9 Q9 hsm
          go_wp2
          refine bodyPost_ret (v := .tuple #[.agg #[.slice Ar C.room.length cr, .slice (some ⟨gu, 0, none⟩) ps.length cu], .int .i64 0]) (by simp [results, Try.results88, go_sem, r0, r1]) rfl ?_
          rw [HA.out]
          have hB8 : Below base w w8 := Below.grown HB7.out HG8.out (by omega) (fun a ha => (Own.lt HT7.out a ha).1)
          exact ⟨_, rfl, ⟨_, _, qs.set k (⟨true, u.tasks ++ [x]⟩, _), rfl, RI.same (RI.same (RI.same HR7.out (HS8.out.mono (by rintro t rfl; decide))) (HGROW.out.2.mono (by rintro t rfl; decide))) (HSM.out _ (by rintro t rfl; decide)), Own.same (EUV.ok _) HGROW.out.1 (HSM.out _ notClu), by rw [List.map_set, HMAP.out, List.set_set], nodup_app HND5.out HPK5.out HAT8.out (fun g hg => by have := HLT5.out g hg; omega)⟩, Below.setCell (Below.setCell (Below.setCell hB8 hgu _) (by show base ≤ w.heap.size + 2; omega) _) (by show base ≤ w.heap.size + 2; omega) _⟩
    · have h2 : grant = false := by simpa using h2
      subst h2
      have HA : Hid (arrC C x false = (C, 3)) := hid (by unfold arrC atB; rw [if_pos (.inl (by simp [h1]))])
      go_enter Try.func88, Try.ntmps88
      go_wp2_with (first
        | (go_at_call 121; rw [← hW]; refine (sAt21 _ _ C x true _ HCV.out HX.out HC.out HN.out).mono ?_; rintro e w1 ⟨rfl, hE1⟩;  obtain ⟨c0, c1, x0, x1⟩ := KB.out _ hE1; have HE1 := hid hE1; clear hE1 hW; obtain ⟨e0, e1, y0, y1, y0f, y1f, k1, k1f, r0, r1, hsm⟩ := res2 (HE1.out.obj B2.out) (HE1.out.obj B0.out); have HSM := hid hsm; clear hsm))
      refine bodyPost_ret (v := .tuple #[.agg #[.slice Ar C.room.length cr, .slice (some ⟨gu, 0, none⟩) ps.length cu], .int .i64 3]) (by simp [results, Try.results88, go_sem, r0, r1]) rfl ?_
      rw [HA.out]
      have HEL := hid (HEW.out.trans HE1.out)
      exact ⟨_, rfl, ⟨_, _, ps, rfl, RI.same (RI.ext HRW.out HE1.out) (HSM.out _ (by rintro t rfl; decide)), Own.same (EUV.ok _) (Own.ext (EUV.ok _) HOW.out HE1.out) (HSM.out _ notClu), HPS.out, HND.out⟩, Below.setCell (Below.setCell (HEL.out.mono hbase) (by show base ≤ w.heap.size + 2; omega) _) (by show base ≤ w.heap.size + 2; omega) _⟩
  · obtain ⟨k, hk⟩ : ∃ k : Nat, atC C x true = k := ⟨_, (Int.toNat_of_nonneg (by omega)).symm⟩
    have hkl : k < C.units.length := by have := idxI_lt (canC C x true) C.units; unfold atC at hk; omega
    obtain ⟨u, ex⟩ : ∃ u, Hid (C.units[k]? = some u) := ⟨_, hid (List.getElem?_eq_getElem hkl)⟩
    have HB : Hid (atB C x grant = k) := hid (by unfold atB; rw [if_neg (by omega), hk])
    have ip : (k : Int) < (ps.length : Int) := by have := HPL.out; omega
    have i0 : ¬ (k : Int) < 0 := by omega
    have i00 : (0 : Int) ≤ (k : Int) := by omega
    by_cases hf : L = 14
    · have hf1 : ((L : Int) == 14) = true := by simpa using (by omega : (L : Int) = 14)
      have HA : Hid (arrC C x grant = (C, 3)) := hid (by unfold arrC; rw [if_pos (.inr (HLL.out.symm.trans hf))])
      clear hf
      go_enter Try.func88, Try.ntmps88
      go_wp2_with (first
        | (go_at_call 121; rw [← hW]; refine (sAt21 _ _ C x true _ HCV.out HX.out HC.out HN.out).mono ?_; rintro e w1 ⟨rfl, hE1⟩; rw [hk]; obtain ⟨c0, c1, x0, x1⟩ := KB.out _ hE1; have HE1 := hid hE1; clear hE1 hW; skip)
        | (go_at_call 42; refine (sBins21 _ C _ (HCV.out.ext HE1.out) HL.out).mono ?_; rintro e w3 ⟨v3, rfl, hv3, hE3⟩; have HV3 := hid hv3.read; have HE3 := hid (HE1.out.trans hE3); clear hv3 hE3)
        | (go_at_call 41; refine (sAll _ _ _ HV3.out HFLB.out).mono ?_; rintro e w4 ⟨v4, rfl, hv4, hE4⟩; obtain ⟨A4, c4, rfl, _, _⟩ := hv4.form; rw [← HLL.out]; have HE4 := hid (HE3.out.trans hE4); obtain ⟨c0, c1, x0, x1⟩ := KB.out _ HE4.out; clear hv4 hE4; obtain ⟨e0, e1, y0, y1, y0f, y1f, k1, k1f, r0, r1, hsm⟩ := res2 (HE4.out.obj B2.out) (HE4.out.obj B0.out); have HSM := hid hsm; clear hsm))
      refine bodyPost_ret (v := .tuple #[.agg #[.slice Ar C.room.length cr, .slice (some ⟨gu, 0, none⟩) ps.length cu], .int .i64 3]) (by simp [results, Try.results88, go_sem, r0, r1]) rfl ?_
      rw [HA.out]
      have HEL := hid (HEW.out.trans HE4.out)
      exact ⟨_, rfl, ⟨_, _, ps, rfl, RI.same (RI.ext HRW.out HE4.out) (HSM.out _ (by rintro t rfl; decide)), Own.same (EUV.ok _) (Own.ext (EUV.ok _) HOW.out HE4.out) (HSM.out _ notClu), HPS.out, HND.out⟩, Below.setCell (Below.setCell (HEL.out.mono hbase) (by show base ≤ w.heap.size + 2; omega) _) (by show base ≤ w.heap.size + 2; omega) _⟩
    · have hf1 : ((L : Int) == 14) = false := by simpa using (by omega : ¬ (L : Int) = 14)
      have HA : Hid (arrC C x grant = (⟨C.room, C.units.set k ⟨true, u.tasks ++ [x]⟩⟩, 0)) := hid (by unfold arrC; rw [if_neg (by rw [HB.out, ← HLL.out]; omega), HB.out, Int.toNat_natCast, ex.out])
      clear hf
      go_enter Try.func88, Try.ntmps88
      go_wp2_with (first
        | (go_at_call 121; rw [← hW]; refine (sAt21 _ _ C x true _ HCV.out HX.out HC.out HN.out).mono ?_; rintro e w1 ⟨rfl, hE1⟩; rw [hk]; obtain ⟨c0, c1, x0, x1⟩ := KB.out _ hE1; have HE1 := hid hE1; clear hE1 hW; skip)
        | (go_at_call 42; refine (sBins21 _ C _ (HCV.out.ext HE1.out) HL.out).mono ?_; rintro e w3 ⟨v3, rfl, hv3, hE3⟩; have HV3 := hid hv3.read; have HE3 := hid (HE1.out.trans hE3); clear hv3 hE3)
        | (go_at_call 41; refine (sAll _ _ _ HV3.out HFLB.out).mono ?_; rintro e w4 ⟨v4, rfl, hv4, hE4⟩; obtain ⟨A4, c4, rfl, _, _⟩ := hv4.form; rw [← HLL.out]; have HE4 := hid (HE3.out.trans hE4); obtain ⟨c0, c1, x0, x1⟩ := KB.out _ HE4.out; clear hv4 hE4; have HO4 := hid (Own.ext (EUV.ok _) HOW.out HE4.out); obtain ⟨tv, hpk⟩ := at_fst HPS.out ex.out; obtain ⟨cx, fx⟩ := OUV.at_ HO4.out hpk; have HPK := hid hpk; clear hpk))
      obtain ⟨W5, hW5⟩ : ∃ W5, W5 = w4.setCell ⟨gu, k * 2, none⟩ (.bool true) := ⟨_, rfl⟩
      rw [← hW5]
      have hset := OUV.set0 HO4.out HPK.out true
      have hC5 := obj_far (HE4.out.obj B0.out) (p := ⟨gu, k * 2, none⟩) (by show w.heap.size ≠ gu; omega) (.bool true)
      have hX5 := obj_far (HE4.out.obj B1.out) (p := ⟨gu, k * 2, none⟩) (by show w.heap.size + 1 ≠ gu; omega) (.bool true)
      have hZ5 := obj_far (HE4.out.obj B2.out) (p := ⟨gu, k * 2, none⟩) (by show w.heap.size + 2 ≠ gu; omega) (.bool true)
      have hB5 : Below base w (w4.setCell ⟨gu, k * 2, none⟩ (.bool true)) := Below.setCell ((HEW.out.trans HE4.out).mono hbase) hgu _
      have hI5 : SameT (fun t => t = 3) w4 (w4.setCell ⟨gu, k * 2, none⟩ (.bool true)) := hset.2.mono (by rintro t rfl; decide)
      have hR5 := RI.same (RI.ext HRW.out HE4.out) hI5
      have hN5 := RI.same (RI.ext HNW.out HE4.out) hI5
      rw [← hW5] at hset hC5 hX5 hZ5 hB5 hR5 hN5
      clear hI5 hW5 cx fx
      have HO5 := hid hset.1
      have hpk5 : (ps.set k (⟨true, u.tasks⟩, tv))[k]? = some (⟨true, u.tasks⟩, tv) := List.getElem?_set_self (List.getElem?_eq_some_iff.1 HPK.out).1
      have HND5 : Hid (blocksOf (ps.set k (⟨true, u.tasks⟩, tv))).Nodup := hid (by rw [blocksOf_set HPK.out]; exact HND.out)
      have HLT5 : Hid (∀ g ∈ blocksOf (ps.set k (⟨true, u.tasks⟩, tv)), g < w.heap.size) := hid (by rw [blocksOf_set HPK.out]; exact fun g hg => (HLT.out g hg).2)
      have hqs : (ps.set k (⟨true, u.tasks⟩, tv)).length = ps.length := List.length_set
      obtain ⟨qs, hqsd⟩ : ∃ qs, qs = ps.set k (⟨true, u.tasks⟩, tv) := ⟨_, rfl⟩
      have HMAP : Hid (qs.map (·.1) = C.units.set k ⟨true, u.tasks⟩) := hid (by rw [hqsd, List.map_set, HPS.out])
      rw [← hqsd] at HO5 hpk5 HND5 HLT5 hqs
      obtain ⟨d1, df1, htv, _⟩ := OUV.at1 HO5.out hpk5
      have htvl := htv.lt
      have htw : ∀ g, tv.ownBlock = some g → g < w.heap.size := fun g hg => HLT5.out g (List.mem_filterMap.2 ⟨_, List.mem_of_getElem? hpk5, hg⟩)
      obtain ⟨At, ct, htvf, _, _⟩ := htv.form
      subst htvf
      have HTV := hid htv
      have HTVL := hid htvl
      have HTW := hid htw
      have HPK5 := hid hpk5
      have HC5 := hid hC5
      have HX5 := hid hX5
      have HZ5 := hid hZ5
      have HB5 := hid hB5
      have HR5 := hid hR5
      have HN5 := hid hN5
      have HD1 := hid d1
      have c1 := obj_cell HC5.out (i := 1) rfl
      obtain ⟨curu, hcuru⟩ := Own.obj HO5.out
      have HU5 := hid hcuru
      clear hcuru
      have KS : Hid (∀ w' : World, w'.heap[w.heap.size]? = W5.heap[w.heap.size]? → w'.heap[w.heap.size + 1]? = W5.heap[w.heap.size + 1]? → w'.heap[gu]? = W5.heap[gu]? → w'.cell? ⟨w.heap.size, 1, none⟩ = some (.slice (some ⟨gu, 0, none⟩) ps.length cu) ∧ w'.cell? ⟨gu, k * 2 + 1, none⟩ = some (.slice At u.tasks.length ct) ∧ w'.cell? ⟨w.heap.size + 1, 0, none⟩ = some (.int .i64 x.id) ∧ w'.cell? ⟨w.heap.size + 1, 1, none⟩ = some (.slice An x.need.length cn)) :=
        hid fun w' h0 h1 h2 => ⟨obj_cell (h0.trans HC5.out) (i := 1) rfl, (World.cell?_of_block (w := W5) (a := ⟨gu, k * 2 + 1, none⟩) h2).trans HD1.out, obj_cell (h1.trans HX5.out) (i := 0) rfl, obj_cell (h1.trans HX5.out) (i := 1) rfl⟩
      have hgz : gu < W5.heap.size := (Own.lt HO5.out gu rfl).2
      have HGZ := hid hgz
      have hxz : w.heap.size + 2 < W5.heap.size := obj_lt HZ5.out
      have KE : Hid (∀ w', Ext W5 w' → w'.cell? ⟨w.heap.size, 1, none⟩ = some (.slice (some ⟨gu, 0, none⟩) ps.length cu) ∧ w'.cell? ⟨gu, k * 2 + 1, none⟩ = some (.slice At u.tasks.length ct) ∧ w'.cell? ⟨w.heap.size + 1, 0, none⟩ = some (.int .i64 x.id) ∧ w'.cell? ⟨w.heap.size + 1, 1, none⟩ = some (.slice An x.need.length cn)) :=
        hid fun w' hw => KS.out w' (hw.block _ (by omega)) (hw.block _ (by omega)) (hw.block _ hgz)
      have hED : Ext W5 W5.drew := Below.drew (Below.refl _ _)
      have HED := hid hED
      clear hset hC5 hX5 hZ5 hB5 hR5 hN5 hpk5 d1 htv htvl htw hED
      refine WG.start (fun w' => w'.cell? ⟨w.heap.size, 1, none⟩ = some (.slice (some ⟨gu, 0, none⟩) ps.length cu) ∧ w'.cell? ⟨gu, k * 2 + 1, none⟩ = some (.slice At u.tasks.length ct) ∧ w'.cell? ⟨w.heap.size + 1, 0, none⟩ = some (.int .i64 x.id) ∧ w'.cell? ⟨w.heap.size + 1, 1, none⟩ = some (.slice An x.need.length cn)) [20] (by kernel_rfl) (by exact KE.out _ HED.out) (fun hHeld => ?_)
      (refine WG.take (i := 0) (v := ?_) rfl (by kernel_rfl) (by kernel_rfl) (by kernel_rfl) (by kernel_rfl) (fun _ _ _ h => h) (Or.inl ⟨by rfl, ?_⟩) (by assumption) ?_; rotate_left; (intro w hSw; (try dsimp only at hSw); go_split_ands; go_simp; (try with_reducible rfl)); (try simp only [Act.put, List.setIfInBounds_toArray, List.set_cons_zero, List.set_cons_succ]))
      (refine WG.take (i := 1) (v := ?_) rfl (by kernel_rfl) (by kernel_rfl) (by kernel_rfl) (by kernel_rfl) (fun _ _ _ h => h) (Or.inl ⟨by rfl, ?_⟩) (by assumption) ?_; rotate_left; (intro w hSw; (try dsimp only at hSw); go_split_ands; go_simp; (try with_reducible rfl)); (try simp only [Act.put, List.setIfInBounds_toArray, List.set_cons_zero, List.set_cons_succ]))
      (refine WG.take (i := 2) (v := ?_) rfl (by kernel_rfl) (by kernel_rfl) (by kernel_rfl) (by kernel_rfl) (fun _ _ _ h => h) (Or.inl ⟨by rfl, ?_⟩) (by assumption) ?_; rotate_left; (intro w hSw; (try dsimp only at hSw); go_split_ands; go_simp; (try with_reducible rfl)); (try simp only [Act.put, List.setIfInBounds_toArray, List.set_cons_zero, List.set_cons_succ]))
      (refine WG.take (i := 3) (v := ?_) rfl (by kernel_rfl) (by kernel_rfl) (by kernel_rfl) (by kernel_rfl) (fun _ _ _ h => h) (Or.inl ⟨by rfl, ?_⟩) (by assumption) ?_; rotate_left; (intro w hSw; (try dsimp only at hSw); go_split_ands; go_simp; (try with_reducible rfl)); (try simp only [Act.put, List.setIfInBounds_toArray, List.set_cons_zero, List.set_cons_succ]))
      (refine WG.take (i := 4) (v := ?_) rfl (by kernel_rfl) (by kernel_rfl) (by kernel_rfl) (by kernel_rfl) (fun _ _ _ h => h) (Or.inl ⟨by rfl, ?_⟩) (by assumption) ?_; rotate_left; (intro w hSw; (try dsimp only at hSw); go_split_ands; go_simp; (try with_reducible rfl)); (try simp only [Act.put, List.setIfInBounds_toArray, List.set_cons_zero, List.set_cons_succ]))
      (refine WG.take (i := 5) (v := ?_) rfl (by kernel_rfl) (by kernel_rfl) (by kernel_rfl) (by kernel_rfl) (fun _ _ _ h => h) (Or.inl ⟨by rfl, ?_⟩) (by assumption) ?_; rotate_left; (intro w hSw; (try dsimp only at hSw); go_split_ands; go_simp; (try with_reducible rfl)); (try simp only [Act.put, List.setIfInBounds_toArray, List.set_cons_zero, List.set_cons_succ]))
      (refine WG.take (i := 6) (v := ?_) rfl (by kernel_rfl) (by kernel_rfl) (by kernel_rfl) (by kernel_rfl) (fun _ _ _ h => h) (Or.inl ⟨by rfl, ?_⟩) (by assumption) ?_; rotate_left; (intro w hSw; (try dsimp only at hSw); go_split_ands; go_simp; (try with_reducible rfl)); (try simp only [Act.put, List.setIfInBounds_toArray, List.set_cons_zero, List.set_cons_succ]))
      (refine WG.take (i := 7) (v := ?_) rfl (by kernel_rfl) (by kernel_rfl) (by kernel_rfl) (by kernel_rfl) (fun _ _ _ h => h) (Or.inl ⟨by rfl, ?_⟩) (by assumption) ?_; rotate_left; (intro w hSw; (try dsimp only at hSw); go_split_ands; go_simp; (try with_reducible rfl)); (try simp only [Act.put, List.setIfInBounds_toArray, List.set_cons_zero, List.set_cons_succ]))
      (refine WG.take (i := 8) (v := ?_) rfl (by kernel_rfl) (by kernel_rfl) (by kernel_rfl) (by kernel_rfl) (fun _ _ _ h => h) (Or.inl ⟨by rfl, ?_⟩) (by assumption) ?_; rotate_left; (intro w hSw; (try dsimp only at hSw); go_split_ands; go_simp; (try with_reducible rfl)); (try simp only [Act.put, List.setIfInBounds_toArray, List.set_cons_zero, List.set_cons_succ]))
      (refine WG.take (i := 9) (v := ?_) rfl (by kernel_rfl) (by kernel_rfl) (by kernel_rfl) (by kernel_rfl) (fun _ _ _ h => h) (Or.inl ⟨by rfl, ?_⟩) (by assumption) ?_; rotate_left; (intro w hSw; (try dsimp only at hSw); go_split_ands; go_simp; (try with_reducible rfl)); (try simp only [Act.put, List.setIfInBounds_toArray, List.set_cons_zero, List.set_cons_succ]))
      (refine WG.take (i := 10) (v := ?_) rfl (by kernel_rfl) (by kernel_rfl) (by kernel_rfl) (by kernel_rfl) (fun _ _ _ h => h) (Or.inl ⟨by rfl, ?_⟩) (by assumption) ?_; rotate_left; (intro w hSw; (try dsimp only at hSw); go_split_ands; go_simp; (try with_reducible rfl)); (try simp only [Act.put, List.setIfInBounds_toArray, List.set_cons_zero, List.set_cons_succ]))
      (refine WG.take (i := 12) (v := ?_) rfl (by kernel_rfl) (by kernel_rfl) (by kernel_rfl) (by kernel_rfl) (fun _ _ _ h => h) (Or.inl ⟨by rfl, ?_⟩) (by assumption) ?_; rotate_left; (intro w hSw; (try dsimp only at hSw); go_split_ands; go_simp; (try with_reducible rfl)); (try simp only [Act.put, List.setIfInBounds_toArray, List.set_cons_zero, List.set_cons_succ]))
      (refine WG.take (i := 13) (v := ?_) rfl (by kernel_rfl) (by kernel_rfl) (by kernel_rfl) (by kernel_rfl) (fun _ _ _ h => h) (Or.inl ⟨by rfl, ?_⟩) (by assumption) ?_; rotate_left; (intro w hSw; (try dsimp only at hSw); go_split_ands; go_simp; (try with_reducible rfl)); (try simp only [Act.put, List.setIfInBounds_toArray, List.set_cons_zero, List.set_cons_succ]))
      refine WG.one (i := 11) rfl (by kernel_rfl) (fun K hK => ?_)
      go_simp
      refine hK.out _ _ (by exact KE.out _ (HED.out.trans (Ext.alloc _ _))) (fun hHeld => ?_)
      clear hK K
      (try simp only [Act.put, List.setIfInBounds_toArray, List.set_cons_zero, List.set_cons_succ])
      have hEA : Ext W5 (W5.drew.alloc (.cells #[] 3)) := HED.out.trans (Ext.alloc _ _)
      have HM : Hid (OI (W5.drew.alloc (.cells #[] 3)) W5.heap.size (.slice (some ⟨W5.heap.size, 0, none⟩) 0 0) []) := hid (Own.madeAt (w := W5.drew) #[] 0 _ rfl (Nat.le_refl _) (by omega) rfl)
      have HNA := hid (RI.ext HN5.out hEA)
      have HEA := hid hEA
      clear hEA
      refine WG.one (i := 14) rfl (by kernel_rfl) (fun K hK => ?_)
      refine step_append_sl _ (by rfl) _ _ 23 (by rfl) EI.ok EI.flat (W5.heap.size) 3 EI.ne i0_int _ 1 8 Try.underlying23 hi0_int hz0_int hz1_int hz2_int rfl (by omega) _ (by rfl) _ (HM.out) _ (by rfl) _ (HNA.out) (by have := HN.out.1; simp; omega) (by have := HN.out.1; simp; omega) ?_ ?_; (focus (first | exact Nat.le_refl _ | (simp; done) | (simp; omega) | omega)); intro v6 w6 hO6 hg6 hat6 hs6; rw [List.nil_append] at hO6; obtain ⟨A6, c6, rfl, _, _⟩ := hO6.form; have hE6 := Ext.grown HEA.out hg6 HM.out.lt; have HO6 := hid hO6.read; have HE6 := hid hE6; clear hO6 hg6 hat6 hs6
      refine hK.out _ _ (by exact KE.out _ HE6.out) (fun hHeld => ?_)
      clear hK K
      (try simp only [Act.put, List.setIfInBounds_toArray, List.set_cons_zero, List.set_cons_succ])
      (refine WG.take (i := 15) (v := ?_) rfl (by kernel_rfl) (by kernel_rfl) (by kernel_rfl) (by kernel_rfl) (fun _ _ _ h => h) (Or.inl ⟨by rfl, ?_⟩) (by assumption) ?_; rotate_left; (intro w hSw; (try dsimp only at hSw); go_split_ands; go_simp; (try with_reducible rfl)); (try simp only [Act.put, List.setIfInBounds_toArray, List.set_cons_zero, List.set_cons_succ]))
      refine WG.one (i := 16) rfl (by kernel_rfl) (fun K hK => ?_)
      go_simp
      refine hK.out _ _ (by exact KE.out _ (HE6.out.trans (Ext.alloc _ _))) (fun hHeld => ?_)
      clear hK K
      (try simp only [Act.put, List.setIfInBounds_toArray, List.set_cons_zero, List.set_cons_succ])
      have hE7 : Ext W5 (w6.alloc (.cells #[.int .i64 x.id, .slice A6 x.need.length c6] 80)) := HE6.out.trans (Ext.alloc _ _)
      have HT7 := hid (Own.ext ET.ok HTV.out hE7)
      have HO7 := hid (Own.ext (EUV.ok _) HO5.out hE7)
      have HB7 := hid (Below.trans HB5.out (hE7.mono (by have := HB5.out.size; omega)))
      have HE7 := hid hE7
      have HR7 := hid (RI.ext HR5.out hE7)
      have hz7 := hE7.size
      have HUT : Hid (u.tasks.length ≤ 900) := hid (clusOk_unit HC.out (List.mem_of_getElem? ex.out)).1.1
      have hzw := HB7.out.size
      clear hE7
      refine WG.one (i := 17) rfl (by kernel_rfl) (fun K hK => ?_)
      refine step_append_sl _ (by rfl) _ _ 42 (by rfl) ET.ok ET.flat (base) 80 ET.ne i0_task _ 2 32 Try.underlying42 hi0_task hz0_task hz1_task hz2_task rfl (by omega) _ (by rfl) _ (HT7.out) _ (by rfl) _ (RSl.laid (cs := [.int .i64 x.id, .slice A6 x.need.length c6]) (heap_alloc_new _ _) rfl ⟨_, rfl, RI.ext HO6.out (Ext.alloc _ _)⟩) (by have := HUT.out; simp; omega) (by have := HUT.out; simp; omega) ?_ ?_; (focus (first | exact Nat.le_refl _ | (simp; done) | (simp; omega) | omega)); intro v8 w8 hO8 hg8 hat8 hs8; obtain ⟨A8, c8, rfl, _, _⟩ := hO8.form_app; have HO8 := hid hO8; have HG8 := hid hg8; have HAT8 := hid hat8; have HS8 := hid hs8; clear hO8 hg8 hat8 hs8
      refine hK.out _ _ (by exact KS.out _ ((HS8.out _ _ _ _ (by decide) (HE7.out.obj HC5.out)).trans HC5.out.symm) ((HG8.out.block _ (by omega) (fun e => by have := HTW.out _ e.symm; omega)).trans (HE7.out.block _ (by omega))) ((HG8.out.block _ (Nat.lt_of_lt_of_le HGZ.out HE7.out.size) (fun e => Own.block_ne (by decide) HT7.out HO7.out e.symm rfl)).trans (HE7.out.block _ HGZ.out))) (fun hHeld => ?_)
      clear hK K
      (try simp only [Act.put, List.setIfInBounds_toArray, List.set_cons_zero, List.set_cons_succ])
      (refine WG.take (i := 18) (v := ?_) rfl (by kernel_rfl) (by kernel_rfl) (by kernel_rfl) (by kernel_rfl) (fun _ _ _ h => h) (Or.inl ⟨by rfl, ?_⟩) (by assumption) ?_; rotate_left; (intro w hSw; (try dsimp only at hSw); go_split_ands; go_simp; (try with_reducible rfl)); (try simp only [Act.put, List.setIfInBounds_toArray, List.set_cons_zero, List.set_cons_succ]))
      (refine WG.take (i := 19) (v := ?_) rfl (by kernel_rfl) (by kernel_rfl) (by kernel_rfl) (by kernel_rfl) (fun _ _ _ h => h) (Or.inl ⟨by rfl, ?_⟩) (by assumption) ?_; rotate_left; (intro w hSw; (try dsimp only at hSw); go_split_ands; go_simp; (try with_reducible rfl)); (try simp only [Act.put, List.setIfInBounds_toArray, List.set_cons_zero, List.set_cons_succ]))
      have hgrow := OUV.grow HO7.out HND5.out HPK5.out HG8.out HS8.out HO8.out
      have hblk : w8.heap[gu]? = W5.heap[gu]? := (HG8.out.block _ (Nat.lt_of_lt_of_le HGZ.out HE7.out.size) (fun e => Own.block_ne (by decide) HT7.out HO7.out e.symm rfl)).trans (HE7.out.block _ HGZ.out)
      have cx8 := (World.cell?_of_block (w := W5) (a := ⟨gu, k * 2 + 1, none⟩) hblk).trans HD1.out
      have fx8 := obj_frozen (hblk.trans HU5.out) (k * 2 + 1)
      have HGROW := hid hgrow
      clear hgrow hblk
      refine WG.last (i := 20) rfl (by kernel_rfl) (by kernel_rfl) (fun K hK => ?_)
      go_simp
      refine hK.out _ _ ?_
      clear hK K
      (try simp only [Act.put, List.setIfInBounds_toArray, List.set_cons_zero, List.set_cons_succ])
      refine WG.done (by kernel_rfl) ?_
      have P9 := obj_far (HS8.out _ _ _ _ (by decide) (HE7.out.obj HZ5.out)) (p := ⟨gu, k * 2 + 1, none⟩) (by show w.heap.size + 2 ≠ gu; omega) (.slice A8 (u.tasks.length + 1) c8)
      have Q9 := obj_far (HS8.out _ _ _ _ (by decide) (HE7.out.obj HC5.out)) (p := ⟨gu, k * 2 + 1, none⟩) (by show w.heap.size ≠ gu; omega) (.slice A8 (u.tasks.length + 1) c8)
      obtain ⟨e0, e1, y0, y1, y0f, y1f, k1, k1f, r0, r1, hsm⟩ := res2 P9 Q9
      have HSM := hid hsm
      clear P9 Q9 hsm
      go_wp2
      refine bodyPost_ret (v := .tuple #[.agg #[.slice Ar C.room.length cr, .slice (some ⟨gu, 0, none⟩) ps.length cu], .int .i64 0]) (by simp [results, Try.results88, go_sem, r0, r1]) rfl ?_
      rw [HA.out]
      have hB8 : Below base w w8 := Below.grown HB7.out HG8.out (by omega) (fun a ha => (Own.lt HT7.out a ha).1)
      exact ⟨_, rfl, ⟨_, _, qs.set k (⟨true, u.tasks ++ [x]⟩, _), rfl, RI.same (RI.same (RI.same HR7.out (HS8.out.mono (by rintro t rfl; decide))) (HGROW.out.2.mono (by rintro t rfl; decide))) (HSM.out _ (by rintro t rfl; decide)), Own.same (EUV.ok _) HGROW.out.1 (HSM.out _ notClu), by rw [List.map_set, HMAP.out, List.set_set], nodup_app HND5.out HPK5.out HAT8.out (fun g hg => by have := HLT5.out g hg; omega)⟩, Below.setCell (Below.setCell (Below.setCell hB8 hgu _) (by show base ≤ w.heap.size + 2; omega) _) (by show base ≤ w.heap.size + 2; omega) _⟩

end Go.Proofs.Ytcfpilkhjpegcaa

/- The reference lets a task arrive: the walk. -/
namespace Go.Proofs.Ytcfpilkhjpegcaa
open Go.RowKit
set_option maxRecDepth 4000

theorem OCl.low {w : World} {base base' : Nat} {cv : Value} {C : ClusD} (h : OCl w base cv C) (hb : base' ≤ base) : OCl w base' cv C := let ⟨rv, uv, ps, h1, h2, h3, h4, h5⟩ := h; ⟨rv, uv, ps, h1, h2, OUV.low h3 hb, h4, h5⟩
set_option maxHeartbeats 8000000 in
theorem sClusterArrive (cv xv : Value) (C : ClusD) (x : TaskD) (grant : Bool) (w : World) (h : ClusV w cv C) (hx : TaskV w xv x) (hl : C.units.length ≤ 4000000) (hfl : (C.units.map (·.tasks)).flatten.length ≤ 4000000) :
    Calls Try.prog 59 #[cv, xv, .bool grant] w (RetOC w (arriveC C x grant)) := by
  have hCV := h
  obtain ⟨rv, uv, rfl, hr, hu⟩ := h
  have hr0 := hr
  obtain ⟨Ar, cr, rfl, _⟩ := hr
  obtain ⟨Au, cu, rfl, _⟩ := hu
  have HTX := hid hx
  obtain ⟨nv, rfl, hnv⟩ := hx
  have hnv0 := hnv
  obtain ⟨An, cn, rfl, _⟩ := hnv
  obtain ⟨O1, hO1⟩ : ∃ O1 : Obj, O1 = .cells #[.slice Ar C.room.length cr, .slice Au C.units.length cu] 26 := ⟨_, rfl⟩
  obtain ⟨O2, hO2⟩ : ∃ O2 : Obj, O2 = .cells #[.int .i64 x.id, .slice An x.need.length cn] 80 := ⟨_, rfl⟩
  obtain ⟨O3, hO3⟩ : ∃ O3 : Obj, O3 = .cells #[.slice none 0 0, .slice none 0 0] 26 := ⟨_, rfl⟩
  obtain ⟨W, hW⟩ : ∃ W, W = ((w.alloc O1).alloc O2).alloc O3 := ⟨_, rfl⟩
  have hEW : Ext w W := by rw [hW]; exact ((Ext.alloc _ _).trans (Ext.alloc _ _)).trans (Ext.alloc _ _)
  have hb0 : W.heap[w.heap.size]? = some O1 := by rw [hW]; exact (Ext.alloc _ _).obj ((Ext.alloc _ _).obj (heap_alloc_new w _))
  have hb1 : W.heap[w.heap.size + 1]? = some O2 := by rw [hW]; exact (Ext.alloc _ _).obj (heap_new (by simp))
  have hb2 : W.heap[w.heap.size + 2]? = some O3 := by rw [hW]; exact heap_new (by simp)
  subst hO1 hO2 hO3
  have KB : Hid (∀ w', Ext W w' → w'.cell? ⟨w.heap.size, 0, none⟩ = some (.slice Ar C.room.length cr) ∧ w'.cell? ⟨w.heap.size, 1, none⟩ = some (.slice Au C.units.length cu) ∧ w'.cell? ⟨w.heap.size + 1, 0, none⟩ = some (.int .i64 x.id) ∧ w'.cell? ⟨w.heap.size + 1, 1, none⟩ = some (.slice An x.need.length cn)) :=
    hid fun w' hw => ⟨obj_cell (hw.obj hb0) (i := 0) rfl, obj_cell (hw.obj hb0) (i := 1) rfl, obj_cell (hw.obj hb1) (i := 0) rfl, obj_cell (hw.obj hb1) (i := 1) rfl⟩
  have B2 := hid hb2
  have HCV := hid (hCV.ext hEW)
  have HX := hid (HTX.out.ext hEW)
  have HRW := hid (RI.ext hr0 hEW)
  have HNW := hid (RI.ext hnv0 hEW)
  have HEW := hid hEW
  have HLE := hid hEW.size
  clear hCV hr0 hnv0 hb0 hb1 hb2 hEW HTX
  by_cases h1 : clusOk C = true
  · by_cases h2 : tasksOk C.room [x] = true
    · by_cases h3 : 0 ≤ whereL (C.units.map (·.tasks)) x.id
      · have HC : Hid (arriveC C x grant = (C, 2)) := hid (by unfold arriveC; rw [if_pos h1, if_pos h2, if_pos h3])
        go_enter Try.func59, Try.ntmps59
        go_wp2_with (first
          | (go_at_call 37; rw [← hW]; refine (sClusterValid _ C _ HCV.out hl hfl).mono ?_; rintro e w1 ⟨rfl, hE1⟩; rw [h1]; obtain ⟨c0, c1, x0, x1⟩ := KB.out _ hE1; have HE1 := hid hE1; clear hE1 hW)
          | (go_at_call 84; refine (sCopy21 _ C _ (HCV.out.ext HE1.out) hl (clus_small h1).1 (clus_small h1).2).mono ?_; rintro e w2 ⟨v2, rfl, ⟨rc, uc, ps, rfl, hrc, hou, hps, hnd⟩, hE2⟩; have HRC := hid hrc; obtain ⟨Arc, crc, rfl, _⟩ := hrc; obtain ⟨Auc, cuc, rfl, _⟩ := hou.form; have HOU := hid hou; have HPS := hid hps; have HND := hid hnd; have hEE := hE2.trans (Ext.alloc w2 (.cells #[.slice Arc C.room.length crc, .slice Auc ps.length cuc] 26)); have Q2 := hid (heap_alloc_new w2 (.cells #[.slice Arc C.room.length crc, .slice Auc ps.length cuc] 26)); obtain ⟨c0, c1, x0, x1⟩ := KB.out _ (HE1.out.trans hEE); have HE2 := hid (HE1.out.trans hEE); have HZ2 := hid hEE.size; have hE3 := Ext.alloc (w2.alloc (.cells #[.slice Arc C.room.length crc, .slice Auc ps.length cuc] 26)) (.cells #[.int .i64 x.id, .slice An x.need.length cn] 80); have HE3 := hid hE3; have HR3 := hid (RI.ext HRW.out (HE2.out.trans hE3)); have HT3 := hid (RSl.laid (E := ET) (x := x) (cs := [.int .i64 x.id, .slice An x.need.length cn]) (heap_new (w := w2.alloc (.cells #[.slice Arc C.room.length crc, .slice Auc ps.length cuc] 26)) (o := .cells #[.int .i64 x.id, .slice An x.need.length cn] 80) (H := w2.heap.size + 1) (by simp)) rfl ⟨_, rfl, RI.ext HNW.out (HE2.out.trans hE3)⟩); clear hou hps hnd hE2 hEE hE3)
          | (go_at_call 87; refine (sTasksValid _ _ C.room [x] _ HR3.out HT3.out).mono ?_; rintro e w4 ⟨rfl, n4, hw4⟩; rw [h2]; have hE4 : Ext (w2.alloc (.cells #[.slice Arc C.room.length crc, .slice Auc ps.length cuc] 26)) w4 := (by rw [hw4]; exact HE3.out.trans (Ext.drewN _ _)); have HE4 := hid (HE2.out.trans hE4); have HZ4 := hid (Nat.le_trans HZ2.out hE4.size); have Q4 := hid (hE4.obj Q2.out); have HR4 := hid (RI.ext (RI.ext HRC.out (Ext.alloc _ _)) hE4); have HO4 := hid (Own.ext (EUV.ok _) (Own.ext (EUV.ok _) HOU.out (Ext.alloc _ _)) hE4); obtain ⟨c0, c1, x0, x1⟩ := KB.out _ HE4.out; clear hw4 hE4))
        have KH : Hid (∀ w', Ext w4 w' → w'.cell? ⟨w.heap.size, 0, none⟩ = some (.slice Ar C.room.length cr) ∧ w'.cell? ⟨w.heap.size, 1, none⟩ = some (.slice Au C.units.length cu) ∧ w'.cell? ⟨w.heap.size + 1, 0, none⟩ = some (.int .i64 x.id) ∧ Ext w4 w') := hid fun w' hw => by
          obtain ⟨a1, a2, a3, _⟩ := KB.out _ (HE4.out.trans hw)
          exact ⟨a1, a2, a3, hw⟩
        go_region_held3 (fun w' => w'.cell? ⟨w.heap.size, 0, none⟩ = some (.slice Ar C.room.length cr) ∧ w'.cell? ⟨w.heap.size, 1, none⟩ = some (.slice Au C.units.length cu) ∧ w'.cell? ⟨w.heap.size + 1, 0, none⟩ = some (.int .i64 x.id) ∧ Ext w4 w')
          (first | exact KH.out _ (by assumption) | exact KH.out _ (Below.drew (Below.refl _ _)))
          (first
            | (go_at_call 42; refine (sBins21 _ C _ (HCV.out.ext (HE4.out.trans (Below.drew (Below.refl _ _)))) hl).mono ?_; rintro e w5 ⟨v5, rfl, hv5, hE5⟩; have h05 : Ext w4 w5 := Ext.trans (Below.drew (Below.refl _ _)) hE5; have HV5 := hid hv5.read; clear hv5 hE5)
            | (go_at_call 85; refine (sWhere _ _ x.id _ HV5.out).mono ?_; rintro e w6 ⟨rfl, n6, hw6⟩; have h06 : Ext w4 w6 := Ext.trans h05 (by rw [hw6]; exact Ext.drewN _ _); clear hw6))
        have HE6 := hid (HE4.out.trans h06)
        have Q6 := hid (h06.obj Q4.out)
        have HR6 := hid (RI.ext HR4.out h06)
        have HO6 := hid (Own.ext (EUV.ok _) HO4.out h06)
        obtain ⟨e0, e1, y0, y1, y0f, y1f, k1, k1f, r0, r1, hsm⟩ := res2 (HE6.out.obj B2.out) Q6.out
        have HSM := hid hsm
        clear hsm
        go_wp2
        refine bodyPost_ret (v := .tuple #[.agg #[.slice Arc C.room.length crc, .slice Auc ps.length cuc], .int .i64 2]) (by simp [results, Try.results59, go_sem, r0, r1]) rfl ?_
        rw [HC.out]
        exact ⟨_, rfl, ⟨_, _, ps, rfl, RI.same HR6.out (HSM.out _ (by rintro t rfl; decide)), Own.same (EUV.ok _) (OUV.low HO6.out (HEW.out.trans HE1.out).size) (HSM.out _ notClu), HPS.out, HND.out⟩, Below.setCell (Below.setCell (HEW.out.trans HE6.out) (by show w.heap.size ≤ w.heap.size + 2; omega) _) (by show w.heap.size ≤ w.heap.size + 2; omega) _⟩
      · have HN : Hid (x.need.length = 3 ∧ Bd 1000 x.need) := hid (by have h3 := (vecFits_ok (tasksOk_mem h2 (List.mem_singleton.2 rfl)).2).1; exact ⟨vecOk_len h3, (vecOk_bd h3).mono (by omega)⟩)
        have HC : Hid (arriveC C x grant = arrC C x grant) := hid (by unfold arriveC; rw [if_pos h1, if_pos h2, if_neg h3])
        have h3' : whereL (C.units.map (·.tasks)) x.id < 0 := by omega
        go_enter Try.func59, Try.ntmps59
        go_wp2_with (first
          | (go_at_call 37; rw [← hW]; refine (sClusterValid _ C _ HCV.out hl hfl).mono ?_; rintro e w1 ⟨rfl, hE1⟩; rw [h1]; obtain ⟨c0, c1, x0, x1⟩ := KB.out _ hE1; have HE1 := hid hE1; clear hE1 hW)
          | (go_at_call 84; refine (sCopy21 _ C _ (HCV.out.ext HE1.out) hl (clus_small h1).1 (clus_small h1).2).mono ?_; rintro e w2 ⟨v2, rfl, ⟨rc, uc, ps, rfl, hrc, hou, hps, hnd⟩, hE2⟩; have HRC := hid hrc; obtain ⟨Arc, crc, rfl, _⟩ := hrc; obtain ⟨Auc, cuc, rfl, _⟩ := hou.form; have HOU := hid hou; have HPS := hid hps; have HND := hid hnd; have hEE := hE2.trans (Ext.alloc w2 (.cells #[.slice Arc C.room.length crc, .slice Auc ps.length cuc] 26)); have Q2 := hid (heap_alloc_new w2 (.cells #[.slice Arc C.room.length crc, .slice Auc ps.length cuc] 26)); obtain ⟨c0, c1, x0, x1⟩ := KB.out _ (HE1.out.trans hEE); have HE2 := hid (HE1.out.trans hEE); have HZ2 := hid hEE.size; have hE3 := Ext.alloc (w2.alloc (.cells #[.slice Arc C.room.length crc, .slice Auc ps.length cuc] 26)) (.cells #[.int .i64 x.id, .slice An x.need.length cn] 80); have HE3 := hid hE3; have HR3 := hid (RI.ext HRW.out (HE2.out.trans hE3)); have HT3 := hid (RSl.laid (E := ET) (x := x) (cs := [.int .i64 x.id, .slice An x.need.length cn]) (heap_new (w := w2.alloc (.cells #[.slice Arc C.room.length crc, .slice Auc ps.length cuc] 26)) (o := .cells #[.int .i64 x.id, .slice An x.need.length cn] 80) (H := w2.heap.size + 1) (by simp)) rfl ⟨_, rfl, RI.ext HNW.out (HE2.out.trans hE3)⟩); clear hou hps hnd hE2 hEE hE3)
          | (go_at_call 87; refine (sTasksValid _ _ C.room [x] _ HR3.out HT3.out).mono ?_; rintro e w4 ⟨rfl, n4, hw4⟩; rw [h2]; have hE4 : Ext (w2.alloc (.cells #[.slice Arc C.room.length crc, .slice Auc ps.length cuc] 26)) w4 := (by rw [hw4]; exact HE3.out.trans (Ext.drewN _ _)); have HE4 := hid (HE2.out.trans hE4); have HZ4 := hid (Nat.le_trans HZ2.out hE4.size); have Q4 := hid (hE4.obj Q2.out); have HR4 := hid (RI.ext (RI.ext HRC.out (Ext.alloc _ _)) hE4); have HO4 := hid (Own.ext (EUV.ok _) (Own.ext (EUV.ok _) HOU.out (Ext.alloc _ _)) hE4); obtain ⟨c0, c1, x0, x1⟩ := KB.out _ HE4.out; clear hw4 hE4))
        have KH : Hid (∀ w', Ext w4 w' → w'.cell? ⟨w.heap.size, 0, none⟩ = some (.slice Ar C.room.length cr) ∧ w'.cell? ⟨w.heap.size, 1, none⟩ = some (.slice Au C.units.length cu) ∧ w'.cell? ⟨w.heap.size + 1, 0, none⟩ = some (.int .i64 x.id) ∧ Ext w4 w') := hid fun w' hw => by
          obtain ⟨a1, a2, a3, _⟩ := KB.out _ (HE4.out.trans hw)
          exact ⟨a1, a2, a3, hw⟩
        go_region_held3 (fun w' => w'.cell? ⟨w.heap.size, 0, none⟩ = some (.slice Ar C.room.length cr) ∧ w'.cell? ⟨w.heap.size, 1, none⟩ = some (.slice Au C.units.length cu) ∧ w'.cell? ⟨w.heap.size + 1, 0, none⟩ = some (.int .i64 x.id) ∧ Ext w4 w')
          (first | exact KH.out _ (by assumption) | exact KH.out _ (Below.drew (Below.refl _ _)))
          (first
            | (go_at_call 42; refine (sBins21 _ C _ (HCV.out.ext (HE4.out.trans (Below.drew (Below.refl _ _)))) hl).mono ?_; rintro e w5 ⟨v5, rfl, hv5, hE5⟩; have h05 : Ext w4 w5 := Ext.trans (Below.drew (Below.refl _ _)) hE5; have HV5 := hid hv5.read; clear hv5 hE5)
            | (go_at_call 85; refine (sWhere _ _ x.id _ HV5.out).mono ?_; rintro e w6 ⟨rfl, n6, hw6⟩; have h06 : Ext w4 w6 := Ext.trans h05 (by rw [hw6]; exact Ext.drewN _ _); clear hw6))
        have HE6 := hid (HE4.out.trans h06)
        have Q6 := hid (h06.obj Q4.out)
        have HR6 := hid (RI.ext HR4.out h06)
        have HO6 := hid (Own.ext (EUV.ok _) HO4.out h06)
        obtain ⟨c0, c1, x0, x1⟩ := KB.out _ HE6.out
        have d0 := obj_cell Q6.out (i := 0) rfl
        have d1 := obj_cell Q6.out (i := 1) rfl
        have HZ6 := hid (Nat.le_trans HZ4.out h06.size)
        obtain ⟨R, hR⟩ : ∃ R, R = arrC C x grant := ⟨_, rfl⟩
        have HRR := hid hR
        clear hR
        go_wp2_with (go_at_call 88; refine (sArr21 _ _ C x grant _ w1.heap.size ⟨_, _, ps, rfl, HR6.out, HO6.out, HPS.out, HND.out⟩ HZ6.out (HX.out.ext HE6.out) h1 HN.out).mono ?_; rintro e w7 ⟨v7, rfl, hO7, hB7⟩; rw [← HRR.out] at hO7 ⊢; obtain ⟨rv7, uv7, ps7, rfl, hr7, ho7, hp7, hn7⟩ := hO7; have HR7 := hid hr7; obtain ⟨A7, c7, rfl, _⟩ := hr7; obtain ⟨B7, d7, rfl, _⟩ := ho7.form; have HO7 := hid ho7; have HP7 := hid hp7; have HN7 := hid hn7; obtain ⟨y0, y1, y0f, y1f, k1, k1f, hkk, hsm⟩ := box2 ((hB7.block _ (obj_lt (HE1.out.obj B2.out))).trans (HE6.out.obj B2.out)) (.slice A7 R.1.room.length c7) (.slice B7 ps7.length d7); have r0 := obj_cell hkk (i := 0) rfl; have r1 := obj_cell hkk (i := 1) rfl; have HSM := hid hsm; have HB7 := hid hB7; clear ho7 hp7 hn7 hkk hsm hB7)
        refine bodyPost_ret (v := .tuple #[.agg #[.slice A7 R.1.room.length c7, .slice B7 ps7.length d7], .int .i64 R.2]) (by simp [results, Try.results59, go_sem, r0, r1]) rfl ?_
        rw [HC.out, ← HRR.out]
        exact ⟨_, rfl, ⟨_, _, ps7, rfl, RI.same HR7.out (HSM.out _ (by rintro t rfl; decide)), Own.same (EUV.ok _) (OUV.low HO7.out (HEW.out.trans HE1.out).size) (HSM.out _ notClu), HP7.out, HN7.out⟩, Below.setCell (Below.setCell (Below.trans (HEW.out.trans HE6.out) (HB7.out.mono (HEW.out.trans HE1.out).size)) (by show w.heap.size ≤ w.heap.size + 2; omega) _) (by show w.heap.size ≤ w.heap.size + 2; omega) _⟩

    · have h2 : tasksOk C.room [x] = false := by simpa using h2
      have HC : Hid (arriveC C x grant = (C, 1)) := hid (by unfold arriveC; rw [if_pos h1, h2]; rfl)
      go_enter Try.func59, Try.ntmps59
      go_wp2_with (first
        | (go_at_call 37; rw [← hW]; refine (sClusterValid _ C _ HCV.out hl hfl).mono ?_; rintro e w1 ⟨rfl, hE1⟩; rw [h1]; obtain ⟨c0, c1, x0, x1⟩ := KB.out _ hE1; have HE1 := hid hE1; clear hE1 hW)
        | (go_at_call 84; refine (sCopy21 _ C _ (HCV.out.ext HE1.out) hl (clus_small h1).1 (clus_small h1).2).mono ?_; rintro e w2 ⟨v2, rfl, ⟨rc, uc, ps, rfl, hrc, hou, hps, hnd⟩, hE2⟩; have HRC := hid hrc; obtain ⟨Arc, crc, rfl, _⟩ := hrc; obtain ⟨Auc, cuc, rfl, _⟩ := hou.form; have HOU := hid hou; have HPS := hid hps; have HND := hid hnd; have hEE := hE2.trans (Ext.alloc w2 (.cells #[.slice Arc C.room.length crc, .slice Auc ps.length cuc] 26)); have Q2 := hid (heap_alloc_new w2 (.cells #[.slice Arc C.room.length crc, .slice Auc ps.length cuc] 26)); obtain ⟨c0, c1, x0, x1⟩ := KB.out _ (HE1.out.trans hEE); have HE2 := hid (HE1.out.trans hEE); have HZ2 := hid hEE.size; have hE3 := Ext.alloc (w2.alloc (.cells #[.slice Arc C.room.length crc, .slice Auc ps.length cuc] 26)) (.cells #[.int .i64 x.id, .slice An x.need.length cn] 80); have HE3 := hid hE3; have HR3 := hid (RI.ext HRW.out (HE2.out.trans hE3)); have HT3 := hid (RSl.laid (E := ET) (x := x) (cs := [.int .i64 x.id, .slice An x.need.length cn]) (heap_new (w := w2.alloc (.cells #[.slice Arc C.room.length crc, .slice Auc ps.length cuc] 26)) (o := .cells #[.int .i64 x.id, .slice An x.need.length cn] 80) (H := w2.heap.size + 1) (by simp)) rfl ⟨_, rfl, RI.ext HNW.out (HE2.out.trans hE3)⟩); clear hou hps hnd hE2 hEE hE3)
        | (go_at_call 87; refine (sTasksValid _ _ C.room [x] _ HR3.out HT3.out).mono ?_; rintro e w4 ⟨rfl, n4, hw4⟩; rw [h2]; have hE4 : Ext (w2.alloc (.cells #[.slice Arc C.room.length crc, .slice Auc ps.length cuc] 26)) w4 := (by rw [hw4]; exact HE3.out.trans (Ext.drewN _ _)); have HE4 := hid (HE2.out.trans hE4); have HZ4 := hid (Nat.le_trans HZ2.out hE4.size); have Q4 := hid (hE4.obj Q2.out); have HR4 := hid (RI.ext (RI.ext HRC.out (Ext.alloc _ _)) hE4); have HO4 := hid (Own.ext (EUV.ok _) (Own.ext (EUV.ok _) HOU.out (Ext.alloc _ _)) hE4); obtain ⟨c0, c1, x0, x1⟩ := KB.out _ HE4.out; clear hw4 hE4; obtain ⟨e0, e1, y0, y1, y0f, y1f, k1, k1f, r0, r1, hsm⟩ := res2 (HE4.out.obj B2.out) Q4.out; have HSM := hid hsm; clear hsm))
      refine bodyPost_ret (v := .tuple #[.agg #[.slice Arc C.room.length crc, .slice Auc ps.length cuc], .int .i64 1]) (by simp [results, Try.results59, go_sem, r0, r1]) rfl ?_
      rw [HC.out]
      exact ⟨_, rfl, ⟨_, _, ps, rfl, RI.same HR4.out (HSM.out _ (by rintro t rfl; decide)), Own.same (EUV.ok _) (OUV.low HO4.out (HEW.out.trans HE1.out).size) (HSM.out _ notClu), HPS.out, HND.out⟩, Below.setCell (Below.setCell (HEW.out.trans HE4.out) (by show w.heap.size ≤ w.heap.size + 2; omega) _) (by show w.heap.size ≤ w.heap.size + 2; omega) _⟩
  · have h1 : clusOk C = false := by simpa using h1
    have HC : Hid (arriveC C x grant = (⟨[], []⟩, 1)) := hid (by unfold arriveC; rw [h1]; rfl)
    go_enter Try.func59, Try.ntmps59
    go_wp2_with (first
      | (go_at_call 37; rw [← hW]; refine (sClusterValid _ C _ HCV.out hl hfl).mono ?_; rintro e w1 ⟨rfl, hE1⟩; rw [h1]; obtain ⟨c0, c1, x0, x1⟩ := KB.out _ hE1; have HE1 := hid hE1; clear hE1 hW; obtain ⟨_, _, y0, y1, y0f, y1f, k1, k1f, r0, r1, hsm⟩ := res2 (HE1.out.obj B2.out) (HE1.out.obj B2.out); clear hsm))
    refine bodyPost_ret (v := .tuple #[.agg #[.slice none 0 0, .slice none 0 0], .int .i64 1]) (by simp [results, Try.results59, go_sem, r0, r1]) rfl ?_
    rw [HC.out]
    exact ⟨_, rfl, OCl.zero _ _, Below.setCell (Below.setCell (HEW.out.trans HE1.out) (by show w.heap.size ≤ w.heap.size + 2; omega) _) (by show w.heap.size ≤ w.heap.size + 2; omega) _⟩

end Go.Proofs.Ytcfpilkhjpegcaa

/- Valid clusters stay valid. No program in sight. -/
namespace Go.Proofs.Ytcfpilkhjpegcaa
open Go.RowKit
set_option maxRecDepth 4000

theorem tasksOk_iff (room : List Int) (ts : List TaskD) : tasksOk room ts = true ↔ roomOk room = true ∧ ts.length ≤ 14 ∧ (∀ t ∈ ts, inB t.id 1 40 = true ∧ vecFits t.need room = true) ∧ (ts.map (·.id)).Nodup := by
  constructor
  · intro h
    refine ⟨tasksOk_room h, tasksOk_len h, fun t ht => tasksOk_mem h ht, ?_⟩
    rw [List.nodup_iff_pairwise_ne, List.pairwise_iff_getElem]
    intro i j hi hj hij he
    simp only [List.length_map] at hi hj
    simp only [List.getElem_map] at he
    have hf := tasksOk_fine h (List.getElem?_eq_getElem hj)
    simp only [taskFine, Bool.and_eq_true] at hf
    have hh := hasId_hit (List.getElem?_eq_getElem hi) hij he
    rw [hh] at hf
    exact absurd hf.2.1 (by simp)
  · rintro ⟨hr, hl, hm, hn⟩
    simp only [tasksOk, Bool.and_eq_true, decide_eq_true_eq]
    refine ⟨hr, ?_, hl⟩
    simp only [tasksTo, List.all_eq_true]
    intro i hi
    have hi : i < ts.length := by simpa using hi
    have e : ts.getD i default = ts[i] := by simp [List.getD, hi]
    rw [e]
    obtain ⟨h1, h2⟩ := hm ts[i] (List.getElem_mem hi)
    simp only [taskFine, Bool.and_eq_true, Bool.not_eq_true']
    refine ⟨h1, ?_, h2⟩
    rw [hasId, List.any_eq_false]
    intro t ht he
    have he : t.id = ts[i].id := by simpa using he
    obtain ⟨j, hj⟩ := List.getElem?_of_mem ht
    rw [List.getElem?_take] at hj
    split at hj
    · rename_i hji
      have hj2 : j < ts.length := by omega
      rw [List.getElem?_eq_getElem hj2] at hj
      injection hj with hj
      subst hj
      rw [List.nodup_iff_pairwise_ne, List.pairwise_iff_getElem] at hn
      exact hn j i (by simpa using hj2) (by simpa using hi) hji (by simpa using he)
    · cases hj
theorem flatten_set_perm {α : Type} : ∀ (bs : List (List α)) (k : Nat) (b : List α) (x : α), bs[k]? = some b → (bs.set k (b ++ [x])).flatten.Perm (x :: bs.flatten)
  | [], _, _, _, h => by simp at h
  | b' :: bs, 0, b, x, h => by
    simp at h
    subst h
    simp only [List.set_cons_zero, List.flatten_cons, List.append_assoc]
    exact List.perm_middle
  | b' :: bs, k + 1, b, x, h => by
    have ih := flatten_set_perm bs k b x (by simpa using h)
    simp only [List.set_cons_succ, List.flatten_cons]
    exact (ih.append_left b').trans List.perm_middle
theorem flatten_set_sub {α : Type} : ∀ (bs : List (List α)) (k : Nat) (b b2 : List α), bs[k]? = some b → b2.Sublist b → (bs.set k b2).flatten.Sublist bs.flatten
  | [], _, _, _, h, _ => by simp at h
  | b' :: bs, 0, b, b2, h, hs => by
    simp at h
    subst h
    simp only [List.set_cons_zero, List.flatten_cons]
    exact hs.append (List.Sublist.refl _)
  | b' :: bs, k + 1, b, b2, h, hs => by
    have ih := flatten_set_sub bs k b b2 (by simpa using h) hs
    simp only [List.set_cons_succ, List.flatten_cons]
    exact (List.Sublist.refl _).append ih
theorem addTo_getD (a b : List Int) (t : Int) (i : Nat) (hi : i < 3) : (addL a b t).getD i 0 = a.getD i 0 + t * b.getD i 0 := by
  unfold addL addTo
  rw [List.getD_eq_getElem?_getD, List.getElem?_map, List.getElem?_range hi]
  rfl
theorem load_from (i : Nat) (hi : i < 3) : ∀ (ts : List TaskD) (acc : List Int), (ts.foldl (fun acc t => addL acc t.need 1) acc).getD i 0 = acc.getD i 0 + (ts.map fun t => t.need.getD i 0).sum
  | [], acc => by simp
  | t :: ts, acc => by
    rw [List.foldl_cons, load_from i hi ts, addTo_getD _ _ _ i hi]
    simp only [List.map_cons, List.sum_cons]
    omega
theorem loadL_getD (ts : List TaskD) (i : Nat) (hi : i < 3) : (loadL ts).getD i 0 = (ts.map fun t => t.need.getD i 0).sum := by
  unfold loadL
  rw [load_from i hi]
  match i, hi with
  | 0, _ => simp
  | 1, _ => simp
  | 2, _ => simp
theorem sum_sub : ∀ {a b : List Int}, a.Sublist b → (∀ x ∈ b, 0 ≤ x) → a.sum ≤ b.sum
  | _, _, .slnil, _ => Int.le_refl _
  | _, _, .cons x h, hp => by
    have ih := sum_sub h (fun y hy => hp y (by simp [hy]))
    have := hp x (by simp)
    simp only [List.sum_cons]
    omega
  | _, _, .cons_cons x h, hp => by
    have ih := sum_sub h (fun y hy => hp y (by simp [hy]))
    simp only [List.sum_cons]
    omega
theorem load_sub {a b : List TaskD} (h : a.Sublist b) (hp : ∀ t ∈ b, vecOk t.need = true) (i : Nat) (hi : i < 3) : (loadL a).getD i 0 ≤ (loadL b).getD i 0 := by
  rw [loadL_getD a i hi, loadL_getD b i hi]
  refine sum_sub (h.map _) (fun x hx => ?_)
  obtain ⟨t, ht, rfl⟩ := List.mem_map.1 hx
  exact ((vecOk_nn (hp t ht)).getD (by omega) i).1
theorem fits_sub {a b : List TaskD} {room : List Int} (h : a.Sublist b) (hp : ∀ t ∈ b, vecOk t.need = true) (hf : fitsL (loadL b) room = true) : fitsL (loadL a) room = true :=
  fitsL_of fun i hi => Int.le_trans (load_sub h hp i hi) (fitsL_at hf hi)

theorem clus_iff (C : ClusD) : clusOk C = true ↔ (∀ u ∈ C.units, u.opened = true ∨ u.tasks = []) ∧ (1 ≤ C.units.length ∧ C.units.length ≤ 10) ∧ tasksOk C.room (C.units.map (·.tasks)).flatten = true ∧ ∀ u ∈ C.units, fitsL (loadL u.tasks) C.room = true := by
  constructor
  · intro h
    refine ⟨fun u hu => ?_, clusOk_len h, binsOk_tk (clusOk_bins h), fun u hu => (clusOk_unit h hu).2⟩
    simp only [clusOk, Bool.and_eq_true, List.all_eq_true] at h
    have := h.1 u hu
    simpa using this
  · rintro ⟨h1, h2, h3, h4⟩
    simp only [clusOk, binsOk, Bool.and_eq_true, List.all_eq_true, decide_eq_true_eq]
    refine ⟨fun u hu => by simpa using h1 u hu, ?_, h3, by rw [List.length_map]; omega, fun b hb => ?_⟩
    · simp [inB]; omega
    · obtain ⟨u, hu, rfl⟩ := List.mem_map.1 hb
      exact h4 u hu
theorem set_all {α : Type} {P : α → Prop} {xs : List α} {k : Nat} {x : α} (h : ∀ y ∈ xs, P y) (hx : P x) : ∀ y ∈ xs.set k x, P y := fun y hy => by
  rcases List.mem_or_eq_of_mem_set hy with hy | rfl
  · exact h y hy
  · exact hx
theorem clus_vec {C : ClusD} (h : clusOk C = true) {u : UnitD} (hu : u ∈ C.units) : ∀ t ∈ u.tasks, vecOk t.need = true := fun t ht =>
  (vecFits_ok (tasksOk_mem (binsOk_tk (clusOk_bins h)) (t := t) (List.mem_flatten.2 ⟨u.tasks, List.mem_map.2 ⟨u, hu, rfl⟩, ht⟩)).2).1
/-- an empty node is opened or closed -/
theorem clus_open {C : ClusD} (h : clusOk C = true) {k : Nat} {u : UnitD} (hk : C.units[k]? = some u) (op : Bool) (hop : op = true ∨ u.tasks = []) : clusOk ⟨C.room, C.units.set k ⟨op, u.tasks⟩⟩ = true := by
  have hu := List.mem_of_getElem? hk
  have h0 := (clus_iff C).1 h
  rw [clus_iff]
  refine ⟨set_all h0.1 hop, by simpa using h0.2.1, ?_, set_all h0.2.2.2 (h0.2.2.2 u hu)⟩
  show tasksOk C.room ((C.units.set k ⟨op, u.tasks⟩).map (·.tasks)).flatten = true
  rw [List.map_set, set_same (by rw [List.getElem?_map, hk]; rfl)]
  exact h0.2.2.1
/-- tasks leave a node -/
theorem clus_less {C : ClusD} (h : clusOk C = true) {k : Nat} {u : UnitD} (hk : C.units[k]? = some u) {ts : List TaskD} (hs : ts.Sublist u.tasks) : clusOk ⟨C.room, C.units.set k ⟨u.opened, ts⟩⟩ = true := by
  have hu := List.mem_of_getElem? hk
  have h0 := (clus_iff C).1 h
  rw [clus_iff]
  refine ⟨set_all h0.1 ?_, by simpa using h0.2.1, ?_, set_all h0.2.2.2 (fits_sub hs (clus_vec h hu) (h0.2.2.2 u hu))⟩
  · rcases h0.1 u hu with h1 | h1
    · exact .inl h1
    · right
      show ts = []
      rw [h1] at hs
      exact List.sublist_nil.1 hs
  · show tasksOk C.room ((C.units.set k ⟨u.opened, ts⟩).map (·.tasks)).flatten = true
    rw [List.map_set]
    have hsub := flatten_set_sub (C.units.map (·.tasks)) k u.tasks ts (by rw [List.getElem?_map, hk]; rfl) hs
    obtain ⟨a1, a2, a3, a4⟩ := (tasksOk_iff _ _).1 h0.2.2.1
    exact (tasksOk_iff _ _).2 ⟨a1, Nat.le_trans hsub.length_le a2, fun t ht => a3 t (hsub.subset ht), (hsub.map _).nodup a4⟩
/-- a new task comes to a node that has room -/
theorem clus_more {C : ClusD} (h : clusOk C = true) {k : Nat} {u : UnitD} (hk : C.units[k]? = some u) {x : TaskD} (hx : tasksOk C.room [x] = true) (hw : whereL (C.units.map (·.tasks)) x.id < 0) (hf : fitsL (loadL (u.tasks ++ [x])) C.room = true) (hl : (C.units.map (·.tasks)).flatten.length ≠ 14) :
    clusOk ⟨C.room, C.units.set k ⟨true, u.tasks ++ [x]⟩⟩ = true := by
  have hu := List.mem_of_getElem? hk
  have h0 := (clus_iff C).1 h
  rw [clus_iff]
  refine ⟨set_all h0.1 (.inl rfl), by simpa using h0.2.1, ?_, set_all h0.2.2.2 hf⟩
  show tasksOk C.room ((C.units.set k ⟨true, u.tasks ++ [x]⟩).map (·.tasks)).flatten = true
  rw [List.map_set]
  have hp := flatten_set_perm (C.units.map (·.tasks)) k u.tasks x (by rw [List.getElem?_map, hk]; rfl)
  obtain ⟨a1, a2, a3, a4⟩ := (tasksOk_iff _ _).1 h0.2.2.1
  have hm := tasksOk_mem hx (List.mem_singleton.2 rfl)
  refine (tasksOk_iff _ _).2 ⟨a1, ?_, fun t ht => ?_, ?_⟩
  · rw [hp.length_eq, List.length_cons]; omega
  · rcases List.mem_cons.1 (hp.mem_iff.1 ht) with rfl | ht
    · exact hm
    · exact a3 t ht
  · refine (hp.map _).nodup_iff.2 ?_
    rw [List.map_cons, List.nodup_cons]
    refine ⟨fun hc => ?_, a4⟩
    obtain ⟨t, ht, he⟩ := List.mem_map.1 hc
    obtain ⟨b, hb, htb⟩ := List.mem_flatten.1 ht
    unfold whereL at hw
    split at hw
    · omega
    · rename_i hnone
      rw [List.findIdx?_eq_none_iff] at hnone
      have := hnone b hb
      rw [hasId, List.any_eq_false] at this
      exact this t htb (by simpa using he)

end Go.Proofs.Ytcfpilkhjpegcaa
