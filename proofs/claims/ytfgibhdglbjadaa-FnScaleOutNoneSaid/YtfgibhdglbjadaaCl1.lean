/- The reference opens and closes a node. -/
import Derived.Test.YtfgibhdglbjadaaDr4
import Derived.Test.YtfgibhdglbjadaaSp7
namespace Go.Proofs.Ytfgibhdglbjadaa
open Go.RowKit
set_option maxRecDepth 4000

/-- a node is opened or closed; the code -/
def openC (C : ClusD) (node : Int) (op : Bool) : ClusD × Int :=
  if clusOk C then
    if inB node 0 ((C.units.length : Int) - 1) then
      match C.units[node.toNat]? with
      | none => (C, 4)
      | some u => if u.opened == op then (C, 2) else if 0 < u.tasks.length then (C, 5) else (⟨C.room, C.units.set node.toNat ⟨op, u.tasks⟩⟩, 0)
    else (C, 4)
  else (⟨[], []⟩, 1)

theorem open_at {C : ClusD} {k : Nat} {op : Bool} {x : UnitD} (h1 : clusOk C = true) (h2 : inB (k : Int) 0 ((C.units.length : Int) - 1) = true) (hk : C.units[k]? = some x) :
    openC C k op = if x.opened == op then (C, 2) else if 0 < x.tasks.length then (C, 5) else (⟨C.room, C.units.set k ⟨op, x.tasks⟩⟩, 0) := by
  unfold openC
  rw [if_pos h1, if_pos h2, Int.toNat_natCast, hk]
theorem Own.row {α : Type} {e : TypeId} {size : Nat} {E : Enc α} {w : World} {base : Nat} {v : Value} {xs : List α} (h : Own e size E w base v xs) (hp : 0 < xs.length) : ∃ g c, v = .slice (some ⟨g, 0, none⟩) xs.length c ∧ base ≤ g := by
  obtain ⟨cells, ho, _⟩ := h
  rcases ho.2 with ⟨_, h0⟩ | ⟨g, cap, cur, h1, hg, _⟩
  · omega
  · exact ⟨g, cap, h1, hg⟩
theorem OCl.zero (w : World) (base : Nat) : OCl w base (.agg #[.slice none 0 0, .slice none 0 0]) ⟨[], []⟩ := ⟨_, _, [], rfl, RSl.nil_ _ _ _ _ _ _ (by omega), Own.none_ _ _ _ _ _, rfl, List.nodup_nil⟩
theorem notClu : ∀ t, (t = 56 ∨ t = 64 ∨ t = 3) → t ≠ 26 := by rintro t (rfl | rfl | rfl) <;> decide
theorem OUV.low {w : World} {base base' : Nat} {v : Value} {ps : List (UnitD × Value)} (h : OUV w base v ps) (hb : base' ≤ base) : OUV w base' v ps := by
  obtain ⟨cells, ho, hc⟩ := h
  exact ⟨cells, ownsRow_low ho hb, hc.1, fun j x hx => let ⟨cs, hl, ⟨he, ht⟩, hu⟩ := hc.2 j x hx; ⟨cs, hl, ⟨he, Own.low ht hb⟩, hu⟩⟩
theorem clus_small {C : ClusD} (h : clusOk C = true) : C.room.length ≤ 4000000 ∧ ∀ u ∈ C.units, u.tasks.length ≤ 4000000 ∧ ∀ t ∈ u.tasks, t.need.length ≤ 4000000 := by
  refine ⟨by have := vecOk_len (roomOk_vec (clusOk_room h)); omega, fun u hu => ?_⟩
  have hg := (clusOk_unit h hu).1
  exact ⟨by have := hg.1; omega, fun t ht => by have := (hg.2 t ht).1; omega⟩
theorem set_same {α : Type} {xs : List α} {k : Nat} {x : α} (h : xs[k]? = some x) : xs.set k x = xs := by
  have hk := (List.getElem?_eq_some_iff.1 h).1
  apply List.ext_getElem?
  intro i
  by_cases hik : i = k
  · subst hik
    rw [List.getElem?_set_self hk, h]
  · rw [List.getElem?_set_ne (Ne.symm hik)]
theorem blocksOf_set {ps : List (UnitD × Value)} {k : Nat} {u u' : UnitD} {v : Value} (h : ps[k]? = some (u, v)) : blocksOf (ps.set k (u', v)) = blocksOf ps := by
  have e : ∀ qs : List (UnitD × Value), blocksOf qs = (qs.map (·.2)).filterMap Value.ownBlock := fun qs => by unfold blocksOf; rw [List.filterMap_map]; rfl
  rw [e, e, List.map_set]
  congr 1
  exact set_same (x := v) (by rw [List.getElem?_map, h]; rfl)
theorem at_fst {ps : List (UnitD × Value)} {us : List UnitD} (h : ps.map (·.1) = us) {k : Nat} {x : UnitD} (hx : us[k]? = some x) : ∃ v, ps[k]? = some (x, v) := by
  rw [← h, List.getElem?_map] at hx
  obtain ⟨⟨y, v⟩, hy, rfl⟩ := Option.map_eq_some_iff.1 hx
  exact ⟨v, hy⟩
theorem OUV.at_ {w : World} {base g n c : Nat} {ps : List (UnitD × Value)} (h : OUV w base (.slice (some ⟨g, 0, none⟩) n c) ps) {j : Nat} {x : UnitD} {v : Value} (hj : ps[j]? = some (x, v)) :
    w.cell? ⟨g, j * 2, none⟩ = some (.bool x.opened) ∧ w.frozen? ⟨g, j * 2, none⟩ = false := by
  obtain ⟨A, c', hv, _, _, hg⟩ := RU.get (OUV.read h)
  have hlt : j < (ps.map (·.1)).length := by rw [List.length_map]; exact (List.getElem?_eq_some_iff.1 hj).1
  obtain ⟨b, o, y, An, cn, hA, he, c1, c2, _⟩ := hg j hlt
  injection hv with h1 h2 h3
  subst hA
  injection h1 with h1
  injection h1 with h1 h4 _
  subst h1 h4
  have : y = x := by have := he.out; rw [List.getElem?_map, hj] at this; injection this with this; exact this.symm
  subst this
  refine ⟨by simpa using c1, ?_⟩
  obtain ⟨cells, ho, _⟩ := h
  rcases ho.2 with ⟨h1, _⟩ | ⟨g', cap, cur, h1, _, hg, _⟩
  · cases h1
  · injection h1 with h1 _ _
    injection h1 with h1
    injection h1 with h1 _ _
    subst h1
    exact obj_frozen hg _
theorem OUV.set0 {w : World} {base g n c : Nat} {ps : List (UnitD × Value)} (h : OUV w base (.slice (some ⟨g, 0, none⟩) n c) ps) {j : Nat} {x : UnitD} {v : Value} (hj : ps[j]? = some (x, v)) (op : Bool) :
    OUV (w.setCell ⟨g, j * 2, none⟩ (.bool op)) base (.slice (some ⟨g, 0, none⟩) n c) (ps.set j (⟨op, x.tasks⟩, v)) ∧ SameT (fun t => t ≠ 56) w (w.setCell ⟨g, j * 2, none⟩ (.bool op)) :=
  Own.set (EUV.ok base) EUV.ne h hj (i := 0) (u := .bool op) (x' := (⟨op, x.tasks⟩, v)) (by omega) (fun w' hw cs hl ⟨he, ht⟩ => ⟨by rw [he]; rfl, ht.same ET.ok (hw.mono (fun t ht => ht))⟩)
/-- what a function leaves that answers with a cluster of its own and a code -/
def RetOC (w : World) (r : ClusD × Int) (e : Ending) (w' : World) : Prop := ∃ cv, e = .returned (.tuple #[cv, .int .i64 r.2]) ∧ OCl w' w.heap.size cv r.1 ∧ Ext w w'

set_option maxHeartbeats 2000000 in
theorem sClusterOpen (cv : Value) (C : ClusD) (node : Int) (op : Bool) (w : World) (h : ClusV w cv C) (hl : C.units.length ≤ 4000000) (hfl : (C.units.map (·.tasks)).flatten.length ≤ 4000000) :
    Calls Try.prog 39 #[cv, .int .i64 node, .bool op] w (RetOC w (openC C node op)) := by
  have h0 := h
  obtain ⟨rv, uv, rfl, hr, hu⟩ := h
  obtain ⟨Ar, cr, rfl, _⟩ := hr
  obtain ⟨A, c, rfl, hc, hc', hg⟩ := RU.get hu
  have hX := (Ext.alloc w (.cells #[.slice Ar C.room.length cr, .slice A C.units.length c] 26)).trans (Ext.alloc _ (.cells #[.slice none 0 0, .slice none 0 0] 26))
  have g1 := (Ext.alloc (w.alloc (.cells #[.slice Ar C.room.length cr, .slice A C.units.length c] 26)) (.cells #[.slice none 0 0, .slice none 0 0] 26)).obj (heap_alloc_new w _)
  have g2 : ((w.alloc (.cells #[.slice Ar C.room.length cr, .slice A C.units.length c] 26)).alloc (.cells #[.slice none 0 0, .slice none 0 0] 26)).heap[w.heap.size + 1]? = some (.cells #[.slice none 0 0, .slice none 0 0] 26 (0, 0)) := heap_new (by simp)
  have b0 := obj_cell g1 (i := 0) rfl
  have b1 := obj_cell g1 (i := 1) rfl
  have HX := hid hX
  have G1 := hid g1
  have G2 := hid g2
  have H0 := hid (h0.ext hX)
  clear hu h0 hX g1 g2
  by_cases h1 : clusOk C = true
  · by_cases h2 : inB node 0 ((C.units.length : Int) - 1) = true
    · have hin : 0 ≤ node ∧ node ≤ (C.units.length : Int) - 1 := by simpa [inB] using h2
      obtain ⟨k, rfl⟩ : ∃ k : Nat, node = k := ⟨node.toNat, by omega⟩
      have hkl : k < C.units.length := by omega
      have i1 : (k : Int) < (C.units.length : Int) := by omega
      have i0 : (0 : Int) ≤ (k : Int) := by omega
      obtain ⟨b, o, x, An, cn, rfl, ex, cq0, cq1, _⟩ := hg k hkl
      by_cases h3 : (x.opened == op) = true
      · have HC : Hid (openC C k op = (C, 2)) := hid (by rw [open_at h1 h2 ex.out]; simp [h3])
        go_enter Try.func39, Try.ntmps39
        go_wp2_with (first
      | (go_at_call 42; refine (sClusterValid _ C _ H0.out hl hfl).mono ?_; rintro e w1 ⟨rfl, hE1⟩; rw [h1]; have H1 := hid (H0.out.ext hE1); have G11 := hid (hE1.obj G1.out); have G12 := hid (hE1.obj G2.out); have b0 := obj_cell G11.out (i := 0) rfl; have b1 := obj_cell G11.out (i := 1) rfl; have HE1 := hid (HX.out.trans hE1); clear hE1)
      | (go_at_call 79; refine (sCopy21 _ C _ H1.out hl (clus_small h1).1 (clus_small h1).2).mono ?_; rintro e w2 ⟨v2, rfl, ⟨rc, uc, ps, rfl, hrc, hou, hps, hnd⟩, hE2⟩; have HRC := hid hrc; obtain ⟨Arc, crc, rfl, _⟩ := hrc; obtain ⟨Auc, cuc, rfl, _⟩ := hou.form; have HOU := hid (OUV.low hou HE1.out.size); have HPS := hid hps; have HND := hid hnd; have hEE := hE2.trans (Ext.alloc w2 (.cells #[.slice Arc C.room.length crc, .slice Auc ps.length cuc] 26)); have G21 := hid (hEE.obj G11.out); have G22 := hid (hEE.obj G12.out); have Q2 := hid (heap_alloc_new w2 (.cells #[.slice Arc C.room.length crc, .slice Auc ps.length cuc] 26)); have b0 := obj_cell G21.out (i := 0) rfl; have b1 := obj_cell G21.out (i := 1) rfl; have HE2 := hid (HE1.out.trans hEE); clear hou hps hnd hE2 hEE)
      | (go_at_call 69; refine (sIn _ _ _ _).mono ?_; rintro e w3 ⟨rfl, n3, hw3⟩; rw [h2]; have hE3 : Ext (w2.alloc (.cells #[.slice Arc C.room.length crc, .slice Auc ps.length cuc] 26)) w3 := (by rw [hw3]; exact Ext.drewN _ _); have G31 := hid (hE3.obj G21.out); have G32 := hid (hE3.obj G22.out); have Q3 := hid (hE3.obj Q2.out); have b0 := obj_cell G31.out (i := 0) rfl; have b1 := obj_cell G31.out (i := 1) rfl; have HE3 := hid (HE2.out.trans hE3); have HR3 := hid (RI.ext (RI.ext HRC.out (Ext.alloc _ _)) hE3); have HO3 := hid (Own.ext (EUV.ok _) (Own.ext (EUV.ok _) HOU.out (Ext.alloc _ _)) hE3); obtain ⟨e0, e1, y0, y1, y0f, y1f, k1, k1f, r0, r1, hsm⟩ := res2 G32.out Q3.out; have HSM := hid hsm; have cu0 := HE3.out.cell cq0; have cu1 := HE3.out.cell cq1; clear hw3 hE3 hsm))
        refine bodyPost_ret (v := .tuple #[.agg #[.slice Arc C.room.length crc, .slice Auc ps.length cuc], .int .i64 2]) (by simp [results, Try.results39, go_sem, r0, r1]) rfl ?_
        rw [HC.out]
        exact ⟨_, rfl, ⟨_, _, ps, rfl, RI.same HR3.out (HSM.out _ (by rintro t rfl; decide)), Own.same (EUV.ok _) HO3.out (HSM.out _ notClu), HPS.out, HND.out⟩, Below.setCell (Below.setCell HE3.out (Nat.le_succ _) _) (Nat.le_succ _) _⟩
      · have h3 : (x.opened == op) = false := by simpa using h3
        by_cases h4 : 0 < x.tasks.length
        · have i4 : (0 : Int) < (x.tasks.length : Int) := by omega
          have HC : Hid (openC C k op = (C, 5)) := hid (by rw [open_at h1 h2 ex.out]; simp [h3, h4])
          go_enter Try.func39, Try.ntmps39
          go_wp2_with (first
      | (go_at_call 42; refine (sClusterValid _ C _ H0.out hl hfl).mono ?_; rintro e w1 ⟨rfl, hE1⟩; rw [h1]; have H1 := hid (H0.out.ext hE1); have G11 := hid (hE1.obj G1.out); have G12 := hid (hE1.obj G2.out); have b0 := obj_cell G11.out (i := 0) rfl; have b1 := obj_cell G11.out (i := 1) rfl; have HE1 := hid (HX.out.trans hE1); clear hE1)
      | (go_at_call 79; refine (sCopy21 _ C _ H1.out hl (clus_small h1).1 (clus_small h1).2).mono ?_; rintro e w2 ⟨v2, rfl, ⟨rc, uc, ps, rfl, hrc, hou, hps, hnd⟩, hE2⟩; have HRC := hid hrc; obtain ⟨Arc, crc, rfl, _⟩ := hrc; obtain ⟨Auc, cuc, rfl, _⟩ := hou.form; have HOU := hid (OUV.low hou HE1.out.size); have HPS := hid hps; have HND := hid hnd; have hEE := hE2.trans (Ext.alloc w2 (.cells #[.slice Arc C.room.length crc, .slice Auc ps.length cuc] 26)); have G21 := hid (hEE.obj G11.out); have G22 := hid (hEE.obj G12.out); have Q2 := hid (heap_alloc_new w2 (.cells #[.slice Arc C.room.length crc, .slice Auc ps.length cuc] 26)); have b0 := obj_cell G21.out (i := 0) rfl; have b1 := obj_cell G21.out (i := 1) rfl; have HE2 := hid (HE1.out.trans hEE); clear hou hps hnd hE2 hEE)
      | (go_at_call 69; refine (sIn _ _ _ _).mono ?_; rintro e w3 ⟨rfl, n3, hw3⟩; rw [h2]; have hE3 : Ext (w2.alloc (.cells #[.slice Arc C.room.length crc, .slice Auc ps.length cuc] 26)) w3 := (by rw [hw3]; exact Ext.drewN _ _); have G31 := hid (hE3.obj G21.out); have G32 := hid (hE3.obj G22.out); have Q3 := hid (hE3.obj Q2.out); have b0 := obj_cell G31.out (i := 0) rfl; have b1 := obj_cell G31.out (i := 1) rfl; have HE3 := hid (HE2.out.trans hE3); have HR3 := hid (RI.ext (RI.ext HRC.out (Ext.alloc _ _)) hE3); have HO3 := hid (Own.ext (EUV.ok _) (Own.ext (EUV.ok _) HOU.out (Ext.alloc _ _)) hE3); obtain ⟨e0, e1, y0, y1, y0f, y1f, k1, k1f, r0, r1, hsm⟩ := res2 G32.out Q3.out; have HSM := hid hsm; have cu0 := HE3.out.cell cq0; have cu1 := HE3.out.cell cq1; clear hw3 hE3 hsm))
          refine bodyPost_ret (v := .tuple #[.agg #[.slice Arc C.room.length crc, .slice Auc ps.length cuc], .int .i64 5]) (by simp [results, Try.results39, go_sem, r0, r1]) rfl ?_
          rw [HC.out]
          exact ⟨_, rfl, ⟨_, _, ps, rfl, RI.same HR3.out (HSM.out _ (by rintro t rfl; decide)), Own.same (EUV.ok _) HO3.out (HSM.out _ notClu), HPS.out, HND.out⟩, Below.setCell (Below.setCell HE3.out (Nat.le_succ _) _) (Nat.le_succ _) _⟩
        · have i4 : ¬ (0 : Int) < (x.tasks.length : Int) := by omega
          have HC : Hid (openC C k op = (⟨C.room, C.units.set k ⟨op, x.tasks⟩⟩, 0)) := hid (by rw [open_at h1 h2 ex.out]; simp [h3, h4])
          go_enter Try.func39, Try.ntmps39
          go_wp2_with (first
      | (go_at_call 42; refine (sClusterValid _ C _ H0.out hl hfl).mono ?_; rintro e w1 ⟨rfl, hE1⟩; rw [h1]; have H1 := hid (H0.out.ext hE1); have G11 := hid (hE1.obj G1.out); have G12 := hid (hE1.obj G2.out); have b0 := obj_cell G11.out (i := 0) rfl; have b1 := obj_cell G11.out (i := 1) rfl; have HE1 := hid (HX.out.trans hE1); clear hE1)
      | (go_at_call 79; refine (sCopy21 _ C _ H1.out hl (clus_small h1).1 (clus_small h1).2).mono ?_; rintro e w2 ⟨v2, rfl, ⟨rc, uc, ps, rfl, hrc, hou, hps, hnd⟩, hE2⟩; have HRC := hid hrc; obtain ⟨Arc, crc, rfl, _⟩ := hrc; have hpl : ps.length = C.units.length := (by rw [← hps, List.length_map]); obtain ⟨gu, cuc, rfl, hgu⟩ := Own.row hou (by omega); have hgu2 := (Own.lt hou gu rfl).2; have hz1 := obj_lt G12.out; have ip : (k : Int) < (ps.length : Int) := (by omega); clear hpl; have HOU := hid (OUV.low hou HE1.out.size); have HPS := hid hps; have HND := hid hnd; have hEE := hE2.trans (Ext.alloc w2 (.cells #[.slice Arc C.room.length crc, .slice (some ⟨gu, 0, none⟩) ps.length cuc] 26)); have G21 := hid (hEE.obj G11.out); have G22 := hid (hEE.obj G12.out); have Q2 := hid (heap_alloc_new w2 (.cells #[.slice Arc C.room.length crc, .slice (some ⟨gu, 0, none⟩) ps.length cuc] 26)); have b0 := obj_cell G21.out (i := 0) rfl; have b1 := obj_cell G21.out (i := 1) rfl; have HE2 := hid (HE1.out.trans hEE); clear hou hps hnd hE2 hEE)
      | (go_at_call 69; refine (sIn _ _ _ _).mono ?_; rintro e w3 ⟨rfl, n3, hw3⟩; rw [h2]; have hE3 : Ext (w2.alloc (.cells #[.slice Arc C.room.length crc, .slice (some ⟨gu, 0, none⟩) ps.length cuc] 26)) w3 := (by rw [hw3]; exact Ext.drewN _ _); have G31 := hid (hE3.obj G21.out); have G32 := hid (hE3.obj G22.out); have Q3 := hid (hE3.obj Q2.out); have b0 := obj_cell G31.out (i := 0) rfl; have b1 := obj_cell G31.out (i := 1) rfl; have HE3 := hid (HE2.out.trans hE3); have HR3 := hid (RI.ext (RI.ext HRC.out (Ext.alloc _ _)) hE3); have HO3 := hid (Own.ext (EUV.ok _) (Own.ext (EUV.ok _) HOU.out (Ext.alloc _ _)) hE3); have cu0 := HE3.out.cell cq0; have cu1 := HE3.out.cell cq1; obtain ⟨vk, hpk⟩ := at_fst HPS.out ex.out; obtain ⟨cx, fx⟩ := OUV.at_ HO3.out hpk; have HPK := hid hpk; have d1 := obj_cell Q3.out (i := 1) rfl; have P5 := obj_far G32.out (p := ⟨gu, k * 2, none⟩) (by show w.heap.size + 1 ≠ gu; omega) (.bool op); have Q5 := obj_far Q3.out (p := ⟨gu, k * 2, none⟩) (by show w2.heap.size ≠ gu; omega) (.bool op); obtain ⟨e0, e1, y0, y1, y0f, y1f, k1, k1f, r0, r1, hsm⟩ := res2 P5 Q5; have HSM := hid hsm; have HS5 := hid (OUV.set0 HO3.out hpk op); clear P5 Q5 hpk; clear hw3 hE3 hsm))
          refine bodyPost_ret (v := .tuple #[.agg #[.slice Arc C.room.length crc, .slice (some ⟨gu, 0, none⟩) ps.length cuc], .int .i64 0]) (by simp [results, Try.results39, go_sem, r0, r1]) rfl ?_
          rw [HC.out]
          have hle := HE1.out.size
          exact ⟨_, rfl, ⟨_, _, ps.set k (⟨op, x.tasks⟩, vk), rfl, RI.same (RI.same HR3.out (HS5.out.2.mono (by rintro t rfl; decide))) (HSM.out _ (by rintro t rfl; decide)), Own.same (EUV.ok _) HS5.out.1 (HSM.out _ notClu), (by rw [List.map_set, HPS.out]), (by rw [blocksOf_set HPK.out]; exact HND.out)⟩, Below.setCell (Below.setCell (Below.setCell HE3.out (by show w.heap.size ≤ gu; omega) _) (Nat.le_succ _) _) (Nat.le_succ _) _⟩
    · have h2 : inB node 0 ((C.units.length : Int) - 1) = false := by simpa using h2
      have HC : Hid (openC C node op = (C, 4)) := hid (by unfold openC; rw [h1, h2]; rfl)
      go_enter Try.func39, Try.ntmps39
      go_wp2_with (first
      | (go_at_call 42; refine (sClusterValid _ C _ H0.out hl hfl).mono ?_; rintro e w1 ⟨rfl, hE1⟩; rw [h1]; have H1 := hid (H0.out.ext hE1); have G11 := hid (hE1.obj G1.out); have G12 := hid (hE1.obj G2.out); have b0 := obj_cell G11.out (i := 0) rfl; have b1 := obj_cell G11.out (i := 1) rfl; have HE1 := hid (HX.out.trans hE1); clear hE1)
      | (go_at_call 79; refine (sCopy21 _ C _ H1.out hl (clus_small h1).1 (clus_small h1).2).mono ?_; rintro e w2 ⟨v2, rfl, ⟨rc, uc, ps, rfl, hrc, hou, hps, hnd⟩, hE2⟩; have HRC := hid hrc; obtain ⟨Arc, crc, rfl, _⟩ := hrc; obtain ⟨Auc, cuc, rfl, _⟩ := hou.form; have HOU := hid (OUV.low hou HE1.out.size); have HPS := hid hps; have HND := hid hnd; have hEE := hE2.trans (Ext.alloc w2 (.cells #[.slice Arc C.room.length crc, .slice Auc ps.length cuc] 26)); have G21 := hid (hEE.obj G11.out); have G22 := hid (hEE.obj G12.out); have Q2 := hid (heap_alloc_new w2 (.cells #[.slice Arc C.room.length crc, .slice Auc ps.length cuc] 26)); have b0 := obj_cell G21.out (i := 0) rfl; have b1 := obj_cell G21.out (i := 1) rfl; have HE2 := hid (HE1.out.trans hEE); clear hou hps hnd hE2 hEE)
      | (go_at_call 69; refine (sIn _ _ _ _).mono ?_; rintro e w3 ⟨rfl, n3, hw3⟩; rw [h2]; have hE3 : Ext (w2.alloc (.cells #[.slice Arc C.room.length crc, .slice Auc ps.length cuc] 26)) w3 := (by rw [hw3]; exact Ext.drewN _ _); have G31 := hid (hE3.obj G21.out); have G32 := hid (hE3.obj G22.out); have Q3 := hid (hE3.obj Q2.out); have b0 := obj_cell G31.out (i := 0) rfl; have b1 := obj_cell G31.out (i := 1) rfl; have HE3 := hid (HE2.out.trans hE3); have HR3 := hid (RI.ext (RI.ext HRC.out (Ext.alloc _ _)) hE3); have HO3 := hid (Own.ext (EUV.ok _) (Own.ext (EUV.ok _) HOU.out (Ext.alloc _ _)) hE3); obtain ⟨e0, e1, y0, y1, y0f, y1f, k1, k1f, r0, r1, hsm⟩ := res2 G32.out Q3.out; have HSM := hid hsm; clear hw3 hE3 hsm))
      refine bodyPost_ret (v := .tuple #[.agg #[.slice Arc C.room.length crc, .slice Auc ps.length cuc], .int .i64 4]) (by simp [results, Try.results39, go_sem, r0, r1]) rfl ?_
      rw [HC.out]
      exact ⟨_, rfl, ⟨_, _, ps, rfl, RI.same HR3.out (HSM.out _ (by rintro t rfl; decide)), Own.same (EUV.ok _) HO3.out (HSM.out _ notClu), HPS.out, HND.out⟩, Below.setCell (Below.setCell HE3.out (Nat.le_succ _) _) (Nat.le_succ _) _⟩
  · have h1 : clusOk C = false := by simpa using h1
    have HC : Hid (openC C node op = (⟨[], []⟩, 1)) := hid (by unfold openC; rw [h1]; rfl)
    go_enter Try.func39, Try.ntmps39
    go_wp2_with (go_at_call 42; refine (sClusterValid _ C _ H0.out hl hfl).mono ?_; rintro e w1 ⟨rfl, hE1⟩; rw [h1]; obtain ⟨_, _, y0, y1, y0f, y1f, k1, k1f, r0, r1, hsm⟩ := res2 (hE1.obj G2.out) (hE1.obj G2.out); have HE1 := hid hE1; clear hE1 hsm)
    refine bodyPost_ret (v := .tuple #[.agg #[.slice none 0 0, .slice none 0 0], .int .i64 1]) (by simp [results, Try.results39, go_sem, r0, r1]) rfl ?_
    rw [HC.out]
    exact ⟨_, rfl, OCl.zero _ _, Below.setCell (Below.setCell (HX.out.trans HE1.out) (Nat.le_succ _) _) (Nat.le_succ _) _⟩

end Go.Proofs.Ytfgibhdglbjadaa
