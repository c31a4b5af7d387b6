/- The reference opens and closes a node. -/
import Derived.Test.YtcfpilkhjpegcaaK6
import Derived.Test.YtcfpilkhjpegcaaK3
import Derived.Test.YtcfpilkhjpegcaaK2
import Derived.Test.YtcfpilkhjpegcaaK1
namespace Go.Proofs.Ytcfpilkhjpegcaa
open Go.RowKit
set_option maxRecDepth 4000

/-- a node is opened or closed; the code -/
def openC (C : ClusD) (node : Int) (op : Bool) : ClusD × Int :=
  if clusOk C then
    if inB node 0 ((C.units.length : Int) - 1) then
      match C.units[node.toNat]? with
      | none => (C, 4)
      | some u => if u.opened == op then (C, 2) else if 0 < u.tasks.length then (C, 5) else (⟨C.room, C.units.set node.toNat ⟨op, u.tasks⟩⟩, 0)
    else (C, 4)
  else (⟨[], []⟩, 1)

theorem open_at {C : ClusD} {k : Nat} {op : Bool} {x : UnitD} (h1 : clusOk C = true) (h2 : inB (k : Int) 0 ((C.units.length : Int) - 1) = true) (hk : C.units[k]? = some x) :
    openC C k op = if x.opened == op then (C, 2) else if 0 < x.tasks.length then (C, 5) else (⟨C.room, C.units.set k ⟨op, x.tasks⟩⟩, 0) := by
  unfold openC
  rw [if_pos h1, if_pos h2, Int.toNat_natCast, hk]
theorem OCl.zero (w : World) (base : Nat) : OCl w base (.agg #[.slice none 0 0, .slice none 0 0]) ⟨[], []⟩ := ⟨_, _, [], rfl, RSl.nil_ _ _ _ _ _ _ (by omega), Own.none_ _ _ _ _ _, rfl, List.nodup_nil⟩
theorem notClu : ∀ t, (t = 44 ∨ t = 80 ∨ t = 3) → t ≠ 26 := by rintro t (rfl | rfl | rfl) <;> decide
theorem OUV.low {w : World} {base base' : Nat} {v : Value} {ps : List (UnitD × Value)} (h : OUV w base v ps) (hb : base' ≤ base) : OUV w base' v ps := by
  obtain ⟨cells, ho, hc⟩ := h
  exact ⟨cells, ownsRow_low ho hb, hc.1, fun j x hx => let ⟨cs, hl, ⟨he, ht⟩, hu⟩ := hc.2 j x hx; ⟨cs, hl, ⟨he, Own.low ht hb⟩, hu⟩⟩
theorem clus_small {C : ClusD} (h : clusOk C = true) : C.room.length ≤ 4000000 ∧ ∀ u ∈ C.units, u.tasks.length ≤ 4000000 ∧ ∀ t ∈ u.tasks, t.need.length ≤ 4000000 := by
  refine ⟨by have := vecOk_len (roomOk_vec (clusOk_room h)); omega, fun u hu => ?_⟩
  have hg := (clusOk_unit h hu).1
  exact ⟨by have := hg.1; omega, fun t ht => by have := (hg.2 t ht).1; omega⟩
theorem blocksOf_set {ps : List (UnitD × Value)} {k : Nat} {u u' : UnitD} {v : Value} (h : ps[k]? = some (u, v)) : blocksOf (ps.set k (u', v)) = blocksOf ps := by
  have e : ∀ qs : List (UnitD × Value), blocksOf qs = (qs.map (·.2)).filterMap Value.ownBlock := fun qs => by unfold blocksOf; rw [List.filterMap_map]; rfl
  rw [e, e, List.map_set]
  congr 1
  exact set_same (x := v) (by rw [List.getElem?_map, h]; rfl)
theorem at_fst {ps : List (UnitD × Value)} {us : List UnitD} (h : ps.map (·.1) = us) {k : Nat} {x : UnitD} (hx : us[k]? = some x) : ∃ v, ps[k]? = some (x, v) := by
  rw [← h, List.getElem?_map] at hx
  obtain ⟨⟨y, v⟩, hy, rfl⟩ := Option.map_eq_some_iff.1 hx
  exact ⟨v, hy⟩
theorem OUV.at_ {w : World} {base g n c : Nat} {ps : List (UnitD × Value)} (h : OUV w base (.slice (some ⟨g, 0, none⟩) n c) ps) {j : Nat} {x : UnitD} {v : Value} (hj : ps[j]? = some (x, v)) :
    w.cell? ⟨g, j * 2, none⟩ = some (.bool x.opened) ∧ w.frozen? ⟨g, j * 2, none⟩ = false := by
  obtain ⟨A, c', hv, _, _, hg⟩ := RU.get (OUV.read h)
  have hlt : j < (ps.map (·.1)).length := by rw [List.length_map]; exact (List.getElem?_eq_some_iff.1 hj).1
  obtain ⟨b, o, y, An, cn, hA, he, c1, c2, _⟩ := hg j hlt
  injection hv with h1 h2 h3
  subst hA
  injection h1 with h1
  injection h1 with h1 h4 _
  subst h1 h4
  have : y = x := by have := he.out; rw [List.getElem?_map, hj] at this; injection this with this; exact this.symm
  subst this
  refine ⟨by simpa using c1, ?_⟩
  obtain ⟨cells, ho, _⟩ := h
  rcases ho.2 with ⟨h1, _⟩ | ⟨g', cap, cur, h1, _, hg, _⟩
  · cases h1
  · injection h1 with h1 _ _
    injection h1 with h1
    injection h1 with h1 _ _
    subst h1
    exact obj_frozen hg _
theorem OUV.set0 {w : World} {base g n c : Nat} {ps : List (UnitD × Value)} (h : OUV w base (.slice (some ⟨g, 0, none⟩) n c) ps) {j : Nat} {x : UnitD} {v : Value} (hj : ps[j]? = some (x, v)) (op : Bool) :
    OUV (w.setCell ⟨g, j * 2, none⟩ (.bool op)) base (.slice (some ⟨g, 0, none⟩) n c) (ps.set j (⟨op, x.tasks⟩, v)) ∧ SameT (fun t => t ≠ 44) w (w.setCell ⟨g, j * 2, none⟩ (.bool op)) :=
  Own.set (EUV.ok base) EUV.ne h hj (i := 0) (u := .bool op) (x' := (⟨op, x.tasks⟩, v)) (by omega) (fun w' hw cs hl ⟨he, ht⟩ => ⟨by rw [he]; rfl, ht.same ET.ok (hw.mono (fun t ht => ht))⟩)
/-- what a function leaves that answers with a cluster of its own and a code -/
def RetOC (w : World) (r : ClusD × Int) (e : Ending) (w' : World) : Prop := ∃ cv, e = .returned (.tuple #[cv, .int .i64 r.2]) ∧ OCl w' w.heap.size cv r.1 ∧ Ext w w'

set_option maxHeartbeats 2000000 in
theorem sClusterOpen (cv : Value) (C : ClusD) (node : Int) (op : Bool) (w : World) (h : ClusV w cv C) (hl : C.units.length ≤ 4000000) (hfl : (C.units.map (·.tasks)).flatten.length ≤ 4000000) :
    Calls Try.prog 58 #[cv, .int .i64 node, .bool op] w (RetOC w (openC C node op)) := by
  have h0 := h
  obtain ⟨rv, uv, rfl, hr, hu⟩ := h
  obtain ⟨Ar, cr, rfl, _⟩ := hr
  obtain ⟨A, c, rfl, hc, hc', hg⟩ := RU.get hu
  have hX := (Ext.alloc w (.cells #[.slice Ar C.room.length cr, .slice A C.units.length c] 26)).trans (Ext.alloc _ (.cells #[.slice none 0 0, .slice none 0 0] 26))
  have g1 := (Ext.alloc (w.alloc (.cells #[.slice Ar C.room.length cr, .slice A C.units.length c] 26)) (.cells #[.slice none 0 0, .slice none 0 0] 26)).obj (heap_alloc_new w _)
  have g2 : ((w.alloc (.cells #[.slice Ar C.room.length cr, .slice A C.units.length c] 26)).alloc (.cells #[.slice none 0 0, .slice none 0 0] 26)).heap[w.heap.size + 1]? = some (.cells #[.slice none 0 0, .slice none 0 0] 26 (0, 0)) := heap_new (by simp)
  have b0 := obj_cell g1 (i := 0) rfl
  have b1 := obj_cell g1 (i := 1) rfl
  have HX := hid hX
  have G1 := hid g1
  have G2 := hid g2
  have H0 := hid (h0.ext hX)
  clear hu h0 hX g1 g2
  by_cases h1 : clusOk C = true
  · by_cases h2 : inB node 0 ((C.units.length : Int) - 1) = true
    · have hin : 0 ≤ node ∧ node ≤ (C.units.length : Int) - 1 := by simpa [inB] using h2
      obtain ⟨k, rfl⟩ : ∃ k : Nat, node = k := ⟨node.toNat, by omega⟩
      have hkl : k < C.units.length := by omega
      have i1 : (k : Int) < (C.units.length : Int) := by omega
      have i0 : (0 : Int) ≤ (k : Int) := by omega
      obtain ⟨b, o, x, An, cn, rfl, ex, cq0, cq1, _⟩ := hg k hkl
      by_cases h3 : (x.opened == op) = true
      · have HC : Hid (openC C k op = (C, 2)) := hid (by rw [open_at h1 h2 ex.out]; simp [h3])
        go_enter Try.func58, Try.ntmps58
        go_wp2_with (first
      | (go_at_call 37; refine (sClusterValid _ C _ H0.out hl hfl).mono ?_; rintro e w1 ⟨rfl, hE1⟩; rw [h1]; have H1 := hid (H0.out.ext hE1); have G11 := hid (hE1.obj G1.out); have G12 := hid (hE1.obj G2.out); have b0 := obj_cell G11.out (i := 0) rfl; have b1 := obj_cell G11.out (i := 1) rfl; have HE1 := hid (HX.out.trans hE1); clear hE1)
      | (go_at_call 84; refine (sCopy21 _ C _ H1.out hl (clus_small h1).1 (clus_small h1).2).mono ?_; rintro e w2 ⟨v2, rfl, ⟨rc, uc, ps, rfl, hrc, hou, hps, hnd⟩, hE2⟩; have HRC := hid hrc; obtain ⟨Arc, crc, rfl, _⟩ := hrc; obtain ⟨Auc, cuc, rfl, _⟩ := hou.form; have HOU := hid (OUV.low hou HE1.out.size); have HPS := hid hps; have HND := hid hnd; have hEE := hE2.trans (Ext.alloc w2 (.cells #[.slice Arc C.room.length crc, .slice Auc ps.length cuc] 26)); have G21 := hid (hEE.obj G11.out); have G22 := hid (hEE.obj G12.out); have Q2 := hid (heap_alloc_new w2 (.cells #[.slice Arc C.room.length crc, .slice Auc ps.length cuc] 26)); have b0 := obj_cell G21.out (i := 0) rfl; have b1 := obj_cell G21.out (i := 1) rfl; have HE2 := hid (HE1.out.trans hEE); clear hou hps hnd hE2 hEE)
      | (go_at_call 38; refine (sIn _ _ _ _).mono ?_; rintro e w3 ⟨rfl, n3, hw3⟩; rw [h2]; have hE3 : Ext (w2.alloc (.cells #[.slice Arc C.room.length crc, .slice Auc ps.length cuc] 26)) w3 := (by rw [hw3]; exact Ext.drewN _ _); have G31 := hid (hE3.obj G21.out); have G32 := hid (hE3.obj G22.out); have Q3 := hid (hE3.obj Q2.out); have b0 := obj_cell G31.out (i := 0) rfl; have b1 := obj_cell G31.out (i := 1) rfl; have HE3 := hid (HE2.out.trans hE3); have HR3 := hid (RI.ext (RI.ext HRC.out (Ext.alloc _ _)) hE3); have HO3 := hid (Own.ext (EUV.ok _) (Own.ext (EUV.ok _) HOU.out (Ext.alloc _ _)) hE3); obtain ⟨e0, e1, y0, y1, y0f, y1f, k1, k1f, r0, r1, hsm⟩ := res2 G32.out Q3.out; have HSM := hid hsm; have cu0 := HE3.out.cell cq0; have cu1 := HE3.out.cell cq1; clear hw3 hE3 hsm))
        refine bodyPost_ret (v := .tuple #[.agg #[.slice Arc C.room.length crc, .slice Auc ps.length cuc], .int .i64 2]) (by simp [results, Try.results58, go_sem, r0, r1]) rfl ?_
        rw [HC.out]
        exact ⟨_, rfl, ⟨_, _, ps, rfl, RI.same HR3.out (HSM.out _ (by rintro t rfl; decide)), Own.same (EUV.ok _) HO3.out (HSM.out _ notClu), HPS.out, HND.out⟩, Below.setCell (Below.setCell HE3.out (Nat.le_succ _) _) (Nat.le_succ _) _⟩
      · have h3 : (x.opened == op) = false := by simpa using h3
        by_cases h4 : 0 < x.tasks.length
        · have i4 : (0 : Int) < (x.tasks.length : Int) := by omega
          have HC : Hid (openC C k op = (C, 5)) := hid (by rw [open_at h1 h2 ex.out]; simp [h3, h4])
          go_enter Try.func58, Try.ntmps58
          go_wp2_with (first
      | (go_at_call 37; refine (sClusterValid _ C _ H0.out hl hfl).mono ?_; rintro e w1 ⟨rfl, hE1⟩; rw [h1]; have H1 := hid (H0.out.ext hE1); have G11 := hid (hE1.obj G1.out); have G12 := hid (hE1.obj G2.out); have b0 := obj_cell G11.out (i := 0) rfl; have b1 := obj_cell G11.out (i := 1) rfl; have HE1 := hid (HX.out.trans hE1); clear hE1)
      | (go_at_call 84; refine (sCopy21 _ C _ H1.out hl (clus_small h1).1 (clus_small h1).2).mono ?_; rintro e w2 ⟨v2, rfl, ⟨rc, uc, ps, rfl, hrc, hou, hps, hnd⟩, hE2⟩; have HRC := hid hrc; obtain ⟨Arc, crc, rfl, _⟩ := hrc; obtain ⟨Auc, cuc, rfl, _⟩ := hou.form; have HOU := hid (OUV.low hou HE1.out.size); have HPS := hid hps; have HND := hid hnd; have hEE := hE2.trans (Ext.alloc w2 (.cells #[.slice Arc C.room.length crc, .slice Auc ps.length cuc] 26)); have G21 := hid (hEE.obj G11.out); have G22 := hid (hEE.obj G12.out); have Q2 := hid (heap_alloc_new w2 (.cells #[.slice Arc C.room.length crc, .slice Auc ps.length cuc] 26)); have b0 := obj_cell G21.out (i := 0) rfl; have b1 := obj_cell G21.out (i := 1) rfl; have HE2 := hid (HE1.out.trans hEE); clear hou hps hnd hE2 hEE)
      | (go_at_call 38; refine (sIn _ _ _ _).mono ?_; rintro e w3 ⟨rfl, n3, hw3⟩; rw [h2]; have hE3 : Ext (w2.alloc (.cells #[.slice Arc C.room.length crc, .slice Auc ps.length cuc] 26)) w3 := (by rw [hw3]; exact Ext.drewN _ _); have G31 := hid (hE3.obj G21.out); have G32 := hid (hE3.obj G22.out); have Q3 := hid (hE3.obj Q2.out); have b0 := obj_cell G31.out (i := 0) rfl; have b1 := obj_cell G31.out (i := 1) rfl; have HE3 := hid (HE2.out.trans hE3); have HR3 := hid (RI.ext (RI.ext HRC.out (Ext.alloc _ _)) hE3); have HO3 := hid (Own.ext (EUV.ok _) (Own.ext (EUV.ok _) HOU.out (Ext.alloc _ _)) hE3); obtain ⟨e0, e1, y0, y1, y0f, y1f, k1, k1f, r0, r1, hsm⟩ := res2 G32.out Q3.out; have HSM := hid hsm; have cu0 := HE3.out.cell cq0; have cu1 := HE3.out.cell cq1; clear hw3 hE3 hsm))
          refine bodyPost_ret (v := .tuple #[.agg #[.slice Arc C.room.length crc, .slice Auc ps.length cuc], .int .i64 5]) (by simp [results, Try.results58, go_sem, r0, r1]) rfl ?_
          rw [HC.out]
          exact ⟨_, rfl, ⟨_, _, ps, rfl, RI.same HR3.out (HSM.out _ (by rintro t rfl; decide)), Own.same (EUV.ok _) HO3.out (HSM.out _ notClu), HPS.out, HND.out⟩, Below.setCell (Below.setCell HE3.out (Nat.le_succ _) _) (Nat.le_succ _) _⟩
        · have i4 : ¬ (0 : Int) < (x.tasks.length : Int) := by omega
          have HC : Hid (openC C k op = (⟨C.room, C.units.set k ⟨op, x.tasks⟩⟩, 0)) := hid (by rw [open_at h1 h2 ex.out]; simp [h3, h4])
          go_enter Try.func58, Try.ntmps58
          go_wp2_with (first
      | (go_at_call 37; refine (sClusterValid _ C _ H0.out hl hfl).mono ?_; rintro e w1 ⟨rfl, hE1⟩; rw [h1]; have H1 := hid (H0.out.ext hE1); have G11 := hid (hE1.obj G1.out); have G12 := hid (hE1.obj G2.out); have b0 := obj_cell G11.out (i := 0) rfl; have b1 := obj_cell G11.out (i := 1) rfl; have HE1 := hid (HX.out.trans hE1); clear hE1)
      | (go_at_call 84; refine (sCopy21 _ C _ H1.out hl (clus_small h1).1 (clus_small h1).2).mono ?_; rintro e w2 ⟨v2, rfl, ⟨rc, uc, ps, rfl, hrc, hou, hps, hnd⟩, hE2⟩; have HRC := hid hrc; obtain ⟨Arc, crc, rfl, _⟩ := hrc; have hpl : ps.length = C.units.length := (by rw [← hps, List.length_map]); obtain ⟨gu, cuc, rfl, hgu⟩ := Own.row hou (by omega); have hgu2 := (Own.lt hou gu rfl).2; have hz1 := obj_lt G12.out; have ip : (k : Int) < (ps.length : Int) := (by omega); clear hpl; have HOU := hid (OUV.low hou HE1.out.size); have HPS := hid hps; have HND := hid hnd; have hEE := hE2.trans (Ext.alloc w2 (.cells #[.slice Arc C.room.length crc, .slice (some ⟨gu, 0, none⟩) ps.length cuc] 26)); have G21 := hid (hEE.obj G11.out); have G22 := hid (hEE.obj G12.out); have Q2 := hid (heap_alloc_new w2 (.cells #[.slice Arc C.room.length crc, .slice (some ⟨gu, 0, none⟩) ps.length cuc] 26)); have b0 := obj_cell G21.out (i := 0) rfl; have b1 := obj_cell G21.out (i := 1) rfl; have HE2 := hid (HE1.out.trans hEE); clear hou hps hnd hE2 hEE)
      | (go_at_call 38; refine (sIn _ _ _ _).mono ?_; rintro e w3 ⟨rfl, n3, hw3⟩; rw [h2]; have hE3 : Ext (w2.alloc (.cells #[.slice Arc C.room.length crc, .slice (some ⟨gu, 0, none⟩) ps.length cuc] 26)) w3 := (by rw [hw3]; exact Ext.drewN _ _); have G31 := hid (hE3.obj G21.out); have G32 := hid (hE3.obj G22.out); have Q3 := hid (hE3.obj Q2.out); have b0 := obj_cell G31.out (i := 0) rfl; have b1 := obj_cell G31.out (i := 1) rfl; have HE3 := hid (HE2.out.trans hE3); have HR3 := hid (RI.ext (RI.ext HRC.out (Ext.alloc _ _)) hE3); have HO3 := hid (Own.ext (EUV.ok _) (Own.ext (EUV.ok _) HOU.out (Ext.alloc _ _)) hE3); have cu0 := HE3.out.cell cq0; have cu1 := HE3.out.cell cq1; obtain ⟨vk, hpk⟩ := at_fst HPS.out ex.out; obtain ⟨cx, fx⟩ := OUV.at_ HO3.out hpk; have HPK := hid hpk; have d1 := obj_cell Q3.out (i := 1) rfl; have P5 := obj_far G32.out (p := ⟨gu, k * 2, none⟩) (by show w.heap.size + 1 ≠ gu; omega) (.bool op); have Q5 := obj_far Q3.out (p := ⟨gu, k * 2, none⟩) (by show w2.heap.size ≠ gu; omega) (.bool op); obtain ⟨e0, e1, y0, y1, y0f, y1f, k1, k1f, r0, r1, hsm⟩ := res2 P5 Q5; have HSM := hid hsm; have HS5 := hid (OUV.set0 HO3.out hpk op); clear P5 Q5 hpk; clear hw3 hE3 hsm))
          refine bodyPost_ret (v := .tuple #[.agg #[.slice Arc C.room.length crc, .slice (some ⟨gu, 0, none⟩) ps.length cuc], .int .i64 0]) (by simp [results, Try.results58, go_sem, r0, r1]) rfl ?_
          rw [HC.out]
          have hle := HE1.out.size
          exact ⟨_, rfl, ⟨_, _, ps.set k (⟨op, x.tasks⟩, vk), rfl, RI.same (RI.same HR3.out (HS5.out.2.mono (by rintro t rfl; decide))) (HSM.out _ (by rintro t rfl; decide)), Own.same (EUV.ok _) HS5.out.1 (HSM.out _ notClu), (by rw [List.map_set, HPS.out]), (by rw [blocksOf_set HPK.out]; exact HND.out)⟩, Below.setCell (Below.setCell (Below.setCell HE3.out (by show w.heap.size ≤ gu; omega) _) (Nat.le_succ _) _) (Nat.le_succ _) _⟩
    · have h2 : inB node 0 ((C.units.length : Int) - 1) = false := by simpa using h2
      have HC : Hid (openC C node op = (C, 4)) := hid (by unfold openC; rw [h1, h2]; rfl)
      go_enter Try.func58, Try.ntmps58
      go_wp2_with (first
      | (go_at_call 37; refine (sClusterValid _ C _ H0.out hl hfl).mono ?_; rintro e w1 ⟨rfl, hE1⟩; rw [h1]; have H1 := hid (H0.out.ext hE1); have G11 := hid (hE1.obj G1.out); have G12 := hid (hE1.obj G2.out); have b0 := obj_cell G11.out (i := 0) rfl; have b1 := obj_cell G11.out (i := 1) rfl; have HE1 := hid (HX.out.trans hE1); clear hE1)
      | (go_at_call 84; refine (sCopy21 _ C _ H1.out hl (clus_small h1).1 (clus_small h1).2).mono ?_; rintro e w2 ⟨v2, rfl, ⟨rc, uc, ps, rfl, hrc, hou, hps, hnd⟩, hE2⟩; have HRC := hid hrc; obtain ⟨Arc, crc, rfl, _⟩ := hrc; obtain ⟨Auc, cuc, rfl, _⟩ := hou.form; have HOU := hid (OUV.low hou HE1.out.size); have HPS := hid hps; have HND := hid hnd; have hEE := hE2.trans (Ext.alloc w2 (.cells #[.slice Arc C.room.length crc, .slice Auc ps.length cuc] 26)); have G21 := hid (hEE.obj G11.out); have G22 := hid (hEE.obj G12.out); have Q2 := hid (heap_alloc_new w2 (.cells #[.slice Arc C.room.length crc, .slice Auc ps.length cuc] 26)); have b0 := obj_cell G21.out (i := 0) rfl; have b1 := obj_cell G21.out (i := 1) rfl; have HE2 := hid (HE1.out.trans hEE); clear hou hps hnd hE2 hEE)
      | (go_at_call 38; refine (sIn _ _ _ _).mono ?_; rintro e w3 ⟨rfl, n3, hw3⟩; rw [h2]; have hE3 : Ext (w2.alloc (.cells #[.slice Arc C.room.length crc, .slice Auc ps.length cuc] 26)) w3 := (by rw [hw3]; exact Ext.drewN _ _); have G31 := hid (hE3.obj G21.out); have G32 := hid (hE3.obj G22.out); have Q3 := hid (hE3.obj Q2.out); have b0 := obj_cell G31.out (i := 0) rfl; have b1 := obj_cell G31.out (i := 1) rfl; have HE3 := hid (HE2.out.trans hE3); have HR3 := hid (RI.ext (RI.ext HRC.out (Ext.alloc _ _)) hE3); have HO3 := hid (Own.ext (EUV.ok _) (Own.ext (EUV.ok _) HOU.out (Ext.alloc _ _)) hE3); obtain ⟨e0, e1, y0, y1, y0f, y1f, k1, k1f, r0, r1, hsm⟩ := res2 G32.out Q3.out; have HSM := hid hsm; clear hw3 hE3 hsm))
      refine bodyPost_ret (v := .tuple #[.agg #[.slice Arc C.room.length crc, .slice Auc ps.length cuc], .int .i64 4]) (by simp [results, Try.results58, go_sem, r0, r1]) rfl ?_
      rw [HC.out]
      exact ⟨_, rfl, ⟨_, _, ps, rfl, RI.same HR3.out (HSM.out _ (by rintro t rfl; decide)), Own.same (EUV.ok _) HO3.out (HSM.out _ notClu), HPS.out, HND.out⟩, Below.setCell (Below.setCell HE3.out (Nat.le_succ _) _) (Nat.le_succ _) _⟩
  · have h1 : clusOk C = false := by simpa using h1
    have HC : Hid (openC C node op = (⟨[], []⟩, 1)) := hid (by unfold openC; rw [h1]; rfl)
    go_enter Try.func58, Try.ntmps58
    go_wp2_with (go_at_call 37; refine (sClusterValid _ C _ H0.out hl hfl).mono ?_; rintro e w1 ⟨rfl, hE1⟩; rw [h1]; obtain ⟨_, _, y0, y1, y0f, y1f, k1, k1f, r0, r1, hsm⟩ := res2 (hE1.obj G2.out) (hE1.obj G2.out); have HE1 := hid hE1; clear hE1 hsm)
    refine bodyPost_ret (v := .tuple #[.agg #[.slice none 0 0, .slice none 0 0], .int .i64 1]) (by simp [results, Try.results58, go_sem, r0, r1]) rfl ?_
    rw [HC.out]
    exact ⟨_, rfl, OCl.zero _ _, Below.setCell (Below.setCell (HX.out.trans HE1.out) (Nat.le_succ _) _) (Nat.le_succ _) _⟩

end Go.Proofs.Ytcfpilkhjpegcaa

/- The reference's place for a task. -/
namespace Go.Proofs.Ytcfpilkhjpegcaa
open Go.RowKit
set_option maxRecDepth 4000

def canC (C : ClusD) (x : TaskD) (op : Bool) (u : UnitD) : Bool := u.opened == op && l11fits C.room u.tasks x
/-- the first node that is open, or closed, and has room -/
def atC (C : ClusD) (x : TaskD) (op : Bool) : Int := idxI (canC C x op) C.units

set_option maxHeartbeats 2000000 in
theorem sAt21 (cv xv : Value) (C : ClusD) (x : TaskD) (op : Bool) (w : World) (h : ClusV w cv C) (hx : TaskV w xv x) (hC : clusOk C = true) (hn : x.need.length = 3 ∧ Bd 1000 x.need) :
    Calls Try.prog 121 #[cv, xv, .bool op] w (RetN w (atC C x op)) := by
  obtain ⟨rv, uv, rfl, hr, hu⟩ := h
  have hr0 := hr
  obtain ⟨Ar, cr, rfl, _⟩ := hr
  obtain ⟨A, c, rfl, hc, hc', hg⟩ := RU.get hu
  have hx0 := hx
  obtain ⟨nv, rfl, hnv⟩ := hx
  obtain ⟨An, cn, rfl, _⟩ := hnv
  obtain ⟨W, hW⟩ : ∃ W, W = (w.alloc (.cells #[.slice Ar C.room.length cr, .slice A C.units.length c] 26)).alloc (.cells #[.int .i64 x.id, .slice An x.need.length cn] 80) := ⟨_, rfl⟩
  have hEW : Ext w W := by rw [hW]; exact (Ext.alloc _ _).trans (Ext.alloc _ _)
  have g1 : W.heap[w.heap.size]? = some (.cells #[.slice Ar C.room.length cr, .slice A C.units.length c] 26 (0, 0)) := by rw [hW]; exact (Ext.alloc _ _).obj (heap_alloc_new w _)
  have g2 : W.heap[w.heap.size + 1]? = some (.cells #[.int .i64 x.id, .slice An x.need.length cn] 80 (0, 0)) := by rw [hW]; exact heap_new (by simp)
  have KC : Hid (∀ w', Ext W w' → w'.cell? ⟨w.heap.size, 0, none⟩ = some (.slice Ar C.room.length cr) ∧ w'.cell? ⟨w.heap.size, 1, none⟩ = some (.slice A C.units.length c) ∧ w'.cell? ⟨w.heap.size + 1, 0, none⟩ = some (.int .i64 x.id) ∧ w'.cell? ⟨w.heap.size + 1, 1, none⟩ = some (.slice An x.need.length cn)) :=
    hid fun w' hw => ⟨obj_cell (hw.obj g1) (i := 0) rfl, obj_cell (hw.obj g1) (i := 1) rfl, obj_cell (hw.obj g2) (i := 0) rfl, obj_cell (hw.obj g2) (i := 1) rfl⟩
  have HX := hid (hx0.ext hEW)
  have HR := hid (hr0.ext hEW)
  have HEW := hid hEW
  have HC := hid hC
  have HN := hid hn
  clear hr0 hx0 hu g1 g2 hEW hC hn
  go_enter Try.func121, Try.ntmps121
  go_wp2
  rw [← hW]
  clear hW
  go_loopw [7] (fun i wr => ∃ k : Nat, k ≤ C.units.length ∧ i = .int .i64 k ∧ Hid (∀ (j : Nat) y, j < k → C.units[j]? = some y → canC C x op y = false) ∧ Ext W wr) (fun i _ => C.units.length - (intOf i).toNat)
  case atStart => exact ⟨0, Nat.zero_le _, rfl, fun j y hj => absurd hj (by omega), Ext.refl _⟩
  case round =>
    obtain ⟨k, hk, rfl, H, hE⟩ := hrel
    obtain ⟨a0, a1, a2, a3⟩ := KC.out _ hE
    by_cases hlt : k < C.units.length
    · obtain ⟨b, o, u, Au, cu, rfl, e, c1, c2, hu⟩ := hg k hlt
      have i1 : (k : Int) < (C.units.length : Int) := by omega
      have i0 : (0 : Int) ≤ (k : Int) := by omega
      have c1r := (HEW.out.trans hE).cell c1
      have c2r := (HEW.out.trans hE).cell c2
      by_cases h3 : (u.opened == op) = true
      · have HU := hid (RT.ext hu (HEW.out.trans hE))
        have hgu := hid (clusOk_unit HC.out (List.mem_of_getElem? e.out)).1
        have KH : Hid (∀ w', Ext wr w' → w'.cell? ⟨w.heap.size, 0, none⟩ = some (.slice Ar C.room.length cr) ∧ w'.cell? ⟨w.heap.size, 1, none⟩ = some (.slice (some ⟨b, o, none⟩) C.units.length c) ∧ w'.cell? ⟨w.heap.size + 1, 0, none⟩ = some (.int .i64 x.id) ∧ w'.cell? ⟨w.heap.size + 1, 1, none⟩ = some (.slice An x.need.length cn) ∧ w'.cell? ⟨b, o + k * 2, none⟩ = some (.bool u.opened) ∧ w'.cell? ⟨b, o + k * 2 + 1, none⟩ = some (.slice Au u.tasks.length cu) ∧ Ext wr w') :=
          hid fun w' hw => ⟨hw.cell a0, hw.cell a1, hw.cell a2, hw.cell a3, hw.cell c1r, hw.cell c2r, hw⟩
        clear c1 c2 hu
        go_wp2
        go_region_held3 (fun w' => w'.cell? ⟨w.heap.size, 0, none⟩ = some (.slice Ar C.room.length cr) ∧ w'.cell? ⟨w.heap.size, 1, none⟩ = some (.slice (some ⟨b, o, none⟩) C.units.length c) ∧ w'.cell? ⟨w.heap.size + 1, 0, none⟩ = some (.int .i64 x.id) ∧ w'.cell? ⟨w.heap.size + 1, 1, none⟩ = some (.slice An x.need.length cn) ∧ w'.cell? ⟨b, o + k * 2, none⟩ = some (.bool u.opened) ∧ w'.cell? ⟨b, o + k * 2 + 1, none⟩ = some (.slice Au u.tasks.length cu) ∧ Ext wr w')
          (first | exact KH.out _ (by assumption) | exact KH.out _ (Below.drew (Below.refl _ _)))
          ((go_at_call 132; refine (sL11Fits _ _ _ C.room u.tasks x _ (HR.out.ext (hE.trans (Below.drew (Below.refl _ _)))) (RT.ext HU.out (Below.drew (Below.refl _ _))) (HX.out.ext (hE.trans (Below.drew (Below.refl _ _)))) (vecOk_len (roomOk_vec (clusOk_room HC.out))) hgu.out HN.out).mono ?_; rintro e2 w2 ⟨rfl, hE2⟩; have h02 : Ext wr w2 := Ext.trans (Below.drew (Below.refl _ _)) hE2))
        by_cases h4 : l11fits C.room u.tasks x = true
        · have hcan : canC C x op u = true := by unfold canC; rw [h3, h4]; rfl
          rw [h4]
          go_wp2
          go_ret
          exact ⟨ret_i (idxI_hit e.out hcan H.out).symm, HEW.out.trans (hE.trans h02)⟩
        · have h4 : l11fits C.room u.tasks x = false := by simpa using h4
          have hcan : canC C x op u = false := by unfold canC; rw [h4, Bool.and_false]
          rw [h4]
          go_wp2
          go_roundw
          case rel => exact ⟨k + 1, by omega, by go_num, idx_more e.out hcan H.out, hE.trans h02⟩
          case measure => simp [intOf]; omega
      · have h3 : (u.opened == op) = false := by simpa using h3
        have hcan : canC C x op u = false := by unfold canC; rw [h3, Bool.false_and]
        clear c1 c2 hu
        go_wp2
        go_quiet (fail)
        go_wp2
        go_roundw
        case rel => exact ⟨k + 1, by omega, by go_num, idx_more e.out hcan H.out, hE.trans (Ext.drewN _ _)⟩
        case measure => simp [intOf]; omega
    · go_wp2
      go_ret
      have hk' : k = C.units.length := by omega
      subst hk'
      exact ⟨ret_i (idxI_miss fun j y hj => H.out j y (List.getElem?_eq_some_iff.1 hj).1 hj).symm, HEW.out.trans hE⟩

end Go.Proofs.Ytcfpilkhjpegcaa

/- Rows of the call's own while another block is written. -/
namespace Go.Proofs.Ytcfpilkhjpegcaa
open Go.RowKit
set_option maxRecDepth 4000

theorem Own.far {α : Type} {e : TypeId} {size : Nat} {E : Enc α} {w w' : World} {base : Nat} {v : Value} {xs : List α} (h : Own e size E w base v xs) (hb : ∀ k, v.ownBlock = some k → w'.heap[k]? = w.heap[k]?) (hE : ∀ cs x, x ∈ xs → E w cs x → E w' cs x) : Own e size E w' base v xs := by
  obtain ⟨cells, ho, hc⟩ := h
  refine ⟨cells, ⟨ho.1, ?_⟩, hc.1, fun j x hx => ?_⟩
  · rcases ho.2 with h0 | ⟨g, cap, cur, hv, hg, hh, r⟩
    · exact .inl h0
    · exact .inr ⟨g, cap, cur, hv, hg, (hb g (by rw [hv]; rfl)).trans hh, r⟩
  · obtain ⟨cs, hl, he, hu⟩ := hc.2 j x hx
    exact ⟨cs, hl, hE cs x (List.mem_of_getElem? hx) he, hu⟩
theorem OT.far {w w' : World} {base : Nat} {v : Value} {ts : List TaskD} (h : OT w base v ts) (hb : ∀ k, v.ownBlock = some k → w'.heap[k]? = w.heap[k]?) (hs : SameT (fun t => t = 3) w w') : OT w' base v ts :=
  Own.far h hb (fun cs x _ he => ET.ok w w' cs x he (hs.mono (fun _ ht => ht)))
/-- the units' row as it was, each list of tasks in a block that is as it was -/
theorem OUV.far {w w' : World} {base : Nat} {v : Value} {ps : List (UnitD × Value)} (h : OUV w base v ps) (hb : ∀ k, v.ownBlock = some k → w'.heap[k]? = w.heap[k]?) (hg : ∀ g ∈ blocksOf ps, w'.heap[g]? = w.heap[g]?) (hs : SameT (fun t => t = 3) w w') : OUV w' base v ps :=
  Own.far h hb (fun _ p hp ⟨he, ht⟩ => ⟨he, OT.far ht (fun k hk => hg k (List.mem_filterMap.2 ⟨p, hp, hk⟩)) hs⟩)
end Go.Proofs.Ytcfpilkhjpegcaa

/- The reference takes a task out of nodes. -/
namespace Go.Proofs.Ytcfpilkhjpegcaa
open Go.RowKit
set_option maxRecDepth 4000

/-- a node's tasks and their value, a row of the call's own -/
def EBV (base : Nat) : Enc (List TaskD × Value) := fun w cs p => cs = [p.2] ∧ OT w base p.2 p.1
theorem EBV.ok (base : Nat) : (EBV base).Ok (fun t => t = 80 ∨ t = 3) := fun _ _ _ _ ⟨h, hr⟩ ha => ⟨h, hr.same ET.ok ha⟩
theorem EBV.flat (base : Nat) : (EBV base).Flat := fun _ _ _ ⟨h, hr⟩ u hu => by
  obtain ⟨A, c, hv, _⟩ := hr.form
  rw [h] at hu; simp at hu; subst hu
  rw [hv]; rfl
theorem EBV.ne : ∀ t, (fun t => t = 80 ∨ t = 3) t → t ≠ 42 := EB.ne
def blocksOfB (ps : List (List TaskD × Value)) : List Nat := ps.filterMap fun p => p.2.ownBlock
abbrev OBV (w : World) (base : Nat) (v : Value) (ps : List (List TaskD × Value)) : Prop := Own 42 1 (EBV base) w base v ps
theorem OBV.lt {w : World} {base : Nat} {v : Value} {ps : List (List TaskD × Value)} (h : OBV w base v ps) : ∀ g ∈ blocksOfB ps, base ≤ g ∧ g < w.heap.size := by
  intro g hg
  obtain ⟨p, hp, hb⟩ := List.mem_filterMap.1 hg
  obtain ⟨cells, _, hc⟩ := h
  obtain ⟨k, hk⟩ := List.getElem?_of_mem hp
  obtain ⟨cs, _, he, _⟩ := hc.2 k p hk
  exact he.2.lt g hb
theorem OBV.far {w w' : World} {base : Nat} {v : Value} {ps : List (List TaskD × Value)} (h : OBV w base v ps) (hb : ∀ k, v.ownBlock = some k → w'.heap[k]? = w.heap[k]?) (hg : ∀ g ∈ blocksOfB ps, w'.heap[g]? = w.heap[g]?) (hs : SameT (fun t => t = 3) w w') : OBV w' base v ps :=
  Own.far h hb (fun _ p hp ⟨he, ht⟩ => ⟨he, OT.far ht (fun k hk => hg k (List.mem_filterMap.2 ⟨p, hp, hk⟩)) hs⟩)
theorem OBV.read {w : World} {base : Nat} {v : Value} {ps : List (List TaskD × Value)} (h : OBV w base v ps) : RB w v (ps.map (·.1)) :=
  (Own.read h).map fun _ p ⟨h1, h2⟩ => ⟨p.2, h1, h2.read⟩

/-- what the walk over nodes keeps -/
structure TS (id : Int) (w wr : World) (v : Value) (ps : List (List TaskD × Value)) (bl : List (List TaskD)) (x : TaskD) (An : Option Addr) (cn : Nat) : Prop where
  own : OBV wr (w.heap.size + 1) v ps
  map : ps.map (·.1) = bl.map (takeL id)
  nd : (blocksOfB ps).Nodup
  hi : ∀ g ∈ blocksOfB ps, w.heap.size + 2 < g
  row : ∀ g, v.ownBlock = some g → g ≠ w.heap.size + 2
  box : wr.heap[w.heap.size + 2]? = some (.cells #[.int .i64 x.id, .slice An x.need.length cn] 80 (0, 0))
  rd : RI wr (.slice An x.need.length cn) x.need
  zero : wr.heap[w.heap.size]? = some (.cells #[.int .i64 0, .slice none 0 0] 80 (0, 0))
  ext : Ext w wr
/-- the row of the node under way -/
structure TB (id : Int) (w wr : World) (v9 : Value) (ts : List TaskD) (ps : List (List TaskD × Value)) : Prop where
  own : OT wr (w.heap.size + 1) v9 (takeL id ts)
  hi : ∀ g, v9.ownBlock = some g → w.heap.size + 2 < g ∧ g ∉ blocksOfB ps

theorem TS.size {id : Int} {w wr : World} {v : Value} {ps : List (List TaskD × Value)} {bl : List (List TaskD)} {x : TaskD} {An : Option Addr} {cn : Nat} (h : TS id w wr v ps bl x An cn) : w.heap.size + 2 < wr.heap.size := obj_lt h.box
theorem TS.ext_ {id : Int} {w wr w' : World} {v : Value} {ps : List (List TaskD × Value)} {bl : List (List TaskD)} {x : TaskD} {An : Option Addr} {cn : Nat} (h : TS id w wr v ps bl x An cn) (ha : Ext wr w') : TS id w w' v ps bl x An cn :=
  ⟨h.own.ext (EBV.ok _) ha, h.map, h.nd, h.hi, h.row, ha.obj h.box, h.rd.ext ha, ha.obj h.zero, h.ext.trans ha⟩
theorem TB.ext_ {id : Int} {w wr w' : World} {v9 : Value} {ts : List TaskD} {ps : List (List TaskD × Value)} (h : TB id w wr v9 ts ps) (ha : Ext wr w') : TB id w w' v9 ts ps := ⟨h.own.ext ET.ok ha, h.hi⟩
/-- the variable takes a task -/
theorem TS.store {id : Int} {w wr : World} {v : Value} {ps : List (List TaskD × Value)} {bl : List (List TaskD)} {x y : TaskD} {An Am : Option Addr} {cn cm : Nat} (h : TS id w wr v ps bl x An cn) (hy : RI wr (.slice Am y.need.length cm) y.need) :
    TS id w ((wr.setCell ⟨w.heap.size + 2, 0, none⟩ (.int .i64 y.id)).setCell ⟨w.heap.size + 2, 1, none⟩ (.slice Am y.need.length cm)) v ps bl y Am cm := by
  have hb : ∀ k, k ≠ w.heap.size + 2 → ((wr.setCell ⟨w.heap.size + 2, 0, none⟩ (.int .i64 y.id)).setCell ⟨w.heap.size + 2, 1, none⟩ (.slice Am y.need.length cm)).heap[k]? = wr.heap[k]? := fun k hk => (Below.heap_setCell _ _ _ _ hk).trans (Below.heap_setCell _ _ _ _ hk)
  have hs : SameT (fun t => t = 3) wr ((wr.setCell ⟨w.heap.size + 2, 0, none⟩ (.int .i64 y.id)).setCell ⟨w.heap.size + 2, 1, none⟩ (.slice Am y.need.length cm)) :=
    (SameT.setCell (p := ⟨w.heap.size + 2, 0, none⟩) h.box _ (by rintro t rfl; decide)).trans (SameT.setCell (p := ⟨w.heap.size + 2, 1, none⟩) (obj_set h.box 0 _) _ (by rintro t rfl; decide))
  exact ⟨OBV.far h.own (fun k hk => hb k (h.row k hk)) (fun g hg => hb g (by have := h.hi g hg; omega)) hs, h.map, h.nd, h.hi, h.row, obj_set2 h.box _ _, RI.same hy hs, (hb _ (by omega)).trans h.zero, Below.setCell (Below.setCell h.ext (by show w.heap.size ≤ w.heap.size + 2; omega) _) (by show w.heap.size ≤ w.heap.size + 2; omega) _⟩
theorem TB.store {id : Int} {w wr : World} {v : Value} {ps : List (List TaskD × Value)} {bl : List (List TaskD)} {x y : TaskD} {An Am : Option Addr} {cn cm : Nat} (h : TS id w wr v ps bl x An cn) {v9 : Value} {ts : List TaskD} (hb : TB id w wr v9 ts ps) :
    TB id w ((wr.setCell ⟨w.heap.size + 2, 0, none⟩ (.int .i64 y.id)).setCell ⟨w.heap.size + 2, 1, none⟩ (.slice Am y.need.length cm)) v9 ts ps :=
  ⟨OT.far hb.own (fun k hk => have hne : k ≠ w.heap.size + 2 := by have := (hb.hi k hk).1; omega
    (Below.heap_setCell _ _ _ _ hne).trans (Below.heap_setCell _ _ _ _ hne))
    ((SameT.setCell (p := ⟨w.heap.size + 2, 0, none⟩) h.box _ (by rintro t rfl; decide)).trans (SameT.setCell (p := ⟨w.heap.size + 2, 1, none⟩) (obj_set h.box 0 _) _ (by rintro t rfl; decide))), hb.hi⟩
/-- the node's row grows -/
theorem TS.grown {id : Int} {w wr w2 : World} {v : Value} {ps : List (List TaskD × Value)} {bl : List (List TaskD)} {x : TaskD} {An : Option Addr} {cn : Nat} (h : TS id w wr v ps bl x An cn) {v9 : Value} {ts : List TaskD} (hb : TB id w wr v9 ts ps) (hg : wr.grownBy w2 v9.ownBlock) (hs : SameT (fun t => t ≠ 80) wr w2) : TS id w w2 v ps bl x An cn := by
  have hk : ∀ k, k < wr.heap.size → v9.ownBlock ≠ some k → w2.heap[k]? = wr.heap[k]? := fun k hk hne => hg.block k hk (fun he => hne he.symm)
  have hz := h.size
  refine ⟨OBV.far h.own (fun k hk' => ?_) (fun g hg' => hk g (OBV.lt h.own g hg').2 (fun he => (hb.hi g he).2 hg')) (hs.mono (by rintro t rfl; decide)), h.map, h.nd, h.hi, h.row, (hk _ hz (fun he => by have := (hb.hi _ he).1; omega)).trans h.box, RI.same h.rd (hs.mono (by rintro t rfl; decide)), (hk _ (by omega) (fun he => by have := (hb.hi _ he).1; omega)).trans h.zero, ?_⟩
  · obtain ⟨cells, ho, _⟩ := h.own
    rcases ho.2 with ⟨h1, _⟩ | ⟨g, cap, cur, hv, _, hh, _⟩
    · rw [h1] at hk'; simp [Value.ownBlock] at hk'
    · have hgk : g = k := by rw [hv] at hk'; simpa [Value.ownBlock] using hk'
      subst hgk
      rw [hs g cur _ _ (by decide) hh, hh]
  · exact Below.grown h.ext hg h.ext.size (fun k hk' => by have := (hb.hi k hk').1; omega)
end Go.Proofs.Ytcfpilkhjpegcaa

/- The reference takes a task out of nodes: the walk. -/
namespace Go.Proofs.Ytcfpilkhjpegcaa
open Go.RowKit
set_option maxRecDepth 4000

set_option maxHeartbeats 4000000 in
theorem sTake (v : Value) (bs : List (List TaskD)) (id : Int) (w : World) (h : RB w v bs) (hl : bs.length ≤ 4000000) (hb : ∀ b ∈ bs, b.length ≤ 4000000) :
    Calls Try.prog 86 #[v, .int .i64 id] w fun e w' => ∃ bv ps A c, e = .returned (.tuple #[bv, .agg #[.int .i64 (lastL id bs.flatten).id, .slice A (lastL id bs.flatten).need.length c]]) ∧
      OBV w' (w.heap.size + 1) bv ps ∧ ps.map (·.1) = bs.map (takeL id) ∧ (blocksOfB ps).Nodup ∧ RI w' (.slice A (lastL id bs.flatten).need.length c) (lastL id bs.flatten).need ∧ Ext w w' := by
  obtain ⟨A, c, rfl, hc, hc', hr⟩ := RB.get h
  clear h
  obtain ⟨i0_task, hi0_task, hz0_task, hz1_task, hz2_task⟩ := info_parts info_task
  obtain ⟨i0_bin, hi0_bin, hz0_bin, hz1_bin, hz2_bin⟩ := info_parts info_bin
  go_enter Try.func86, Try.ntmps86
  go_wp2
  go_loopw [6, 8] (fun o i wr => ∃ (u : Value) (k : Nat) (ps : List (List TaskD × Value)) (Ax : Option Addr) (cx : Nat), u = o ∧ k ≤ bs.length ∧ i = .int .i64 k ∧ Hid (TS id w wr u ps (bs.take k) (lastL id (bs.take k).flatten) Ax cx)) (fun _ i _ => bs.length - (intOf i).toNat)
  case atStart =>
    refine ⟨_, 0, [], none, 0, rfl, Nat.zero_le _, rfl, hid ⟨?_, rfl, List.nodup_nil, fun g hg => by simp [blocksOfB] at hg, fun g hg => ?_, heap_new (by simp), RSl.nil_ _ _ _ _ _ _ (by omega), ?_, ?_⟩⟩
    · exact (Own.madeAt (w := w.alloc (.cells #[.int .i64 0, .slice none 0 0] 80)) #[] 0 (w.heap.size + 1) (by simp) (Nat.le_refl _) (by omega) rfl).ext (EBV.ok _) (Ext.alloc _ _)
    · simp [Value.ownBlock] at hg; omega
    · exact (Ext.alloc _ _).obj ((Ext.alloc _ _).obj (heap_alloc_new w _))
    · exact ((Ext.alloc _ _).trans (Ext.alloc _ _)).trans (Ext.alloc _ _)
  case round =>
    obtain ⟨u, k, ps, Ax, cx, hou, hk, rfl, H⟩ := hrel
    subst hou
    by_cases hlt : k < bs.length
    · obtain ⟨b, o, bin, An, cn, rfl, e, c1, hbin⟩ := hr k hlt
      obtain ⟨A2, c2, hv2, _, _, hgt⟩ := RT.get hbin
      injection hv2 with ea _ ec
      subst ea ec
      have i1 : (k : Int) < (bs.length : Int) := by omega
      have c1r := H.out.ext.cell c1
      have HBL := hid (hb bin (List.mem_of_getElem? e.out))
      go_wp2
      go_loopw [9, 10] (fun b9 j w2 => ∃ (v9 : Value) (m : Nat) (Ay : Option Addr) (cy : Nat), v9 = b9 ∧ m ≤ bin.length ∧ j = .int .i64 m ∧ Hid (TS id w w2 u ps (bs.take k) (lastL id ((bs.take k).flatten ++ bin.take m)) Ay cy ∧ TB id w w2 v9 (bin.take m) ps)) (fun _ j _ => bin.length - (intOf j).toNat)
      case atStart =>
        refine ⟨_, 0, Ax, cx, rfl, Nat.zero_le _, rfl, hid ⟨by rw [List.take_zero, List.append_nil]; exact H.out.ext_ (Ext.alloc _ _), ⟨Own.madeAt #[] 0 _ rfl (by have := H.out.size; omega) (by omega) rfl, fun g hg => ?_⟩⟩⟩
        have hge : g = wr.heap.size := by simp [Value.ownBlock] at hg; exact hg.symm
        exact ⟨by have := H.out.size; omega, fun hm => by have := (OBV.lt H.out.own g hm).2; omega⟩
      case round =>
        obtain ⟨v9, m, Ay, cy, hv9, hm, rfl, HH⟩ := hrel
        subst hv9
        by_cases hmt : m < bin.length
        · obtain ⟨b2, o2, x, Anx, cnx, rfl, e2, d1, d2, hnx⟩ := hgt m hmt
          have j1 : (m : Int) < (bin.length : Int) := by omega
          have c1x := HH.out.1.ext.cell c1
          have d1x := HH.out.1.ext.cell d1
          have d2x := HH.out.1.ext.cell d2
          have HNX := hid (RI.ext hnx HH.out.1.ext)
          by_cases h3 : (x.id == id) = true
          · have q0 := obj_cell HH.out.1.box (i := 0) rfl
            have q1 := obj_cell HH.out.1.box (i := 1) rfl
            have f0 := obj_frozen HH.out.1.box 0
            have f1 := obj_frozen HH.out.1.box 1
            have kk := obj_set HH.out.1.box 0 (.int .i64 x.id)
            have k1 := obj_cell kk (i := 1) rfl
            have k1f := obj_frozen kk 1
            clear kk d1 d2 hnx
            go_wp2
            go_roundw
            case rel =>
              have hb2 := TB.store (y := x) (Am := Anx) (cm := cnx) HH.out.1 HH.out.2
              exact ⟨_, m + 1, Anx, cnx, rfl, by omega, by go_num, hid ⟨by rw [take_snoc e2.out, ← List.append_assoc, lastL_snoc, if_pos h3]; exact TS.store HH.out.1 HNX.out, ⟨by rw [take_snoc e2.out, takeL_snoc, if_pos h3]; exact hb2.own, hb2.hi⟩⟩⟩
            case measure => simp [intOf]; omega
          · have h3 : (x.id == id) = false := by simpa using h3
            have HB2 := hid (HH.out.2.ext_ (Ext.alloc wr (.cells #[.int .i64 x.id, .slice Anx x.need.length cnx] 80)))
            have HT2 := hid (HH.out.1.ext_ (Ext.alloc wr (.cells #[.int .i64 x.id, .slice Anx x.need.length cnx] 80)))
            have HLT : Hid ((takeL id (bin.take m)).length ≤ 4000000) := hid (Nat.le_trans (List.length_filter_le _ _) (Nat.le_trans (List.length_take_le' m bin) HBL.out))
            have hz2 := HH.out.1.size
            clear d1 d2 hnx
            go_wp2_with (at_builtin; refine wpList_append_sl _ (by rfl) _ _ 42 (by rfl) ET.ok ET.flat (w.heap.size + 1) 80 ET.ne i0_task _ 2 32 Try.underlying42 hi0_task hz0_task hz1_task hz2_task rfl (by omega) _ (by rfl) _ (HB2.out.own) _ (by rfl) _ (RSl.laid (cs := [.int .i64 x.id, .slice Anx x.need.length cnx]) (heap_alloc_new _ _) rfl ⟨_, rfl, RI.ext HNX.out (Ext.alloc _ _)⟩) (by have := HLT.out; simp; omega) (by have := HLT.out; simp; omega) ?_ ?_; (focus (first | exact Nat.le_refl _ | (simp; done) | (simp; omega) | omega)); intro v10 w3 hO hg hat hs; have HO := hid hO; have HG := hid hg; have HAT := hid hat; have HS := hid hs; clear hO hg hat hs)
            go_roundw
            case rel =>
              refine ⟨_, m + 1, Ay, cy, rfl, by omega, by go_num, hid ⟨?_, ⟨?_, fun g hgg => ?_⟩⟩⟩
              · rw [take_snoc e2.out, ← List.append_assoc, lastL_snoc, h3]
                exact TS.grown HT2.out HB2.out HG.out HS.out
              · rw [take_snoc e2.out, takeL_snoc, h3]
                exact HO.out
              · rcases HAT.out with ha | ha
                · exact HB2.out.hi g (by rw [← ha]; exact hgg)
                · rw [ha] at hgg
                  have hge : g = wr.heap.size + 1 := by injection hgg with hgg; rw [← hgg]; simp
                  exact ⟨by omega, fun hm => by have := (OBV.lt HH.out.1.own g hm).2; omega⟩
            case measure => simp [intOf]; omega
        · have hm' : m = bin.length := by omega
          have j1 : ¬ (m : Int) < (bin.length : Int) := by omega
          have c1x := HH.out.1.ext.cell c1
          have HH1 := HH.out.1
          have HH2 := HH.out.2
          rw [hm', List.take_length] at HH1 HH2
          obtain ⟨A9, c9, rfl, _, _⟩ := HH2.own.form
          have HB2 := hid (HH2.ext_ (Ext.alloc wr (.cells #[.slice A9 (takeL id bin).length c9] 42)))
          have HT2 := hid (HH1.ext_ (Ext.alloc wr (.cells #[.slice A9 (takeL id bin).length c9] 42)))
          have HPL : Hid (ps.length ≤ 4000000) := hid (by have := congrArg List.length HH1.map; simp at this; omega)
          have hz2 := HH1.size
          clear HH1 HH2
          go_wp2_with (at_builtin; refine wpList_append_sl _ (by rfl) _ _ 61 (by rfl) (EBV.ok _) (EBV.flat _) (w.heap.size + 1) 42 EBV.ne i0_bin _ 1 24 Try.underlying61 hi0_bin hz0_bin hz1_bin hz2_bin rfl (by omega) _ (by rfl) _ (HT2.out.own) _ (by rfl) _ (RSl.laid (cs := [.slice A9 (takeL id bin).length c9]) (x := (takeL id bin, .slice A9 (takeL id bin).length c9)) (heap_alloc_new _ _) rfl ⟨rfl, HB2.out.own⟩) (by have := HPL.out; simp; omega) (by have := HPL.out; simp; omega) ?_ ?_; (focus (first | exact Nat.le_refl _ | (simp; done) | (simp; omega) | omega)); intro v4 w4 hO hg hat hs; have HO := hid hO; have HG := hid hg; have HAT := hid hat; have HS := hid hs; clear hO hg hat hs)
          go_roundw
          case rel =>
            refine ⟨_, k + 1, ps ++ [(takeL id bin, .slice A9 (takeL id bin).length c9)], Ay, cy, rfl, by omega, by go_num, hid ?_⟩
            rw [flatten_take_succ e.out]
            refine ⟨HO.out, ?_, ?_, ?_, ?_, HS.out _ _ _ _ (by decide) HT2.out.box, RI.same HT2.out.rd (HS.out.mono (by rintro t rfl; decide)), HS.out _ _ _ _ (by decide) HT2.out.zero, Ext.grown HT2.out.ext HG.out (fun q hq => by have := Own.lt HT2.out.own q hq; exact ⟨by omega, this.2⟩)⟩
            · rw [List.map_append, HT2.out.map, take_snoc e.out, List.map_append]; rfl
            · unfold blocksOfB
              rw [List.filterMap_append]
              refine List.nodup_append.2 ⟨HT2.out.nd, ?_, ?_⟩
              · cases A9 <;> simp [Value.ownBlock]
              · intro a ha b' hb' hab
                subst hab
                have h1 : Value.ownBlock (.slice A9 (takeL id bin).length c9) = some a := by
                  simp only [List.filterMap_cons, List.filterMap_nil] at hb'
                  split at hb'
                  · simp at hb'
                  · rename_i heq
                    simp at hb'
                    rw [heq, hb']
                exact (HB2.out.hi a h1).2 ha
            · intro g hg
              unfold blocksOfB at hg
              rw [List.filterMap_append, List.mem_append] at hg
              rcases hg with hg | hg
              · exact HT2.out.hi g hg
              · obtain ⟨q, hq, hq2⟩ := List.mem_filterMap.1 hg
                simp at hq
                subst hq
                exact (HB2.out.hi g hq2).1
            · intro g hg
              rcases HAT.out with ha | ha
              · exact HT2.out.row g (by rw [← ha]; exact hg)
              · rw [ha] at hg
                injection hg with hg
                have : g = wr.heap.size + 1 := by rw [← hg]; simp
                omega
          case measure => simp [intOf]; omega
    · have hk' : k = bs.length := by omega
      have i1 : ¬ (k : Int) < (bs.length : Int) := by omega
      obtain ⟨Au, cu, rfl, _, _⟩ := H.out.own.form
      have HF : Hid (TS id w wr (.slice Au ps.length cu) ps bs (lastL id bs.flatten) Ax cx) := hid (by have hh := H.out; rw [hk', List.take_length] at hh; exact hh)
      clear hk' H
      obtain ⟨e0, e1, y0, y1, y0f, y1f, k1, k1f, r0, r1, _⟩ := res2 HF.out.zero HF.out.box
      have KS := hid (And.intro e0 e1)
      go_wp2
      refine WG.start (fun w' => w'.cell? ⟨w.heap.size + 2, 0, none⟩ = some (.int .i64 (lastL id bs.flatten).id) ∧ w'.cell? ⟨w.heap.size + 2, 1, none⟩ = some (.slice Ax (lastL id bs.flatten).need.length cx)) [3] (by kernel_rfl) (by exact KS.out) (fun hHeld => ?_)
      (refine WG.take (i := 0) (v := ?_) rfl (by kernel_rfl) (by kernel_rfl) (by kernel_rfl) (by kernel_rfl) (fun _ _ _ h => h) (Or.inl ⟨by rfl, ?_⟩) (by assumption) ?_; rotate_left; (intro w hSw; (try dsimp only at hSw); go_split_ands; go_simp; (try with_reducible rfl)); (try simp only [Act.put, List.setIfInBounds_toArray, List.set_cons_zero, List.set_cons_succ]))
      (refine WG.take (i := 1) (v := ?_) rfl (by kernel_rfl) (by kernel_rfl) (by kernel_rfl) (by kernel_rfl) (fun _ _ _ h => h) (Or.inl ⟨by rfl, ?_⟩) (by assumption) ?_; rotate_left; (intro w hSw; (try dsimp only at hSw); go_split_ands; go_simp; (try with_reducible rfl)); (try simp only [Act.put, List.setIfInBounds_toArray, List.set_cons_zero, List.set_cons_succ]))
      refine WG.one (i := 2) rfl (by kernel_rfl) (fun K hK => ?_)
      go_simp
      refine hK.out _ _ (by exact KS.out) (fun hHeld => ?_)
      clear hK K
      (try simp only [Act.put, List.setIfInBounds_toArray, List.set_cons_zero, List.set_cons_succ])
      refine WG.last (i := 3) rfl (by kernel_rfl) (by kernel_rfl) (fun K hK => ?_)
      go_simp
      refine hK.out _ _ ?_
      clear hK K
      (try simp only [Act.put, List.setIfInBounds_toArray, List.set_cons_zero, List.set_cons_succ])
      refine WG.done (by kernel_rfl) ?_
      go_wp2
      have hh : ∀ j, j ≠ w.heap.size → ((wr.setCell ⟨w.heap.size, 0, none⟩ (.int .i64 (lastL id bs.flatten).id)).setCell ⟨w.heap.size, 1, none⟩ (.slice Ax (lastL id bs.flatten).need.length cx)).drew.heap[j]? = wr.heap[j]? := fun j hj => (Below.heap_setCell _ _ _ _ hj).trans (Below.heap_setCell _ _ _ _ hj)
      have hs : SameT (fun t => t = 3) wr ((wr.setCell ⟨w.heap.size, 0, none⟩ (.int .i64 (lastL id bs.flatten).id)).setCell ⟨w.heap.size, 1, none⟩ (.slice Ax (lastL id bs.flatten).need.length cx)).drew :=
        (SameT.setCell (p := ⟨w.heap.size, 0, none⟩) HF.out.zero _ (by rintro t rfl; decide)).trans (SameT.setCell (p := ⟨w.heap.size, 1, none⟩) (obj_set HF.out.zero 0 _) _ (by rintro t rfl; decide))
      have h1 := OBV.far HF.out.own (fun j hj => hh j (by have := (Own.lt HF.out.own j hj).1; omega)) (fun g hg => hh g (by have := (OBV.lt HF.out.own g hg).1; omega)) hs
      have h2 := RI.same HF.out.rd hs
      have h3 : Ext w ((wr.setCell ⟨w.heap.size, 0, none⟩ (.int .i64 (lastL id bs.flatten).id)).setCell ⟨w.heap.size, 1, none⟩ (.slice Ax (lastL id bs.flatten).need.length cx)).drew := Below.drew (Below.setCell (Below.setCell HF.out.ext (Nat.le_refl _) _) (Nat.le_refl _) _)
      exact (bodyPost_ret (v := .tuple #[.slice Au ps.length cu, .agg #[.int .i64 (lastL id bs.flatten).id, .slice Ax (lastL id bs.flatten).need.length cx]]) (by simp [results, Try.results86, go_sem, r0, r1]) rfl ⟨_, ps, Ax, cx, rfl, h1, HF.out.map, HF.out.nd, h2, h3⟩)

end Go.Proofs.Ytcfpilkhjpegcaa

/- The reference lets a task depart. -/
namespace Go.Proofs.Ytcfpilkhjpegcaa
open Go.RowKit
set_option maxRecDepth 4000

/-- a task departs; the code -/
def departC (C : ClusD) (id : Int) : ClusD × Int :=
  if clusOk C then
    if whereL (C.units.map (·.tasks)) id < 0 then (C, 4)
    else match C.units[(whereL (C.units.map (·.tasks)) id).toNat]? with
      | none => (C, 4)
      | some u => (⟨C.room, C.units.set (whereL (C.units.map (·.tasks)) id).toNat ⟨u.opened, takeL id u.tasks⟩⟩, 0)
  else (⟨[], []⟩, 1)
theorem whereL_lt (bs : List (List TaskD)) (id : Int) : whereL bs id < bs.length := by
  unfold whereL
  split
  · rename_i i h
    rw [List.findIdx?_eq_some_iff_getElem] at h
    have := h.1
    omega
  · omega
theorem whereL_ge (bs : List (List TaskD)) (id : Int) : -1 ≤ whereL bs id := by
  unfold whereL
  split <;> omega
theorem OUV.set1 {w : World} {base g n c : Nat} {ps : List (UnitD × Value)} (h : OUV w base (.slice (some ⟨g, 0, none⟩) n c) ps) {j : Nat} {x : UnitD} {v : Value} (hj : ps[j]? = some (x, v)) (ts : List TaskD) (tv : Value) (ht : OT w base tv ts) :
    OUV (w.setCell ⟨g, j * 2 + 1, none⟩ tv) base (.slice (some ⟨g, 0, none⟩) n c) (ps.set j (⟨x.opened, ts⟩, tv)) ∧ SameT (fun t => t ≠ 44) w (w.setCell ⟨g, j * 2 + 1, none⟩ tv) :=
  Own.set (EUV.ok base) EUV.ne h hj (i := 1) (u := tv) (x' := (⟨x.opened, ts⟩, tv)) (by omega) (fun w' hw cs hl ⟨he, _⟩ => ⟨by rw [he]; rfl, ht.same ET.ok (hw.mono (fun t ht => ht))⟩)
end Go.Proofs.Ytcfpilkhjpegcaa

/- The reference lets a task depart: the walk. -/
namespace Go.Proofs.Ytcfpilkhjpegcaa
open Go.RowKit
set_option maxRecDepth 4000

theorem OUV.at1 {w : World} {base g n c : Nat} {ps : List (UnitD × Value)} (h : OUV w base (.slice (some ⟨g, 0, none⟩) n c) ps) {j : Nat} {x : UnitD} {v : Value} (hj : ps[j]? = some (x, v)) :
    w.cell? ⟨g, j * 2 + 1, none⟩ = some v ∧ w.frozen? ⟨g, j * 2 + 1, none⟩ = false ∧ OT w base v x.tasks ∧ base ≤ g := by
  obtain ⟨A, c', hv, _, _, hg⟩ := RSl.get_ (Own.read h)
  obtain ⟨b, o, y, cs, hA, hy, _, ⟨he, ht⟩, hc⟩ := hg j (List.getElem?_eq_some_iff.1 hj).1
  rw [hj] at hy
  injection hy with hy
  subst hy
  injection hv with h1 h2 h3
  rw [hA] at h1
  injection h1 with h1
  injection h1 with h1 h4 _
  subst h1 h4
  have hcell := hc 1 v (by rw [he]; rfl)
  refine ⟨by simpa [Nat.add_assoc] using hcell, ?_, ht, (Own.lt h g rfl).1⟩
  obtain ⟨cells, ho, _⟩ := h
  rcases ho.2 with ⟨h1, _⟩ | ⟨g', cap, cur, h1, _, hg, _⟩
  · cases h1
  · injection h1 with h1 _ _
    injection h1 with h1
    injection h1 with h1 _ _
    subst h1
    exact obj_frozen hg _
theorem OBV.at0 {w : World} {base g n c : Nat} {ts : List TaskD} {v : Value} (h : OBV w base (.slice (some ⟨g, 0, none⟩) n c) [(ts, v)]) : w.cell? ⟨g, 0, none⟩ = some v ∧ OT w base v ts := by
  obtain ⟨A, c', hv, _, _, hg⟩ := RSl.get_ (Own.read h)
  obtain ⟨b, o, y, cs, hA, hy, _, ⟨he, ht⟩, hc⟩ := hg 0 (by simp)
  simp at hy
  subst hy
  injection hv with h1 h2 h3
  rw [hA] at h1
  injection h1 with h1
  injection h1 with h1 h4 _
  subst h1 h4
  have hcell := hc 0 v (by rw [he]; rfl)
  exact ⟨by simpa using hcell, ht⟩
theorem one_bin {qs : List (List TaskD × Value)} {f : List TaskD → List TaskD} {ts : List TaskD} (h : qs.map (·.1) = [ts].map f) : ∃ tv, qs = [(f ts, tv)] := by
  match qs, h with
  | [], h => simp at h
  | [(a, tv)], h => simp at h; exact ⟨tv, by rw [h]⟩
  | _ :: _ :: _, h => simp at h
theorem blocksOf_mem {ps : List (UnitD × Value)} {k : Nat} {q : UnitD × Value} {y : Nat} (h : y ∈ blocksOf (ps.set k q)) : y ∈ blocksOf ps ∨ q.2.ownBlock = some y := by
  obtain ⟨p, hp, hb⟩ := List.mem_filterMap.1 h
  rcases List.mem_or_eq_of_mem_set hp with hp | rfl
  · exact .inl (List.mem_filterMap.2 ⟨p, hp, hb⟩)
  · exact .inr hb
/-- one row in place of another, in a block that no other has -/
theorem nodup_set : ∀ (ps : List (UnitD × Value)) (k : Nat) (q : UnitD × Value), (blocksOf ps).Nodup → (∀ g, q.2.ownBlock = some g → g ∉ blocksOf ps) → (blocksOf (ps.set k q)).Nodup
  | [], _, _, _, _ => by simp [blocksOf]
  | p :: ps, 0, q, hn, hq => by
    have e : ∀ (p : UnitD × Value) ps, blocksOf (p :: ps) = p.2.ownBlock.toList ++ blocksOf ps := fun p ps => by
      unfold blocksOf
      rw [List.filterMap_cons]
      cases p.2.ownBlock <;> rfl
    rw [e] at hn
    rw [List.set_cons_zero, e]
    have hn2 := (List.nodup_append.1 hn).2.1
    cases hb : q.2.ownBlock with
    | none => simpa using hn2
    | some g =>
      have := hq g hb
      rw [e, List.mem_append, not_or] at this
      simp only [Option.toList_some, List.singleton_append, List.nodup_cons]
      exact ⟨this.2, hn2⟩
  | p :: ps, k + 1, q, hn, hq => by
    have e : ∀ (p : UnitD × Value) ps, blocksOf (p :: ps) = p.2.ownBlock.toList ++ blocksOf ps := fun p ps => by
      unfold blocksOf
      rw [List.filterMap_cons]
      cases p.2.ownBlock <;> rfl
    rw [e] at hn
    rw [List.set_cons_succ, e]
    have hn2 := (List.nodup_append.1 hn).2.1
    have ih := nodup_set ps k q hn2 (fun g hg hm => hq g hg (by rw [e]; exact List.mem_append_right _ hm))
    cases hb : p.2.ownBlock with
    | none => simpa using ih
    | some g =>
      rw [hb] at hn
      simp only [Option.toList_some, List.singleton_append, List.nodup_cons] at hn ⊢
      refine ⟨fun hm => ?_, ih⟩
      rcases blocksOf_mem hm with hm | hm
      · exact hn.1 hm
      · exact hq g hm (by rw [e, hb]; simp)

set_option maxHeartbeats 2000000 in
theorem sClusterDepart (cv : Value) (C : ClusD) (id : Int) (w : World) (h : ClusV w cv C) (hl : C.units.length ≤ 4000000) (hfl : (C.units.map (·.tasks)).flatten.length ≤ 4000000) :
    Calls Try.prog 57 #[cv, .int .i64 id] w (RetOC w (departC C id)) := by
  have h0 := h
  obtain ⟨rv, uv, rfl, hr, hu⟩ := h
  obtain ⟨Ar, cr, rfl, _⟩ := hr
  obtain ⟨A, c, rfl, hc, hc', hg⟩ := RU.get hu
  have hX := (Ext.alloc w (.cells #[.slice Ar C.room.length cr, .slice A C.units.length c] 26)).trans (Ext.alloc _ (.cells #[.slice none 0 0, .slice none 0 0] 26))
  have g1 := (Ext.alloc (w.alloc (.cells #[.slice Ar C.room.length cr, .slice A C.units.length c] 26)) (.cells #[.slice none 0 0, .slice none 0 0] 26)).obj (heap_alloc_new w _)
  have g2 : ((w.alloc (.cells #[.slice Ar C.room.length cr, .slice A C.units.length c] 26)).alloc (.cells #[.slice none 0 0, .slice none 0 0] 26)).heap[w.heap.size + 1]? = some (.cells #[.slice none 0 0, .slice none 0 0] 26 (0, 0)) := heap_new (by simp)
  have b0 := obj_cell g1 (i := 0) rfl
  have b1 := obj_cell g1 (i := 1) rfl
  have HX := hid hX
  have G1 := hid g1
  have G2 := hid g2
  have H0 := hid (h0.ext hX)
  clear hu h0 hX g1 g2
  by_cases h1 : clusOk C = true
  · by_cases h2 : whereL (C.units.map (·.tasks)) id < 0
    · have HC : Hid (departC C id = (C, 4)) := hid (by unfold departC; rw [if_pos h1, if_pos h2])
      go_enter Try.func57, Try.ntmps57
      go_wp2_with (first
      | (go_at_call 37; refine (sClusterValid _ C _ H0.out hl hfl).mono ?_; rintro e w1 ⟨rfl, hE1⟩; rw [h1]; have H1 := hid (H0.out.ext hE1); have G11 := hid (hE1.obj G1.out); have G12 := hid (hE1.obj G2.out); have b0 := obj_cell G11.out (i := 0) rfl; have b1 := obj_cell G11.out (i := 1) rfl; have HE1 := hid (HX.out.trans hE1); clear hE1)
      | (go_at_call 84; refine (sCopy21 _ C _ H1.out hl (clus_small h1).1 (clus_small h1).2).mono ?_; rintro e w2 ⟨v2, rfl, ⟨rc, uc, ps, rfl, hrc, hou, hps, hnd⟩, hE2⟩; have HRC := hid hrc; obtain ⟨Arc, crc, rfl, _⟩ := hrc; obtain ⟨Auc, cuc, rfl, _⟩ := hou.form; have HOU := hid (OUV.low hou HE1.out.size); have HPS := hid hps; have HND := hid hnd; have hEE := hE2.trans (Ext.alloc w2 (.cells #[.slice Arc C.room.length crc, .slice Auc ps.length cuc] 26)); have H2 := hid (H1.out.ext hEE); have G21 := hid (hEE.obj G11.out); have G22 := hid (hEE.obj G12.out); have Q2 := hid (heap_alloc_new w2 (.cells #[.slice Arc C.room.length crc, .slice Auc ps.length cuc] 26)); have b0 := obj_cell G21.out (i := 0) rfl; have b1 := obj_cell G21.out (i := 1) rfl; have HE2 := hid (HE1.out.trans hEE); clear hou hps hnd hE2 hEE)
      | (go_at_call 42; refine (sBins21 _ C _ H2.out hl).mono ?_; rintro e w3 ⟨v3, rfl, hv3, hE3⟩; have HV3 := hid hv3.read; have HE3x := hid hE3; clear hv3 hE3)
      | (go_at_call 85; refine (sWhere _ _ id _ HV3.out).mono ?_; rintro e w4 ⟨rfl, n4, hw4⟩; have hE3 : Ext (w2.alloc (.cells #[.slice Arc C.room.length crc, .slice Auc ps.length cuc] 26)) w4 := HE3x.out.trans (by rw [hw4]; exact Ext.drewN _ _); have G31 := hid (hE3.obj G21.out); have G32 := hid (hE3.obj G22.out); have Q3 := hid (hE3.obj Q2.out); have HE3 := hid (HE2.out.trans hE3); have HR3 := hid (RI.ext (RI.ext HRC.out (Ext.alloc _ _)) hE3); have HO3 := hid (Own.ext (EUV.ok _) (Own.ext (EUV.ok _) HOU.out (Ext.alloc _ _)) hE3); obtain ⟨e0, e1, y0, y1, y0f, y1f, k1, k1f, r0, r1, hsm⟩ := res2 G32.out Q3.out; have HSM := hid hsm; clear hw4 hE3 hsm))
      refine bodyPost_ret (v := .tuple #[.agg #[.slice Arc C.room.length crc, .slice Auc ps.length cuc], .int .i64 4]) (by simp [results, Try.results57, go_sem, r0, r1]) rfl ?_
      rw [HC.out]
      exact ⟨_, rfl, ⟨_, _, ps, rfl, RI.same HR3.out (HSM.out _ (by rintro t rfl; decide)), Own.same (EUV.ok _) HO3.out (HSM.out _ notClu), HPS.out, HND.out⟩, Below.setCell (Below.setCell HE3.out (Nat.le_succ _) _) (Nat.le_succ _) _⟩
    · have hge : 0 ≤ whereL (C.units.map (·.tasks)) id := by omega
      have hltw := whereL_lt (C.units.map (·.tasks)) id
      obtain ⟨k, hk⟩ : ∃ k : Nat, whereL (C.units.map (·.tasks)) id = k := ⟨_, (Int.toNat_of_nonneg hge).symm⟩
      have hkl : k < C.units.length := by rw [hk, List.length_map] at hltw; omega
      obtain ⟨x, ex⟩ : ∃ x, Hid (C.units[k]? = some x) := ⟨_, hid (List.getElem?_eq_getElem hkl)⟩
      have HC : Hid (departC C id = (⟨C.room, C.units.set k ⟨x.opened, takeL id x.tasks⟩⟩, 0)) := hid (by unfold departC; rw [if_pos h1, if_neg h2, hk, Int.toNat_natCast, ex.out])
      have HXT : Hid (x.tasks.length ≤ 4000000) := hid ((clus_small h1).2 x (List.mem_of_getElem? ex.out)).1
      have i0 : ¬ (k : Int) < 0 := by omega
      have i00 : (0 : Int) ≤ (k : Int) := by omega
      clear hge hltw h2
      go_enter Try.func57, Try.ntmps57
      go_wp2_with (first
      | (go_at_call 37; refine (sClusterValid _ C _ H0.out hl hfl).mono ?_; rintro e w1 ⟨rfl, hE1⟩; rw [h1]; have H1 := hid (H0.out.ext hE1); have G11 := hid (hE1.obj G1.out); have G12 := hid (hE1.obj G2.out); have b0 := obj_cell G11.out (i := 0) rfl; have b1 := obj_cell G11.out (i := 1) rfl; have HE1 := hid (HX.out.trans hE1); clear hE1)
      | (go_at_call 84; refine (sCopy21 _ C _ H1.out hl (clus_small h1).1 (clus_small h1).2).mono ?_; rintro e w2 ⟨v2, rfl, ⟨rc, uc, ps, rfl, hrc, hou, hps, hnd⟩, hE2⟩; have HRC := hid hrc; obtain ⟨Arc, crc, rfl, _⟩ := hrc; have hpl : ps.length = C.units.length := (by rw [← hps, List.length_map]); obtain ⟨gu, cuc, rfl, hgu⟩ := Own.row hou (by omega); have hgu2 := (Own.lt hou gu rfl).2; have hz1 := obj_lt G12.out; have ip : (k : Int) < (ps.length : Int) := (by omega); clear hpl; have HOU := hid (OUV.low hou HE1.out.size); have HPS := hid hps; have HND := hid hnd; have hEE := hE2.trans (Ext.alloc w2 (.cells #[.slice Arc C.room.length crc, .slice (some ⟨gu, 0, none⟩) ps.length cuc] 26)); have H2 := hid (H1.out.ext hEE); have G21 := hid (hEE.obj G11.out); have G22 := hid (hEE.obj G12.out); have Q2 := hid (heap_alloc_new w2 (.cells #[.slice Arc C.room.length crc, .slice (some ⟨gu, 0, none⟩) ps.length cuc] 26)); have b0 := obj_cell G21.out (i := 0) rfl; have b1 := obj_cell G21.out (i := 1) rfl; have HE2 := hid (HE1.out.trans hEE); clear hou hps hnd hE2 hEE)
      | (go_at_call 42; refine (sBins21 _ C _ H2.out hl).mono ?_; rintro e w3 ⟨v3, rfl, hv3, hE3⟩; have HV3 := hid hv3.read; have HE3x := hid hE3; clear hv3 hE3)
      | (go_at_call 85; refine (sWhere _ _ id _ HV3.out).mono ?_; rintro e w4 ⟨rfl, n4, hw4⟩; rw [hk]; have hE3 : Ext (w2.alloc (.cells #[.slice Arc C.room.length crc, .slice (some ⟨gu, 0, none⟩) ps.length cuc] 26)) w4 := HE3x.out.trans (by rw [hw4]; exact Ext.drewN _ _); have G32 := hid (hE3.obj G22.out); have Q3 := hid (hE3.obj Q2.out); have HE3 := hid (HE2.out.trans hE3); have HR3 := hid (RI.ext (RI.ext HRC.out (Ext.alloc _ _)) hE3); have HO3 := hid (Own.ext (EUV.ok _) (Own.ext (EUV.ok _) HOU.out (Ext.alloc _ _)) hE3); obtain ⟨vk, hpk⟩ := at_fst HPS.out ex.out; have HPK := hid hpk; obtain ⟨cx, fx, hvk, _⟩ := OUV.at1 HO3.out hpk; obtain ⟨At, ct, rfl, _⟩ := hvk.form; have HVK := hid hvk.read; have d1 := obj_cell Q3.out (i := 1) rfl; have hz4 := obj_lt Q3.out; clear hw4 hE3 hpk hvk)
      | (go_at_call 86; refine (sTake _ [x.tasks] id _ (RSl.laid (cs := [.slice At x.tasks.length ct]) (heap_alloc_new w4 _) rfl ⟨_, rfl, RT.ext HVK.out (Ext.alloc _ _)⟩) (by simp) (by intro b hb; rw [List.mem_singleton.1 hb]; exact HXT.out)).mono ?_; rintro e w5 ⟨bv, qs, A5, c5, rfl, hob, hmp, hnd5, hri, hE5⟩; obtain ⟨tv, rfl⟩ := one_bin hmp; obtain ⟨gb, cb, rfl, hgb⟩ := Own.row hob (by simp); simp only [List.length_cons, List.length_nil, Nat.zero_add]; obtain ⟨ct5, hot5⟩ := OBV.at0 hob; obtain ⟨LL, hLL⟩ : ∃ LL, LL = lastL id [x.tasks].flatten := ⟨_, rfl⟩; rw [← hLL]; have HTV := hid hot5; have HE45 := hid ((Ext.alloc w4 _).trans hE5); have HRI := hid hri; obtain ⟨y0, y1, y0f, y1f, k1, k1f, kk, _⟩ := box2 (heap_alloc_new w5 (.cells #[.int .i64 0, .slice none 0 0] 80)) (.int .i64 LL.id) (.slice A5 LL.need.length c5); have hz5 : w4.heap.size + 1 ≤ w5.heap.size := (by have := hE5.size; simpa using this); have HC5 := hid ct5; clear hLL hri hE5 hob hot5 hmp hnd5))
      have hEA := Ext.alloc w5 (.cells #[.int .i64 LL.id, .slice A5 LL.need.length c5] 80)
      obtain ⟨W8, hW8⟩ : ∃ W8, W8 = w5.alloc (.cells #[.int .i64 LL.id, .slice A5 LL.need.length c5] 80) := ⟨_, rfl⟩
      rw [← hW8] at hEA ⊢
      clear hW8 y0 y1 y0f y1f k1 k1f kk cx fx ct5
      have hE8 := HE45.out.trans hEA
      have HE8 := hid (HE3.out.trans hE8)
      have P8 := hid (hE8.obj G32.out)
      have Q8 := hid (hE8.obj Q3.out)
      have HO8 := hid (Own.ext (EUV.ok _) HO3.out hE8)
      have HR8 := hid (RI.ext HR3.out hE8)
      have HT8 := hid (Own.ext ET.ok HTV.out hEA)
      have HC8 := hid (hEA.cell HC5.out)
      obtain ⟨cx8, fx8, _, hgu8⟩ := OUV.at1 HO8.out HPK.out
      obtain ⟨Atv, ctv, rfl, _, _⟩ := HT8.out.form
      have KS := hid (And.intro (obj_cell Q8.out (i := 1) rfl) HC8.out)
      clear hE8 hEA
      refine WG.start (fun w' => w'.cell? ⟨w2.heap.size, 1, none⟩ = some (.slice (some ⟨gu, 0, none⟩) ps.length cuc) ∧ w'.cell? ⟨gb, 0, none⟩ = some (.slice Atv (takeL id x.tasks).length ctv)) [8] (by kernel_rfl) (by exact KS.out) (fun hHeld => ?_)
      (refine WG.take (i := 0) (v := ?_) rfl (by kernel_rfl) (by kernel_rfl) (by kernel_rfl) (by kernel_rfl) (fun _ _ _ h => h) (Or.inl ⟨by rfl, ?_⟩) (by assumption) ?_; rotate_left; (intro w hSw; (try dsimp only at hSw); go_split_ands; go_simp; (try with_reducible rfl)); (try simp only [Act.put, List.setIfInBounds_toArray, List.set_cons_zero, List.set_cons_succ]))
      (refine WG.take (i := 1) (v := ?_) rfl (by kernel_rfl) (by kernel_rfl) (by kernel_rfl) (by kernel_rfl) (fun _ _ _ h => h) (Or.inl ⟨by rfl, ?_⟩) (by assumption) ?_; rotate_left; (intro w hSw; (try dsimp only at hSw); go_split_ands; go_simp; (try with_reducible rfl)); (try simp only [Act.put, List.setIfInBounds_toArray, List.set_cons_zero, List.set_cons_succ]))
      (refine WG.take (i := 2) (v := ?_) rfl (by kernel_rfl) (by kernel_rfl) (by kernel_rfl) (by kernel_rfl) (fun _ _ _ h => h) (Or.inl ⟨by rfl, ?_⟩) (by assumption) ?_; rotate_left; (intro w hSw; (try dsimp only at hSw); go_split_ands; go_simp; (try with_reducible rfl)); (try simp only [Act.put, List.setIfInBounds_toArray, List.set_cons_zero, List.set_cons_succ]))
      (refine WG.take (i := 3) (v := ?_) rfl (by kernel_rfl) (by kernel_rfl) (by kernel_rfl) (by kernel_rfl) (fun _ _ _ h => h) (Or.inl ⟨by rfl, ?_⟩) (by assumption) ?_; rotate_left; (intro w hSw; (try dsimp only at hSw); go_split_ands; go_simp; (try with_reducible rfl)); (try simp only [Act.put, List.setIfInBounds_toArray, List.set_cons_zero, List.set_cons_succ]))
      (refine WG.take (i := 4) (v := ?_) rfl (by kernel_rfl) (by kernel_rfl) (by kernel_rfl) (by kernel_rfl) (fun _ _ _ h => h) (Or.inl ⟨by rfl, ?_⟩) (by assumption) ?_; rotate_left; (intro w hSw; (try dsimp only at hSw); go_split_ands; go_simp; (try with_reducible rfl)); (try simp only [Act.put, List.setIfInBounds_toArray, List.set_cons_zero, List.set_cons_succ]))
      (refine WG.take (i := 5) (v := ?_) rfl (by kernel_rfl) (by kernel_rfl) (by kernel_rfl) (by kernel_rfl) (fun _ _ _ h => h) (Or.inl ⟨by rfl, ?_⟩) (by assumption) ?_; rotate_left; (intro w hSw; (try dsimp only at hSw); go_split_ands; go_simp; (try with_reducible rfl)); (try simp only [Act.put, List.setIfInBounds_toArray, List.set_cons_zero, List.set_cons_succ]))
      (refine WG.take (i := 6) (v := ?_) rfl (by kernel_rfl) (by kernel_rfl) (by kernel_rfl) (by kernel_rfl) (fun _ _ _ h => h) (Or.inl ⟨by rfl, ?_⟩) (by assumption) ?_; rotate_left; (intro w hSw; (try dsimp only at hSw); go_split_ands; go_simp; (try with_reducible rfl)); (try simp only [Act.put, List.setIfInBounds_toArray, List.set_cons_zero, List.set_cons_succ]))
      (refine WG.take (i := 7) (v := ?_) rfl (by kernel_rfl) (by kernel_rfl) (by kernel_rfl) (by kernel_rfl) (fun _ _ _ h => h) (Or.inl ⟨by rfl, ?_⟩) (by assumption) ?_; rotate_left; (intro w hSw; (try dsimp only at hSw); go_split_ands; go_simp; (try with_reducible rfl)); (try simp only [Act.put, List.setIfInBounds_toArray, List.set_cons_zero, List.set_cons_succ]))
      refine WG.last (i := 8) rfl (by kernel_rfl) (by kernel_rfl) (fun K hK => ?_)
      go_simp
      refine hK.out _ _ ?_
      clear hK K
      (try simp only [Act.put, List.setIfInBounds_toArray, List.set_cons_zero, List.set_cons_succ])
      refine WG.done (by kernel_rfl) ?_
      have P9 := obj_far P8.out (p := ⟨gu, k * 2 + 1, none⟩) (by show w.heap.size + 1 ≠ gu; omega) (.slice Atv (takeL id x.tasks).length ctv)
      have Q9 := obj_far Q8.out (p := ⟨gu, k * 2 + 1, none⟩) (by show w2.heap.size ≠ gu; omega) (.slice Atv (takeL id x.tasks).length ctv)
      obtain ⟨e0, e1, y0, y1, y0f, y1f, k1, k1f, r0, r1, hsm⟩ := res2 P9 Q9
      have HSM := hid hsm
      clear P9 Q9 hsm
      go_wp2
      refine bodyPost_ret (v := .tuple #[.agg #[.slice Arc C.room.length crc, .slice (some ⟨gu, 0, none⟩) ps.length cuc], .int .i64 0]) (by simp [results, Try.results57, go_sem, r0, r1]) rfl ?_
      rw [HC.out]
      have hle := HE3.out.size
      have hle8 := HE8.out.size
      have hset := OUV.set1 HO8.out HPK.out (takeL id x.tasks) _ (Own.low HT8.out (by simp; omega))
      have hd : ∀ W : World, Ext W W.drew := fun W => Below.drew (Below.refl _ _)
      exact ⟨_, rfl, ⟨_, _, ps.set k (⟨x.opened, takeL id x.tasks⟩, _), rfl, RI.ext (RI.same (RI.same HR8.out (hset.2.mono (by rintro t rfl; decide))) (HSM.out _ (by rintro t rfl; decide))) (hd _), Own.ext (EUV.ok _) (Own.same (EUV.ok _) hset.1 (HSM.out _ notClu)) (hd _), (by rw [List.map_set, HPS.out]), nodup_set ps k _ HND.out (fun g hg hm => by have h3 := (Own.lt HT8.out g hg).1; have h4 := (OUV.lt HO3.out g hm).2; simp at h3; omega)⟩, (Below.setCell (Below.setCell (Below.setCell HE8.out (by show w.heap.size ≤ gu; omega) _) (Nat.le_succ _) _) (Nat.le_succ _) _).trans ((hd _).mono (by simp; omega))⟩
  · have h1 : clusOk C = false := by simpa using h1
    have HC : Hid (departC C id = (⟨[], []⟩, 1)) := hid (by unfold departC; rw [h1]; rfl)
    go_enter Try.func57, Try.ntmps57
    go_wp2_with (go_at_call 37; refine (sClusterValid _ C _ H0.out hl hfl).mono ?_; rintro e w1 ⟨rfl, hE1⟩; rw [h1]; obtain ⟨_, _, y0, y1, y0f, y1f, k1, k1f, r0, r1, hsm⟩ := res2 (hE1.obj G2.out) (hE1.obj G2.out); have HE1 := hid hE1; clear hE1 hsm)
    refine bodyPost_ret (v := .tuple #[.agg #[.slice none 0 0, .slice none 0 0], .int .i64 1]) (by simp [results, Try.results57, go_sem, r0, r1]) rfl ?_
    rw [HC.out]
    exact ⟨_, rfl, OCl.zero _ _, Below.setCell (Below.setCell (HX.out.trans HE1.out) (Nat.le_succ _) _) (Nat.le_succ _) _⟩

end Go.Proofs.Ytcfpilkhjpegcaa

/- A unit's row of tasks grows. -/
namespace Go.Proofs.Ytcfpilkhjpegcaa
open Go.RowKit
set_option maxRecDepth 4000

theorem Own.block_ne {α β : Type} {e e' : TypeId} (hne : e ≠ e') {size size' : Nat} {E : Enc α} {E' : Enc β} {w : World} {base base' : Nat} {v v' : Value} {xs : List α} {ys : List β} (h : Own e size E w base v xs) (h' : Own e' size' E' w base' v' ys) {a : Nat} (ha : v.ownBlock = some a) : v'.ownBlock ≠ some a := by
  intro ha'
  obtain ⟨c, ho, _⟩ := h
  obtain ⟨c', ho', _⟩ := h'
  rcases ho.2 with ⟨rfl, _⟩ | ⟨g, cap, cur, rfl, _, hh, _⟩
  · simp [Value.ownBlock] at ha
  rcases ho'.2 with ⟨rfl, _⟩ | ⟨g', cap', cur', rfl, _, hh', _⟩
  · simp [Value.ownBlock] at ha'
  have e1 : g = a := by simpa [Value.ownBlock] using ha
  have e2 : g' = a := by simpa [Value.ownBlock] using ha'
  rw [e1] at hh
  rw [e2, hh] at hh'
  injection hh' with hh'
  injection hh' with _ h2 _
  exact hne h2
theorem Own.obj {α : Type} {e : TypeId} {size : Nat} {E : Enc α} {w : World} {base g n c : Nat} {xs : List α} (h : Own e size E w base (.slice (some ⟨g, 0, none⟩) n c) xs) : ∃ cur, w.heap[g]? = some (.cells cur e (0, 0)) := by
  obtain ⟨cells, ho, _⟩ := h
  rcases ho.2 with ⟨h1, _⟩ | ⟨g', cap, cur, h1, _, hh, _⟩
  · cases h1
  · injection h1 with h1 _ _
    injection h1 with h1
    injection h1 with h1 _ _
    subst h1
    exact ⟨cur, hh⟩
theorem Cells.setx {α : Type} {size : Nat} {E : Enc α} {w w' : World} {cells : List Value} {xs : List α} (h : Cells size E w cells xs) {j i : Nat} {u : Value} {x x' : α} (hj : xs[j]? = some x) (hi : i < size)
    (ho : ∀ (k : Nat) y cs, k ≠ j → xs[k]? = some y → E w cs y → E w' cs y) (hx : ∀ cs : List Value, cs.length = size → E w cs x → E w' (cs.set i u) x') : Cells size E w' (cells.set (j * size + i) u) (xs.set j x') := by
  refine ⟨by simpa using h.1, fun k y hy => ?_⟩
  by_cases hkj : k = j
  · subst hkj
    have hlt : k < xs.length := (List.getElem?_eq_some_iff.1 hj).1
    rw [List.getElem?_set_self hlt] at hy
    injection hy with hy
    subst hy
    obtain ⟨cs, hl, he, hc⟩ := h.2 k x hj
    refine ⟨cs.set i u, by simpa using hl, hx cs hl he, fun i' u' hu' => ?_⟩
    by_cases hii : i' = i
    · subst hii
      rw [List.getElem?_set_self (by omega)] at hu'
      injection hu' with hu'
      subst hu'
      have : k * size + i' < cells.length := by
        rw [h.1]
        have : (k + 1) * size ≤ xs.length * size := Nat.mul_le_mul_right _ hlt
        rw [Nat.add_mul] at this
        omega
      rw [List.getElem?_set_self this]
    · rw [List.getElem?_set_ne (Ne.symm hii)] at hu'
      rw [List.getElem?_set_ne (by omega)]
      exact hc i' u' hu'
  · rw [List.getElem?_set_ne (Ne.symm hkj)] at hy
    obtain ⟨cs, hl, he, hc⟩ := h.2 k y hy
    refine ⟨cs, hl, ho k y cs hkj hy he, fun i' u' hu' => ?_⟩
    have hi' : i' < size := by rw [← hl]; exact (List.getElem?_eq_some_iff.1 hu').1
    rw [List.getElem?_set_ne (Ne.symm (mul_add_ne hi hi' hkj))]
    exact hc i' u' hu'
theorem blocks_apart {ps : List (UnitD × Value)} (h : (blocksOf ps).Nodup) {i k : Nat} {p q : UnitD × Value} (hi : ps[i]? = some p) (hk : ps[k]? = some q) (hik : i ≠ k) {a : Nat} (ha : p.2.ownBlock = some a) : q.2.ownBlock ≠ some a := by
  intro hb
  unfold blocksOf at h
  rw [List.nodup_iff_pairwise_ne, List.pairwise_filterMap, List.pairwise_iff_getElem] at h
  obtain ⟨li, ei⟩ := List.getElem?_eq_some_iff.1 hi
  obtain ⟨lk, ek⟩ := List.getElem?_eq_some_iff.1 hk
  rcases Nat.lt_or_gt_of_ne hik with hlt | hlt
  · exact h i k li lk hlt a (by rw [ei]; exact ha) a (by rw [ek]; exact hb) rfl
  · exact h k i lk li hlt a (by rw [ek]; exact hb) a (by rw [ei]; exact ha) rfl
/-- one unit's row of tasks has grown (in place or in a block that is new), and the unit takes it -/
theorem OUV.grow {w w' : World} {base g n c : Nat} {ps : List (UnitD × Value)} (h : OUV w base (.slice (some ⟨g, 0, none⟩) n c) ps) (hnd : (blocksOf ps).Nodup) {k : Nat} {u : UnitD} {tv : Value} (hk : ps[k]? = some (u, tv)) (hg : w.grownBy w' tv.ownBlock) (hs : SameT (fun t => t ≠ 80) w w') {ts : List TaskD} {v' : Value} (ht : OT w' base v' ts) :
    OUV (w'.setCell ⟨g, k * 2 + 1, none⟩ v') base (.slice (some ⟨g, 0, none⟩) n c) (ps.set k (⟨u.opened, ts⟩, v')) ∧ SameT (fun t => t ≠ 44) w' (w'.setCell ⟨g, k * 2 + 1, none⟩ v') := by
  have h0 := h
  obtain ⟨cells, ho, hc⟩ := h
  have hn : n = ps.length := by
    rcases ho.2 with ⟨h1, _⟩ | ⟨g', cap, cur, h1, _⟩
    · cases h1
    · injection h1
  subst hn
  rcases ho.2 with ⟨h1, _⟩ | ⟨g', cap, cur, h1, hb, hh, hr⟩
  · cases h1
  have h1' := h1
  injection h1 with h1 _ _
  injection h1 with h1
  injection h1 with h1 _ _
  subst h1
  have hh' := hs _ _ _ _ (by decide) hh
  have ho' : w'.ownsRow base 44 2 (.slice (some ⟨g, 0, none⟩) ps.length c) ps.length cells := ⟨ho.1, .inr ⟨g, cap, cur, h1', hb, hh', hr⟩⟩
  have hs2 : SameT (fun t => t ≠ 44) w' (w'.setCell ⟨g, k * 2 + 1, none⟩ v') := SameT.setCell (p := ⟨g, k * 2 + 1, none⟩) hh' v' (fun t ht => ht)
  have hst := ho'.stored (k * 2 + 1) v'
  refine ⟨⟨cells.set (k * 2 + 1) v', by rw [List.length_set]; exact hst.1, Cells.setx (i := 1) hc hk (by omega) (fun i y cs hik hy ⟨he, hty⟩ => ⟨he, ?_⟩) (fun cs hl ⟨he, _⟩ => ⟨by rw [he]; rfl, Own.same ET.ok ht (hs2.mono (by rintro t (rfl | rfl) <;> decide))⟩)⟩, hs2⟩
  refine OT.far hty (fun a ha => ?_) ((hs.mono (by rintro t rfl; decide)).trans (hs2.mono (by rintro t rfl; decide)))
  have hag : a ≠ g := fun e => Own.block_ne (by decide) hty h0 ha (by rw [e]; rfl)
  exact (Below.heap_setCell _ _ _ _ hag).trans (hg.block a (hty.lt a ha).2 (fun e => blocks_apart hnd hy hk hik ha e.symm))
/-- its block is the one that it was, or new -/
theorem nodup_app {ps : List (UnitD × Value)} (hnd : (blocksOf ps).Nodup) {k H : Nat} {u u' : UnitD} {tv v' : Value} (hk : ps[k]? = some (u, tv)) (hv : v'.ownBlock = tv.ownBlock ∨ v'.ownBlock = some H) (hH : ∀ g ∈ blocksOf ps, g < H) : (blocksOf (ps.set k (u', v'))).Nodup := by
  rcases hv with hv | hv
  · have e : ∀ qs : List (UnitD × Value), blocksOf qs = (qs.map (fun p => p.2.ownBlock)).filterMap id := fun qs => by unfold blocksOf; rw [List.filterMap_map]; rfl
    have e2 : blocksOf (ps.set k (u', v')) = blocksOf ps := by
      rw [e, e, List.map_set]
      congr 1
      exact set_same (x := v'.ownBlock) (by rw [List.getElem?_map, hk, hv]; rfl)
    rw [e2]; exact hnd
  · exact nodup_set ps k _ hnd (fun g hg hm => by
      have hg : v'.ownBlock = some g := hg
      rw [hv] at hg
      injection hg with hg
      have := hH g hm
      omega)

end Go.Proofs.Ytcfpilkhjpegcaa

/- The reference's new cluster. -/
namespace Go.Proofs.Ytcfpilkhjpegcaa
open Go.RowKit
set_option maxRecDepth 4000

def newC (room : List Int) (nodes : Int) : ClusD × Bool := if roomOk room then if inB nodes 1 10 then (⟨room, List.replicate nodes.toNat ⟨false, []⟩⟩, true) else (⟨[], []⟩, false) else (⟨[], []⟩, false)

set_option maxHeartbeats 4000000 in
theorem sClusterNew (rv : Value) (room : List Int) (nodes : Int) (w : World) (h : RI w rv room) :
    Calls Try.prog 55 #[rv, .int .i64 nodes] w fun e w' => ∃ cv, e = .returned (.tuple #[cv, .bool (newC room nodes).2]) ∧ OCl w' w.heap.size cv (newC room nodes).1 ∧ Ext w w' := by
  have h0 := h
  obtain ⟨Ar, cr, rfl, _⟩ := h
  have hE0 := Ext.alloc w (.cells #[.slice none 0 0, .slice none 0 0] 26)
  have HE0 := hid hE0
  have G0 := hid (heap_alloc_new w (.cells #[.slice none 0 0, .slice none 0 0] 26))
  have HR0 := hid (RI.ext h0 hE0)
  clear h0 hE0
  by_cases h1 : roomOk room = true
  · by_cases h2 : inB nodes 1 10 = true
    · have hin : 1 ≤ nodes ∧ nodes ≤ 10 := by simpa [inB] using h2
      obtain ⟨n, rfl⟩ : ∃ n : Nat, nodes = n := ⟨nodes.toNat, by omega⟩
      have hn10 : n ≤ 10 := by omega
      have HC : Hid (newC room (n : Int) = (⟨room, List.replicate n ⟨false, []⟩⟩, true)) := hid (by unfold newC; rw [h1, h2, Int.toNat_natCast]; rfl)
      have hrl : room.length ≤ 3 := by have := vecOk_len (roomOk_vec h1); omega
      have HRL := hid hrl
      clear hin hrl
      obtain ⟨i0_int, hi0_int, hz0_int, hz1_int, hz2_int⟩ := info_parts info_int
      obtain ⟨i0_unit, hi0_unit, hz0_unit, hz1_unit, hz2_unit⟩ := info_parts info_unit
      go_enter Try.func55, Try.ntmps55
      go_wp2_with (first
        | (go_at_call 83; refine (sRoom _ room _ HR0.out).mono ?_; rintro e w1 ⟨rfl, n1, hw1⟩; rw [h1]; have HE1 : Hid (Ext (w.alloc (.cells #[.slice none 0 0, .slice none 0 0] 26)) w1) := hid (by rw [hw1]; exact Ext.drewN _ _); clear hw1)
        | (go_at_call 38; refine (sIn _ _ _ _).mono ?_; rintro e w2 ⟨rfl, n2, hw2⟩; rw [h2]; have HE2 : Hid (Ext (w.alloc (.cells #[.slice none 0 0, .slice none 0 0] 26)) (w2.alloc (.cells #[] 3))) := hid ((HE1.out.trans (by rw [hw2]; exact Ext.drewN _ _)).trans (Ext.alloc w2 _)); have HX2 : Hid (Ext w (w2.alloc (.cells #[] 3))) := hid (HE0.out.trans HE2.out); have hsz2 : w.heap.size ≤ w2.heap.size := (HE0.out.trans (HE1.out.trans (by rw [hw2]; exact Ext.drewN _ _))).size; have HM : Hid (OI (w2.alloc (.cells #[] 3)) w.heap.size (.slice (some ⟨w2.heap.size, 0, none⟩) 0 0) []) := hid (Own.madeAt #[] 0 _ rfl hsz2 (by omega) rfl); have HR2 := hid (RI.ext HR0.out HE2.out); have G2 := hid (HE2.out.obj G0.out); clear hw2)
        | (at_builtin; refine wpList_append_sl _ (by rfl) _ _ 23 (by rfl) EI.ok EI.flat (w.heap.size) 3 EI.ne i0_int _ 1 8 Try.underlying23 hi0_int hz0_int hz1_int hz2_int rfl (by omega) _ (by rfl) _ (HM.out) _ (by rfl) _ (HR2.out) (by have := HRL.out; simp; omega) (by have := HRL.out; simp; omega) ?_ ?_; (focus (first | exact Nat.le_refl _ | (simp; done) | (simp; omega) | omega)); intro v3 w3 hO3 hg3 hat3 hs3; rw [List.nil_append] at hO3; obtain ⟨A3, c3, rfl, hf1, hf2⟩ := hO3.form; have HE3 := hid (Ext.grown HX2.out hg3 HM.out.lt); have G3 := hid (hs3 _ _ _ _ (by decide) G2.out); have HO3 := hid hO3; clear hO3 hg3 hat3 hs3))
      go_loopw [7] (fun i wr => ∃ (k : Nat) (u : Value) (ps : List (UnitD × Value)), k ≤ n ∧ i = .int .i64 k ∧ Hid (OUV wr w.heap.size u ps ∧ ps.map (·.1) = List.replicate k ⟨false, []⟩ ∧ (blocksOf ps).Nodup ∧ Ext w wr ∧ RI wr (.slice A3 room.length c3) room ∧
        wr.heap[w.heap.size]? = some (.cells #[.slice none 0 0, .slice none 0 0] 26 (0, 0)) ∧ wr.heap[w3.heap.size + 1]? = some (.cells #[.slice A3 room.length c3, u] 26 (0, 0)) ∧ w.heap.size < w3.heap.size)) (fun i _ => n - (intOf i).toNat)
      case atStart =>
        have hx : Ext w3 ((w3.alloc (.cells #[] 44)).alloc (.cells #[.slice A3 room.length c3, .slice (some ⟨w3.heap.size, 0, none⟩) 0 0] 26)) := (Ext.alloc _ _).trans (Ext.alloc _ _)
        exact ⟨0, _, [], Nat.zero_le _, rfl, hid ⟨(Own.madeAt (w := w3) #[] 0 _ rfl HE3.out.size (by omega) rfl).ext (EUV.ok _) (Ext.alloc _ _), rfl, List.nodup_nil, HE3.out.trans hx, RI.ext HO3.out.read hx, hx.obj G3.out, heap_new (by simp), obj_lt G3.out⟩⟩
      case round =>
        obtain ⟨k, u, ps, hk, rfl, H⟩ := hrel
        obtain ⟨hO, hps, hnd, hE, hRo, hob0, hob1, hlt1⟩ := H.out
        by_cases hlt : k < n
        · have i1 : (k : Int) < (n : Int) := by omega
          have hbo := obj_cell hob1 (i := 1) rfl
          have hlps : ps.length = k := by have := congrArg List.length hps; simpa using this
          have HP := hid hlps
          have hsz := hE.size
          have hEa := (Ext.alloc wr (.cells #[] 80)).trans (Ext.alloc _ (.cells #[.bool false, .slice (some ⟨wr.heap.size, 0, none⟩) 0 0] 44))
          have HV := hid (hO.ext (EUV.ok _) hEa)
          have HT : Hid (OT ((wr.alloc (.cells #[] 80)).alloc (.cells #[.bool false, .slice (some ⟨wr.heap.size, 0, none⟩) 0 0] 44)) w.heap.size (.slice (some ⟨wr.heap.size, 0, none⟩) 0 0) []) := hid (Own.ext ET.ok (Own.madeAt (w := wr) #[] 0 _ rfl hE.size (by omega) rfl) (Ext.alloc _ _))
          have HEA := hid (hE.trans hEa)
          have HPS := hid hps
          have HND := hid hnd
          have HO := hid hO
          have G4 := hid (hEa.obj hob0)
          have G5 := hid (hEa.obj hob1)
          have HRO := hid (RI.ext hRo hEa)
          clear hO hps hnd hE hRo hob0 hob1 hlps hEa H
          go_wp2_with (at_builtin; refine wpList_append_sl _ (by rfl) _ _ 24 (by rfl) (EUV.ok _) (EUV.flat _) (w.heap.size) 44 EUV.ne i0_unit _ 2 32 Try.underlying24 hi0_unit hz0_unit hz1_unit hz2_unit rfl (by omega) _ (by rfl) _ (HV.out) _ (by rfl) _ (RSl.laid (cs := [.bool false, .slice (some ⟨wr.heap.size, 0, none⟩) 0 0]) (x := ((⟨false, []⟩ : UnitD), (.slice (some ⟨wr.heap.size, 0, none⟩) 0 0 : Value))) (heap_new (H := wr.heap.size + 1) (by simp)) rfl ⟨rfl, HT.out⟩) (by have := HP.out; simp; omega) (by have := HP.out; simp; omega) ?_ ?_; (focus (first | exact Nat.le_refl _ | (simp; done) | (simp; omega) | omega)); intro v4 w4 hO4 hg4 hat4 hs4; obtain ⟨A4, c4, rfl, _, _⟩ := hO4.form_app; have HE4 := hid (Ext.grown HEA.out hg4 HV.out.lt); have ho0 := hs4 _ _ _ _ (by decide) G4.out; have ho1 := hs4 _ _ _ _ (by decide) G5.out; have co1 := obj_cell ho1 (i := 1) rfl; have fo1 := obj_frozen ho1 1; have HO0 := hid ho0; have HO1 := hid ho1; have HO4 := hid hO4; have HS4 := hid hs4; clear hg4 hat4 ho0 ho1 hO4 hs4)
          go_roundw
          case rel =>
            have hsx : SameT (fun t => t ≠ 26) w4 (w4.setCell ⟨w3.heap.size + 1, 1, none⟩ (Value.slice A4 (ps.length + 1) c4)) := SameT.setCell (p := ⟨w3.heap.size + 1, 1, none⟩) HO1.out _ (fun t ht => ht)
            refine ⟨k + 1, Value.slice A4 (ps.length + 1) c4, ps ++ [(⟨false, []⟩, .slice (some ⟨wr.heap.size, 0, none⟩) 0 0)], by omega, by go_num, hid ⟨?_, ?_, ?_, ?_, ?_, ?_, ?_, hlt1⟩⟩
            · exact Own.same (EUV.ok _) HO4.out (hsx.mono notClu)
            · rw [List.map_append, HPS.out, List.replicate_succ']; rfl
            · exact nodup_more HO.out HND.out (fun g hg => by simp [Value.ownBlock] at hg; omega)
            · exact Below.setCell HE4.out (by show w.heap.size ≤ w3.heap.size + 1; omega) _
            · exact RI.same HRO.out ((HS4.out.mono (by rintro t rfl; decide)).trans (hsx.mono (by rintro t rfl; decide)))
            · exact obj_far HO0.out (by show w.heap.size ≠ w3.heap.size + 1; omega) _
            · exact obj_set HO1.out 1 _
          case measure => simp [intOf]; omega
        · have hk' : k = n := by omega
          have i1 : ¬ (k : Int) < (n : Int) := by omega
          obtain ⟨e0, e1, y0, y1, y0f, y1f, k1, k1f, r0, r1, hsm⟩ := res2 hob0 hob1
          have HSM := hid hsm
          have HO := hid hO
          have HP := hid hps
          have HRo := hid hRo
          have HND := hid hnd
          have HE := hid hE
          obtain ⟨Au, cu, rfl, _, _⟩ := hO.form
          clear hob0 hob1 hO hps hRo hnd hE hsm H
          subst hk'
          go_wp2
          refine bodyPost_ret (v := .tuple #[.agg #[.slice A3 room.length c3, .slice Au ps.length cu], .bool true]) (by simp [results, Try.results55, go_sem, r0, r1]) rfl ?_
          rw [HC.out]
          exact ⟨_, rfl, ⟨_, _, ps, rfl, RI.same HRo.out (HSM.out _ (by rintro t rfl; decide)), Own.same (EUV.ok _) HO.out (HSM.out _ notClu), HP.out, HND.out⟩, Below.setCell (Below.setCell HE.out (Nat.le_refl _) _) (Nat.le_refl _) _⟩
    · have h2 : inB nodes 1 10 = false := by simpa using h2
      have HC : Hid (newC room nodes = (⟨[], []⟩, false)) := hid (by unfold newC; rw [h1, h2]; rfl)
      go_enter Try.func55, Try.ntmps55
      go_wp2_with (first
        | (go_at_call 83; refine (sRoom _ room _ HR0.out).mono ?_; rintro e w1 ⟨rfl, n1, hw1⟩; rw [h1]; have HE1 : Hid (Ext (w.alloc (.cells #[.slice none 0 0, .slice none 0 0] 26)) w1) := hid (by rw [hw1]; exact Ext.drewN _ _); clear hw1)
        | (go_at_call 38; refine (sIn _ _ _ _).mono ?_; rintro e w2 ⟨rfl, n2, hw2⟩; rw [h2]; have HE2 : Hid (Ext (w.alloc (.cells #[.slice none 0 0, .slice none 0 0] 26)) w2) := hid (HE1.out.trans (by rw [hw2]; exact Ext.drewN _ _)); obtain ⟨e0, e1, y0, y1, y0f, y1f, k1, k1f, r0, r1, hsm⟩ := res2 (HE2.out.obj G0.out) (HE2.out.obj G0.out); clear hw2 hsm))
      refine bodyPost_ret (v := .tuple #[.agg #[.slice none 0 0, .slice none 0 0], .bool false]) (by simp [results, Try.results55, go_sem, r0, r1]) rfl ?_
      rw [HC.out]
      exact ⟨_, rfl, OCl.zero _ _, Below.setCell (Below.setCell (HE0.out.trans HE2.out) (Nat.le_refl _) _) (Nat.le_refl _) _⟩
  · have h1 : roomOk room = false := by simpa using h1
    have HC : Hid (newC room nodes = (⟨[], []⟩, false)) := hid (by unfold newC; rw [h1]; rfl)
    go_enter Try.func55, Try.ntmps55
    go_wp2_with (go_at_call 83; refine (sRoom _ room _ HR0.out).mono ?_; rintro e w1 ⟨rfl, n1, hw1⟩; rw [h1]; have HE1 : Hid (Ext (w.alloc (.cells #[.slice none 0 0, .slice none 0 0] 26)) w1) := hid (by rw [hw1]; exact Ext.drewN _ _); obtain ⟨e0, e1, y0, y1, y0f, y1f, k1, k1f, r0, r1, hsm⟩ := res2 (HE1.out.obj G0.out) (HE1.out.obj G0.out); clear hw1 hsm)
    refine bodyPost_ret (v := .tuple #[.agg #[.slice none 0 0, .slice none 0 0], .bool false]) (by simp [results, Try.results55, go_sem, r0, r1]) rfl ?_
    rw [HC.out]
    exact ⟨_, rfl, OCl.zero _ _, Below.setCell (Below.setCell (HE0.out.trans HE1.out) (Nat.le_refl _) _) (Nat.le_refl _) _⟩

end Go.Proofs.Ytcfpilkhjpegcaa
