/- The reference lets a task depart: the walk. -/
import Derived.Test.YtfgibhdglbjadaaCl7
namespace Go.Proofs.Ytfgibhdglbjadaa
open Go.RowKit
set_option maxRecDepth 4000

theorem OUV.at1 {w : World} {base g n c : Nat} {ps : List (UnitD × Value)} (h : OUV w base (.slice (some ⟨g, 0, none⟩) n c) ps) {j : Nat} {x : UnitD} {v : Value} (hj : ps[j]? = some (x, v)) :
    w.cell? ⟨g, j * 2 + 1, none⟩ = some v ∧ w.frozen? ⟨g, j * 2 + 1, none⟩ = false ∧ OT w base v x.tasks ∧ base ≤ g := by
  obtain ⟨A, c', hv, _, _, hg⟩ := RSl.get_ (Own.read h)
  obtain ⟨b, o, y, cs, hA, hy, _, ⟨he, ht⟩, hc⟩ := hg j (List.getElem?_eq_some_iff.1 hj).1
  rw [hj] at hy
  injection hy with hy
  subst hy
  injection hv with h1 h2 h3
  rw [hA] at h1
  injection h1 with h1
  injection h1 with h1 h4 _
  subst h1 h4
  have hcell := hc 1 v (by rw [he]; rfl)
  refine ⟨by simpa [Nat.add_assoc] using hcell, ?_, ht, (Own.lt h g rfl).1⟩
  obtain ⟨cells, ho, _⟩ := h
  rcases ho.2 with ⟨h1, _⟩ | ⟨g', cap, cur, h1, _, hg, _⟩
  · cases h1
  · injection h1 with h1 _ _
    injection h1 with h1
    injection h1 with h1 _ _
    subst h1
    exact obj_frozen hg _
theorem OBV.at0 {w : World} {base g n c : Nat} {ts : List TaskD} {v : Value} (h : OBV w base (.slice (some ⟨g, 0, none⟩) n c) [(ts, v)]) : w.cell? ⟨g, 0, none⟩ = some v ∧ OT w base v ts := by
  obtain ⟨A, c', hv, _, _, hg⟩ := RSl.get_ (Own.read h)
  obtain ⟨b, o, y, cs, hA, hy, _, ⟨he, ht⟩, hc⟩ := hg 0 (by simp)
  simp at hy
  subst hy
  injection hv with h1 h2 h3
  rw [hA] at h1
  injection h1 with h1
  injection h1 with h1 h4 _
  subst h1 h4
  have hcell := hc 0 v (by rw [he]; rfl)
  exact ⟨by simpa using hcell, ht⟩
theorem one_bin {qs : List (List TaskD × Value)} {f : List TaskD → List TaskD} {ts : List TaskD} (h : qs.map (·.1) = [ts].map f) : ∃ tv, qs = [(f ts, tv)] := by
  match qs, h with
  | [], h => simp at h
  | [(a, tv)], h => simp at h; exact ⟨tv, by rw [h]⟩
  | _ :: _ :: _, h => simp at h
/-- a struct of two cells is stored into a block -/
theorem box2 {W : World} {H : Nat} {z0 z1 : Value} {t : TypeId} (pH : W.heap[H]? = some (.cells #[z0, z1] t (0, 0))) (u v : Value) :
    W.cell? ⟨H, 0, none⟩ = some z0 ∧ W.cell? ⟨H, 1, none⟩ = some z1 ∧ W.frozen? ⟨H, 0, none⟩ = false ∧ W.frozen? ⟨H, 1, none⟩ = false ∧
    (W.setCell ⟨H, 0, none⟩ u).cell? ⟨H, 1, none⟩ = some z1 ∧ (W.setCell ⟨H, 0, none⟩ u).frozen? ⟨H, 1, none⟩ = false ∧
    ((W.setCell ⟨H, 0, none⟩ u).setCell ⟨H, 1, none⟩ v).heap[H]? = some (.cells #[u, v] t (0, 0)) ∧
    (∀ T : TypeId → Prop, (∀ s, T s → s ≠ t) → SameT T W ((W.setCell ⟨H, 0, none⟩ u).setCell ⟨H, 1, none⟩ v)) := by
  have k := obj_set pH 0 u
  exact ⟨obj_cell pH (i := 0) rfl, obj_cell pH (i := 1) rfl, obj_frozen pH 0, obj_frozen pH 1, obj_cell k (i := 1) rfl, obj_frozen k 1, obj_set2 pH u v,
    fun T hT => (SameT.setCell (p := ⟨H, 0, none⟩) pH u hT).trans (SameT.setCell (p := ⟨H, 1, none⟩) k v hT)⟩
theorem blocksOf_mem {ps : List (UnitD × Value)} {k : Nat} {q : UnitD × Value} {y : Nat} (h : y ∈ blocksOf (ps.set k q)) : y ∈ blocksOf ps ∨ q.2.ownBlock = some y := by
  obtain ⟨p, hp, hb⟩ := List.mem_filterMap.1 h
  rcases List.mem_or_eq_of_mem_set hp with hp | rfl
  · exact .inl (List.mem_filterMap.2 ⟨p, hp, hb⟩)
  · exact .inr hb
/-- one row in place of another, in a block that no other has -/
theorem nodup_set : ∀ (ps : List (UnitD × Value)) (k : Nat) (q : UnitD × Value), (blocksOf ps).Nodup → (∀ g, q.2.ownBlock = some g → g ∉ blocksOf ps) → (blocksOf (ps.set k q)).Nodup
  | [], _, _, _, _ => by simp [blocksOf]
  | p :: ps, 0, q, hn, hq => by
    have e : ∀ (p : UnitD × Value) ps, blocksOf (p :: ps) = p.2.ownBlock.toList ++ blocksOf ps := fun p ps => by
      unfold blocksOf
      rw [List.filterMap_cons]
      cases p.2.ownBlock <;> rfl
    rw [e] at hn
    rw [List.set_cons_zero, e]
    have hn2 := (List.nodup_append.1 hn).2.1
    cases hb : q.2.ownBlock with
    | none => simpa using hn2
    | some g =>
      have := hq g hb
      rw [e, List.mem_append, not_or] at this
      simp only [Option.toList_some, List.singleton_append, List.nodup_cons]
      exact ⟨this.2, hn2⟩
  | p :: ps, k + 1, q, hn, hq => by
    have e : ∀ (p : UnitD × Value) ps, blocksOf (p :: ps) = p.2.ownBlock.toList ++ blocksOf ps := fun p ps => by
      unfold blocksOf
      rw [List.filterMap_cons]
      cases p.2.ownBlock <;> rfl
    rw [e] at hn
    rw [List.set_cons_succ, e]
    have hn2 := (List.nodup_append.1 hn).2.1
    have ih := nodup_set ps k q hn2 (fun g hg hm => hq g hg (by rw [e]; exact List.mem_append_right _ hm))
    cases hb : p.2.ownBlock with
    | none => simpa using ih
    | some g =>
      rw [hb] at hn
      simp only [Option.toList_some, List.singleton_append, List.nodup_cons] at hn ⊢
      refine ⟨fun hm => ?_, ih⟩
      rcases blocksOf_mem hm with hm | hm
      · exact hn.1 hm
      · exact hq g hm (by rw [e, hb]; simp)

set_option maxHeartbeats 2000000 in
theorem sClusterDepart (cv : Value) (C : ClusD) (id : Int) (w : World) (h : ClusV w cv C) (hl : C.units.length ≤ 4000000) (hfl : (C.units.map (·.tasks)).flatten.length ≤ 4000000) :
    Calls Try.prog 98 #[cv, .int .i64 id] w (RetOC w (departC C id)) := by
  have h0 := h
  obtain ⟨rv, uv, rfl, hr, hu⟩ := h
  obtain ⟨Ar, cr, rfl, _⟩ := hr
  obtain ⟨A, c, rfl, hc, hc', hg⟩ := RU.get hu
  have hX := (Ext.alloc w (.cells #[.slice Ar C.room.length cr, .slice A C.units.length c] 26)).trans (Ext.alloc _ (.cells #[.slice none 0 0, .slice none 0 0] 26))
  have g1 := (Ext.alloc (w.alloc (.cells #[.slice Ar C.room.length cr, .slice A C.units.length c] 26)) (.cells #[.slice none 0 0, .slice none 0 0] 26)).obj (heap_alloc_new w _)
  have g2 : ((w.alloc (.cells #[.slice Ar C.room.length cr, .slice A C.units.length c] 26)).alloc (.cells #[.slice none 0 0, .slice none 0 0] 26)).heap[w.heap.size + 1]? = some (.cells #[.slice none 0 0, .slice none 0 0] 26 (0, 0)) := heap_new (by simp)
  have b0 := obj_cell g1 (i := 0) rfl
  have b1 := obj_cell g1 (i := 1) rfl
  have HX := hid hX
  have G1 := hid g1
  have G2 := hid g2
  have H0 := hid (h0.ext hX)
  clear hu h0 hX g1 g2
  by_cases h1 : clusOk C = true
  · by_cases h2 : whereL (C.units.map (·.tasks)) id < 0
    · have HC : Hid (departC C id = (C, 4)) := hid (by unfold departC; rw [if_pos h1, if_pos h2])
      go_enter Try.func98, Try.ntmps98
      go_wp2_with (first
      | (go_at_call 42; refine (sClusterValid _ C _ H0.out hl hfl).mono ?_; rintro e w1 ⟨rfl, hE1⟩; rw [h1]; have H1 := hid (H0.out.ext hE1); have G11 := hid (hE1.obj G1.out); have G12 := hid (hE1.obj G2.out); have b0 := obj_cell G11.out (i := 0) rfl; have b1 := obj_cell G11.out (i := 1) rfl; have HE1 := hid (HX.out.trans hE1); clear hE1)
      | (go_at_call 79; refine (sCopy21 _ C _ H1.out hl (clus_small h1).1 (clus_small h1).2).mono ?_; rintro e w2 ⟨v2, rfl, ⟨rc, uc, ps, rfl, hrc, hou, hps, hnd⟩, hE2⟩; have HRC := hid hrc; obtain ⟨Arc, crc, rfl, _⟩ := hrc; obtain ⟨Auc, cuc, rfl, _⟩ := hou.form; have HOU := hid (OUV.low hou HE1.out.size); have HPS := hid hps; have HND := hid hnd; have hEE := hE2.trans (Ext.alloc w2 (.cells #[.slice Arc C.room.length crc, .slice Auc ps.length cuc] 26)); have H2 := hid (H1.out.ext hEE); have G21 := hid (hEE.obj G11.out); have G22 := hid (hEE.obj G12.out); have Q2 := hid (heap_alloc_new w2 (.cells #[.slice Arc C.room.length crc, .slice Auc ps.length cuc] 26)); have b0 := obj_cell G21.out (i := 0) rfl; have b1 := obj_cell G21.out (i := 1) rfl; have HE2 := hid (HE1.out.trans hEE); clear hou hps hnd hE2 hEE)
      | (go_at_call 81; refine (sBins21 _ C _ H2.out hl).mono ?_; rintro e w3 ⟨v3, rfl, hv3, hE3⟩; have HV3 := hid hv3.read; have HE3x := hid hE3; clear hv3 hE3)
      | (go_at_call 89; refine (sWhere _ _ id _ HV3.out).mono ?_; rintro e w4 ⟨rfl, n4, hw4⟩; have hE3 : Ext (w2.alloc (.cells #[.slice Arc C.room.length crc, .slice Auc ps.length cuc] 26)) w4 := HE3x.out.trans (by rw [hw4]; exact Ext.drewN _ _); have G31 := hid (hE3.obj G21.out); have G32 := hid (hE3.obj G22.out); have Q3 := hid (hE3.obj Q2.out); have HE3 := hid (HE2.out.trans hE3); have HR3 := hid (RI.ext (RI.ext HRC.out (Ext.alloc _ _)) hE3); have HO3 := hid (Own.ext (EUV.ok _) (Own.ext (EUV.ok _) HOU.out (Ext.alloc _ _)) hE3); obtain ⟨e0, e1, y0, y1, y0f, y1f, k1, k1f, r0, r1, hsm⟩ := res2 G32.out Q3.out; have HSM := hid hsm; clear hw4 hE3 hsm))
      refine bodyPost_ret (v := .tuple #[.agg #[.slice Arc C.room.length crc, .slice Auc ps.length cuc], .int .i64 4]) (by simp [results, Try.results98, go_sem, r0, r1]) rfl ?_
      rw [HC.out]
      exact ⟨_, rfl, ⟨_, _, ps, rfl, RI.same HR3.out (HSM.out _ (by rintro t rfl; decide)), Own.same (EUV.ok _) HO3.out (HSM.out _ notClu), HPS.out, HND.out⟩, Below.setCell (Below.setCell HE3.out (Nat.le_succ _) _) (Nat.le_succ _) _⟩
    · have hge : 0 ≤ whereL (C.units.map (·.tasks)) id := by omega
      have hltw := whereL_lt (C.units.map (·.tasks)) id
      obtain ⟨k, hk⟩ : ∃ k : Nat, whereL (C.units.map (·.tasks)) id = k := ⟨_, (Int.toNat_of_nonneg hge).symm⟩
      have hkl : k < C.units.length := by rw [hk, List.length_map] at hltw; omega
      obtain ⟨x, ex⟩ : ∃ x, Hid (C.units[k]? = some x) := ⟨_, hid (List.getElem?_eq_getElem hkl)⟩
      have HC : Hid (departC C id = (⟨C.room, C.units.set k ⟨x.opened, takeL id x.tasks⟩⟩, 0)) := hid (by unfold departC; rw [if_pos h1, if_neg h2, hk, Int.toNat_natCast, ex.out])
      have HXT : Hid (x.tasks.length ≤ 4000000) := hid ((clus_small h1).2 x (List.mem_of_getElem? ex.out)).1
      have i0 : ¬ (k : Int) < 0 := by omega
      have i00 : (0 : Int) ≤ (k : Int) := by omega
      clear hge hltw h2
      go_enter Try.func98, Try.ntmps98
      go_wp2_with (first
      | (go_at_call 42; refine (sClusterValid _ C _ H0.out hl hfl).mono ?_; rintro e w1 ⟨rfl, hE1⟩; rw [h1]; have H1 := hid (H0.out.ext hE1); have G11 := hid (hE1.obj G1.out); have G12 := hid (hE1.obj G2.out); have b0 := obj_cell G11.out (i := 0) rfl; have b1 := obj_cell G11.out (i := 1) rfl; have HE1 := hid (HX.out.trans hE1); clear hE1)
      | (go_at_call 79; refine (sCopy21 _ C _ H1.out hl (clus_small h1).1 (clus_small h1).2).mono ?_; rintro e w2 ⟨v2, rfl, ⟨rc, uc, ps, rfl, hrc, hou, hps, hnd⟩, hE2⟩; have HRC := hid hrc; obtain ⟨Arc, crc, rfl, _⟩ := hrc; have hpl : ps.length = C.units.length := (by rw [← hps, List.length_map]); obtain ⟨gu, cuc, rfl, hgu⟩ := Own.row hou (by omega); have hgu2 := (Own.lt hou gu rfl).2; have hz1 := obj_lt G12.out; have ip : (k : Int) < (ps.length : Int) := (by omega); clear hpl; have HOU := hid (OUV.low hou HE1.out.size); have HPS := hid hps; have HND := hid hnd; have hEE := hE2.trans (Ext.alloc w2 (.cells #[.slice Arc C.room.length crc, .slice (some ⟨gu, 0, none⟩) ps.length cuc] 26)); have H2 := hid (H1.out.ext hEE); have G21 := hid (hEE.obj G11.out); have G22 := hid (hEE.obj G12.out); have Q2 := hid (heap_alloc_new w2 (.cells #[.slice Arc C.room.length crc, .slice (some ⟨gu, 0, none⟩) ps.length cuc] 26)); have b0 := obj_cell G21.out (i := 0) rfl; have b1 := obj_cell G21.out (i := 1) rfl; have HE2 := hid (HE1.out.trans hEE); clear hou hps hnd hE2 hEE)
      | (go_at_call 81; refine (sBins21 _ C _ H2.out hl).mono ?_; rintro e w3 ⟨v3, rfl, hv3, hE3⟩; have HV3 := hid hv3.read; have HE3x := hid hE3; clear hv3 hE3)
      | (go_at_call 89; refine (sWhere _ _ id _ HV3.out).mono ?_; rintro e w4 ⟨rfl, n4, hw4⟩; rw [hk]; have hE3 : Ext (w2.alloc (.cells #[.slice Arc C.room.length crc, .slice (some ⟨gu, 0, none⟩) ps.length cuc] 26)) w4 := HE3x.out.trans (by rw [hw4]; exact Ext.drewN _ _); have G32 := hid (hE3.obj G22.out); have Q3 := hid (hE3.obj Q2.out); have HE3 := hid (HE2.out.trans hE3); have HR3 := hid (RI.ext (RI.ext HRC.out (Ext.alloc _ _)) hE3); have HO3 := hid (Own.ext (EUV.ok _) (Own.ext (EUV.ok _) HOU.out (Ext.alloc _ _)) hE3); obtain ⟨vk, hpk⟩ := at_fst HPS.out ex.out; have HPK := hid hpk; obtain ⟨cx, fx, hvk, _⟩ := OUV.at1 HO3.out hpk; obtain ⟨At, ct, rfl, _⟩ := hvk.form; have HVK := hid hvk.read; have d1 := obj_cell Q3.out (i := 1) rfl; have hz4 := obj_lt Q3.out; clear hw4 hE3 hpk hvk)
      | (go_at_call 138; refine (sTake _ [x.tasks] id _ (RSl.laid (cs := [.slice At x.tasks.length ct]) (heap_alloc_new w4 _) rfl ⟨_, rfl, RT.ext HVK.out (Ext.alloc _ _)⟩) (by simp) (by intro b hb; rw [List.mem_singleton.1 hb]; exact HXT.out)).mono ?_; rintro e w5 ⟨bv, qs, A5, c5, rfl, hob, hmp, hnd5, hri, hE5⟩; obtain ⟨tv, rfl⟩ := one_bin hmp; obtain ⟨gb, cb, rfl, hgb⟩ := Own.row hob (by simp); simp only [List.length_cons, List.length_nil, Nat.zero_add]; obtain ⟨ct5, hot5⟩ := OBV.at0 hob; obtain ⟨LL, hLL⟩ : ∃ LL, LL = lastL id [x.tasks].flatten := ⟨_, rfl⟩; rw [← hLL]; have HTV := hid hot5; have HE45 := hid ((Ext.alloc w4 _).trans hE5); have HRI := hid hri; obtain ⟨y0, y1, y0f, y1f, k1, k1f, kk, _⟩ := box2 (heap_alloc_new w5 (.cells #[.int .i64 0, .slice none 0 0] 64)) (.int .i64 LL.id) (.slice A5 LL.need.length c5); have hz5 : w4.heap.size + 1 ≤ w5.heap.size := (by have := hE5.size; simpa using this); have HC5 := hid ct5; clear hLL hri hE5 hob hot5 hmp hnd5))
      have hEA := Ext.alloc w5 (.cells #[.int .i64 LL.id, .slice A5 LL.need.length c5] 64)
      obtain ⟨W8, hW8⟩ : ∃ W8, W8 = w5.alloc (.cells #[.int .i64 LL.id, .slice A5 LL.need.length c5] 64) := ⟨_, rfl⟩
      rw [← hW8] at hEA ⊢
      clear hW8 y0 y1 y0f y1f k1 k1f kk cx fx ct5
      have hE8 := HE45.out.trans hEA
      have HE8 := hid (HE3.out.trans hE8)
      have P8 := hid (hE8.obj G32.out)
      have Q8 := hid (hE8.obj Q3.out)
      have HO8 := hid (Own.ext (EUV.ok _) HO3.out hE8)
      have HR8 := hid (RI.ext HR3.out hE8)
      have HT8 := hid (Own.ext ET.ok HTV.out hEA)
      have HC8 := hid (hEA.cell HC5.out)
      obtain ⟨cx8, fx8, _, hgu8⟩ := OUV.at1 HO8.out HPK.out
      obtain ⟨Atv, ctv, rfl, _, _⟩ := HT8.out.form
      have KS := hid (And.intro (obj_cell Q8.out (i := 1) rfl) HC8.out)
      clear hE8 hEA
      refine WG.start (fun w' => w'.cell? ⟨w2.heap.size, 1, none⟩ = some (.slice (some ⟨gu, 0, none⟩) ps.length cuc) ∧ w'.cell? ⟨gb, 0, none⟩ = some (.slice Atv (takeL id x.tasks).length ctv)) [8] (by kernel_rfl) (by exact KS.out) (fun hHeld => ?_)
      (refine WG.take (i := 0) (v := ?_) rfl (by kernel_rfl) (by kernel_rfl) (by kernel_rfl) (by kernel_rfl) (fun _ _ _ h => h) (Or.inl ⟨by rfl, ?_⟩) (by assumption) ?_; rotate_left; (intro w hSw; (try dsimp only at hSw); go_split_ands; go_simp; (try with_reducible rfl)); (try simp only [Act.put, List.setIfInBounds_toArray, List.set_cons_zero, List.set_cons_succ]))
      (refine WG.take (i := 1) (v := ?_) rfl (by kernel_rfl) (by kernel_rfl) (by kernel_rfl) (by kernel_rfl) (fun _ _ _ h => h) (Or.inl ⟨by rfl, ?_⟩) (by assumption) ?_; rotate_left; (intro w hSw; (try dsimp only at hSw); go_split_ands; go_simp; (try with_reducible rfl)); (try simp only [Act.put, List.setIfInBounds_toArray, List.set_cons_zero, List.set_cons_succ]))
      (refine WG.take (i := 2) (v := ?_) rfl (by kernel_rfl) (by kernel_rfl) (by kernel_rfl) (by kernel_rfl) (fun _ _ _ h => h) (Or.inl ⟨by rfl, ?_⟩) (by assumption) ?_; rotate_left; (intro w hSw; (try dsimp only at hSw); go_split_ands; go_simp; (try with_reducible rfl)); (try simp only [Act.put, List.setIfInBounds_toArray, List.set_cons_zero, List.set_cons_succ]))
      (refine WG.take (i := 3) (v := ?_) rfl (by kernel_rfl) (by kernel_rfl) (by kernel_rfl) (by kernel_rfl) (fun _ _ _ h => h) (Or.inl ⟨by rfl, ?_⟩) (by assumption) ?_; rotate_left; (intro w hSw; (try dsimp only at hSw); go_split_ands; go_simp; (try with_reducible rfl)); (try simp only [Act.put, List.setIfInBounds_toArray, List.set_cons_zero, List.set_cons_succ]))
      (refine WG.take (i := 4) (v := ?_) rfl (by kernel_rfl) (by kernel_rfl) (by kernel_rfl) (by kernel_rfl) (fun _ _ _ h => h) (Or.inl ⟨by rfl, ?_⟩) (by assumption) ?_; rotate_left; (intro w hSw; (try dsimp only at hSw); go_split_ands; go_simp; (try with_reducible rfl)); (try simp only [Act.put, List.setIfInBounds_toArray, List.set_cons_zero, List.set_cons_succ]))
      (refine WG.take (i := 5) (v := ?_) rfl (by kernel_rfl) (by kernel_rfl) (by kernel_rfl) (by kernel_rfl) (fun _ _ _ h => h) (Or.inl ⟨by rfl, ?_⟩) (by assumption) ?_; rotate_left; (intro w hSw; (try dsimp only at hSw); go_split_ands; go_simp; (try with_reducible rfl)); (try simp only [Act.put, List.setIfInBounds_toArray, List.set_cons_zero, List.set_cons_succ]))
      (refine WG.take (i := 6) (v := ?_) rfl (by kernel_rfl) (by kernel_rfl) (by kernel_rfl) (by kernel_rfl) (fun _ _ _ h => h) (Or.inl ⟨by rfl, ?_⟩) (by assumption) ?_; rotate_left; (intro w hSw; (try dsimp only at hSw); go_split_ands; go_simp; (try with_reducible rfl)); (try simp only [Act.put, List.setIfInBounds_toArray, List.set_cons_zero, List.set_cons_succ]))
      (refine WG.take (i := 7) (v := ?_) rfl (by kernel_rfl) (by kernel_rfl) (by kernel_rfl) (by kernel_rfl) (fun _ _ _ h => h) (Or.inl ⟨by rfl, ?_⟩) (by assumption) ?_; rotate_left; (intro w hSw; (try dsimp only at hSw); go_split_ands; go_simp; (try with_reducible rfl)); (try simp only [Act.put, List.setIfInBounds_toArray, List.set_cons_zero, List.set_cons_succ]))
      refine WG.last (i := 8) rfl (by kernel_rfl) (by kernel_rfl) (fun K hK => ?_)
      go_simp
      refine hK.out _ _ ?_
      clear hK K
      (try simp only [Act.put, List.setIfInBounds_toArray, List.set_cons_zero, List.set_cons_succ])
      refine WG.done (by kernel_rfl) ?_
      have P9 := obj_far P8.out (p := ⟨gu, k * 2 + 1, none⟩) (by show w.heap.size + 1 ≠ gu; omega) (.slice Atv (takeL id x.tasks).length ctv)
      have Q9 := obj_far Q8.out (p := ⟨gu, k * 2 + 1, none⟩) (by show w2.heap.size ≠ gu; omega) (.slice Atv (takeL id x.tasks).length ctv)
      obtain ⟨e0, e1, y0, y1, y0f, y1f, k1, k1f, r0, r1, hsm⟩ := res2 P9 Q9
      have HSM := hid hsm
      clear P9 Q9 hsm
      go_wp2
      refine bodyPost_ret (v := .tuple #[.agg #[.slice Arc C.room.length crc, .slice (some ⟨gu, 0, none⟩) ps.length cuc], .int .i64 0]) (by simp [results, Try.results98, go_sem, r0, r1]) rfl ?_
      rw [HC.out]
      have hle := HE3.out.size
      have hle8 := HE8.out.size
      have hset := OUV.set1 HO8.out HPK.out (takeL id x.tasks) _ (Own.low HT8.out (by simp; omega))
      have hd : ∀ W : World, Ext W W.drew := fun W => Below.drew (Below.refl _ _)
      exact ⟨_, rfl, ⟨_, _, ps.set k (⟨x.opened, takeL id x.tasks⟩, _), rfl, RI.ext (RI.same (RI.same HR8.out (hset.2.mono (by rintro t rfl; decide))) (HSM.out _ (by rintro t rfl; decide))) (hd _), Own.ext (EUV.ok _) (Own.same (EUV.ok _) hset.1 (HSM.out _ notClu)) (hd _), (by rw [List.map_set, HPS.out]), nodup_set ps k _ HND.out (fun g hg hm => by have h3 := (Own.lt HT8.out g hg).1; have h4 := (OUV.lt HO3.out g hm).2; simp at h3; omega)⟩, (Below.setCell (Below.setCell (Below.setCell HE8.out (by show w.heap.size ≤ gu; omega) _) (Nat.le_succ _) _) (Nat.le_succ _) _).trans ((hd _).mono (by simp; omega))⟩
  · have h1 : clusOk C = false := by simpa using h1
    have HC : Hid (departC C id = (⟨[], []⟩, 1)) := hid (by unfold departC; rw [h1]; rfl)
    go_enter Try.func98, Try.ntmps98
    go_wp2_with (go_at_call 42; refine (sClusterValid _ C _ H0.out hl hfl).mono ?_; rintro e w1 ⟨rfl, hE1⟩; rw [h1]; obtain ⟨_, _, y0, y1, y0f, y1f, k1, k1f, r0, r1, hsm⟩ := res2 (hE1.obj G2.out) (hE1.obj G2.out); have HE1 := hid hE1; clear hE1 hsm)
    refine bodyPost_ret (v := .tuple #[.agg #[.slice none 0 0, .slice none 0 0], .int .i64 1]) (by simp [results, Try.results98, go_sem, r0, r1]) rfl ?_
    rw [HC.out]
    exact ⟨_, rfl, OCl.zero _ _, Below.setCell (Below.setCell (HX.out.trans HE1.out) (Nat.le_succ _) _) (Nat.le_succ _) _⟩

end Go.Proofs.Ytfgibhdglbjadaa
