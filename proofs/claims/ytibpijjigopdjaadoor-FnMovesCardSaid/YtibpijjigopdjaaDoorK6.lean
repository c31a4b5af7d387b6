/- The reference's copies of nodes; a task is put into a node. -/
import Derived.Test.YtibpijjigopdjaaDoorK5
import Derived.Test.YtibpijjigopdjaaDoorK1
import Derived.Test.YtibpijjigopdjaaDoorK2
namespace Go.Proofs.YtibpijjigopdjaaDoor
open Go.RowKit
set_option maxRecDepth 4000

theorem blocksB_app (a b : List (List TaskD × Value)) : blocksOfB (a ++ b) = blocksOfB a ++ blocksOfB b := by simp [blocksOfB]
theorem nodupB_more {w : World} {base : Nat} {u tv : Value} {ps : List (List TaskD × Value)} {x : List TaskD} (h : OBV w base u ps) (hn : (blocksOfB ps).Nodup) (hf : ∀ g, tv.ownBlock = some g → w.heap.size ≤ g) : (blocksOfB (ps ++ [(x, tv)])).Nodup := by
  rw [blocksB_app]
  refine List.nodup_append.2 ⟨hn, ?_, ?_⟩
  · unfold blocksOfB
    cases hb : tv.ownBlock <;> simp [hb]
  · intro a ha b hb
    have h1 := (OBV.lt h a ha).2
    obtain ⟨q, hq, hqb⟩ := List.mem_filterMap.1 hb
    have hq : q = (x, tv) := by simpa using hq
    subst hq
    have := hf b hqb
    omega
/-- nodes that are small enough for every walk -/
structure SmallB (bs : List (List TaskD)) : Prop where
  len : bs.length ≤ 1000
  flat : bs.flatten.length ≤ 4000000
  rows : ∀ b ∈ bs, b.length ≤ 4000000 ∧ ∀ t ∈ b, t.need.length ≤ 4000000

set_option maxHeartbeats 2000000 in
theorem sBins2 (v : Value) (bs : List (List TaskD)) (w : World) (h : RB w v bs) (hl : bs.length ≤ 4000000) (hb : ∀ b ∈ bs, b.length ≤ 4000000 ∧ ∀ t ∈ b, t.need.length ≤ 4000000) :
    Calls Tryd.prog 81 #[v] w fun e w' => ∃ bv ps, e = .returned bv ∧ OBV w' w.heap.size bv ps ∧ ps.map (·.1) = bs ∧ (blocksOfB ps).Nodup ∧ Ext w w' := by
  obtain ⟨A, c, rfl, hc, hc', hr⟩ := RB.get h
  clear h
  obtain ⟨i0_bin, hi0_bin, hz0_bin, hz1_bin, hz2_bin⟩ := info_parts info_bin
  go_enter Tryd.func81, Tryd.ntmps81
  go_wp2
  go_loopw [3, 4] (fun o i wr => ∃ (u : Value) (k : Nat) (ps : List (List TaskD × Value)), u = o ∧ k ≤ bs.length ∧ i = .int .i64 k ∧ Hid (OBV wr w.heap.size u ps ∧ ps.map (·.1) = bs.take k ∧ (blocksOfB ps).Nodup ∧ Ext w wr)) (fun _ i _ => bs.length - (intOf i).toNat)
  case atStart => exact ⟨_, 0, [], rfl, Nat.zero_le _, rfl, hid ⟨Own.made _ _ (Nat.le_refl _) (by omega) rfl, rfl, List.nodup_nil, Ext.alloc _ _⟩⟩
  case round =>
    obtain ⟨u, k, ps, rfl, hk, rfl, H⟩ := hrel
    have HO := hid H.out.1
    have HM := hid H.out.2.1
    have HND := hid H.out.2.2.1
    have HE := hid H.out.2.2.2
    clear H
    by_cases hlt : k < bs.length
    · obtain ⟨b, o, x, An, cn, rfl, e, c1, hnx⟩ := hr k hlt
      have i1 : (k : Int) < (bs.length : Int) := by omega
      have c1r := HE.out.cell c1
      have HN := hid (RT.ext hnx HE.out)
      have HB := hid (hb x (List.mem_of_getElem? e.out))
      have HPL : Hid (ps.length ≤ 4000000) := hid (by have := congrArg List.length HM.out; simp at this; omega)
      clear c1 hnx
      go_wp2_with (first
        | (go_at_call 118; refine (sCopy _ x _ HN.out HB.out.1 HB.out.2).mono ?_; rintro e w1 ⟨v1, rfl, hO1, hE1⟩; obtain ⟨A1, c1, rfl, _, _⟩ := hO1.form; have hx := Ext.alloc w1 (.cells #[.slice A1 x.length c1] 41); have HT := hid (Own.low (base' := w.heap.size) (hO1.ext ET.ok hx) HE.out.size); have HLO := hid hO1.lt; have hsz2 : w.heap.size ≤ w1.heap.size := (HE.out.trans hE1).size; have HE1 := hid (hE1.trans hx); have HPO := hid (HO.out.ext (EBV.ok _) HE1.out); have HES := hid hE1.size; clear hO1 hE1 hx)
        | (at_builtin; refine wpList_append_sl _ (by rfl) _ _ 24 (by rfl) (EBV.ok _) (EBV.flat _) (w.heap.size) 41 EBV.ne i0_bin _ 1 24 Tryd.underlying24 hi0_bin hz0_bin hz1_bin hz2_bin rfl (by omega) _ (by rfl) _ (HPO.out) _ (by rfl) _ (RSl.laid (cs := [.slice A1 x.length c1]) (x := (x, .slice A1 x.length c1)) (heap_alloc_new _ _) rfl ⟨rfl, HT.out⟩) (by have := HPL.out; simp; omega) (by have := HPL.out; simp; omega) ?_ ?_; (focus (first | exact Nat.le_refl _ | (simp; done) | (simp; omega) | omega)); intro v4 w4 hO hg hat hs; have HO4 := hid hO; have HG := hid hg; clear hO hg hat hs))
      go_roundw
      case rel =>
        refine ⟨_, k + 1, ps ++ [(x, .slice A1 x.length c1)], rfl, by omega, by go_num, hid ⟨HO4.out, by rw [List.map_append, HM.out, take_snoc e.out]; rfl, nodupB_more HO.out HND.out (fun g hg => ?_), ?_⟩⟩
        · exact (HLO.out g hg).1
        · exact Ext.grown (HE.out.trans HE1.out) HG.out (fun q hq => Own.lt HPO.out q hq)
      case measure => simp [intOf]; omega
    · obtain ⟨Au, cu, rfl, _, _⟩ := HO.out.form
      go_wp2
      go_ret
      have hk' : k = bs.length := by omega
      subst hk'
      have hm := HM.out
      rw [List.take_length] at hm
      exact ⟨_, ps, rfl, HO.out, hm, HND.out, HE.out⟩

end Go.Proofs.YtibpijjigopdjaaDoor

/- The reference puts a task into a node. -/
namespace Go.Proofs.YtibpijjigopdjaaDoor
open Go.RowKit
set_option maxRecDepth 4000

theorem Own.of_empty {α : Type} {e : TypeId} {size : Nat} {E : Enc α} {w : World} {base B : Nat} (h : w.heap[B]? = some (.cells #[] e (0, 0))) (hb : base ≤ B) : Own (α := α) e size E w base (.slice (some ⟨B, 0, none⟩) 0 0) [] :=
  ⟨[], ⟨by simp, .inr ⟨B, 0, #[], rfl, hb, h, Nat.le_refl _, by unfold maxLen; omega, by simp, by simp⟩⟩, Cells.nil_ _ _ _⟩
theorem at_fstB {ps : List (List TaskD × Value)} {bs : List (List TaskD)} (h : ps.map (·.1) = bs) {k : Nat} {x : List TaskD} (hx : bs[k]? = some x) : ∃ v, ps[k]? = some (x, v) := by
  rw [← h, List.getElem?_map] at hx
  cases hp : ps[k]? with
  | none => rw [hp] at hx; cases hx
  | some p =>
    rw [hp] at hx
    have hx : p.1 = x := by simpa using hx
    exact ⟨p.2, by rw [← hx]⟩
theorem blocksB_apart {ps : List (List TaskD × Value)} (h : (blocksOfB ps).Nodup) {i k : Nat} {p q : List TaskD × Value} (hi : ps[i]? = some p) (hk : ps[k]? = some q) (hik : i ≠ k) {a : Nat} (ha : p.2.ownBlock = some a) : q.2.ownBlock ≠ some a := by
  intro hb
  unfold blocksOfB at h
  rw [List.nodup_iff_pairwise_ne, List.pairwise_filterMap, List.pairwise_iff_getElem] at h
  obtain ⟨li, ei⟩ := List.getElem?_eq_some_iff.1 hi
  obtain ⟨lk, ek⟩ := List.getElem?_eq_some_iff.1 hk
  rcases Nat.lt_or_gt_of_ne hik with hlt | hlt
  · exact h i k li lk hlt a (by rw [ei]; exact ha) a (by rw [ek]; exact hb) rfl
  · exact h k i lk li hlt a (by rw [ek]; exact hb) a (by rw [ei]; exact ha) rfl
/-- a node's row in the row of nodes -/
theorem OBV.at_ {w : World} {base g n c : Nat} {ps : List (List TaskD × Value)} (h : OBV w base (.slice (some ⟨g, 0, none⟩) n c) ps) {k : Nat} {b : List TaskD} {tv : Value} (hk : ps[k]? = some (b, tv)) :
    w.cell? ⟨g, k, none⟩ = some tv ∧ w.frozen? ⟨g, k, none⟩ = false ∧ OT w base tv b ∧ tv.ownBlock ≠ some g := by
  have h0 := h
  obtain ⟨cells, ho, hc⟩ := h
  obtain ⟨cs, hl, ⟨he, ht⟩, hcc⟩ := hc.2 k _ hk
  subst he
  have h1 := hcc 0 tv rfl
  rcases ho.2 with ⟨h2, _⟩ | ⟨g', cap, cur, h2, hb, hg, hlc, _, hsz, htk⟩
  · cases h2
  · injection h2 with h2 _ _
    injection h2 with h2
    injection h2 with h2 _ _
    subst h2
    refine ⟨obj_cell hg ?_, obj_frozen hg _, ht, fun e => Own.block_ne (by decide) ht h0 e rfl⟩
    rw [← htk, List.getElem?_take] at h1
    split at h1
    · simpa using h1
    · cases h1
/-- one node's row has grown (in place or in a block that is new), and the node takes it -/
theorem OBV.grow {w w' : World} {base g n c : Nat} {ps : List (List TaskD × Value)} (h : OBV w base (.slice (some ⟨g, 0, none⟩) n c) ps) (hnd : (blocksOfB ps).Nodup) {k : Nat} {b : List TaskD} {tv : Value} (hk : ps[k]? = some (b, tv)) (hg : w.grownBy w' tv.ownBlock) (hs : SameT (fun t => t ≠ 44) w w') {ts : List TaskD} {v' : Value} (ht : OT w' base v' ts) :
    OBV (w'.setCell ⟨g, k, none⟩ v') base (.slice (some ⟨g, 0, none⟩) n c) (ps.set k (ts, v')) ∧ SameT (fun t => t ≠ 41) w' (w'.setCell ⟨g, k, none⟩ v') := by
  have h0 := h
  obtain ⟨cells, ho, hc⟩ := h
  have hn : n = ps.length := by
    rcases ho.2 with ⟨h1, _⟩ | ⟨g', cap, cur, h1, _⟩
    · cases h1
    · injection h1
  subst hn
  rcases ho.2 with ⟨h1, _⟩ | ⟨g', cap, cur, h1, hb, hh, hr⟩
  · cases h1
  have h1' := h1
  injection h1 with h1 _ _
  injection h1 with h1
  injection h1 with h1 _ _
  subst h1
  have hh' := hs _ _ _ _ (by decide) hh
  have ho' : w'.ownsRow base 41 1 (.slice (some ⟨g, 0, none⟩) ps.length c) ps.length cells := ⟨ho.1, .inr ⟨g, cap, cur, h1', hb, hh', hr⟩⟩
  have hs2 : SameT (fun t => t ≠ 41) w' (w'.setCell ⟨g, k, none⟩ v') := SameT.setCell (p := ⟨g, k, none⟩) hh' v' (fun t ht => ht)
  have hst := ho'.stored k v'
  refine ⟨⟨cells.set k v', by rw [List.length_set]; exact hst.1, ?_⟩, hs2⟩
  have hcx := Cells.setx (i := 0) (u := v') (x' := (ts, v')) (w' := w'.setCell ⟨g, k, none⟩ v') hc hk (by omega) (fun i y cs hik hy ⟨he, hty⟩ => ⟨he, ?_⟩) (fun cs hl ⟨he, _⟩ => ⟨by rw [he]; rfl, Own.same ET.ok ht (hs2.mono (by rintro t (rfl | rfl) <;> decide))⟩)
  · simpa using hcx
  · refine OT.far hty (fun a ha => ?_) ((hs.mono (by rintro t rfl; decide)).trans (hs2.mono (by rintro t rfl; decide)))
    have hag : a ≠ g := fun e => Own.block_ne (by decide) hty h0 ha (by rw [e]; rfl)
    exact (Below.heap_setCell _ _ _ _ hag).trans (hg.block a (hty.lt a ha).2 (fun e => blocksB_apart hnd hy hk hik ha e.symm))

set_option maxHeartbeats 4000000 in
theorem sPutNew (v xv : Value) (bs : List (List TaskD)) (at' : Int) (x : TaskD) (w : World) (h : RB w v bs) (hx : TaskV w xv x) (hl : bs.length ≤ 3000000) (hb : ∀ b ∈ bs, b.length ≤ 4000000 ∧ ∀ t ∈ b, t.need.length ≤ 4000000) (hn : x.need.length ≤ 4000000) (h0 : at' < 0) :
    Calls Tryd.prog 89 #[v, .int .i64 at', xv] w (RetRB w (bs ++ [[x]])) := by
  obtain ⟨A, c, rfl, hc, hc', hr⟩ := RB.get h
  have HR := hid hr
  have HB0 := hid h
  have HBB := hid hb
  have HLN := hid hn
  obtain ⟨nv, rfl, hnv⟩ := hx
  have HNV := hid hnv
  obtain ⟨An, cn, rfl, _⟩ := hnv
  clear hr h hb hn
  obtain ⟨i0_int, hi0_int, hz0_int, hz1_int, hz2_int⟩ := info_parts info_int
  obtain ⟨i0_task, hi0_task, hz0_task, hz1_task, hz2_task⟩ := info_parts info_task
  obtain ⟨i0_bin, hi0_bin, hz0_bin, hz1_bin, hz2_bin⟩ := info_parts info_bin
  obtain ⟨W, hW⟩ : ∃ W, W = w.alloc (.cells #[.int .i64 x.id, .slice An x.need.length cn] 44) := ⟨_, rfl⟩
  have hEW : Ext w W := by rw [hW]; exact Ext.alloc _ _
  have hbx : W.heap[w.heap.size]? = some (.cells #[.int .i64 x.id, .slice An x.need.length cn] 44 (0, 0)) := by rw [hW]; exact heap_alloc_new _ _
  have KB : Hid (∀ w', Ext W w' → w'.cell? ⟨w.heap.size, 0, none⟩ = some (.int .i64 x.id) ∧ w'.cell? ⟨w.heap.size, 1, none⟩ = some (.slice An x.need.length cn)) := hid fun w' hw => ⟨obj_cell (hw.obj hbx) (i := 0) rfl, obj_cell (hw.obj hbx) (i := 1) rfl⟩
  have HEW := hid hEW
  have HNW := hid (RI.ext HNV.out hEW)
  have HBW := hid (RB.ext HB0.out hEW)
  have HWS : Hid (w.heap.size < W.heap.size) := hid (obj_lt hbx)
  clear hbx hEW
  go_enter Tryd.func89, Tryd.ntmps89
  go_wp2_with (go_at_call 81; rw [← hW]; refine (sBins2 _ bs _ HBW.out (by omega) HBB.out).mono ?_; rintro e w1 ⟨bv, ps, rfl, hO1, hP1, hN1, hE1⟩; obtain ⟨Au, cu, rfl, _, _⟩ := hO1.form; have HO1 := hid hO1; have HP1 := hid hP1; have HN1 := hid hN1; have HE1 := hid hE1; clear hO1 hP1 hN1 hE1 hW)
  have KS : Hid (∀ w', Ext w1 w' → w'.cell? ⟨w.heap.size, 0, none⟩ = some (.int .i64 x.id) ∧ w'.cell? ⟨w.heap.size, 1, none⟩ = some (.slice An x.need.length cn)) := hid fun w' hw => KB.out w' (HE1.out.trans hw)
  have HD : Hid (Ext w1 w1.drew) := hid (Below.drew (Below.refl _ _))
  have HPL : Hid (ps.length = bs.length) := hid (by rw [← HP1.out, List.length_map])
  refine join_at (fun a w' => ∃ (B8 : Nat) (A1 : Option Addr) (c1 : Nat) (x3 x4 x9 x10 x11 x12 x13 x14 x15 x16 x17 x18 x19 x20 x21 x22 x23 x24 x25 x26 x27 x28 x29 x30 x31 x32 x33 x34 x35 : Value), a = { tmps := #[.slice A bs.length c, .int .i64 at', .agg #[.int .i64 x.id, .slice An x.need.length cn], x3, x4, .pointer (some ⟨w.heap.size, 0, none⟩), .slice none 0 0, .slice Au ps.length cu, .pointer (some ⟨B8, 0, none⟩), x9, x10, x11, x12, x13, x14, x15, x16, x17, x18, x19, x20, x21, x22, x23, x24, x25, x26, x27, x28, x29, x30, x31, x32, x33, x34, x35], defers := [] } ∧ (w'.heap[B8]? = some (.cells #[.int .i64 x.id, .slice A1 x.need.length c1] 44 (0, 0)) ∧ RI w' (.slice A1 x.need.length c1) x.need ∧ w1.heap.size ≤ B8 ∧ Ext w1 w')) (fun JP hJP => ?_) ?_
  · have HJP := hid hJP
    clear hJP
    refine WG.start (fun w' => w'.cell? ⟨w.heap.size, 0, none⟩ = some (.int .i64 x.id) ∧ w'.cell? ⟨w.heap.size, 1, none⟩ = some (.slice An x.need.length cn)) [8] (by kernel_rfl) (by exact KS.out _ HD.out) (fun hHeld => ?_)
    obtain ⟨pz, hpz⟩ : ∃ x, x = w1.drew := ⟨_, rfl⟩
    rw [← hpz] at hHeld ⊢
    have HX : Hid (Ext w1 pz) := hid (by rw [hpz]; exact HD.out)
    clear hpz
    (refine WG.take (i := 0) (v := ?_) rfl (by kernel_rfl) (by kernel_rfl) (by kernel_rfl) (by kernel_rfl) (fun _ _ _ h => h) (Or.inl ⟨by rfl, ?_⟩) (by assumption) ?_; rotate_left; (intro w hSw; (try dsimp only at hSw); go_split_ands; go_simp; (try with_reducible rfl)); (try simp only [Act.put, List.setIfInBounds_toArray, List.set_cons_zero, List.set_cons_succ]))
    (refine WG.take (i := 1) (v := ?_) rfl (by kernel_rfl) (by kernel_rfl) (by kernel_rfl) (by kernel_rfl) (fun _ _ _ h => h) (Or.inl ⟨by rfl, ?_⟩) (by assumption) ?_; rotate_left; (intro w hSw; (try dsimp only at hSw); go_split_ands; go_simp; (try with_reducible rfl)); (try simp only [Act.put, List.setIfInBounds_toArray, List.set_cons_zero, List.set_cons_succ]))
    (refine WG.take (i := 3) (v := ?_) rfl (by kernel_rfl) (by kernel_rfl) (by kernel_rfl) (by kernel_rfl) (fun _ _ _ h => h) (Or.inl ⟨by rfl, ?_⟩) (by assumption) ?_; rotate_left; (intro w hSw; (try dsimp only at hSw); go_split_ands; go_simp; (try with_reducible rfl)); (try simp only [Act.put, List.setIfInBounds_toArray, List.set_cons_zero, List.set_cons_succ]))
    (refine WG.take (i := 4) (v := ?_) rfl (by kernel_rfl) (by kernel_rfl) (by kernel_rfl) (by kernel_rfl) (fun _ _ _ h => h) (Or.inl ⟨by rfl, ?_⟩) (by assumption) ?_; rotate_left; (intro w hSw; (try dsimp only at hSw); go_split_ands; go_simp; (try with_reducible rfl)); (try simp only [Act.put, List.setIfInBounds_toArray, List.set_cons_zero, List.set_cons_succ]))
    refine WG.two (i := 2) (j := 7) rfl rfl (by kernel_rfl) (fun K hK => ?_) (fun K hK => ?_)
    · go_simp
      refine hK.out _ _ (by exact KS.out _ (HX.out.trans (Ext.alloc _ _))) (fun hHeld => ?_)
      clear hK K
      (try simp only [Act.put, List.setIfInBounds_toArray, List.set_cons_zero, List.set_cons_succ])
      obtain ⟨p1, hp1⟩ : ∃ x, x = pz.alloc (.cells #[] 3) := ⟨_, rfl⟩
      obtain ⟨Bm, hBm⟩ : ∃ x, x = pz.heap.size := ⟨_, rfl⟩
      have hE : Ext pz p1 := by rw [hp1]; exact Ext.alloc _ _
      have HBm : Hid (p1.heap[Bm]? = some (.cells #[] 3 (0, 0))) := hid (by rw [hp1, hBm]; exact heap_alloc_new _ _)
      have HLm : Hid (w1.heap.size ≤ Bm) := hid (by rw [hBm]; exact HX.out.size)
      rw [← hp1] at hHeld ⊢
      rw [← hBm]
      have HX := hid (HX.out.trans hE)
      clear hp1 hBm hE
      refine WG.two (i := 5) (j := 7) rfl rfl (by kernel_rfl) (fun K hK => ?_) (fun K hK => ?_)
      · have hOm : OI p1 w1.heap.size (.slice (some ⟨Bm, 0, none⟩) 0 0) [] := Own.of_empty HBm.out HLm.out
        have hszx : w1.heap.size ≤ p1.heap.size := HX.out.size
        refine step_append_sl _ (by rfl) _ _ 23 (by rfl) EI.ok EI.flat (w1.heap.size) 3 EI.ne i0_int _ 1 8 Tryd.underlying23 hi0_int hz0_int hz1_int hz2_int rfl (by omega) _ (by rfl) _ (hOm) _ (by rfl) _ (HNW.out.ext (HE1.out.trans HX.out)) (by have := HLN.out; simp; omega) (by have := HLN.out; simp; omega) ?_ ?_; (focus (first | exact Nat.le_refl _ | (simp; done) | (simp; omega) | omega)); intro v1 p2 hO1 hg1 hat1 hs1
        rw [List.nil_append] at hO1
        obtain ⟨A1, c1, rfl, _, _⟩ := hO1.form
        have HR1 : Hid (RI p2 (.slice A1 x.need.length c1) x.need) := hid hO1.read
        clear hO1 hat1 hs1
        have hX2 : Ext w1 p2 := Ext.grown HX.out hg1 hOm.lt
        have HX := hid hX2
        refine hK.out _ _ (by exact KS.out _ HX.out) (fun hHeld => ?_)
        clear hK K hX2 hg1 hOm
        (try simp only [Act.put, List.setIfInBounds_toArray, List.set_cons_zero, List.set_cons_succ])
        (refine WG.take (i := 6) (v := ?_) rfl (by kernel_rfl) (by kernel_rfl) (by kernel_rfl) (by kernel_rfl) (fun _ _ _ h => h) (Or.inl ⟨by rfl, ?_⟩) (by assumption) ?_; rotate_left; (intro w hSw; (try dsimp only at hSw); go_split_ands; go_simp; (try with_reducible rfl)); (try simp only [Act.put, List.setIfInBounds_toArray, List.set_cons_zero, List.set_cons_succ]))
        refine WG.one (i := 7) rfl (by kernel_rfl) (fun K hK => ?_)
        go_simp
        refine hK.out _ _ (by exact KS.out _ (HX.out.trans (Ext.alloc _ _))) (fun hHeld => ?_)
        clear hK K
        (try simp only [Act.put, List.setIfInBounds_toArray, List.set_cons_zero, List.set_cons_succ])
        obtain ⟨p3, hp3⟩ : ∃ x, x = p2.alloc (.cells #[.int .i64 0, .slice none 0 0] 44) := ⟨_, rfl⟩
        obtain ⟨B8, hB8⟩ : ∃ x, x = p2.heap.size := ⟨_, rfl⟩
        have hE : Ext p2 p3 := by rw [hp3]; exact Ext.alloc _ _
        have HB8 : Hid (p3.heap[B8]? = some (.cells #[.int .i64 0, .slice none 0 0] 44 (0, 0))) := hid (by rw [hp3, hB8]; exact heap_alloc_new _ _)
        have HL8 : Hid (w1.heap.size ≤ B8) := hid (by rw [hB8]; exact HX.out.size)
        rw [← hp3] at hHeld ⊢
        rw [← hB8]
        have HX := hid (HX.out.trans hE)
        have HR1 := hid (HR1.out.ext hE)
        clear hp3 hB8 hE
        obtain ⟨y0, y1, y0f, y1f, k1, k1f, hkk, hsm⟩ := box2 HB8.out (.int .i64 x.id) (.slice A1 x.need.length c1)

        refine WG.last (i := 8) rfl (by kernel_rfl) (by kernel_rfl) (fun K hK => ?_)
        go_simp
        refine hK.out _ _ ?_
        clear hK K
        (try simp only [Act.put, List.setIfInBounds_toArray, List.set_cons_zero, List.set_cons_succ])
        refine WG.done (by kernel_rfl) ?_
        exact HJP.out _ _ ⟨B8, A1, c1, _, _, _, _, _, _, _, _, _, _, _, _, _, _, _, _, _, _, _, _, _, _, _, _, _, _, _, _, _, rfl, hkk, RI.same HR1.out (hsm _ (by rintro t rfl; decide)), HL8.out, Below.setCell (Below.setCell HX.out HL8.out _) HL8.out _⟩
      · go_simp
        refine hK.out _ _ (by exact KS.out _ (HX.out.trans (Ext.alloc _ _))) (fun hHeld => ?_)
        clear hK K
        (try simp only [Act.put, List.setIfInBounds_toArray, List.set_cons_zero, List.set_cons_succ])
        obtain ⟨p4, hp4⟩ : ∃ x, x = p1.alloc (.cells #[.int .i64 0, .slice none 0 0] 44) := ⟨_, rfl⟩
        obtain ⟨B8, hB8⟩ : ∃ x, x = p1.heap.size := ⟨_, rfl⟩
        have hE : Ext p1 p4 := by rw [hp4]; exact Ext.alloc _ _
        have HB8 : Hid (p4.heap[B8]? = some (.cells #[.int .i64 0, .slice none 0 0] 44 (0, 0))) := hid (by rw [hp4, hB8]; exact heap_alloc_new _ _)
        have HL8 : Hid (w1.heap.size ≤ B8) := hid (by rw [hB8]; exact HX.out.size)
        have hNm8 : Bm ≠ B8 := by have := obj_lt HBm.out; omega
        have hN8m : B8 ≠ Bm := Ne.symm hNm8
        rw [← hp4] at hHeld ⊢
        rw [← hB8]
        have HX := hid (HX.out.trans hE)
        have HBm := hid (hE.obj HBm.out)
        clear hp4 hB8 hE
        refine WG.one (i := 5) rfl (by kernel_rfl) (fun K hK => ?_)
        have hOm : OI p4 w1.heap.size (.slice (some ⟨Bm, 0, none⟩) 0 0) [] := Own.of_empty HBm.out HLm.out
        have hszx : w1.heap.size ≤ p4.heap.size := HX.out.size
        refine step_append_sl _ (by rfl) _ _ 23 (by rfl) EI.ok EI.flat (w1.heap.size) 3 EI.ne i0_int _ 1 8 Tryd.underlying23 hi0_int hz0_int hz1_int hz2_int rfl (by omega) _ (by rfl) _ (hOm) _ (by rfl) _ (HNW.out.ext (HE1.out.trans HX.out)) (by have := HLN.out; simp; omega) (by have := HLN.out; simp; omega) ?_ ?_; (focus (first | exact Nat.le_refl _ | (simp; done) | (simp; omega) | omega)); intro v1 p5 hO1 hg1 hat1 hs1
        rw [List.nil_append] at hO1
        obtain ⟨A1, c1, rfl, _, _⟩ := hO1.form
        have HR1 : Hid (RI p5 (.slice A1 x.need.length c1) x.need) := hid hO1.read
        clear hO1 hat1 hs1
        have hX2 : Ext w1 p5 := Ext.grown HX.out hg1 hOm.lt
        have HX := hid hX2
        have HB8 := hid ((hg1.block _ (obj_lt HB8.out) (by intro he; injection he with he; exact hNm8 he.symm)).trans HB8.out)
        refine hK.out _ _ (by exact KS.out _ HX.out) (fun hHeld => ?_)
        clear hK K hX2 hg1 hOm
        (try simp only [Act.put, List.setIfInBounds_toArray, List.set_cons_zero, List.set_cons_succ])
        (refine WG.take (i := 6) (v := ?_) rfl (by kernel_rfl) (by kernel_rfl) (by kernel_rfl) (by kernel_rfl) (fun _ _ _ h => h) (Or.inl ⟨by rfl, ?_⟩) (by assumption) ?_; rotate_left; (intro w hSw; (try dsimp only at hSw); go_split_ands; go_simp; (try with_reducible rfl)); (try simp only [Act.put, List.setIfInBounds_toArray, List.set_cons_zero, List.set_cons_succ]))
        obtain ⟨y0, y1, y0f, y1f, k1, k1f, hkk, hsm⟩ := box2 HB8.out (.int .i64 x.id) (.slice A1 x.need.length c1)

        refine WG.last (i := 8) rfl (by kernel_rfl) (by kernel_rfl) (fun K hK => ?_)
        go_simp
        refine hK.out _ _ ?_
        clear hK K
        (try simp only [Act.put, List.setIfInBounds_toArray, List.set_cons_zero, List.set_cons_succ])
        refine WG.done (by kernel_rfl) ?_
        exact HJP.out _ _ ⟨B8, A1, c1, _, _, _, _, _, _, _, _, _, _, _, _, _, _, _, _, _, _, _, _, _, _, _, _, _, _, _, _, _, rfl, hkk, RI.same HR1.out (hsm _ (by rintro t rfl; decide)), HL8.out, Below.setCell (Below.setCell HX.out HL8.out _) HL8.out _⟩
    · go_simp
      refine hK.out _ _ (by exact KS.out _ (HX.out.trans (Ext.alloc _ _))) (fun hHeld => ?_)
      clear hK K
      (try simp only [Act.put, List.setIfInBounds_toArray, List.set_cons_zero, List.set_cons_succ])
      obtain ⟨p6, hp6⟩ : ∃ x, x = pz.alloc (.cells #[.int .i64 0, .slice none 0 0] 44) := ⟨_, rfl⟩
      obtain ⟨B8, hB8⟩ : ∃ x, x = pz.heap.size := ⟨_, rfl⟩
      have hE : Ext pz p6 := by rw [hp6]; exact Ext.alloc _ _
      have HB8 : Hid (p6.heap[B8]? = some (.cells #[.int .i64 0, .slice none 0 0] 44 (0, 0))) := hid (by rw [hp6, hB8]; exact heap_alloc_new _ _)
      have HL8 : Hid (w1.heap.size ≤ B8) := hid (by rw [hB8]; exact HX.out.size)
      rw [← hp6] at hHeld ⊢
      rw [← hB8]
      have HX := hid (HX.out.trans hE)
      clear hp6 hB8 hE
      refine WG.one (i := 2) rfl (by kernel_rfl) (fun K hK => ?_)
      go_simp
      refine hK.out _ _ (by exact KS.out _ (HX.out.trans (Ext.alloc _ _))) (fun hHeld => ?_)
      clear hK K
      (try simp only [Act.put, List.setIfInBounds_toArray, List.set_cons_zero, List.set_cons_succ])
      obtain ⟨p7, hp7⟩ : ∃ x, x = p6.alloc (.cells #[] 3) := ⟨_, rfl⟩
      obtain ⟨Bm, hBm⟩ : ∃ x, x = p6.heap.size := ⟨_, rfl⟩
      have hE : Ext p6 p7 := by rw [hp7]; exact Ext.alloc _ _
      have HBm : Hid (p7.heap[Bm]? = some (.cells #[] 3 (0, 0))) := hid (by rw [hp7, hBm]; exact heap_alloc_new _ _)
      have HLm : Hid (w1.heap.size ≤ Bm) := hid (by rw [hBm]; exact HX.out.size)
      have hN8m : B8 ≠ Bm := by have := obj_lt HB8.out; omega
      have hNm8 : Bm ≠ B8 := Ne.symm hN8m
      rw [← hp7] at hHeld ⊢
      rw [← hBm]
      have HX := hid (HX.out.trans hE)
      have HB8 := hid (hE.obj HB8.out)
      clear hp7 hBm hE
      refine WG.one (i := 5) rfl (by kernel_rfl) (fun K hK => ?_)
      have hOm : OI p7 w1.heap.size (.slice (some ⟨Bm, 0, none⟩) 0 0) [] := Own.of_empty HBm.out HLm.out
      have hszx : w1.heap.size ≤ p7.heap.size := HX.out.size
      refine step_append_sl _ (by rfl) _ _ 23 (by rfl) EI.ok EI.flat (w1.heap.size) 3 EI.ne i0_int _ 1 8 Tryd.underlying23 hi0_int hz0_int hz1_int hz2_int rfl (by omega) _ (by rfl) _ (hOm) _ (by rfl) _ (HNW.out.ext (HE1.out.trans HX.out)) (by have := HLN.out; simp; omega) (by have := HLN.out; simp; omega) ?_ ?_; (focus (first | exact Nat.le_refl _ | (simp; done) | (simp; omega) | omega)); intro v1 p8 hO1 hg1 hat1 hs1
      rw [List.nil_append] at hO1
      obtain ⟨A1, c1, rfl, _, _⟩ := hO1.form
      have HR1 : Hid (RI p8 (.slice A1 x.need.length c1) x.need) := hid hO1.read
      clear hO1 hat1 hs1
      have hX2 : Ext w1 p8 := Ext.grown HX.out hg1 hOm.lt
      have HX := hid hX2
      have HB8 := hid ((hg1.block _ (obj_lt HB8.out) (by intro he; injection he with he; exact hNm8 he.symm)).trans HB8.out)
      refine hK.out _ _ (by exact KS.out _ HX.out) (fun hHeld => ?_)
      clear hK K hX2 hg1 hOm
      (try simp only [Act.put, List.setIfInBounds_toArray, List.set_cons_zero, List.set_cons_succ])
      (refine WG.take (i := 6) (v := ?_) rfl (by kernel_rfl) (by kernel_rfl) (by kernel_rfl) (by kernel_rfl) (fun _ _ _ h => h) (Or.inl ⟨by rfl, ?_⟩) (by assumption) ?_; rotate_left; (intro w hSw; (try dsimp only at hSw); go_split_ands; go_simp; (try with_reducible rfl)); (try simp only [Act.put, List.setIfInBounds_toArray, List.set_cons_zero, List.set_cons_succ]))
      obtain ⟨y0, y1, y0f, y1f, k1, k1f, hkk, hsm⟩ := box2 HB8.out (.int .i64 x.id) (.slice A1 x.need.length c1)

      refine WG.last (i := 8) rfl (by kernel_rfl) (by kernel_rfl) (fun K hK => ?_)
      go_simp
      refine hK.out _ _ ?_
      clear hK K
      (try simp only [Act.put, List.setIfInBounds_toArray, List.set_cons_zero, List.set_cons_succ])
      refine WG.done (by kernel_rfl) ?_
      exact HJP.out _ _ ⟨B8, A1, c1, _, _, _, _, _, _, _, _, _, _, _, _, _, _, _, _, _, _, _, _, _, _, _, _, _, _, _, _, _, rfl, hkk, RI.same HR1.out (hsm _ (by rintro t rfl; decide)), HL8.out, Below.setCell (Below.setCell HX.out HL8.out _) HL8.out _⟩
  · rintro a w2 ⟨B8, A1, c1, x3, x4, x9, x10, x11, x12, x13, x14, x15, x16, x17, x18, x19, x20, x21, x22, x23, x24, x25, x26, x27, x28, x29, x30, x31, x32, x33, x34, x35, rfl, j8, jr, jl8, jE⟩
    have HJ8 := hid j8
    have HJR := hid jr
    have HL8 := hid jl8
    have HJE := hid jE
    have HO2 := hid (HO1.out.ext (EBV.ok _) jE)
    clear j8 jr jl8 jE
    have z0 := obj_cell HJ8.out (i := 0) rfl
    have z1 := obj_cell HJ8.out (i := 1) rfl
    have hWz : W.heap.size ≤ w2.heap.size := (HE1.out.trans HJE.out).size
    obtain ⟨O1, hO1⟩ : ∃ O1 : Obj, O1 = .cells #[.int .i64 x.id, .slice A1 x.need.length c1] 44 := ⟨_, rfl⟩
    obtain ⟨O2, hO2⟩ : ∃ O2 : Obj, O2 = .cells #[.slice (some ⟨w2.heap.size, 0, none⟩) 1 1] 41 := ⟨_, rfl⟩
    have hT : OT (w2.alloc O1) W.heap.size (.slice (some ⟨w2.heap.size, 0, none⟩) 1 1) [x] := by
      rw [hO1]
      exact Own.lit (w := w2) (cells := [.int .i64 x.id, .slice A1 x.need.length c1]) (xs := [x]) hWz (by simp) (Cells.one rfl ⟨_, rfl, RI.ext HJR.out (Ext.alloc _ _)⟩)
    have HT := hid (hT.ext ET.ok (Ext.alloc (w2.alloc O1) O2))
    have HO3 := hid (HO2.out.ext (EBV.ok _) ((Ext.alloc w2 O1).trans (Ext.alloc (w2.alloc O1) O2)))
    have HZ : Hid (((w2.alloc O1).alloc O2).heap[w2.heap.size + 1]? = some (.cells #[.slice (some ⟨w2.heap.size, 0, none⟩) 1 1] 41 (0, 0))) := hid (by rw [hO2]; exact heap_new (by simp))
    have HEZ := hid (((HEW.out.trans HE1.out).trans HJE.out).trans ((Ext.alloc w2 O1).trans (Ext.alloc (w2.alloc O1) O2)))
    subst hO1 hO2
    have HPL2 : Hid (ps.length ≤ 3000000) := hid (by rw [← HPL.out] at hl; exact hl)
    clear hT
    go_wp2_with (at_builtin; refine wpList_append_sl _ (by rfl) _ _ 24 (by rfl) (EBV.ok _) (EBV.flat _) (W.heap.size) 41 EBV.ne i0_bin _ 1 24 Tryd.underlying24 hi0_bin hz0_bin hz1_bin hz2_bin rfl (by omega) _ (by rfl) _ (HO3.out) _ (by rfl) _ (RSl.laid (cs := [.slice (some ⟨w2.heap.size, 0, none⟩) 1 1]) (x := ([x], .slice (some ⟨w2.heap.size, 0, none⟩) 1 1)) HZ.out rfl ⟨rfl, HT.out⟩) (by have := HPL2.out; simp; omega) (by have := HPL2.out; simp; omega) ?_ ?_; (focus (first | exact Nat.le_refl _ | (simp; done) | (simp; omega) | omega)); intro v4 w4 hO hg hat hs)
    go_ret
    have hr := OBV.read hO
    rw [List.map_append, HP1.out] at hr
    exact ⟨_, rfl, hr, Ext.grown HEZ.out hg (fun q hq => by have := Own.lt HO3.out q hq; exact ⟨by have := HWS.out; omega, this.2⟩)⟩

set_option maxHeartbeats 4000000 in
theorem sPutAt (v xv : Value) (bs : List (List TaskD)) (k : Nat) (b : List TaskD) (x : TaskD) (w : World) (h : RB w v bs) (hx : TaskV w xv x) (hl : bs.length ≤ 3000000) (hb : ∀ b ∈ bs, b.length ≤ 4000000 ∧ ∀ t ∈ b, t.need.length ≤ 4000000) (hn : x.need.length ≤ 4000000) (hk : bs[k]? = some b) :
    Calls Tryd.prog 89 #[v, .int .i64 (k : Int), xv] w (RetRB w (bs.set k (b ++ [x]))) := by
  obtain ⟨at', hat⟩ : ∃ at' : Int, at' = (k : Int) := ⟨_, rfl⟩
  rw [← hat]
  have HK := hid hk
  have HAT := hid hat
  have h0 : ¬ at' < 0 := by omega
  clear hk hat
  obtain ⟨A, c, rfl, hc, hc', hr⟩ := RB.get h
  have HR := hid hr
  have HB0 := hid h
  have HBB := hid hb
  have HLN := hid hn
  obtain ⟨nv, rfl, hnv⟩ := hx
  have HNV := hid hnv
  obtain ⟨An, cn, rfl, _⟩ := hnv
  clear hr h hb hn
  obtain ⟨i0_int, hi0_int, hz0_int, hz1_int, hz2_int⟩ := info_parts info_int
  obtain ⟨i0_task, hi0_task, hz0_task, hz1_task, hz2_task⟩ := info_parts info_task
  obtain ⟨i0_bin, hi0_bin, hz0_bin, hz1_bin, hz2_bin⟩ := info_parts info_bin
  obtain ⟨W, hW⟩ : ∃ W, W = w.alloc (.cells #[.int .i64 x.id, .slice An x.need.length cn] 44) := ⟨_, rfl⟩
  have hEW : Ext w W := by rw [hW]; exact Ext.alloc _ _
  have hbx : W.heap[w.heap.size]? = some (.cells #[.int .i64 x.id, .slice An x.need.length cn] 44 (0, 0)) := by rw [hW]; exact heap_alloc_new _ _
  have KB : Hid (∀ w', Ext W w' → w'.cell? ⟨w.heap.size, 0, none⟩ = some (.int .i64 x.id) ∧ w'.cell? ⟨w.heap.size, 1, none⟩ = some (.slice An x.need.length cn)) := hid fun w' hw => ⟨obj_cell (hw.obj hbx) (i := 0) rfl, obj_cell (hw.obj hbx) (i := 1) rfl⟩
  have HEW := hid hEW
  have HNW := hid (RI.ext HNV.out hEW)
  have HBW := hid (RB.ext HB0.out hEW)
  have HWS : Hid (w.heap.size < W.heap.size) := hid (obj_lt hbx)
  clear hbx hEW
  go_enter Tryd.func89, Tryd.ntmps89
  go_wp2_with (go_at_call 81; rw [← hW]; refine (sBins2 _ bs _ HBW.out (by omega) HBB.out).mono ?_; rintro e w1 ⟨bv, ps, rfl, hO1, hP1, hN1, hE1⟩; obtain ⟨Au, cu, rfl, _, _⟩ := hO1.form; have HO1 := hid hO1; have HP1 := hid hP1; have HN1 := hid hN1; have HE1 := hid hE1; clear hO1 hP1 hN1 hE1 hW)
  have KS : Hid (∀ w', Ext w1 w' → w'.cell? ⟨w.heap.size, 0, none⟩ = some (.int .i64 x.id) ∧ w'.cell? ⟨w.heap.size, 1, none⟩ = some (.slice An x.need.length cn)) := hid fun w' hw => KB.out w' (HE1.out.trans hw)
  have HD : Hid (Ext w1 w1.drew) := hid (Below.drew (Below.refl _ _))
  have HPL : Hid (ps.length = bs.length) := hid (by rw [← HP1.out, List.length_map])
  refine join_at (fun a w' => ∃ (B8 : Nat) (A1 : Option Addr) (c1 : Nat) (x3 x4 x9 x10 x11 x12 x13 x14 x15 x16 x17 x18 x19 x20 x21 x22 x23 x24 x25 x26 x27 x28 x29 x30 x31 x32 x33 x34 x35 : Value), a = { tmps := #[.slice A bs.length c, .int .i64 at', .agg #[.int .i64 x.id, .slice An x.need.length cn], x3, x4, .pointer (some ⟨w.heap.size, 0, none⟩), .slice none 0 0, .slice Au ps.length cu, .pointer (some ⟨B8, 0, none⟩), x9, x10, x11, x12, x13, x14, x15, x16, x17, x18, x19, x20, x21, x22, x23, x24, x25, x26, x27, x28, x29, x30, x31, x32, x33, x34, x35], defers := [] } ∧ (w'.heap[B8]? = some (.cells #[.int .i64 x.id, .slice A1 x.need.length c1] 44 (0, 0)) ∧ RI w' (.slice A1 x.need.length c1) x.need ∧ w1.heap.size ≤ B8 ∧ Ext w1 w')) (fun JP hJP => ?_) ?_
  · have HJP := hid hJP
    clear hJP
    refine WG.start (fun w' => w'.cell? ⟨w.heap.size, 0, none⟩ = some (.int .i64 x.id) ∧ w'.cell? ⟨w.heap.size, 1, none⟩ = some (.slice An x.need.length cn)) [8] (by kernel_rfl) (by exact KS.out _ HD.out) (fun hHeld => ?_)
    obtain ⟨pz, hpz⟩ : ∃ x, x = w1.drew := ⟨_, rfl⟩
    rw [← hpz] at hHeld ⊢
    have HX : Hid (Ext w1 pz) := hid (by rw [hpz]; exact HD.out)
    clear hpz
    (refine WG.take (i := 0) (v := ?_) rfl (by kernel_rfl) (by kernel_rfl) (by kernel_rfl) (by kernel_rfl) (fun _ _ _ h => h) (Or.inl ⟨by rfl, ?_⟩) (by assumption) ?_; rotate_left; (intro w hSw; (try dsimp only at hSw); go_split_ands; go_simp; (try with_reducible rfl)); (try simp only [Act.put, List.setIfInBounds_toArray, List.set_cons_zero, List.set_cons_succ]))
    (refine WG.take (i := 1) (v := ?_) rfl (by kernel_rfl) (by kernel_rfl) (by kernel_rfl) (by kernel_rfl) (fun _ _ _ h => h) (Or.inl ⟨by rfl, ?_⟩) (by assumption) ?_; rotate_left; (intro w hSw; (try dsimp only at hSw); go_split_ands; go_simp; (try with_reducible rfl)); (try simp only [Act.put, List.setIfInBounds_toArray, List.set_cons_zero, List.set_cons_succ]))
    (refine WG.take (i := 3) (v := ?_) rfl (by kernel_rfl) (by kernel_rfl) (by kernel_rfl) (by kernel_rfl) (fun _ _ _ h => h) (Or.inl ⟨by rfl, ?_⟩) (by assumption) ?_; rotate_left; (intro w hSw; (try dsimp only at hSw); go_split_ands; go_simp; (try with_reducible rfl)); (try simp only [Act.put, List.setIfInBounds_toArray, List.set_cons_zero, List.set_cons_succ]))
    (refine WG.take (i := 4) (v := ?_) rfl (by kernel_rfl) (by kernel_rfl) (by kernel_rfl) (by kernel_rfl) (fun _ _ _ h => h) (Or.inl ⟨by rfl, ?_⟩) (by assumption) ?_; rotate_left; (intro w hSw; (try dsimp only at hSw); go_split_ands; go_simp; (try with_reducible rfl)); (try simp only [Act.put, List.setIfInBounds_toArray, List.set_cons_zero, List.set_cons_succ]))
    refine WG.two (i := 2) (j := 7) rfl rfl (by kernel_rfl) (fun K hK => ?_) (fun K hK => ?_)
    · go_simp
      refine hK.out _ _ (by exact KS.out _ (HX.out.trans (Ext.alloc _ _))) (fun hHeld => ?_)
      clear hK K
      (try simp only [Act.put, List.setIfInBounds_toArray, List.set_cons_zero, List.set_cons_succ])
      obtain ⟨p1, hp1⟩ : ∃ x, x = pz.alloc (.cells #[] 3) := ⟨_, rfl⟩
      obtain ⟨Bm, hBm⟩ : ∃ x, x = pz.heap.size := ⟨_, rfl⟩
      have hE : Ext pz p1 := by rw [hp1]; exact Ext.alloc _ _
      have HBm : Hid (p1.heap[Bm]? = some (.cells #[] 3 (0, 0))) := hid (by rw [hp1, hBm]; exact heap_alloc_new _ _)
      have HLm : Hid (w1.heap.size ≤ Bm) := hid (by rw [hBm]; exact HX.out.size)
      rw [← hp1] at hHeld ⊢
      rw [← hBm]
      have HX := hid (HX.out.trans hE)
      clear hp1 hBm hE
      refine WG.two (i := 5) (j := 7) rfl rfl (by kernel_rfl) (fun K hK => ?_) (fun K hK => ?_)
      · have hOm : OI p1 w1.heap.size (.slice (some ⟨Bm, 0, none⟩) 0 0) [] := Own.of_empty HBm.out HLm.out
        have hszx : w1.heap.size ≤ p1.heap.size := HX.out.size
        refine step_append_sl _ (by rfl) _ _ 23 (by rfl) EI.ok EI.flat (w1.heap.size) 3 EI.ne i0_int _ 1 8 Tryd.underlying23 hi0_int hz0_int hz1_int hz2_int rfl (by omega) _ (by rfl) _ (hOm) _ (by rfl) _ (HNW.out.ext (HE1.out.trans HX.out)) (by have := HLN.out; simp; omega) (by have := HLN.out; simp; omega) ?_ ?_; (focus (first | exact Nat.le_refl _ | (simp; done) | (simp; omega) | omega)); intro v1 p2 hO1 hg1 hat1 hs1
        rw [List.nil_append] at hO1
        obtain ⟨A1, c1, rfl, _, _⟩ := hO1.form
        have HR1 : Hid (RI p2 (.slice A1 x.need.length c1) x.need) := hid hO1.read
        clear hO1 hat1 hs1
        have hX2 : Ext w1 p2 := Ext.grown HX.out hg1 hOm.lt
        have HX := hid hX2
        refine hK.out _ _ (by exact KS.out _ HX.out) (fun hHeld => ?_)
        clear hK K hX2 hg1 hOm
        (try simp only [Act.put, List.setIfInBounds_toArray, List.set_cons_zero, List.set_cons_succ])
        (refine WG.take (i := 6) (v := ?_) rfl (by kernel_rfl) (by kernel_rfl) (by kernel_rfl) (by kernel_rfl) (fun _ _ _ h => h) (Or.inl ⟨by rfl, ?_⟩) (by assumption) ?_; rotate_left; (intro w hSw; (try dsimp only at hSw); go_split_ands; go_simp; (try with_reducible rfl)); (try simp only [Act.put, List.setIfInBounds_toArray, List.set_cons_zero, List.set_cons_succ]))
        refine WG.one (i := 7) rfl (by kernel_rfl) (fun K hK => ?_)
        go_simp
        refine hK.out _ _ (by exact KS.out _ (HX.out.trans (Ext.alloc _ _))) (fun hHeld => ?_)
        clear hK K
        (try simp only [Act.put, List.setIfInBounds_toArray, List.set_cons_zero, List.set_cons_succ])
        obtain ⟨p3, hp3⟩ : ∃ x, x = p2.alloc (.cells #[.int .i64 0, .slice none 0 0] 44) := ⟨_, rfl⟩
        obtain ⟨B8, hB8⟩ : ∃ x, x = p2.heap.size := ⟨_, rfl⟩
        have hE : Ext p2 p3 := by rw [hp3]; exact Ext.alloc _ _
        have HB8 : Hid (p3.heap[B8]? = some (.cells #[.int .i64 0, .slice none 0 0] 44 (0, 0))) := hid (by rw [hp3, hB8]; exact heap_alloc_new _ _)
        have HL8 : Hid (w1.heap.size ≤ B8) := hid (by rw [hB8]; exact HX.out.size)
        rw [← hp3] at hHeld ⊢
        rw [← hB8]
        have HX := hid (HX.out.trans hE)
        have HR1 := hid (HR1.out.ext hE)
        clear hp3 hB8 hE
        obtain ⟨y0, y1, y0f, y1f, k1, k1f, hkk, hsm⟩ := box2 HB8.out (.int .i64 x.id) (.slice A1 x.need.length c1)

        refine WG.last (i := 8) rfl (by kernel_rfl) (by kernel_rfl) (fun K hK => ?_)
        go_simp
        refine hK.out _ _ ?_
        clear hK K
        (try simp only [Act.put, List.setIfInBounds_toArray, List.set_cons_zero, List.set_cons_succ])
        refine WG.done (by kernel_rfl) ?_
        exact HJP.out _ _ ⟨B8, A1, c1, _, _, _, _, _, _, _, _, _, _, _, _, _, _, _, _, _, _, _, _, _, _, _, _, _, _, _, _, _, rfl, hkk, RI.same HR1.out (hsm _ (by rintro t rfl; decide)), HL8.out, Below.setCell (Below.setCell HX.out HL8.out _) HL8.out _⟩
      · go_simp
        refine hK.out _ _ (by exact KS.out _ (HX.out.trans (Ext.alloc _ _))) (fun hHeld => ?_)
        clear hK K
        (try simp only [Act.put, List.setIfInBounds_toArray, List.set_cons_zero, List.set_cons_succ])
        obtain ⟨p4, hp4⟩ : ∃ x, x = p1.alloc (.cells #[.int .i64 0, .slice none 0 0] 44) := ⟨_, rfl⟩
        obtain ⟨B8, hB8⟩ : ∃ x, x = p1.heap.size := ⟨_, rfl⟩
        have hE : Ext p1 p4 := by rw [hp4]; exact Ext.alloc _ _
        have HB8 : Hid (p4.heap[B8]? = some (.cells #[.int .i64 0, .slice none 0 0] 44 (0, 0))) := hid (by rw [hp4, hB8]; exact heap_alloc_new _ _)
        have HL8 : Hid (w1.heap.size ≤ B8) := hid (by rw [hB8]; exact HX.out.size)
        have hNm8 : Bm ≠ B8 := by have := obj_lt HBm.out; omega
        have hN8m : B8 ≠ Bm := Ne.symm hNm8
        rw [← hp4] at hHeld ⊢
        rw [← hB8]
        have HX := hid (HX.out.trans hE)
        have HBm := hid (hE.obj HBm.out)
        clear hp4 hB8 hE
        refine WG.one (i := 5) rfl (by kernel_rfl) (fun K hK => ?_)
        have hOm : OI p4 w1.heap.size (.slice (some ⟨Bm, 0, none⟩) 0 0) [] := Own.of_empty HBm.out HLm.out
        have hszx : w1.heap.size ≤ p4.heap.size := HX.out.size
        refine step_append_sl _ (by rfl) _ _ 23 (by rfl) EI.ok EI.flat (w1.heap.size) 3 EI.ne i0_int _ 1 8 Tryd.underlying23 hi0_int hz0_int hz1_int hz2_int rfl (by omega) _ (by rfl) _ (hOm) _ (by rfl) _ (HNW.out.ext (HE1.out.trans HX.out)) (by have := HLN.out; simp; omega) (by have := HLN.out; simp; omega) ?_ ?_; (focus (first | exact Nat.le_refl _ | (simp; done) | (simp; omega) | omega)); intro v1 p5 hO1 hg1 hat1 hs1
        rw [List.nil_append] at hO1
        obtain ⟨A1, c1, rfl, _, _⟩ := hO1.form
        have HR1 : Hid (RI p5 (.slice A1 x.need.length c1) x.need) := hid hO1.read
        clear hO1 hat1 hs1
        have hX2 : Ext w1 p5 := Ext.grown HX.out hg1 hOm.lt
        have HX := hid hX2
        have HB8 := hid ((hg1.block _ (obj_lt HB8.out) (by intro he; injection he with he; exact hNm8 he.symm)).trans HB8.out)
        refine hK.out _ _ (by exact KS.out _ HX.out) (fun hHeld => ?_)
        clear hK K hX2 hg1 hOm
        (try simp only [Act.put, List.setIfInBounds_toArray, List.set_cons_zero, List.set_cons_succ])
        (refine WG.take (i := 6) (v := ?_) rfl (by kernel_rfl) (by kernel_rfl) (by kernel_rfl) (by kernel_rfl) (fun _ _ _ h => h) (Or.inl ⟨by rfl, ?_⟩) (by assumption) ?_; rotate_left; (intro w hSw; (try dsimp only at hSw); go_split_ands; go_simp; (try with_reducible rfl)); (try simp only [Act.put, List.setIfInBounds_toArray, List.set_cons_zero, List.set_cons_succ]))
        obtain ⟨y0, y1, y0f, y1f, k1, k1f, hkk, hsm⟩ := box2 HB8.out (.int .i64 x.id) (.slice A1 x.need.length c1)

        refine WG.last (i := 8) rfl (by kernel_rfl) (by kernel_rfl) (fun K hK => ?_)
        go_simp
        refine hK.out _ _ ?_
        clear hK K
        (try simp only [Act.put, List.setIfInBounds_toArray, List.set_cons_zero, List.set_cons_succ])
        refine WG.done (by kernel_rfl) ?_
        exact HJP.out _ _ ⟨B8, A1, c1, _, _, _, _, _, _, _, _, _, _, _, _, _, _, _, _, _, _, _, _, _, _, _, _, _, _, _, _, _, rfl, hkk, RI.same HR1.out (hsm _ (by rintro t rfl; decide)), HL8.out, Below.setCell (Below.setCell HX.out HL8.out _) HL8.out _⟩
    · go_simp
      refine hK.out _ _ (by exact KS.out _ (HX.out.trans (Ext.alloc _ _))) (fun hHeld => ?_)
      clear hK K
      (try simp only [Act.put, List.setIfInBounds_toArray, List.set_cons_zero, List.set_cons_succ])
      obtain ⟨p6, hp6⟩ : ∃ x, x = pz.alloc (.cells #[.int .i64 0, .slice none 0 0] 44) := ⟨_, rfl⟩
      obtain ⟨B8, hB8⟩ : ∃ x, x = pz.heap.size := ⟨_, rfl⟩
      have hE : Ext pz p6 := by rw [hp6]; exact Ext.alloc _ _
      have HB8 : Hid (p6.heap[B8]? = some (.cells #[.int .i64 0, .slice none 0 0] 44 (0, 0))) := hid (by rw [hp6, hB8]; exact heap_alloc_new _ _)
      have HL8 : Hid (w1.heap.size ≤ B8) := hid (by rw [hB8]; exact HX.out.size)
      rw [← hp6] at hHeld ⊢
      rw [← hB8]
      have HX := hid (HX.out.trans hE)
      clear hp6 hB8 hE
      refine WG.one (i := 2) rfl (by kernel_rfl) (fun K hK => ?_)
      go_simp
      refine hK.out _ _ (by exact KS.out _ (HX.out.trans (Ext.alloc _ _))) (fun hHeld => ?_)
      clear hK K
      (try simp only [Act.put, List.setIfInBounds_toArray, List.set_cons_zero, List.set_cons_succ])
      obtain ⟨p7, hp7⟩ : ∃ x, x = p6.alloc (.cells #[] 3) := ⟨_, rfl⟩
      obtain ⟨Bm, hBm⟩ : ∃ x, x = p6.heap.size := ⟨_, rfl⟩
      have hE : Ext p6 p7 := by rw [hp7]; exact Ext.alloc _ _
      have HBm : Hid (p7.heap[Bm]? = some (.cells #[] 3 (0, 0))) := hid (by rw [hp7, hBm]; exact heap_alloc_new _ _)
      have HLm : Hid (w1.heap.size ≤ Bm) := hid (by rw [hBm]; exact HX.out.size)
      have hN8m : B8 ≠ Bm := by have := obj_lt HB8.out; omega
      have hNm8 : Bm ≠ B8 := Ne.symm hN8m
      rw [← hp7] at hHeld ⊢
      rw [← hBm]
      have HX := hid (HX.out.trans hE)
      have HB8 := hid (hE.obj HB8.out)
      clear hp7 hBm hE
      refine WG.one (i := 5) rfl (by kernel_rfl) (fun K hK => ?_)
      have hOm : OI p7 w1.heap.size (.slice (some ⟨Bm, 0, none⟩) 0 0) [] := Own.of_empty HBm.out HLm.out
      have hszx : w1.heap.size ≤ p7.heap.size := HX.out.size
      refine step_append_sl _ (by rfl) _ _ 23 (by rfl) EI.ok EI.flat (w1.heap.size) 3 EI.ne i0_int _ 1 8 Tryd.underlying23 hi0_int hz0_int hz1_int hz2_int rfl (by omega) _ (by rfl) _ (hOm) _ (by rfl) _ (HNW.out.ext (HE1.out.trans HX.out)) (by have := HLN.out; simp; omega) (by have := HLN.out; simp; omega) ?_ ?_; (focus (first | exact Nat.le_refl _ | (simp; done) | (simp; omega) | omega)); intro v1 p8 hO1 hg1 hat1 hs1
      rw [List.nil_append] at hO1
      obtain ⟨A1, c1, rfl, _, _⟩ := hO1.form
      have HR1 : Hid (RI p8 (.slice A1 x.need.length c1) x.need) := hid hO1.read
      clear hO1 hat1 hs1
      have hX2 : Ext w1 p8 := Ext.grown HX.out hg1 hOm.lt
      have HX := hid hX2
      have HB8 := hid ((hg1.block _ (obj_lt HB8.out) (by intro he; injection he with he; exact hNm8 he.symm)).trans HB8.out)
      refine hK.out _ _ (by exact KS.out _ HX.out) (fun hHeld => ?_)
      clear hK K hX2 hg1 hOm
      (try simp only [Act.put, List.setIfInBounds_toArray, List.set_cons_zero, List.set_cons_succ])
      (refine WG.take (i := 6) (v := ?_) rfl (by kernel_rfl) (by kernel_rfl) (by kernel_rfl) (by kernel_rfl) (fun _ _ _ h => h) (Or.inl ⟨by rfl, ?_⟩) (by assumption) ?_; rotate_left; (intro w hSw; (try dsimp only at hSw); go_split_ands; go_simp; (try with_reducible rfl)); (try simp only [Act.put, List.setIfInBounds_toArray, List.set_cons_zero, List.set_cons_succ]))
      obtain ⟨y0, y1, y0f, y1f, k1, k1f, hkk, hsm⟩ := box2 HB8.out (.int .i64 x.id) (.slice A1 x.need.length c1)

      refine WG.last (i := 8) rfl (by kernel_rfl) (by kernel_rfl) (fun K hK => ?_)
      go_simp
      refine hK.out _ _ ?_
      clear hK K
      (try simp only [Act.put, List.setIfInBounds_toArray, List.set_cons_zero, List.set_cons_succ])
      refine WG.done (by kernel_rfl) ?_
      exact HJP.out _ _ ⟨B8, A1, c1, _, _, _, _, _, _, _, _, _, _, _, _, _, _, _, _, _, _, _, _, _, _, _, _, _, _, _, _, _, rfl, hkk, RI.same HR1.out (hsm _ (by rintro t rfl; decide)), HL8.out, Below.setCell (Below.setCell HX.out HL8.out _) HL8.out _⟩
  · rintro a w2 ⟨B8, A1, c1, x3, x4, x9, x10, x11, x12, x13, x14, x15, x16, x17, x18, x19, x20, x21, x22, x23, x24, x25, x26, x27, x28, x29, x30, x31, x32, x33, x34, x35, rfl, j8, jr, jl8, jE⟩
    have HJ8 := hid j8
    have HJR := hid jr
    have HL8 := hid jl8
    have HJE := hid jE
    have HO2 := hid (HO1.out.ext (EBV.ok _) jE)
    clear j8 jr jl8 jE
    have HPK := hid (at_fstB HP1.out HK.out).choose_spec
    obtain ⟨tv, htv⟩ : ∃ tv, tv = (at_fstB HP1.out HK.out).choose := ⟨_, rfl⟩
    rw [← htv] at HPK
    clear htv
    have hkl : k < ps.length := (List.getElem?_eq_some_iff.1 HPK.out).1
    obtain ⟨g, cg, hvg, hgb⟩ := Own.row HO2.out (by omega)
    injection hvg with e1 _ e3
    subst e1 e3
    have hA2 := OBV.at_ HO2.out HPK.out
    have HCK := hid hA2.1
    have HFK := hid hA2.2.1
    have HT2 := hid hA2.2.2.1
    have HNG := hid hA2.2.2.2
    have hTL : ∀ q, tv.ownBlock = some q → q < B8 := fun q hq => by have := ((OBV.at_ HO1.out HPK.out).2.2.1.lt q hq).2; have := HL8.out; omega
    have HTL := hid hTL
    have hg2 : g < w2.heap.size := (Own.lt HO2.out g rfl).2
    have hg8 : g ≠ B8 := by have := (Own.lt HO1.out g rfl).2; have := HL8.out; omega
    obtain ⟨At, ct, rfl, _, _⟩ := HT2.out.form
    have hat2 := HAT.out
    subst hat2
    have i1 : (k : Int) < (ps.length : Int) := by omega
    have i0 : (0 : Int) ≤ (k : Int) := by omega
    have hBL : Hid (b.length ≤ 4000000) := hid (HBB.out b (List.mem_of_getElem? HK.out)).1
    have hWz : W.heap.size ≤ w2.heap.size := (HE1.out.trans HJE.out).size
    have HD2 : Hid (Ext w2 w2.drew) := hid (Below.drew (Below.refl _ _))
    have KS2 : Hid (∀ w' : World, w'.heap[g]? = w2.heap[g]? → w'.heap[B8]? = w2.heap[B8]? → w'.cell? ⟨g, k, none⟩ = some (.slice At b.length ct) ∧ w'.cell? ⟨B8, 0, none⟩ = some (.int .i64 x.id) ∧ w'.cell? ⟨B8, 1, none⟩ = some (.slice A1 x.need.length c1)) :=
      hid fun w' h1 h2 => ⟨(World.cell?_of_block (w := w2) (a := ⟨g, k, none⟩) h1).trans HCK.out, obj_cell (h2.trans HJ8.out) (i := 0) rfl, obj_cell (h2.trans HJ8.out) (i := 1) rfl⟩
    clear hA2 hTL
    go_wp2
    refine WG.start (fun w' => w'.cell? ⟨g, k, none⟩ = some (.slice At b.length ct) ∧ w'.cell? ⟨B8, 0, none⟩ = some (.int .i64 x.id) ∧ w'.cell? ⟨B8, 1, none⟩ = some (.slice A1 x.need.length c1)) [10] (by kernel_rfl) (by exact KS2.out _ rfl rfl) (fun hHeld => ?_)
    (refine WG.take (i := 0) (v := ?_) rfl (by kernel_rfl) (by kernel_rfl) (by kernel_rfl) (by kernel_rfl) (fun _ _ _ h => h) (Or.inl ⟨by rfl, ?_⟩) (by assumption) ?_; rotate_left; (intro w hSw; (try dsimp only at hSw); go_split_ands; go_simp; (try with_reducible rfl)); (try simp only [Act.put, List.setIfInBounds_toArray, List.set_cons_zero, List.set_cons_succ]))
    (refine WG.take (i := 1) (v := ?_) rfl (by kernel_rfl) (by kernel_rfl) (by kernel_rfl) (by kernel_rfl) (fun _ _ _ h => h) (Or.inl ⟨by rfl, ?_⟩) (by assumption) ?_; rotate_left; (intro w hSw; (try dsimp only at hSw); go_split_ands; go_simp; (try with_reducible rfl)); (try simp only [Act.put, List.setIfInBounds_toArray, List.set_cons_zero, List.set_cons_succ]))
    (refine WG.take (i := 2) (v := ?_) rfl (by kernel_rfl) (by kernel_rfl) (by kernel_rfl) (by kernel_rfl) (fun _ _ _ h => h) (Or.inl ⟨by rfl, ?_⟩) (by assumption) ?_; rotate_left; (intro w hSw; (try dsimp only at hSw); go_split_ands; go_simp; (try with_reducible rfl)); (try simp only [Act.put, List.setIfInBounds_toArray, List.set_cons_zero, List.set_cons_succ]))
    (refine WG.take (i := 3) (v := ?_) rfl (by kernel_rfl) (by kernel_rfl) (by kernel_rfl) (by kernel_rfl) (fun _ _ _ h => h) (Or.inl ⟨by rfl, ?_⟩) (by assumption) ?_; rotate_left; (intro w hSw; (try dsimp only at hSw); go_split_ands; go_simp; (try with_reducible rfl)); (try simp only [Act.put, List.setIfInBounds_toArray, List.set_cons_zero, List.set_cons_succ]))
    (refine WG.take (i := 4) (v := ?_) rfl (by kernel_rfl) (by kernel_rfl) (by kernel_rfl) (by kernel_rfl) (fun _ _ _ h => h) (Or.inl ⟨by rfl, ?_⟩) (by assumption) ?_; rotate_left; (intro w hSw; (try dsimp only at hSw); go_split_ands; go_simp; (try with_reducible rfl)); (try simp only [Act.put, List.setIfInBounds_toArray, List.set_cons_zero, List.set_cons_succ]))
    (refine WG.take (i := 5) (v := ?_) rfl (by kernel_rfl) (by kernel_rfl) (by kernel_rfl) (by kernel_rfl) (fun _ _ _ h => h) (Or.inl ⟨by rfl, ?_⟩) (by assumption) ?_; rotate_left; (intro w hSw; (try dsimp only at hSw); go_split_ands; go_simp; (try with_reducible rfl)); (try simp only [Act.put, List.setIfInBounds_toArray, List.set_cons_zero, List.set_cons_succ]))
    (refine WG.take (i := 6) (v := ?_) rfl (by kernel_rfl) (by kernel_rfl) (by kernel_rfl) (by kernel_rfl) (fun _ _ _ h => h) (Or.inl ⟨by rfl, ?_⟩) (by assumption) ?_; rotate_left; (intro w hSw; (try dsimp only at hSw); go_split_ands; go_simp; (try with_reducible rfl)); (try simp only [Act.put, List.setIfInBounds_toArray, List.set_cons_zero, List.set_cons_succ]))
    refine WG.one (i := 7) rfl (by kernel_rfl) (fun K hK => ?_)
    go_simp
    refine hK.out _ _ (by exact KS2.out _ ((HD2.out.trans (Ext.alloc _ _)).block g hg2) ((HD2.out.trans (Ext.alloc _ _)).block B8 (obj_lt HJ8.out))) (fun hHeld => ?_)
    clear hK K
    (try simp only [Act.put, List.setIfInBounds_toArray, List.set_cons_zero, List.set_cons_succ])
    obtain ⟨W3, hW3⟩ : ∃ W3, W3 = (w2.alloc (.cells #[.int .i64 x.id, .slice A1 x.need.length c1] 44)).drew := ⟨_, rfl⟩
    have hE3 : Ext w2 W3 := by rw [hW3]; exact Below.drew (Ext.alloc _ _)
    have HZ3 : Hid (W3.heap[w2.heap.size]? = some (.cells #[.int .i64 x.id, .slice A1 x.need.length c1] 44 (0, 0))) := hid (by rw [hW3]; exact heap_alloc_new w2 _)
    rw [← hW3] at hHeld ⊢
    clear hW3
    obtain ⟨curg, hcurg⟩ := Own.obj HO2.out
    have HCG := hid hcurg
    have HE3 := hid hE3
    have HT3 := hid (HT2.out.ext ET.ok hE3)
    have hsz3 : W.heap.size ≤ W3.heap.size := Nat.le_trans hWz hE3.size
    clear hcurg hE3
    refine WG.one (i := 8) rfl (by kernel_rfl) (fun K hK => ?_)
    refine step_append_sl _ (by rfl) _ _ 41 (by rfl) ET.ok ET.flat (W.heap.size) 44 ET.ne i0_task _ 2 32 Tryd.underlying41 hi0_task hz0_task hz1_task hz2_task rfl (by omega) _ (by rfl) _ (HT3.out) _ (by rfl) _ (RSl.laid (cs := [.int .i64 x.id, .slice A1 x.need.length c1]) HZ3.out rfl ⟨_, rfl, RI.ext HJR.out HE3.out⟩) (by have := hBL.out; simp; omega) (by have := hBL.out; simp; omega) ?_ ?_; (focus (first | exact Nat.le_refl _ | (simp; done) | (simp; omega) | omega)); intro v4 w4 hO hg hat hs; have hk0 : w4.heap[g]? = w2.heap[g]? := (hg.block g (Nat.lt_of_lt_of_le hg2 HE3.out.size) (fun e => HNG.out e.symm)).trans (HE3.out.block g hg2); have hk8 : w4.heap[B8]? = w2.heap[B8]? := (hg.block B8 (Nat.lt_of_lt_of_le (obj_lt HJ8.out) HE3.out.size) (fun e => Nat.lt_irrefl _ (HTL.out B8 e.symm))).trans (HE3.out.block B8 (obj_lt HJ8.out))
    refine hK.out _ _ (by exact KS2.out _ hk0 hk8) (fun hHeld => ?_)
    clear hK K
    (try simp only [Act.put, List.setIfInBounds_toArray, List.set_cons_zero, List.set_cons_succ])
    (refine WG.take (i := 9) (v := ?_) rfl (by kernel_rfl) (by kernel_rfl) (by kernel_rfl) (by kernel_rfl) (fun _ _ _ h => h) (Or.inl ⟨by rfl, ?_⟩) (by assumption) ?_; rotate_left; (intro w hSw; (try dsimp only at hSw); go_split_ands; go_simp; (try with_reducible rfl)); (try simp only [Act.put, List.setIfInBounds_toArray, List.set_cons_zero, List.set_cons_succ]))
    have cg := (KS2.out _ hk0 hk8).1
    have fg := obj_frozen (hk0.trans HCG.out) k
    have HGR : Hid (w2.grownBy w4 (Value.slice At b.length ct).ownBlock) := hid ⟨hg.os.trans HE3.out.os, hg.tape.trans HE3.out.tape, hg.output.trans HE3.out.output, Nat.le_trans HE3.out.size hg.size, fun i hi hn => (hg.block i (Nat.lt_of_lt_of_le hi HE3.out.size) hn).trans (HE3.out.block i hi)⟩
    have HS4 := hid ((HE3.out.same (fun t => t ≠ 44)).trans hs)
    have HO4 := hid hO
    have HRES := hid (OBV.grow HO2.out HN1.out HPK.out HGR.out HS4.out HO4.out)
    have HBEL : Hid (Ext w w4) := hid (Ext.grown ((HEW.out.trans HE1.out).trans (HJE.out.trans HE3.out)) hg (fun q hq => by have := HT3.out.lt q hq; exact ⟨by have := HWS.out; omega, this.2⟩))
    obtain ⟨A4, c4, rfl, _, _⟩ := hO.form_app
    clear hk0 hk8 hO hg hat hs
    refine WG.last (i := 10) rfl (by kernel_rfl) (by kernel_rfl) (fun K hK => ?_)
    go_simp
    refine hK.out _ _ ?_
    clear hK K
    (try simp only [Act.put, List.setIfInBounds_toArray, List.set_cons_zero, List.set_cons_succ])
    refine WG.done (by kernel_rfl) ?_
    go_wp2
    go_ret
    have hr := OBV.read HRES.out.1
    rw [List.map_set, HP1.out] at hr
    exact ⟨_, rfl, hr, Below.setCell HBEL.out (by show w.heap.size ≤ g; have := HWS.out; omega) _⟩
end Go.Proofs.YtibpijjigopdjaaDoor

/- The reference's moves: whether one is possible, and doing it. -/
namespace Go.Proofs.YtibpijjigopdjaaDoor
open Go.RowKit
set_option maxRecDepth 4000

/-- a move as a value -/
abbrev mvV (m : MoveD) : Value := .agg #[.int .i64 m.id, .int .i64 m.to]
theorem bins_small {room : List Int} {bs : List (List TaskD)} (h : binsOk room bs = true) : room.length = 3 ∧ bs.length ≤ 14 ∧ bs.flatten.length ≤ 14 ∧ ∀ b ∈ bs, GoodTs b ∧ b.length ≤ 900 ∧ ∀ t ∈ b, t.need.length = 3 ∧ Bd 1000 t.need := by
  have hr := vecOk_len (roomOk_vec (tasksOk_room (binsOk_tk h)))
  have h14 := ((bins_iff _ _).1 h).2.1
  refine ⟨hr, h14, tasksOk_len (binsOk_tk h), fun b hb => ?_⟩
  have hg := binsOk_tasks (binsOk_tk h) hb
  exact ⟨hg, hg.1, hg.2⟩
theorem lastL_good {room : List Int} {bs : List (List TaskD)} (h : binsOk room bs = true) {id : Int} {x : TaskD} (_hx : lastL id bs.flatten = x) (hm : x ∈ bs.flatten) : x.need.length = 3 ∧ Bd 1000 x.need := by
  obtain ⟨b, hb, hxb⟩ := List.mem_flatten.1 hm
  exact ((bins_small h).2.2.2 b hb).2.2 x hxb

set_option maxHeartbeats 4000000 in
theorem sCan (rv v : Value) (room : List Int) (bs : List (List TaskD)) (mid mto : Int) (w : World) (hR : RI w rv room) (h : RB w v bs) (hv : binsOk room bs = true) :
    Calls Tryd.prog 67 #[rv, v, .agg #[.int .i64 mid, .int .i64 mto]] w (RetB w (canMove room bs ⟨mid, mto⟩)) := by
  obtain ⟨A, c, rfl, hc, hc', hg⟩ := RB.get h
  have HR0 := hid hR
  obtain ⟨Ar, cr, rfl, _⟩ := hR
  obtain ⟨W, hW⟩ : ∃ W, W = w.alloc (.cells #[.int .i64 mid, .int .i64 mto] 32) := ⟨_, rfl⟩
  have hEW : Ext w W := by rw [hW]; exact Ext.alloc _ _
  have hbx : W.heap[w.heap.size]? = some (.cells #[.int .i64 mid, .int .i64 mto] 32 (0, 0)) := by rw [hW]; exact heap_alloc_new _ _
  have KB : Hid (∀ w', Ext W w' → w'.cell? ⟨w.heap.size, 0, none⟩ = some (.int .i64 mid) ∧ w'.cell? ⟨w.heap.size, 1, none⟩ = some (.int .i64 mto)) := hid fun w' hw => ⟨obj_cell (hw.obj hbx) (i := 0) rfl, obj_cell (hw.obj hbx) (i := 1) rfl⟩
  obtain ⟨hb0, hb1⟩ := KB.out _ (Ext.refl _)
  have HB := hid (RB.ext h hEW)
  have HR := hid (RI.ext HR0.out hEW)
  have HEW := hid hEW
  have HV := hid hv
  have HG := hid hg
  have HS := hid (bins_small hv)
  have hl14 : bs.length ≤ 14 := (bins_small hv).2.1
  clear h hbx hEW hv hg
  by_cases h1 : whereL bs mid < 0
  · have HA : Hid (canMove room bs ⟨mid, mto⟩ = false) := hid (by unfold canMove; rw [decide_eq_false (show ¬ 0 ≤ whereL bs mid by omega)]; rfl)
    go_enter Tryd.func67, Tryd.ntmps67
    go_wp2_with (go_at_call 103; rw [← hW]; refine (sWhere _ bs mid _ HB.out).mono ?_; rintro e w1 ⟨rfl, n1, hw1⟩;  have HE1 : Hid (Ext W w1) := hid (by rw [hw1]; exact Ext.drewN _ _); obtain ⟨hb0, hb1⟩ := KB.out _ HE1.out; clear hw1 hW)
    go_ret
    exact ⟨ret_b HA.out.symm, HEW.out.trans HE1.out⟩
  · obtain ⟨f, hf⟩ : ∃ f : Nat, whereL bs mid = (f : Int) := ⟨(whereL bs mid).toNat, by omega⟩
    obtain ⟨b, k, x, hb, hk, hx, hi, hl, hs⟩ := where_parts (bins_once HV.out) hf
    have HCE := hid (can_eq (room := room) (m := ⟨mid, mto⟩) hf hl)
    have HXG := hid (lastL_good HV.out hl (List.mem_flatten.2 ⟨b, List.mem_of_getElem? hb, List.mem_of_getElem? hx⟩))
    have HL := hid hl
    have HF := hid hf
    have h1' : ¬ (f : Int) < 0 := by omega
    clear hs hl hk hx hb hi hf h1
    by_cases h2 : inB mto 0 ((bs.length : Int) - 1) = true
    · by_cases h3 : (mto == (f : Int)) = true
      · have HA : Hid (canMove room bs ⟨mid, mto⟩ = false) := hid (by rw [HCE.out, h3]; simp)
        go_enter Tryd.func67, Tryd.ntmps67
        go_wp2_with (first
          | (go_at_call 103; rw [← hW]; refine (sWhere _ bs mid _ HB.out).mono ?_; rintro e w1 ⟨rfl, n1, hw1⟩; rw [HF.out]; have HE1 : Hid (Ext W w1) := hid (by rw [hw1]; exact Ext.drewN _ _); obtain ⟨hb0, hb1⟩ := KB.out _ HE1.out; clear hw1 hW)
          | (go_at_call 55; refine (sIn _ _ _ _).mono ?_; rintro e w2 ⟨rfl, n2, hw2⟩; rw [h2]; have HE2 : Hid (Ext W w2) := hid (by rw [hw2]; exact HE1.out.trans (Ext.drewN _ _)); obtain ⟨hb0, hb1⟩ := KB.out _ HE2.out; clear hw2))
        go_ret
        exact ⟨ret_b HA.out.symm, HEW.out.trans HE2.out⟩
      · have h3 : (mto == (f : Int)) = false := by simpa using h3
        obtain ⟨t, ht⟩ : ∃ t : Nat, mto = (t : Int) := by
          simp only [inB, Bool.and_eq_true, decide_eq_true_eq] at h2
          exact ⟨mto.toNat, by omega⟩
        have htl : t < bs.length := by
          simp only [inB, Bool.and_eq_true, decide_eq_true_eq] at h2
          omega
        obtain ⟨bb, oo, cc, An, cn, rfl, ec, cc1, hcn⟩ := HG.out t htl
        have HA : Hid (canMove room bs ⟨mid, mto⟩ = l11fits room cc x) := hid (by
          rw [HCE.out, h2, h3, ht, Int.toNat_natCast, List.getD_eq_getElem?_getD, ec.out]
          rfl)
        have HCN := hid hcn
        have HCC := hid cc1
        have HCG := hid (HS.out.2.2.2 cc (List.mem_of_getElem? ec.out)).1
        have i1 : (t : Int) < (bs.length : Int) := by omega
        have i0 : (0 : Int) ≤ (t : Int) := by omega
        subst ht
        clear hcn cc1
        go_enter Tryd.func67, Tryd.ntmps67
        go_wp2_with (first
          | (go_at_call 103; rw [← hW]; refine (sWhere _ bs mid _ HB.out).mono ?_; rintro e w1 ⟨rfl, n1, hw1⟩; rw [HF.out]; have HE1 : Hid (Ext W w1) := hid (by rw [hw1]; exact Ext.drewN _ _); obtain ⟨hb0, hb1⟩ := KB.out _ HE1.out; clear hw1 hW)
          | (go_at_call 55; refine (sIn _ _ _ _).mono ?_; rintro e w2 ⟨rfl, n2, hw2⟩; rw [h2]; have HE2 : Hid (Ext W w2) := hid (by rw [hw2]; exact HE1.out.trans (Ext.drewN _ _)); obtain ⟨hb0, hb1⟩ := KB.out _ HE2.out; clear hw2)
          | (go_at_call 88; refine (sTake _ bs mid _ (RB.ext HB.out HE2.out) (by omega) (fun d hd => Nat.le_trans (HS.out.2.2.2 d hd).2.1 (by omega))).mono ?_; rw [HL.out]; rintro e w3 ⟨bv, ps, A3, c3, rfl, _, _, _, hri, hE3⟩; have HX3 := hid hri; have HE3 := hid (HE2.out.trans hE3); clear hri hE3))
        obtain ⟨W4, hW4⟩ : ∃ W4, W4 = w3.alloc (.cells #[.int .i64 x.id, .slice A3 x.need.length c3] 44) := ⟨_, rfl⟩
        have hE4 : Ext w3 W4 := by rw [hW4]; exact Ext.alloc _ _
        have hx4 : W4.heap[w3.heap.size]? = some (.cells #[.int .i64 x.id, .slice A3 x.need.length c3] 44 (0, 0)) := by rw [hW4]; exact heap_alloc_new _ _
        rw [← hW4]
        have HE4 := hid (HE3.out.trans hE4)
        have HX4 := hid (RI.ext HX3.out hE4)
        have KS : Hid (∀ w', Ext W4 w' → w'.cell? ⟨w.heap.size, 1, none⟩ = some (.int .i64 (t : Int)) ∧ w'.cell? ⟨bb, oo + t, none⟩ = some (.slice An cc.length cn) ∧ w'.cell? ⟨w3.heap.size, 0, none⟩ = some (.int .i64 x.id) ∧ w'.cell? ⟨w3.heap.size, 1, none⟩ = some (.slice A3 x.need.length c3)) :=
          hid fun w' hw => ⟨(KB.out _ (HE4.out.trans hw)).2, (HEW.out.trans (HE4.out.trans hw)).cell HCC.out, obj_cell (hw.obj hx4) (i := 0) rfl, obj_cell (hw.obj hx4) (i := 1) rfl⟩
        have HD : Hid (Ext W4 W4.drew) := hid (Below.drew (Below.refl _ _))
        clear hE4 hx4 hW4 hb0 hb1
        refine WG.start (fun w' => w'.cell? ⟨w.heap.size, 1, none⟩ = some (.int .i64 (t : Int)) ∧ w'.cell? ⟨bb, oo + t, none⟩ = some (.slice An cc.length cn) ∧ w'.cell? ⟨w3.heap.size, 0, none⟩ = some (.int .i64 x.id) ∧ w'.cell? ⟨w3.heap.size, 1, none⟩ = some (.slice A3 x.need.length c3)) [7,8] (by kernel_rfl) (by exact KS.out _ HD.out) (fun hHeld => ?_)
        (refine WG.take (i := 0) (v := ?_) rfl (by kernel_rfl) (by kernel_rfl) (by kernel_rfl) (by kernel_rfl) (fun _ _ _ h => h) (Or.inl ⟨by rfl, ?_⟩) (by assumption) ?_; rotate_left; (intro w hSw; (try dsimp only at hSw); go_split_ands; go_simp; (try with_reducible rfl)); (try simp only [Act.put, List.setIfInBounds_toArray, List.set_cons_zero, List.set_cons_succ]))
        (refine WG.take (i := 1) (v := ?_) rfl (by kernel_rfl) (by kernel_rfl) (by kernel_rfl) (by kernel_rfl) (fun _ _ _ h => h) (Or.inl ⟨by rfl, ?_⟩) (by assumption) ?_; rotate_left; (intro w hSw; (try dsimp only at hSw); go_split_ands; go_simp; (try with_reducible rfl)); (try simp only [Act.put, List.setIfInBounds_toArray, List.set_cons_zero, List.set_cons_succ]))
        (refine WG.take (i := 2) (v := ?_) rfl (by kernel_rfl) (by kernel_rfl) (by kernel_rfl) (by kernel_rfl) (fun _ _ _ h => h) (Or.inl ⟨by rfl, ?_⟩) (by assumption) ?_; rotate_left; (intro w hSw; (try dsimp only at hSw); go_split_ands; go_simp; (try with_reducible rfl)); (try simp only [Act.put, List.setIfInBounds_toArray, List.set_cons_zero, List.set_cons_succ]))
        (refine WG.take (i := 3) (v := ?_) rfl (by kernel_rfl) (by kernel_rfl) (by kernel_rfl) (by kernel_rfl) (fun _ _ _ h => h) (Or.inl ⟨by rfl, ?_⟩) (by assumption) ?_; rotate_left; (intro w hSw; (try dsimp only at hSw); go_split_ands; go_simp; (try with_reducible rfl)); (try simp only [Act.put, List.setIfInBounds_toArray, List.set_cons_zero, List.set_cons_succ]))
        (refine WG.take (i := 4) (v := ?_) rfl (by kernel_rfl) (by kernel_rfl) (by kernel_rfl) (by kernel_rfl) (fun _ _ _ h => h) (Or.inl ⟨by rfl, ?_⟩) (by assumption) ?_; rotate_left; (intro w hSw; (try dsimp only at hSw); go_split_ands; go_simp; (try with_reducible rfl)); (try simp only [Act.put, List.setIfInBounds_toArray, List.set_cons_zero, List.set_cons_succ]))
        (refine WG.take (i := 5) (v := ?_) rfl (by kernel_rfl) (by kernel_rfl) (by kernel_rfl) (by kernel_rfl) (fun _ _ _ h => h) (Or.inl ⟨by rfl, ?_⟩) (by assumption) ?_; rotate_left; (intro w hSw; (try dsimp only at hSw); go_split_ands; go_simp; (try with_reducible rfl)); (try simp only [Act.put, List.setIfInBounds_toArray, List.set_cons_zero, List.set_cons_succ]))
        (refine WG.take (i := 6) (v := ?_) rfl (by kernel_rfl) (by kernel_rfl) (by kernel_rfl) (by kernel_rfl) (fun _ _ _ h => h) (Or.inl ⟨by rfl, ?_⟩) (by assumption) ?_; rotate_left; (intro w hSw; (try dsimp only at hSw); go_split_ands; go_simp; (try with_reducible rfl)); (try simp only [Act.put, List.setIfInBounds_toArray, List.set_cons_zero, List.set_cons_succ]))
        refine WG.last (i := 7) rfl (by kernel_rfl) (by kernel_rfl) (fun K hK => ?_)
        go_simp; refine (sL11Fits _ _ _ room cc x _ (RI.ext HR.out (HE4.out.trans HD.out)) (RT.ext HCN.out (HEW.out.trans (HE4.out.trans HD.out))) ⟨_, rfl, RI.ext HX4.out HD.out⟩ HS.out.1 HCG.out HXG.out).mono ?_; rintro e5 w5 ⟨rfl, hE5⟩; have HE5 := hid (HD.out.trans hE5); clear hE5; (try dsimp only)
        refine hK.out _ _ ?_
        clear hK K
        (try simp only [Act.put, List.setIfInBounds_toArray, List.set_cons_zero, List.set_cons_succ])
        refine WG.last (i := 8) rfl (by kernel_rfl) (by kernel_rfl) (fun K hK => ?_)
        go_simp
        refine hK.out _ _ ?_
        clear hK K
        (try simp only [Act.put, List.setIfInBounds_toArray, List.set_cons_zero, List.set_cons_succ])
        refine WG.done (by kernel_rfl) ?_
        go_wp2
        go_ret
        exact ⟨ret_b HA.out.symm, HEW.out.trans (HE4.out.trans HE5.out)⟩
    · have h2 : inB mto 0 ((bs.length : Int) - 1) = false := by simpa using h2
      have HA : Hid (canMove room bs ⟨mid, mto⟩ = false) := hid (by rw [HCE.out, h2]; rfl)
      go_enter Tryd.func67, Tryd.ntmps67
      go_wp2_with (first
        | (go_at_call 103; rw [← hW]; refine (sWhere _ bs mid _ HB.out).mono ?_; rintro e w1 ⟨rfl, n1, hw1⟩; rw [HF.out]; have HE1 : Hid (Ext W w1) := hid (by rw [hw1]; exact Ext.drewN _ _); obtain ⟨hb0, hb1⟩ := KB.out _ HE1.out; clear hw1 hW)
        | (go_at_call 55; refine (sIn _ _ _ _).mono ?_; rintro e w2 ⟨rfl, n2, hw2⟩; rw [h2]; have HE2 : Hid (Ext W w2) := hid (by rw [hw2]; exact HE1.out.trans (Ext.drewN _ _)); obtain ⟨hb0, hb1⟩ := KB.out _ HE2.out; clear hw2))
      go_ret
      exact ⟨ret_b HA.out.symm, HEW.out.trans HE2.out⟩
end Go.Proofs.YtibpijjigopdjaaDoor
