/- The reference's copy of a cluster. -/
import Derived.Test.YtfgibhdglbjadaaSp5
namespace Go.Proofs.Ytfgibhdglbjadaa
open Go.RowKit
set_option maxRecDepth 4000

theorem blocksOf_app (ps qs : List (UnitD × Value)) : blocksOf (ps ++ qs) = blocksOf ps ++ blocksOf qs := by simp [blocksOf]
/-- a unit more, its tasks in a block that is new -/
theorem nodup_more {w : World} {base : Nat} {u tv : Value} {ps : List (UnitD × Value)} {x : UnitD} (h : OUV w base u ps) (hn : (blocksOf ps).Nodup) (hv : ∀ g, tv.ownBlock = some g → w.heap.size ≤ g) : (blocksOf (ps ++ [(x, tv)])).Nodup := by
  rw [blocksOf_app]
  refine List.nodup_append.2 ⟨hn, ?_, ?_⟩
  · simp only [blocksOf, List.filterMap_cons, List.filterMap_nil]
    cases tv.ownBlock <;> simp
  · intro a ha b hb hab
    subst hab
    have h1 := (OUV.lt h a ha).2
    simp only [blocksOf, List.filterMap_cons, List.filterMap_nil] at hb
    cases ht : tv.ownBlock with
    | none => simp [ht] at hb
    | some g =>
      have := hv g ht
      simp [ht] at hb
      omega

set_option maxHeartbeats 2000000 in
theorem sCopy21 (cv : Value) (C : ClusD) (w : World) (h : ClusV w cv C) (hl : C.units.length ≤ 4000000) (hlr : C.room.length ≤ 4000000) (hlt : ∀ u ∈ C.units, u.tasks.length ≤ 4000000 ∧ ∀ t ∈ u.tasks, t.need.length ≤ 4000000) :
    Calls Try.prog 79 #[cv] w fun e w' => ∃ v', e = .returned v' ∧ OCl w' w.heap.size v' C ∧ Ext w w' := by
  obtain ⟨rv, uv, rfl, hr, hu⟩ := h
  obtain ⟨A, c, rfl, hc, hc', hg⟩ := hu.get
  have hr0 := hr
  obtain ⟨Ar, cr, rfl, _⟩ := hr
  clear hu
  obtain ⟨O1, hO1⟩ : ∃ O1 : Obj, O1 = .cells #[.slice Ar C.room.length cr, .slice A C.units.length c] 26 := ⟨_, rfl⟩
  obtain ⟨O2, hO2⟩ : ∃ O2 : Obj, O2 = .cells #[.slice none 0 0, .slice none 0 0] 26 := ⟨_, rfl⟩
  have hE3 : Ext w (((w.alloc O1).alloc O2).alloc (.cells #[] 3)) := ((Ext.alloc _ _).trans (Ext.alloc _ _)).trans (Ext.alloc _ _)
  have HM : Hid (OI (((w.alloc O1).alloc O2).alloc (.cells #[] 3)) w.heap.size (.slice (some ⟨w.heap.size + 1 + 1, 0, none⟩) 0 0) []) := hid (Own.madeAt #[] 0 _ (by simp) (by omega) (by omega) rfl)
  have hb1 : (((w.alloc O1).alloc O2).alloc (.cells #[] 3)).heap[w.heap.size]? = some O1 := (Ext.alloc _ _).obj ((Ext.alloc _ _).obj (heap_alloc_new _ _))
  have hb2 : (((w.alloc O1).alloc O2).alloc (.cells #[] 3)).heap[w.heap.size + 1]? = some O2 := (Ext.alloc _ _).obj (heap_new (by simp))
  have HR := hid (RI.ext hr0 hE3)
  have HE3 := hid hE3
  subst hO1 hO2
  have HB1 := hid hb1
  have HB2 := hid hb2
  clear hb1 hb2 hr0 hE3
  obtain ⟨i0_int, hi0_int, hz0_int, hz1_int, hz2_int⟩ := info_parts info_int
  obtain ⟨i0_unit, hi0_unit, hz0_unit, hz1_unit, hz2_unit⟩ := info_parts info_unit
  go_enter Try.func79, Try.ntmps79
  go_wp2_with (at_builtin; refine wpList_append_sl _ (by rfl) _ _ 23 (by rfl) EI.ok EI.flat (w.heap.size) 3 EI.ne i0_int _ 1 8 Try.underlying23 hi0_int hz0_int hz1_int hz2_int rfl (by omega) _ (by rfl) _ (HM.out) _ (by rfl) _ (HR.out) (by simp; omega) (by simp; omega) ?_ ?_; (focus (first | exact Nat.le_refl _ | (simp; done) | (simp; omega) | omega)); intro v1 w1 hO1 hg1 hat1 hs1; rw [List.nil_append] at hO1; obtain ⟨A1, c1x, rfl, hf1, hf2⟩ := hO1.form; have hE1 := Ext.grown HE3.out hg1 HM.out.lt; have hb1 := hs1 _ _ _ _ (by decide) HB1.out; have hb2 := hs1 _ _ _ _ (by decide) HB2.out; have HO1 := hid hO1; have HHB1 := hid hb1; have HHB2 := hid hb2; have HHE1 := hid hE1; clear hO1 hg1 hat1 hs1 hb1 hb2 hE1)
  go_loopw [4] (fun i wr => ∃ (k : Nat) (u : Value) (ps : List (UnitD × Value)), k ≤ C.units.length ∧ i = .int .i64 k ∧ Hid (OUV wr w.heap.size u ps ∧ ps.map (·.1) = C.units.take k ∧ (blocksOf ps).Nodup ∧ Ext w wr ∧ RI wr (.slice A1 C.room.length c1x) C.room ∧
      wr.heap[w.heap.size]? = some (.cells #[.slice Ar C.room.length cr, .slice A C.units.length c] 26 (0, 0)) ∧ wr.heap[w.heap.size + 1]? = some (.cells #[.slice none 0 0, .slice none 0 0] 26 (0, 0)) ∧ wr.heap[w1.heap.size + 1]? = some (.cells #[.slice A1 C.room.length c1x, u] 26 (0, 0)) ∧ w.heap.size + 1 < w1.heap.size)) (fun i _ => C.units.length - (intOf i).toNat)
  case atStart =>
    have hx : Ext w1 ((w1.alloc (.cells #[] 56)).alloc (.cells #[.slice A1 C.room.length c1x, .slice (some ⟨w1.heap.size, 0, none⟩) 0 0] 26)) := (Ext.alloc _ _).trans (Ext.alloc _ _)
    refine ⟨0, _, [], Nat.zero_le _, rfl, hid ⟨?_, by simp, by simp [blocksOf], HHE1.out.trans hx, RI.ext HO1.out.read hx, hx.obj HHB1.out, hx.obj HHB2.out, heap_new (by simp), ?_⟩⟩
    · exact (Own.madeAt (w := w1) #[] 0 _ rfl HHE1.out.size (by omega) rfl).ext (EUV.ok _) (Ext.alloc _ _)
    · have := (Array.getElem?_eq_some_iff.1 HHB2.out).1
      omega
  case round =>
    obtain ⟨k, u, ps, hk, rfl, H⟩ := hrel
    obtain ⟨hO, hps, hnd, hE, hRo, hob1, hob2, hob3, hlt1⟩ := H.out
    obtain ⟨Au, cu, rfl, hcu, hcu'⟩ := hO.form
    have hbc := cell_of_row wr w.heap.size 1 _ _ _ hob1
    simp only [List.getElem?_toArray, List.getElem?_cons_succ, List.getElem?_cons_zero] at hbc
    have hlps : ps.length = k := by
      have := congrArg List.length hps
      rw [List.length_map, List.length_take] at this
      omega
    by_cases hltk : k < C.units.length
    · obtain ⟨b, o, x, An, cn, rfl, e, c1, c2, hnx⟩ := hg k hltk
      have hbo := cell_of_row wr (w1.heap.size + 1) 1 _ _ _ hob3
      simp only [List.getElem?_toArray, List.getElem?_cons_succ, List.getElem?_cons_zero] at hbo
      have KS : Hid (∀ w', Ext w w' → w'.heap[w.heap.size]? = wr.heap[w.heap.size]? → w'.heap[w1.heap.size + 1]? = wr.heap[w1.heap.size + 1]? →
          w'.cell? ⟨w.heap.size, 1, none⟩ = some (.slice (some ⟨b, o, none⟩) C.units.length c) ∧ w'.cell? ⟨w1.heap.size + 1, 1, none⟩ = some (.slice Au ps.length cu) ∧ w'.cell? ⟨b, o + k * 2, none⟩ = some (.bool x.opened) ∧ w'.cell? ⟨b, o + k * 2 + 1, none⟩ = some (.slice An x.tasks.length cn)) :=
        hid fun w' hw h1 h3 => ⟨(World.cell?_of_block (w := wr) (a := ⟨w.heap.size, 1, none⟩) h1).trans hbc, (World.cell?_of_block (w := wr) (a := ⟨w1.heap.size + 1, 1, none⟩) h3).trans hbo, hw.cell c1, hw.cell c2⟩
      have i1 : (k : Int) < (C.units.length : Int) := by omega
      have i0 : (0 : Int) ≤ (k : Int) := by omega
      have HN := hid hnx
      have HLT := hid (hlt x (List.mem_of_getElem? e.out))
      have HP := hid hlps
      have HPS := hid hps
      have hsz1 := hE.size
      have Hob1 := hid hob1
      have Hob2 := hid hob2
      have Hob3 := hid hob3
      have HO := hid hO
      clear c1 c2 hnx hbo hlps hps hob1 hob2 hob3 hO
      have hE2 : Ext w wr := hE
      go_wp2
      refine WG.start (fun w' => w'.cell? ⟨w.heap.size, 1, none⟩ = some (.slice (some ⟨b, o, none⟩) C.units.length c) ∧ w'.cell? ⟨w1.heap.size + 1, 1, none⟩ = some (.slice Au ps.length cu) ∧ w'.cell? ⟨b, o + k * 2, none⟩ = some (.bool x.opened) ∧ w'.cell? ⟨b, o + k * 2 + 1, none⟩ = some (.slice An x.tasks.length cn)) [17,18,19] (by kernel_rfl) (by exact KS.out _ (Below.drew hE) rfl rfl) (fun hHeld => ?_)
      (refine WG.take (i := 0) (v := ?_) rfl (by kernel_rfl) (by kernel_rfl) (by kernel_rfl) (by kernel_rfl) (fun _ _ _ h => h) (Or.inl ⟨by rfl, ?_⟩) (by assumption) ?_; rotate_left; (intro w hSw; (try dsimp only at hSw); go_split_ands; go_simp; (try with_reducible rfl)); (try simp only [Act.put, List.setIfInBounds_toArray, List.set_cons_zero, List.set_cons_succ]))
      (refine WG.take (i := 1) (v := ?_) rfl (by kernel_rfl) (by kernel_rfl) (by kernel_rfl) (by kernel_rfl) (fun _ _ _ h => h) (Or.inl ⟨by rfl, ?_⟩) (by assumption) ?_; rotate_left; (intro w hSw; (try dsimp only at hSw); go_split_ands; go_simp; (try with_reducible rfl)); (try simp only [Act.put, List.setIfInBounds_toArray, List.set_cons_zero, List.set_cons_succ]))
      (refine WG.take (i := 2) (v := ?_) rfl (by kernel_rfl) (by kernel_rfl) (by kernel_rfl) (by kernel_rfl) (fun _ _ _ h => h) (Or.inl ⟨by rfl, ?_⟩) (by assumption) ?_; rotate_left; (intro w hSw; (try dsimp only at hSw); go_split_ands; go_simp; (try with_reducible rfl)); (try simp only [Act.put, List.setIfInBounds_toArray, List.set_cons_zero, List.set_cons_succ]))
      (refine WG.take (i := 3) (v := ?_) rfl (by kernel_rfl) (by kernel_rfl) (by kernel_rfl) (by kernel_rfl) (fun _ _ _ h => h) (Or.inl ⟨by rfl, ?_⟩) (by assumption) ?_; rotate_left; (intro w hSw; (try dsimp only at hSw); go_split_ands; go_simp; (try with_reducible rfl)); (try simp only [Act.put, List.setIfInBounds_toArray, List.set_cons_zero, List.set_cons_succ]))
      (refine WG.take (i := 4) (v := ?_) rfl (by kernel_rfl) (by kernel_rfl) (by kernel_rfl) (by kernel_rfl) (fun _ _ _ h => h) (Or.inl ⟨by rfl, ?_⟩) (by assumption) ?_; rotate_left; (intro w hSw; (try dsimp only at hSw); go_split_ands; go_simp; (try with_reducible rfl)); (try simp only [Act.put, List.setIfInBounds_toArray, List.set_cons_zero, List.set_cons_succ]))
      (refine WG.take (i := 5) (v := ?_) rfl (by kernel_rfl) (by kernel_rfl) (by kernel_rfl) (by kernel_rfl) (fun _ _ _ h => h) (Or.inl ⟨by rfl, ?_⟩) (by assumption) ?_; rotate_left; (intro w hSw; (try dsimp only at hSw); go_split_ands; go_simp; (try with_reducible rfl)); (try simp only [Act.put, List.setIfInBounds_toArray, List.set_cons_zero, List.set_cons_succ]))
      (refine WG.take (i := 6) (v := ?_) rfl (by kernel_rfl) (by kernel_rfl) (by kernel_rfl) (by kernel_rfl) (fun _ _ _ h => h) (Or.inl ⟨by rfl, ?_⟩) (by assumption) ?_; rotate_left; (intro w hSw; (try dsimp only at hSw); go_split_ands; go_simp; (try with_reducible rfl)); (try simp only [Act.put, List.setIfInBounds_toArray, List.set_cons_zero, List.set_cons_succ]))
      (refine WG.take (i := 7) (v := ?_) rfl (by kernel_rfl) (by kernel_rfl) (by kernel_rfl) (by kernel_rfl) (fun _ _ _ h => h) (Or.inl ⟨by rfl, ?_⟩) (by assumption) ?_; rotate_left; (intro w hSw; (try dsimp only at hSw); go_split_ands; go_simp; (try with_reducible rfl)); (try simp only [Act.put, List.setIfInBounds_toArray, List.set_cons_zero, List.set_cons_succ]))
      (refine WG.take (i := 8) (v := ?_) rfl (by kernel_rfl) (by kernel_rfl) (by kernel_rfl) (by kernel_rfl) (fun _ _ _ h => h) (Or.inl ⟨by rfl, ?_⟩) (by assumption) ?_; rotate_left; (intro w hSw; (try dsimp only at hSw); go_split_ands; go_simp; (try with_reducible rfl)); (try simp only [Act.put, List.setIfInBounds_toArray, List.set_cons_zero, List.set_cons_succ]))
      (refine WG.take (i := 9) (v := ?_) rfl (by kernel_rfl) (by kernel_rfl) (by kernel_rfl) (by kernel_rfl) (fun _ _ _ h => h) (Or.inl ⟨by rfl, ?_⟩) (by assumption) ?_; rotate_left; (intro w hSw; (try dsimp only at hSw); go_split_ands; go_simp; (try with_reducible rfl)); (try simp only [Act.put, List.setIfInBounds_toArray, List.set_cons_zero, List.set_cons_succ]))
      (refine WG.take (i := 10) (v := ?_) rfl (by kernel_rfl) (by kernel_rfl) (by kernel_rfl) (by kernel_rfl) (fun _ _ _ h => h) (Or.inl ⟨by rfl, ?_⟩) (by assumption) ?_; rotate_left; (intro w hSw; (try dsimp only at hSw); go_split_ands; go_simp; (try with_reducible rfl)); (try simp only [Act.put, List.setIfInBounds_toArray, List.set_cons_zero, List.set_cons_succ]))
      (refine WG.take (i := 11) (v := ?_) rfl (by kernel_rfl) (by kernel_rfl) (by kernel_rfl) (by kernel_rfl) (fun _ _ _ h => h) (Or.inl ⟨by rfl, ?_⟩) (by assumption) ?_; rotate_left; (intro w hSw; (try dsimp only at hSw); go_split_ands; go_simp; (try with_reducible rfl)); (try simp only [Act.put, List.setIfInBounds_toArray, List.set_cons_zero, List.set_cons_succ]))
      (refine WG.take (i := 12) (v := ?_) rfl (by kernel_rfl) (by kernel_rfl) (by kernel_rfl) (by kernel_rfl) (fun _ _ _ h => h) (Or.inl ⟨by rfl, ?_⟩) (by assumption) ?_; rotate_left; (intro w hSw; (try dsimp only at hSw); go_split_ands; go_simp; (try with_reducible rfl)); (try simp only [Act.put, List.setIfInBounds_toArray, List.set_cons_zero, List.set_cons_succ]))
      (refine WG.take (i := 13) (v := ?_) rfl (by kernel_rfl) (by kernel_rfl) (by kernel_rfl) (by kernel_rfl) (fun _ _ _ h => h) (Or.inl ⟨by rfl, ?_⟩) (by assumption) ?_; rotate_left; (intro w hSw; (try dsimp only at hSw); go_split_ands; go_simp; (try with_reducible rfl)); (try simp only [Act.put, List.setIfInBounds_toArray, List.set_cons_zero, List.set_cons_succ]))
      refine WG.one (i := 14) rfl (by kernel_rfl) (fun K hK => ?_)
      go_simp; refine (sCopy _ x.tasks _ (HN.out.ext (Below.drew hE)) HLT.out.1 HLT.out.2).mono ?_; rintro e1 w2 ⟨tv, rfl, htv, hEt⟩; have hEr : Ext wr w2 := Ext.trans (Below.drew (Below.refl _ _)) hEt; obtain ⟨At, ct, rfl, hct, hct'⟩ := htv.form; (try dsimp only)
      refine hK.out _ _ (by exact KS.out _ (hE.trans hEr) (hEr.block _ (Array.getElem?_eq_some_iff.1 Hob1.out).1) (hEr.block _ (Array.getElem?_eq_some_iff.1 Hob3.out).1)) (fun hHeld => ?_)
      clear hK K
      (try simp only [Act.put, List.setIfInBounds_toArray, List.set_cons_zero, List.set_cons_succ])
      (refine WG.take (i := 15) (v := ?_) rfl (by kernel_rfl) (by kernel_rfl) (by kernel_rfl) (by kernel_rfl) (fun _ _ _ h => h) (Or.inl ⟨by rfl, ?_⟩) (by assumption) ?_; rotate_left; (intro w hSw; (try dsimp only at hSw); go_split_ands; go_simp; (try with_reducible rfl)); (try simp only [Act.put, List.setIfInBounds_toArray, List.set_cons_zero, List.set_cons_succ]))
      refine WG.one (i := 16) rfl (by kernel_rfl) (fun K hK => ?_)
      go_simp
      refine hK.out _ _ (by exact KS.out _ ((hE.trans hEr).trans (Ext.alloc _ _)) ((hEr.trans (Ext.alloc _ _)).block _ (Array.getElem?_eq_some_iff.1 Hob1.out).1) ((hEr.trans (Ext.alloc _ _)).block _ (Array.getElem?_eq_some_iff.1 Hob3.out).1)) (fun hHeld => ?_)
      clear hK K
      (try simp only [Act.put, List.setIfInBounds_toArray, List.set_cons_zero, List.set_cons_succ])
      have hEa := hEr.trans (Ext.alloc w2 (.cells #[.bool x.opened, .slice At x.tasks.length ct] 56))
      have hsza : w.heap.size ≤ w2.heap.size := (hE.trans hEr).size
      have HV1 := hid (HO.out.ext (EUV.ok _) hEa)
      have HT1 := hid (Own.low (htv.ext ET.ok (Ext.alloc w2 (.cells #[.bool x.opened, .slice At x.tasks.length ct] 56))) hE.size)
      refine WG.last (i := 17) rfl (by kernel_rfl) (by kernel_rfl) (fun K hK => ?_)
      refine step_append_sl _ (by rfl) _ _ 24 (by rfl) (EUV.ok _) (EUV.flat _) (w.heap.size) 56 EUV.ne i0_unit _ 2 32 Try.underlying24 hi0_unit hz0_unit hz1_unit hz2_unit rfl (by omega) _ (by rfl) _ (HV1.out) _ (by rfl) _ (RSl.laid (cs := [.bool x.opened, .slice At x.tasks.length ct]) (x := (x, .slice At x.tasks.length ct)) (heap_alloc_new _ _) rfl ⟨rfl, HT1.out⟩) (by have := HP.out; simp; omega) (by have := HP.out; simp; omega) ?_ ?_; (focus (first | exact Nat.le_refl _ | (simp; done) | (simp; omega) | omega)); intro v3 w3 hO3 hg3 hat3 hs3; obtain ⟨A3, c3, rfl, hc3, hc3'⟩ := hO3.form_app; have hE3 : Ext w w3 := Ext.grown (hE.trans hEa) hg3 HV1.out.lt; have ho1 := hs3 _ _ _ _ (by decide) (hEa.obj Hob1.out); have ho2 := hs3 _ _ _ _ (by decide) (hEa.obj Hob2.out); have ho3 := hs3 _ _ _ _ (by decide) (hEa.obj Hob3.out)
      refine hK.out _ _ ?_
      clear hK K
      (try simp only [Act.put, List.setIfInBounds_toArray, List.set_cons_zero, List.set_cons_succ])
      have co3 := obj_cell ho3 (i := 1) rfl
      have fo3 := obj_frozen ho3 1
      refine WG.last (i := 18) rfl (by kernel_rfl) (by kernel_rfl) (fun K hK => ?_)
      go_simp
      refine hK.out _ _ ?_
      clear hK K
      (try simp only [Act.put, List.setIfInBounds_toArray, List.set_cons_zero, List.set_cons_succ])
      refine WG.last (i := 19) rfl (by kernel_rfl) (by kernel_rfl) (fun K hK => ?_)
      go_simp
      refine hK.out _ _ ?_
      clear hK K
      (try simp only [Act.put, List.setIfInBounds_toArray, List.set_cons_zero, List.set_cons_succ])
      refine WG.done (by kernel_rfl) ?_
      go_wp2
      go_roundw
      case rel =>
        have hsx : SameT (fun t => t ≠ 26) w3 (w3.setCell ⟨w1.heap.size + 1, 1, none⟩ (Value.slice A3 (ps.length + 1) c3)) := SameT.setCell (p := ⟨w1.heap.size + 1, 1, none⟩) ho3 _ (fun t ht => ht)
        have hsT : SameT (fun t => t = 56 ∨ t = 64 ∨ t = 3) w3 (w3.setCell ⟨w1.heap.size + 1, 1, none⟩ (Value.slice A3 (ps.length + 1) c3)) := hsx.mono (by rintro t (rfl | rfl | rfl) <;> decide)
        have hsI : SameT (fun t => t = 3) w3 (w3.setCell ⟨w1.heap.size + 1, 1, none⟩ (Value.slice A3 (ps.length + 1) c3)) := hsx.mono (by rintro t rfl; decide)
        refine ⟨k + 1, Value.slice A3 (ps.length + 1) c3, ps ++ [(x, Value.slice At x.tasks.length ct)], by omega, by go_num, hid ⟨?_, ?_, ?_, ?_, ?_, ?_, ?_, ?_, hlt1⟩⟩
        · exact Own.same (EUV.ok _) hO3 hsT
        · rw [List.map_append, HPS.out, take_snoc e.out]; rfl
        · exact nodup_more HO.out hnd (fun g hg => by have := htv.lt g hg; have h5 : wr.heap.size ≤ wr.drew.heap.size := Nat.le_refl _; omega)
        · exact Below.setCell hE3 (by show w.heap.size ≤ w1.heap.size + 1; omega) _
        · exact RI.same (RI.ext hRo hEa) ((hs3.mono (by rintro t rfl; decide)).trans hsI)
        · exact obj_far ho1 (by show w.heap.size ≠ w1.heap.size + 1; omega) _
        · exact obj_far ho2 (by show w.heap.size + 1 ≠ w1.heap.size + 1; omega) _
        · exact obj_set ho3 1 _
      case measure => simp [intOf]; omega
    · have hk' : k = C.units.length := by omega
      have cx0 := obj_cell hob3 (i := 0) rfl
      have cx1 := obj_cell hob3 (i := 1) rfl
      have cy0 := obj_cell hob2 (i := 0) rfl
      have cy1 := obj_cell hob2 (i := 1) rfl
      have fy0 := obj_frozen hob2 0
      have fy1 := obj_frozen hob2 1
      have Hob2 := hid hob2
      have HO := hid hO
      have HP := hid hps
      have HRo := hid hRo
      have HK := hid hk'
      clear hob1 hob2 hob3 hO hps hRo hk' hlps
      go_wp2
      have hz := obj_set2 Hob2.out (.slice A1 C.room.length c1x) (.slice Au ps.length cu)
      have z0 := obj_cell hz (i := 0) rfl
      have z1 := obj_cell hz (i := 1) rfl
      have hsx := (SameT.setCell (T := fun t => t ≠ 26) (p := ⟨w.heap.size + 1, 0, none⟩) Hob2.out (.slice A1 C.room.length c1x) (fun t ht => ht)).trans (SameT.setCell (p := ⟨w.heap.size + 1, 1, none⟩) (obj_set Hob2.out 0 _) (.slice Au ps.length cu) (fun t ht => ht))
      have hsT : SameT (fun t => t = 56 ∨ t = 64 ∨ t = 3) wr ((wr.setCell ⟨w.heap.size + 1, 0, none⟩ (.slice A1 C.room.length c1x)).setCell ⟨w.heap.size + 1, 1, none⟩ (.slice Au ps.length cu)) := hsx.mono (by rintro t (rfl | rfl | rfl) <;> decide)
      refine bodyPost_ret (v := .agg #[.slice A1 C.room.length c1x, .slice Au ps.length cu]) (by simp [results, Try.results79, go_sem, z0, z1]) rfl ⟨_, rfl, ⟨_, _, ps, rfl, ?_, ?_, ?_, hnd⟩, ?_⟩
      · exact RI.same HRo.out (hsT.mono (fun t h => .inr (.inr h)))
      · exact Own.same (EUV.ok _) HO.out hsT
      · rw [HP.out, HK.out, List.take_length]
      · exact Below.setCell (Below.setCell hE (Nat.le_succ _) _) (Nat.le_succ _) _
end Go.Proofs.Ytfgibhdglbjadaa
