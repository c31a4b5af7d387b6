/- The reference's copies. -/
import Derived.Test.YtfgibhdglbjadaaSp4
import Derived.Test.YtfgibhdglbjadaaReg
namespace Go.Proofs.Ytfgibhdglbjadaa
open Go.RowKit
set_option maxRecDepth 4000

set_option maxHeartbeats 1000000 in
theorem sCopy (v : Value) (ts : List TaskD) (w : World) (h : RT w v ts) (hl : ts.length ≤ 4000000) (hn : ∀ t ∈ ts, t.need.length ≤ 4000000) :
    Calls Try.prog 119 #[v] w fun e w' => ∃ v', e = .returned v' ∧ OT w' w.heap.size v' ts ∧ Ext w w' := by
  obtain ⟨A, c, rfl, hc, hc', hg⟩ := h.get
  clear h
  obtain ⟨i0_task, hi0_task, hz0_task, hz1_task, hz2_task⟩ := info_parts info_task
  obtain ⟨i0_int, hi0_int, hz0_int, hz1_int, hz2_int⟩ := info_parts info_int
  go_enter Try.func119, Try.ntmps119
  go_wp2
  go_loopw [3, 4] (fun v i wr => ∃ k : Nat, k ≤ ts.length ∧ i = .int .i64 k ∧ OT wr w.heap.size v (ts.take k) ∧ Ext w wr) (fun _ i _ => ts.length - (intOf i).toNat)
  case atStart => exact ⟨0, Nat.zero_le _, rfl, Own.made _ _ (Nat.le_refl _) (by omega) rfl, Ext.alloc _ _⟩
  case round =>
    obtain ⟨k, hk, rfl, hv, hE⟩ := hrel
    by_cases hlt : k < ts.length
    · obtain ⟨b, o, x, An, cn, rfl, e, c1, c2, hnx⟩ := hg k hlt
      have KH : Hid (∀ w', Ext w w' → w'.cell? ⟨b, o + k * 2, none⟩ = some (.int .i64 x.id) ∧ w'.cell? ⟨b, o + k * 2 + 1, none⟩ = some (.slice An x.need.length cn) ∧ Ext w w') := hid fun w' hw => ⟨hw.cell c1, hw.cell c2, hw⟩
      have i1 : (k : Int) < (ts.length : Int) := by omega
      have i0 : (0 : Int) ≤ (k : Int) := by omega
      have HV := hid hv
      have HN := hid hnx
      have HL := hid (hn x (List.mem_of_getElem? e.out))
      have HM := hid ((Own.made (E := EI) (w := wr) (base := wr.heap.size) (e := 3) (size := 1) #[] 0 (Nat.le_refl _) (by omega) rfl).ext EI.ok (Below.drew (Below.refl _ _)))
      clear c1 c2 hnx hv
      go_wp2
      refine WG.start (fun w' => w'.cell? ⟨b, o + k * 2, none⟩ = some (.int .i64 x.id) ∧ w'.cell? ⟨b, o + k * 2 + 1, none⟩ = some (.slice An x.need.length cn) ∧ Ext w w') [15,16] (by kernel_rfl) (by exact KH.out _ (Below.drew hE)) (fun hHeld => ?_)
      (refine WG.take (i := 0) (v := ?_) rfl (by kernel_rfl) (by kernel_rfl) (by kernel_rfl) (by kernel_rfl) (fun _ _ _ h => h) (Or.inl ⟨by rfl, ?_⟩) (by assumption) ?_; rotate_left; (intro w hSw; (try dsimp only at hSw); go_split_ands; go_simp; (try with_reducible rfl)); (try simp only [Act.put, List.setIfInBounds_toArray, List.set_cons_zero, List.set_cons_succ]))
      (refine WG.take (i := 1) (v := ?_) rfl (by kernel_rfl) (by kernel_rfl) (by kernel_rfl) (by kernel_rfl) (fun _ _ _ h => h) (Or.inl ⟨by rfl, ?_⟩) (by assumption) ?_; rotate_left; (intro w hSw; (try dsimp only at hSw); go_split_ands; go_simp; (try with_reducible rfl)); (try simp only [Act.put, List.setIfInBounds_toArray, List.set_cons_zero, List.set_cons_succ]))
      (refine WG.take (i := 2) (v := ?_) rfl (by kernel_rfl) (by kernel_rfl) (by kernel_rfl) (by kernel_rfl) (fun _ _ _ h => h) (Or.inl ⟨by rfl, ?_⟩) (by assumption) ?_; rotate_left; (intro w hSw; (try dsimp only at hSw); go_split_ands; go_simp; (try with_reducible rfl)); (try simp only [Act.put, List.setIfInBounds_toArray, List.set_cons_zero, List.set_cons_succ]))
      (refine WG.take (i := 3) (v := ?_) rfl (by kernel_rfl) (by kernel_rfl) (by kernel_rfl) (by kernel_rfl) (fun _ _ _ h => h) (Or.inl ⟨by rfl, ?_⟩) (by assumption) ?_; rotate_left; (intro w hSw; (try dsimp only at hSw); go_split_ands; go_simp; (try with_reducible rfl)); (try simp only [Act.put, List.setIfInBounds_toArray, List.set_cons_zero, List.set_cons_succ]))
      (refine WG.take (i := 4) (v := ?_) rfl (by kernel_rfl) (by kernel_rfl) (by kernel_rfl) (by kernel_rfl) (fun _ _ _ h => h) (Or.inl ⟨by rfl, ?_⟩) (by assumption) ?_; rotate_left; (intro w hSw; (try dsimp only at hSw); go_split_ands; go_simp; (try with_reducible rfl)); (try simp only [Act.put, List.setIfInBounds_toArray, List.set_cons_zero, List.set_cons_succ]))
      (refine WG.take (i := 5) (v := ?_) rfl (by kernel_rfl) (by kernel_rfl) (by kernel_rfl) (by kernel_rfl) (fun _ _ _ h => h) (Or.inl ⟨by rfl, ?_⟩) (by assumption) ?_; rotate_left; (intro w hSw; (try dsimp only at hSw); go_split_ands; go_simp; (try with_reducible rfl)); (try simp only [Act.put, List.setIfInBounds_toArray, List.set_cons_zero, List.set_cons_succ]))
      (refine WG.take (i := 7) (v := ?_) rfl (by kernel_rfl) (by kernel_rfl) (by kernel_rfl) (by kernel_rfl) (fun _ _ _ h => h) (Or.inl ⟨by rfl, ?_⟩) (by assumption) ?_; rotate_left; (intro w hSw; (try dsimp only at hSw); go_split_ands; go_simp; (try with_reducible rfl)); (try simp only [Act.put, List.setIfInBounds_toArray, List.set_cons_zero, List.set_cons_succ]))
      (refine WG.take (i := 8) (v := ?_) rfl (by kernel_rfl) (by kernel_rfl) (by kernel_rfl) (by kernel_rfl) (fun _ _ _ h => h) (Or.inl ⟨by rfl, ?_⟩) (by assumption) ?_; rotate_left; (intro w hSw; (try dsimp only at hSw); go_split_ands; go_simp; (try with_reducible rfl)); (try simp only [Act.put, List.setIfInBounds_toArray, List.set_cons_zero, List.set_cons_succ]))
      (refine WG.take (i := 9) (v := ?_) rfl (by kernel_rfl) (by kernel_rfl) (by kernel_rfl) (by kernel_rfl) (fun _ _ _ h => h) (Or.inl ⟨by rfl, ?_⟩) (by assumption) ?_; rotate_left; (intro w hSw; (try dsimp only at hSw); go_split_ands; go_simp; (try with_reducible rfl)); (try simp only [Act.put, List.setIfInBounds_toArray, List.set_cons_zero, List.set_cons_succ]))
      (refine WG.take (i := 10) (v := ?_) rfl (by kernel_rfl) (by kernel_rfl) (by kernel_rfl) (by kernel_rfl) (fun _ _ _ h => h) (Or.inl ⟨by rfl, ?_⟩) (by assumption) ?_; rotate_left; (intro w hSw; (try dsimp only at hSw); go_split_ands; go_simp; (try with_reducible rfl)); (try simp only [Act.put, List.setIfInBounds_toArray, List.set_cons_zero, List.set_cons_succ]))
      (refine WG.take (i := 11) (v := ?_) rfl (by kernel_rfl) (by kernel_rfl) (by kernel_rfl) (by kernel_rfl) (fun _ _ _ h => h) (Or.inl ⟨by rfl, ?_⟩) (by assumption) ?_; rotate_left; (intro w hSw; (try dsimp only at hSw); go_split_ands; go_simp; (try with_reducible rfl)); (try simp only [Act.put, List.setIfInBounds_toArray, List.set_cons_zero, List.set_cons_succ]))
      refine WG.one (i := 6) rfl (by kernel_rfl) (fun K hK => ?_)
      go_simp
      refine hK.out _ _ (by exact KH.out _ (Below.drew (Below.alloc hE hE.size _))) (fun hHeld => ?_)
      clear hK K
      (try simp only [Act.put, List.setIfInBounds_toArray, List.set_cons_zero, List.set_cons_succ])
      refine WG.one (i := 12) rfl (by kernel_rfl) (fun K hK => ?_)
      refine step_append_sl _ (by rfl) _ _ 23 (by rfl) EI.ok EI.flat (wr.heap.size) 3 EI.ne i0_int _ 1 8 Try.underlying23 hi0_int hz0_int hz1_int hz2_int rfl (by omega) _ (by rfl) _ (HM.out) _ (by rfl) _ (HN.out.ext (Below.drew (Below.alloc hE hE.size _))) (by have := HL.out; simp; omega) (by have := HL.out; simp; omega) ?_ ?_; (focus (first | exact Nat.le_refl _ | (simp; done) | (simp; omega) | omega)); intro v1 w1 hO1 hg1 hat1 hs1; rw [List.nil_append] at hO1; obtain ⟨A1, c1x, rfl, hb1, hb1'⟩ := hO1.form; have hE1 : Ext wr w1 := Ext.grown (Below.drew (Ext.alloc wr _)) hg1 HM.out.lt; have hsz1 := (hE.trans hE1).size
      refine hK.out _ _ (by exact KH.out _ (hE.trans hE1)) (fun hHeld => ?_)
      clear hK K
      (try simp only [Act.put, List.setIfInBounds_toArray, List.set_cons_zero, List.set_cons_succ])
      (refine WG.take (i := 13) (v := ?_) rfl (by kernel_rfl) (by kernel_rfl) (by kernel_rfl) (by kernel_rfl) (fun _ _ _ h => h) (Or.inl ⟨by rfl, ?_⟩) (by assumption) ?_; rotate_left; (intro w hSw; (try dsimp only at hSw); go_split_ands; go_simp; (try with_reducible rfl)); (try simp only [Act.put, List.setIfInBounds_toArray, List.set_cons_zero, List.set_cons_succ]))
      refine WG.one (i := 14) rfl (by kernel_rfl) (fun K hK => ?_)
      go_simp
      refine hK.out _ _ (by exact KH.out _ ((hE.trans hE1).trans (Ext.alloc _ _))) (fun hHeld => ?_)
      clear hK K
      (try simp only [Act.put, List.setIfInBounds_toArray, List.set_cons_zero, List.set_cons_succ])
      have HV1 := hid (HV.out.ext ET.ok (hE1.trans (Ext.alloc w1 (.cells #[.int .i64 x.id, .slice A1 x.need.length c1x] 64))))
      refine WG.last (i := 15) rfl (by kernel_rfl) (by kernel_rfl) (fun K hK => ?_)
      refine step_append_sl _ (by rfl) _ _ 54 (by rfl) ET.ok ET.flat (w.heap.size) 64 ET.ne i0_task _ 2 32 Try.underlying54 hi0_task hz0_task hz1_task hz2_task rfl (by omega) _ (by rfl) _ (HV1.out) _ (by rfl) _ (RSl.laid (cs := [.int .i64 x.id, .slice A1 x.need.length c1x]) (heap_alloc_new _ _) rfl ⟨_, rfl, RI.ext hO1.read (Ext.alloc _ _)⟩) (by have := List.length_take_le k ts; simp; omega) (by have := List.length_take_le k ts; simp; omega) ?_ ?_; (focus (first | exact Nat.le_refl _ | (simp; done) | (simp; omega) | omega)); intro v2 w2 hO2 hg2 hat2 hs2; have hE2 : Ext w w2 := Ext.grown ((hE.trans hE1).trans (Ext.alloc _ _)) hg2 HV1.out.lt
      refine hK.out _ _ ?_
      clear hK K
      (try simp only [Act.put, List.setIfInBounds_toArray, List.set_cons_zero, List.set_cons_succ])
      refine WG.last (i := 16) rfl (by kernel_rfl) (by kernel_rfl) (fun K hK => ?_)
      go_simp
      refine hK.out _ _ ?_
      clear hK K
      (try simp only [Act.put, List.setIfInBounds_toArray, List.set_cons_zero, List.set_cons_succ])
      refine WG.done (by kernel_rfl) ?_
      go_wp2
      go_roundw
      case rel => exact ⟨k + 1, by omega, by go_num, by rw [take_snoc e.out]; exact hO2, hE2⟩
      case measure => simp [intOf]; omega
    · go_wp2
      go_ret
      have hk' : k = ts.length := by omega
      subst hk'
      rw [List.take_length] at hv
      exact ⟨_, rfl, hv, hE⟩

end Go.Proofs.Ytfgibhdglbjadaa
