/- The reference's clusters, read. -/
import Derived.Test.YtfgibhdglbjadaaSp3
namespace Go.Proofs.Ytfgibhdglbjadaa
open Go.RowKit
set_option maxRecDepth 4000

set_option maxHeartbeats 1000000 in
theorem sBins21 (cv : Value) (C : ClusD) (w : World) (h : ClusV w cv C) (hl : C.units.length ≤ 4000000) :
    Calls Try.prog 81 #[cv] w fun e w' => ∃ v, e = .returned v ∧ OB w' w.heap.size v (C.units.map (·.tasks)) ∧ Ext w w' := by
  obtain ⟨rv, uv, rfl, hr, hu⟩ := h
  obtain ⟨A, c, rfl, hc, hc', hg⟩ := hu.get
  have hE0 := Ext.alloc w (.cells #[rv, .slice A C.units.length c] 26)
  have hbx := cell_new w #[rv, .slice A C.units.length c] 26 1
  simp only [List.getElem?_toArray, List.getElem?_cons_succ, List.getElem?_cons_zero] at hbx
  clear hu hr
  obtain ⟨i0_bin, hi0_bin, hz0_bin, hz1_bin, hz2_bin⟩ := info_parts info_bin
  go_enter Try.func81, Try.ntmps81
  go_wp2
  go_loopw [3, 4] (fun v i wr => ∃ k : Nat, k ≤ C.units.length ∧ i = .int .i64 k ∧ OB wr w.heap.size v ((C.units.take k).map (·.tasks)) ∧ Ext w wr ∧ wr.cell? ⟨w.heap.size, 1, none⟩ = some (.slice A C.units.length c) ∧ w.heap.size < wr.heap.size ∧ wr.heap[w.heap.size]? = some (.cells #[rv, .slice A C.units.length c] 26 (0, 0))) (fun _ i _ => C.units.length - (intOf i).toNat)
  case atStart =>
    refine ⟨0, Nat.zero_le _, rfl, Own.madeAt #[] 0 _ (by simp) (by omega) (by omega) rfl, hE0.trans (Ext.alloc _ _), ?_, by simp; omega, ?_⟩
    · exact (Ext.alloc _ _).cell hbx
    · exact (Ext.alloc _ _).obj (heap_alloc_new _ _)
  case round =>
    obtain ⟨k, hk, rfl, hv, hE, hbr, hsz, hobj⟩ := hrel
    by_cases hlt : k < C.units.length
    · obtain ⟨b, o, x, An, cn, rfl, e, c1, c2, hn⟩ := hg k hlt
      have c2r := hE.cell c2
      have HV := hid (hv.ext EB.ok (Ext.alloc wr (.cells #[.slice An x.tasks.length cn] 54)))
      have HN := hid (hn.ext (hE.trans (Ext.alloc wr (.cells #[.slice An x.tasks.length cn] 54))))
      have HO := hid hobj
      have HK := hid (List.length_take_le k C.units)
      clear c1 c2 hv hn hobj hbx
      go_wp2_with (at_builtin; refine wpList_append_sl _ (by rfl) _ _ 69 (by rfl) EB.ok EB.flat (w.heap.size) 54 EB.ne i0_bin _ 1 24 Try.underlying69 hi0_bin hz0_bin hz1_bin hz2_bin rfl (by omega) _ (by rfl) _ (HV.out) _ (by rfl) _ (RSl.laid (cs := [.slice An x.tasks.length cn]) (heap_alloc_new _ _) rfl ⟨_, rfl, HN.out⟩) (by have := HK.out; simp; omega) (by have := HK.out; simp; omega) ?_ ?_; (focus (first | exact Nat.le_refl _ | (simp; done) | (simp; omega) | omega)); intro v1 w1 hO1 hg1 hat1 hs1; have hE1 : Ext w w1 := Ext.grown (Below.alloc hE hE.size _) hg1 HV.out.lt; have hob1 := hs1 _ _ _ _ (by decide) ((Ext.alloc wr (.cells #[.slice An x.tasks.length cn] 54)).obj HO.out); have hsz1 := hg1.size)
      go_roundw
      case rel => exact ⟨k + 1, by omega, by go_num, by rw [tasks_take_succ e.out]; exact hO1, hE1, cell_of_row _ _ _ _ _ _ hob1, by simp at hsz1; omega, hob1⟩
      case measure => simp [intOf]; omega
    · go_wp2
      go_ret
      have hk' : k = C.units.length := by omega
      subst hk'
      rw [List.take_length] at hv
      exact ⟨_, rfl, hv, hE⟩

set_option maxHeartbeats 1000000 in
theorem sClusterValid (cv : Value) (C : ClusD) (w : World) (h : ClusV w cv C) (hl : C.units.length ≤ 4000000) (hfl : (C.units.map (·.tasks)).flatten.length ≤ 4000000) :
    Calls Try.prog 42 #[cv] w (RetB w (clusOk C)) := by
  have h00 := h
  obtain ⟨rv, uv, rfl, hr, hu⟩ := h
  obtain ⟨A, c, rfl, hc, hc', hg⟩ := hu.get
  have hE0 := Ext.alloc w (.cells #[rv, .slice A C.units.length c] 26)
  have hb0 := cell_new w #[rv, .slice A C.units.length c] 26 0
  have hb1 := cell_new w #[rv, .slice A C.units.length c] 26 1
  simp only [List.getElem?_toArray, List.getElem?_cons_succ, List.getElem?_cons_zero] at hb0 hb1
  have hr0 := hr
  obtain ⟨Ar, cr, rfl, _⟩ := hr
  have hr := hr0
  clear hr0
  obtain ⟨W, hW⟩ : ∃ W, W = w.alloc (.cells #[.slice Ar C.room.length cr, .slice A C.units.length c] 26) := ⟨_, rfl⟩
  have HW := hid hW
  have HH := hid h00
  have KH : Hid (∀ w', Ext W w' → w'.cell? ⟨w.heap.size, 0, none⟩ = some (.slice Ar C.room.length cr) ∧ w'.cell? ⟨w.heap.size, 1, none⟩ = some (.slice A C.units.length c) ∧ Ext W w') :=
    hid fun w' hw => ⟨hw.cell (by rw [hW]; exact hb0), hw.cell (by rw [hW]; exact hb1), hw⟩
  have hEW : Ext w W := by rw [hW]; exact hE0
  rw [← hW] at hb0 hb1
  have HR := hid (hr.ext hEW)
  clear hu hr hE0
  go_enter Try.func42, Try.ntmps42
  go_wp2
  rw [← hW]
  clear hW
  go_loop [3] (fun i => ∃ k : Nat, k ≤ C.units.length ∧ i = .int .i64 k ∧ Hid (clusTo C.units k = true)) (fun i => C.units.length - (intOf i).toNat)
  case atStart => exact ⟨0, Nat.zero_le _, rfl, rfl⟩
  case round =>
    obtain ⟨k, hk, rfl, H⟩ := hrel
    by_cases hlt : k < C.units.length
    · obtain ⟨b, o, x, An, cn, rfl, e, c1, c2, hn⟩ := hg k hlt
      have c1r := hEW.cell c1
      have c2r := hEW.cell c2
      clear c1 c2
      by_cases ho : x.opened = true
      · go_wp2
        go_round
        case rel => exact ⟨k + 1, by omega, by go_num, by show clusTo C.units (k + 1) = true; rw [clusTo_succ e.out, H.out, ho]; rfl⟩
        case measure => simp [intOf]; omega
      · have ho : x.opened = false := by simpa using ho
        by_cases ht : 0 < x.tasks.length
        · have ht' : (0 : Int) < (x.tasks.length : Int) := by omega
          go_wp2
          go_ret
          exact ⟨ret_b (clusOk_bad e.out ho ht).symm, hEW⟩
        · have ht' : ¬ (0 : Int) < (x.tasks.length : Int) := by omega
          go_wp2
          go_round
          case rel =>
            refine ⟨k + 1, by omega, by go_num, ?_⟩
            show clusTo C.units (k + 1) = true
            rw [clusTo_succ e.out, H.out, List.eq_nil_of_length_eq_zero (l := x.tasks) (by omega)]
            simp
          case measure => simp [intOf]; omega
    · have hk' : k = C.units.length := by omega
      subst hk'
      have H1 := H.out
      unfold clusTo at H1
      rw [List.take_length] at H1
      have H1 := hid H1
      by_cases hin : inB C.units.length 1 10 = true
      · go_wp2
        go_region_held3 (fun w' => w'.cell? ⟨w.heap.size, 0, none⟩ = some (.slice Ar C.room.length cr) ∧ w'.cell? ⟨w.heap.size, 1, none⟩ = some (.slice A C.units.length c) ∧ Ext W w')
          (first | exact KH.out _ (by assumption) | exact KH.out _ (Below.drew (Below.refl _ _)))
          (first
            | (go_at_call 69; refine (sIn _ _ _ _).mono ?_; rintro e w1 ⟨rfl, n1, rfl⟩; have h01 : Ext W (W.drew.drewN n1) := Ext.trans (Below.drew (Below.refl _ _)) (Ext.drewN _ _); have h02 : Ext W (W.drewN (1 + n1)) := Ext.drewN _ _)
            | (go_at_call 81; refine (sBins21 _ C _ (HH.out.ext (hEW.trans (by assumption))) hl).mono ?_; rintro e w2 ⟨v2, rfl, hv2, hE2⟩; have h03 : Ext W w2 := Ext.trans (by assumption) hE2)
            | (go_at_call 80; refine (sBinsValid _ _ C.room (C.units.map (·.tasks)) _ (HR.out.ext (by assumption)) hv2.read hfl).mono ?_; rintro e w3 ⟨rfl, hE3⟩; have h04 : Ext W w3 := Ext.trans (by assumption) hE3))
        go_wp2
        go_ret
        exact ⟨ret_b (by unfold clusOk; rw [H1.out, hin]; rfl), hEW.trans (by assumption)⟩
      · have hin : inB C.units.length 1 10 = false := by simpa using hin
        go_wp2
        go_quiet ((go_at_call 69; exact Calls.quiet_of (sIn _ _ _ _)))
        go_wp2
        go_ret
        exact ⟨ret_b (by unfold clusOk; rw [H1.out, hin]; rfl), hEW.trans (Ext.drewN _ _)⟩

end Go.Proofs.Ytfgibhdglbjadaa
