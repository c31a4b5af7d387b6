/- The program's spare room. -/
import Derived.Test.YtfgibhdglbjadaaIm7
import Derived.Test.YtfgibhdglbjadaaSp7
namespace Go.Proofs.Ytfgibhdglbjadaa
open Go.RowKit
set_option maxRecDepth 4000

theorem iPlacer (rv nv : Value) (room need : List Int) (w : World) (hr : RI w rv room) (hn : RI w nv need) :
    Calls Try.prog 73 #[rv, nv] w fun e w' => ∃ b1 b2, e = .returned (.func (.func 113) #[] #[.pointer (some ⟨b1, 0, none⟩), .pointer (some ⟨b2, 0, none⟩)]) ∧ w'.cell? ⟨b1, 0, none⟩ = some rv ∧ w'.cell? ⟨b2, 0, none⟩ = some nv ∧ Ext w w' := by
  obtain ⟨A, c, rfl, _⟩ := hr.get
  obtain ⟨A', c', rfl, _⟩ := hn.get
  go_enter Try.func73, Try.ntmps73
  go_wp2
  go_ret
  exact ⟨_, _, rfl, (Ext.alloc _ _).cell (cell_new _ _ _ 0), cell_of_row _ _ 0 _ _ (0, 0) (heap_new (by simp)), (Ext.alloc _ _).trans (Ext.alloc _ _)⟩

set_option maxHeartbeats 1000000 in
theorem iPlacer1 (v rv nv : Value) (ts : List TaskD) (room need : List Int) (b1 b2 : Nat) (w : World) (h : RT w v ts) (hr : RI w rv room) (hn : RI w nv need) (h1 : w.cell? ⟨b1, 0, none⟩ = some rv) (h2 : w.cell? ⟨b2, 0, none⟩ = some nv)
    (hg : GoodTs ts) (hrm : vecOk room = true) (hnd : vecOk need = true) (hnn : Nn 10000000 (leftL room ts)) :
    Calls Try.prog 113 #[v, .pointer (some ⟨b1, 0, none⟩), .pointer (some ⟨b2, 0, none⟩)] w (RetN w (timesL (leftL room ts) need)) := by
  obtain ⟨A, c, rfl, hc, hc', hgn⟩ := hn.get
  obtain ⟨Ar, cr, rfl, _⟩ := hr.get
  have HR := hid hr
  have HT := hid h
  have HRm := hid hrm
  have HG := hid hg
  have HNN := hid hnn
  have HL3 := hid (vecOk_len hnd)
  have hl1 : 3 ≤ need.length := by have := vecOk_len hnd; omega
  have hl2 : need.length ≤ 3 := by have := vecOk_len hnd; omega
  have HN1 := hid (vecOk_nn hnd)
  have KH : Hid (∀ w', Ext w w' → w'.cell? ⟨b1, 0, none⟩ = some (.slice Ar room.length cr) ∧ Ext w w') := hid fun w' hw => ⟨hw.cell h1, hw⟩
  clear hr h hrm hnd hg hnn
  obtain ⟨At, ct, rfl, _⟩ := HT.out
  go_enter Try.func113, Try.ntmps113
  go_wp2
  go_region_held3 (fun w' => w'.cell? ⟨b1, 0, none⟩ = some (.slice Ar room.length cr) ∧ Ext w w')
    (first | exact KH.out _ (by assumption) | exact KH.out _ (Below.drew (Below.refl _ _)))
    (first
      | (go_at_call 95; refine (iLoad _ ts _ (HT.out.ext (Below.drew (Below.refl _ _))) HG.out).mono ?_; rintro e w1 ⟨v1, rfl, hv1, hE1⟩; have h01 : Ext w w1 := Ext.trans (Below.drew (Below.refl _ _)) hE1; have HV1 := hid hv1)
      | (go_at_call 114; refine (iMinus _ _ room (loadL ts) _ (HR.out.ext (by assumption)) (HV1.out.read) (vecOk_len HRm.out) (loadL_len _) ((vecOk_bd HRm.out).mono (by omega)) (load_bd HG.out)).mono ?_; rintro e w2 ⟨v2, rfl, hv2, hE2⟩; have h02 : Ext w w2 := Ext.trans (by assumption) hE2; have HV2 := hid hv2))
  have h2 := h02.cell h2
  have HE2 := hid h02
  obtain ⟨A2, c2, rfl, hc2, hc2', hg2⟩ := RI.get HV2.out.read
  have hl3 : 3 ≤ (addL room (loadL ts) (-1)).length := by rw [addL_len]; omega
  obtain ⟨L2, hL2⟩ : ∃ L2, L2 = addL room (loadL ts) (-1) := ⟨_, rfl⟩
  have HL2 := hid (show leftL room ts = L2 from hL2.symm)
  rw [← hL2] at hg2 hl3 hc2 ⊢
  clear hL2 hc2
  go_wp2
  go_loopw [6, 15] (fun s i wr => ∃ (k : Nat) (t : Int), k ≤ 3 ∧ i = .int .i64 k ∧ s = .int .i64 t ∧ Hid (t = timesTo (leftL room ts) need k) ∧ Ext w2 wr) (fun _ i _ => 3 - (intOf i).toNat)
  case atStart => exact ⟨0, 20, by omega, rfl, rfl, rfl, Ext.refl _⟩
  case round =>
    obtain ⟨k, t, hk, rfl, rfl, H, hE⟩ := hrel
    by_cases hlt : k < 3
    · obtain ⟨bn, on, x2, rfl, e2, c2⟩ := hgn k (by omega)
      obtain ⟨bl, ol, x1, rfl, e1, c1⟩ := hg2 k (by omega)
      have i1 : (k : Int) < (need.length : Int) := by omega
      have i2 : (k : Int) < (L2.length : Int) := by omega
      have c1r := hE.cell c1
      have c2r := hE.cell (HE2.out.cell c2)
      have e1' : Hid ((leftL room ts)[k]? = some x1) := hid (by rw [HL2.out]; exact e1.out)
      have d1 := HNN.out.at_ e1'
      have d2 := HN1.out.at_ e2
      clear c1 c2
      by_cases hp : 0 < x2
      · go_wp2
        go_roundw
        case rel => exact ⟨k + 1, min t (x1 / x2), by omega, by go_num, by rw [min_if], by show _ = timesTo (leftL room ts) need (k + 1); rw [timesTo_succ e1'.out e2.out, if_pos hp, H.out], hE⟩
        case measure => simp [intOf]; omega
      · go_wp2
        go_roundw
        case rel => exact ⟨k + 1, t, by omega, by go_num, rfl, by show _ = timesTo (leftL room ts) need (k + 1); rw [timesTo_succ e1'.out e2.out, if_neg hp, H.out], hE⟩
        case measure => simp [intOf]; omega
    · go_wp2
      go_ret
      have hk' : k = 3 := by omega
      subst hk'
      exact ⟨ret_i H.out, HE2.out.trans hE⟩

set_option maxHeartbeats 1000000 in
theorem iSpare (cv nv : Value) (C : ClusD) (need : List Int) (w : World) (h : ClusV w cv C) (hn : RI w nv need) (hC : clusOk C = true) (hnd : vecOk need = true) :
    Calls Try.prog 57 #[cv, nv] w (RetN w (spareL C need)) := by
  obtain ⟨rv, uv, rfl, hr, hu⟩ := h
  obtain ⟨A, c, rfl, hc, hc', hg⟩ := hu.get
  obtain ⟨W, hW⟩ : ∃ W, W = w.alloc (.cells #[rv, .slice A C.units.length c] 26) := ⟨_, rfl⟩
  have hEW : Ext w W := by rw [hW]; exact Ext.alloc _ _
  have hb0 : W.cell? ⟨w.heap.size, 0, none⟩ = some rv := by rw [hW]; exact cell_new _ _ _ 0
  have hb1 : W.cell? ⟨w.heap.size, 1, none⟩ = some (.slice A C.units.length c) := by rw [hW]; exact cell_new _ _ _ 1
  have HR := hid (hr.ext hEW)
  have HN := hid (hn.ext hEW)
  have HEW := hid hEW
  have HCL := hid hC
  have HND := hid hnd
  have HLen := (clusOk_len hC).2
  clear hu hr hn hEW hC hnd
  go_enter Try.func57, Try.ntmps57
  go_wp2_with (go_at_call 73; rw [← hW]; refine (iPlacer _ _ C.room need _ HR.out HN.out).mono ?_; rintro e w1 ⟨b1, b2, rfl, hp1, hp2, hE1⟩; have HE1 := hid hE1; have hb1' := hE1.cell hb1; clear hW hE1)
  go_loopw [6, 16] (fun s i wr => ∃ (k : Nat) (t : Int), k ≤ C.units.length ∧ i = .int .i64 k ∧ s = .int .i64 t ∧ Hid (t = spareTo C need k) ∧ 0 ≤ t ∧ t ≤ 20 * (k : Int) ∧ Ext w1 wr) (fun _ i _ => C.units.length - (intOf i).toNat)
  case atStart => exact ⟨0, 0, Nat.zero_le _, rfl, rfl, rfl, by omega, by omega, Ext.refl _⟩
  case round =>
    obtain ⟨k, t, hk, rfl, rfl, H, ht0, ht1, hE⟩ := hrel
    by_cases hlt : k < C.units.length
    · obtain ⟨b, o, x, An, cn, rfl, e, c1, c2, hnx⟩ := hg k hlt
      have i1 : (k : Int) < (C.units.length : Int) := by omega
      have hEE := HEW.out.trans (HE1.out.trans hE)
      have c1r := hEE.cell c1
      have c2r := hEE.cell c2
      have HX := hid (hnx.ext hEE)
      have hu := clusOk_unit HCL.out (List.mem_of_getElem? e.out)
      have HGT := hid hu.1
      have HNN := hid (left_nn (roomOk_vec (clusOk_room HCL.out)) hu.1 hu.2)
      have hbd := timesTo_bd (need := need) HNN.out (by omega) 3
      have hb20 : 0 ≤ timesL (leftL C.room x.tasks) need ∧ timesL (leftL C.room x.tasks) need ≤ 20 := hbd
      have hbx := cell_new wr #[.bool x.opened, .slice An x.tasks.length cn] 56
      have hbx0 := hbx 0
      have hbx1 := hbx 1
      simp only [List.getElem?_toArray, List.getElem?_cons_succ, List.getElem?_cons_zero] at hbx0 hbx1
      obtain ⟨B, hB⟩ : ∃ B, B = Obj.cells #[.bool x.opened, .slice An x.tasks.length cn] 56 := ⟨_, rfl⟩
      have hp1r := (hE.trans (Ext.alloc wr B)).cell hp1
      have hp2r := (hE.trans (Ext.alloc wr B)).cell hp2
      have HEE := hid hEE
      clear c1 c2 hnx hu hbd hbx hEE
      by_cases ho : x.opened = true
      · rw [ho] at hB
        go_wp2_with (go_at_call 113; rw [← hB]; refine (iPlacer1 _ _ _ x.tasks C.room need b1 b2 _ (HX.out.ext (Ext.alloc _ _)) (HR.out.ext (HE1.out.trans (hE.trans (Ext.alloc _ _)))) (HN.out.ext (HE1.out.trans (hE.trans (Ext.alloc _ _)))) hp1r hp2r HGT.out (roomOk_vec (clusOk_room HCL.out)) HND.out HNN.out).mono ?_; rintro e1 w2 ⟨rfl, hE2⟩)
        go_roundw
        case rel => exact ⟨k + 1, _, by omega, by go_num, rfl, by show _ = spareTo C need (k + 1); rw [spareTo_succ e.out, if_pos ho, H.out], by omega, by omega, (hE.trans (Ext.alloc _ _)).trans hE2⟩
        case measure => simp [intOf]; omega
      · have ho : x.opened = false := by simpa using ho
        go_wp2
        go_roundw
        case rel => exact ⟨k + 1, _, by omega, by go_num, rfl, by show _ = spareTo C need (k + 1); rw [spareTo_succ e.out, ho, H.out]; rfl, by omega, by omega, hE.trans (Ext.alloc _ _)⟩
        case measure => simp [intOf]; omega
    · go_wp2
      go_ret
      have hk' : k = C.units.length := by omega
      subst hk'
      exact ⟨ret_i H.out, HEW.out.trans (HE1.out.trans hE)⟩

end Go.Proofs.Ytfgibhdglbjadaa
