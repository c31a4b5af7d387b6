/- Open nodes, counted. -/
import Derived.Test.YtfgibhdglbjadaaGreatK4
import Derived.Test.YtfgibhdglbjadaaGreatK1
namespace Go.Proofs.YtfgibhdglbjadaaGreat
open Go.RowKit
set_option maxRecDepth 4000
set_option maxRecDepth 4000

set_option maxHeartbeats 1000000 in
theorem sOpen (cv : Value) (C : ClusD) (w : World) (h : ClusV w cv C) (_ : C.units.length ≤ 4000000) :
    Calls Tryz.prog 94 #[cv] w (RetN w (openN C)) := by
  obtain ⟨rv, uv, rfl, hr, hu⟩ := h
  obtain ⟨A, c, rfl, hc, hc', hg⟩ := hu.get
  obtain ⟨W, hW⟩ : ∃ W, W = w.alloc (.cells #[rv, .slice A C.units.length c] 26) := ⟨_, rfl⟩
  have hEW : Ext w W := by rw [hW]; exact Ext.alloc _ _
  have hb1 : W.cell? ⟨w.heap.size, 1, none⟩ = some (.slice A C.units.length c) := by rw [hW]; exact cell_new _ _ _ 1
  have HEW := hid hEW
  have HLe := fun k => openTo_le C.units k
  clear hu hr hEW
  go_enter Tryz.func94, Tryz.ntmps94
  go_wp2
  rw [← hW]
  clear hW
  go_loopw [3, 4] (fun s i wr => ∃ (k t : Nat), k ≤ C.units.length ∧ i = .int .i64 k ∧ s = .int .i64 t ∧ Hid (t = openTo C.units k) ∧ t ≤ C.units.length ∧ ∃ n, wr = W.drewN n) (fun _ i _ => C.units.length - (intOf i).toNat)
  case atStart => exact ⟨0, 0, Nat.zero_le _, rfl, rfl, rfl, Nat.zero_le _, 0, rfl⟩
  case round =>
    obtain ⟨k, t, hk, rfl, rfl, H, ht, n, rfl⟩ := hrel
    by_cases hlt : k < C.units.length
    · obtain ⟨b, o, x, An, cn, rfl, e, c1, c2, hnx⟩ := hg k hlt
      have i1 : (k : Int) < (C.units.length : Int) := by omega
      have c1r := HEW.out.cell c1
      have hle := HLe (k + 1)
      have hsu := openTo_succ e.out
      clear c1 c2 hnx
      by_cases ho : x.opened = true
      · rw [if_pos ho, ← H.out] at hsu
        rw [hsu] at hle
        have HS := hid hsu
        clear hsu
        go_wp2
        go_roundw
        case rel => exact ⟨k + 1, t + 1, by omega, by go_num, by go_num, HS.out.symm, by omega, _, rfl⟩
        case measure => simp [intOf]; omega
      · rw [if_neg ho, ← H.out] at hsu
        have HS := hid hsu
        have ho : x.opened = false := by simpa using ho
        clear hsu
        go_wp2
        go_roundw
        case rel => exact ⟨k + 1, t, by omega, by go_num, rfl, HS.out.symm, by omega, _, rfl⟩
        case measure => simp [intOf]; omega
    · go_wp2
      go_ret
      have hk' : k = C.units.length := by omega
      subst hk'
      exact ⟨ret_i (by rw [H.out]; rfl), HEW.out.trans (Ext.drewN _ _)⟩

set_option maxHeartbeats 1000000 in
theorem iOpen (cv : Value) (C : ClusD) (w : World) (h : ClusV w cv C) (_ : C.units.length ≤ 4000000) :
    Calls Tryz.prog 92 #[cv] w (RetN w (openN C)) := by
  obtain ⟨rv, uv, rfl, hr, hu⟩ := h
  obtain ⟨A, c, rfl, hc, hc', hg⟩ := hu.get
  obtain ⟨W, hW⟩ : ∃ W, W = w.alloc (.cells #[rv, .slice A C.units.length c] 26) := ⟨_, rfl⟩
  have hEW : Ext w W := by rw [hW]; exact Ext.alloc _ _
  have hb1 : W.cell? ⟨w.heap.size, 1, none⟩ = some (.slice A C.units.length c) := by rw [hW]; exact cell_new _ _ _ 1
  have HEW := hid hEW
  have HLe := fun k => openTo_le C.units k
  clear hu hr hEW
  go_enter Tryz.func92, Tryz.ntmps92
  go_wp2
  rw [← hW]
  clear hW
  go_loopw [3, 9] (fun s i wr => ∃ (k t : Nat), k ≤ C.units.length ∧ i = .int .i64 k ∧ s = .int .i64 t ∧ Hid (t = openTo C.units k) ∧ t ≤ C.units.length ∧ Ext w wr) (fun _ i _ => C.units.length - (intOf i).toNat)
  case atStart => exact ⟨0, 0, Nat.zero_le _, rfl, rfl, rfl, Nat.zero_le _, HEW.out⟩
  case round =>
    obtain ⟨k, t, hk, rfl, rfl, H, ht, hE⟩ := hrel
    by_cases hlt : k < C.units.length
    · obtain ⟨b, o, x, An, cn, rfl, e, c1, c2, hnx⟩ := hg k hlt
      have i1 : (k : Int) < (C.units.length : Int) := by omega
      have c1r := hE.cell c1
      have c2r := hE.cell c2
      have hle := HLe (k + 1)
      have hsu := openTo_succ e.out
      have hbx0 := cell_new wr #[.bool x.opened, .slice An x.tasks.length cn] 57 0
      simp only [List.getElem?_toArray, List.getElem?_cons_zero] at hbx0
      clear c1 c2 hnx
      by_cases ho : x.opened = true
      · rw [if_pos ho, ← H.out] at hsu
        rw [hsu] at hle
        have HS := hid hsu
        clear hsu
        go_wp2
        go_roundw
        case rel => exact ⟨k + 1, t + 1, by omega, by go_num, by go_num, HS.out.symm, by omega, hE.trans (Ext.alloc _ _)⟩
        case measure => simp [intOf]; omega
      · rw [if_neg ho, ← H.out] at hsu
        have HS := hid hsu
        have ho : x.opened = false := by simpa using ho
        clear hsu
        go_wp2
        go_roundw
        case rel => exact ⟨k + 1, t, by omega, by go_num, rfl, HS.out.symm, by omega, hE.trans (Ext.alloc _ _)⟩
        case measure => simp [intOf]; omega
    · go_wp2
      go_ret
      have hk' : k = C.units.length := by omega
      subst hk'
      exact ⟨ret_i (by rw [H.out]; rfl), hE⟩

end Go.Proofs.YtfgibhdglbjadaaGreat

/- Nodes that would have to be opened. -/
namespace Go.Proofs.YtfgibhdglbjadaaGreat
open Go.RowKit
set_option maxRecDepth 4000

theorem outN_ok {C : ClusD} {need : List Int} {want : Int} (h1 : (clusOk C && needOk need) = true) (h2 : inB want 0 999 = true) : outN C need want = enough (spareL C need) (timesL C.room need) want (C.units.length - openN C + 1) := by
  unfold outN
  rw [h1, h2]
  rfl
theorem outN_no1 {C : ClusD} {need : List Int} {want : Int} (h1 : (clusOk C && needOk need) = false) : outN C need want = -1 := by
  unfold outN
  rw [h1]
  rfl
theorem outN_no2 {C : ClusD} {need : List Int} {want : Int} (h2 : inB want 0 999 = false) : outN C need want = -1 := by
  unfold outN
  rw [h2, Bool.and_false]
  rfl

set_option maxHeartbeats 1000000 in
theorem sScaleOut (cv nv : Value) (C : ClusD) (need : List Int) (want : Int) (w : World) (h : ClusV w cv C) (hn : RI w nv need) (hl : C.units.length ≤ 4000000) (hfl : (C.units.map (·.tasks)).flatten.length ≤ 4000000) :
    Calls Tryz.prog 42 #[cv, nv, .int .i64 want] w (RetN w (outN C need want)) := by
  have h0 := h
  obtain ⟨rv, uv, rfl, hr, hu⟩ := h
  have hr0 := hr
  obtain ⟨Ar, cr, rfl, _⟩ := hr
  obtain ⟨A, c, rfl, hc, hc', _⟩ := hu
  obtain ⟨W, hW⟩ : ∃ W, W = w.alloc (.cells #[.slice Ar C.room.length cr, .slice A C.units.length c] 26) := ⟨_, rfl⟩
  have hEW : Ext w W := by rw [hW]; exact Ext.alloc _ _
  have hb0 : W.cell? ⟨w.heap.size, 0, none⟩ = some (.slice Ar C.room.length cr) := by rw [hW]; exact cell_new _ _ _ 0
  have hb1 : W.cell? ⟨w.heap.size, 1, none⟩ = some (.slice A C.units.length c) := by rw [hW]; exact cell_new _ _ _ 1
  have KC : Hid (∀ w', Ext W w' → w'.cell? ⟨w.heap.size, 0, none⟩ = some (.slice Ar C.room.length cr) ∧ w'.cell? ⟨w.heap.size, 1, none⟩ = some (.slice A C.units.length c)) := hid fun w' hw => ⟨hw.cell hb0, hw.cell hb1⟩
  have H0 := hid (h0.ext hEW)
  have HN := hid (hn.ext hEW)
  have HR := hid (hr0.ext hEW)
  have HEW := hid hEW
  clear hr0 h0 hn hEW
  by_cases h1 : (clusOk C && needOk need) = true
  · by_cases h2 : inB want 0 999 = true
    · have hcl : clusOk C = true := by simp only [Bool.and_eq_true] at h1; exact h1.1
      have hnd : needOk need = true := by simp only [Bool.and_eq_true] at h1; exact h1.2
      have HCL := hid hcl
      have HNV := hid (show vecOk need = true by simp only [needOk, Bool.and_eq_true] at hnd; exact hnd.1)
      have HRV := hid (roomOk_vec (clusOk_room hcl))
      have HOUT := hid (outN_ok h1 h2)
      have HSP := hid (show spareN C need = spareL C need by unfold spareN; rw [if_pos h1])
      have hw2 : 0 ≤ want ∧ want ≤ 999 := by simpa [inB] using h2
      obtain ⟨hv1, hv2⟩ := hw2
      have hsb := spare_bd hcl need
      have hfb := full_bd hcl need
      have hlen := (clusOk_len hcl).2
      have hol : openN C ≤ C.units.length := openTo_le _ _
      obtain ⟨sp, hsp⟩ : ∃ sp, spareL C need = sp := ⟨_, rfl⟩
      obtain ⟨fu, hfu⟩ : ∃ fu, timesL C.room need = fu := ⟨_, rfl⟩
      obtain ⟨on, hon⟩ : ∃ on, openN C = on := ⟨_, rfl⟩
      rw [hsp] at hsb
      rw [hfu] at hfb
      rw [hon] at hol
      have HS := hid hsp
      have HF := hid hfu
      have HO := hid hon
      clear hcl hnd hsp hfu hon
      go_enter Tryz.func42, Tryz.ntmps42
      go_wp2_with (first
        | (go_at_call 53; rw [← hW]; refine (sL23Ok _ _ C need _ H0.out HN.out hl hfl).mono ?_; rintro e w1 ⟨rfl, hE1⟩; rw [h1]; obtain ⟨hb0, hb1⟩ := KC.out _ hE1; have HE1 := hid hE1; clear hE1 hW)
        | (go_at_call 80; refine (sIn _ _ _ _).mono ?_; rintro e w2 ⟨rfl, n2, rfl⟩; rw [h2])
        | (go_at_call 18; refine (sSpareCount _ _ C need _ (H0.out.ext (HE1.out.trans (Ext.drewN _ _))) (HN.out.ext (HE1.out.trans (Ext.drewN _ _))) hl hfl).mono ?_; rintro e w3 ⟨rfl, hE3⟩; rw [HSP.out, HS.out]; have HE3 := hid ((HE1.out.trans (Ext.drewN _ _)).trans hE3); obtain ⟨hb0, hb1⟩ := KC.out _ HE3.out; clear hE3)
        | (go_at_call 93; refine (sTimes _ _ C.room need _ (HR.out.ext HE3.out) (HN.out.ext HE3.out) (vecOk_len HRV.out) (vecOk_len HNV.out) (vecOk_nn HRV.out) (vecOk_nn HNV.out)).mono ?_; rintro e w4 ⟨rfl, n4, hw4⟩; rw [HF.out]; have HE4 : Hid (Ext W w4) := hid (by rw [hw4]; exact HE3.out.trans (Ext.drewN _ _)); obtain ⟨hb0, hb1⟩ := KC.out _ HE4.out; clear hw4))
      have KH : Hid (∀ w', Ext w4 w' → w'.cell? ⟨w.heap.size, 0, none⟩ = some (.slice Ar C.room.length cr) ∧ w'.cell? ⟨w.heap.size, 1, none⟩ = some (.slice A C.units.length c) ∧ Ext w4 w') := hid fun w' hw => ⟨(KC.out _ (HE4.out.trans hw)).1, (KC.out _ (HE4.out.trans hw)).2, hw⟩
      go_region_held3 (fun w' => w'.cell? ⟨w.heap.size, 0, none⟩ = some (.slice Ar C.room.length cr) ∧ w'.cell? ⟨w.heap.size, 1, none⟩ = some (.slice A C.units.length c) ∧ Ext w4 w')
        (first | exact KH.out _ (by assumption) | exact KH.out _ (Below.drew (Below.refl _ _)))
        ((go_at_call 94; refine (sOpen _ C _ (H0.out.ext (HE4.out.trans (Below.drew (Below.refl _ _)))) hl).mono ?_; rintro e w5 ⟨rfl, hE5⟩; rw [HO.out]; have h05 : Ext w4 w5 := Ext.trans (Below.drew (Below.refl _ _)) hE5))
      have HE5 := hid (HE4.out.trans h05)
      have hcl1 : (C.units.length : Int) - (on : Int) = ((C.units.length - on : Nat) : Int) := by omega
      have hcl2 : C.units.length - on ≤ 10 := by omega
      obtain ⟨cl, hcl⟩ : ∃ cl, C.units.length - on = cl := ⟨_, rfl⟩
      rw [hcl] at hcl1 hcl2
      have HC1 := hid hcl1
      have HC2 := hid hcl
      clear hcl hcl1
      go_wp2
      rw [HC1.out]
      go_loopw [10] (fun i wr => ∃ k : Nat, k ≤ cl + 1 ∧ i = .int .i64 k ∧ Hid (∀ j : Nat, j < k → sp + (j : Int) * fu < want) ∧ Ext w wr) (fun i _ => cl + 1 - (intOf i).toNat)
      case atStart => exact ⟨0, Nat.zero_le _, rfl, fun j hj => absurd hj (by omega), HEW.out.trans HE5.out⟩
      case round =>
        obtain ⟨k, hk, rfl, H, hE⟩ := hrel
        by_cases hlt : k < cl + 1
        · have hm := mul_bd (k := (k : Int)) (f := fu) (by omega) (by omega) hfb.1 hfb.2
          have g1 : IntKind.i64.wrap ((k : Int) * fu) = (k : Int) * fu := IntWalk.i64_in _ (by omega)
          have g2 : IntKind.i64.wrap (sp + (k : Int) * fu) = sp + (k : Int) * fu := IntWalk.i64_in _ (by omega)
          have i1 : (k : Int) ≤ (cl : Int) := by omega
          by_cases hp : want ≤ sp + (k : Int) * fu
          · clear hm
            go_wp2
            go_ret
            exact ⟨ret_i (by rw [HOUT.out, HS.out, HF.out, HO.out, HC2.out]; exact (enough_hit (by omega) hp H.out).symm), hE⟩
          · have hp' : sp + (k : Int) * fu < want := by omega
            clear hm
            go_wp2
            go_roundw
            case rel => exact ⟨k + 1, by omega, by go_num, hid (fun j hj => by
              by_cases hjk : j = k
              · subst hjk; exact hp'
              · exact H.out j (by omega)), hE⟩
            case measure => simp [intOf]; omega
        · have hk' : k = cl + 1 := by omega
          have i1 : ¬ (k : Int) ≤ (cl : Int) := by omega
          go_wp2
          go_ret
          exact ⟨ret_i (by rw [HOUT.out, HS.out, HF.out, HO.out, HC2.out, ← hk']; exact (enough_miss H.out).symm), hE⟩
    · have h2 : inB want 0 999 = false := by simpa using h2
      have HOUT := hid (outN_no2 (C := C) (need := need) h2)
      go_enter Tryz.func42, Tryz.ntmps42
      go_wp2_with (first
        | (go_at_call 53; rw [← hW]; refine (sL23Ok _ _ C need _ H0.out HN.out hl hfl).mono ?_; rintro e w1 ⟨rfl, hE1⟩; rw [h1])
        | (go_at_call 80; refine (sIn _ _ _ _).mono ?_; rintro e w2 ⟨rfl, n2, rfl⟩; rw [h2]))
      go_ret
      exact ⟨ret_i HOUT.out.symm, HEW.out.trans (hE1.trans (Ext.drewN _ _))⟩
  · have h1 : (clusOk C && needOk need) = false := by simpa using h1
    have HOUT := hid (outN_no1 (want := want) h1)
    go_enter Tryz.func42, Tryz.ntmps42
    go_wp2_with (go_at_call 53; rw [← hW]; refine (sL23Ok _ _ C need _ H0.out HN.out hl hfl).mono ?_; rintro e w1 ⟨rfl, hE1⟩; rw [h1])
    go_ret
    exact ⟨ret_i HOUT.out.symm, HEW.out.trans hE1⟩

end Go.Proofs.YtfgibhdglbjadaaGreat

/- The program's nodes that would have to be opened. -/
namespace Go.Proofs.YtfgibhdglbjadaaGreat
open Go.RowKit
set_option maxRecDepth 4000

set_option maxHeartbeats 1000000 in
theorem iScaleOut (cv nv : Value) (C : ClusD) (need : List Int) (want : Int) (w : World) (h : ClusV w cv C) (hn : RI w nv need) (hl : C.units.length ≤ 4000000) (hfl : (C.units.map (·.tasks)).flatten.length ≤ 4000000) (hid' : ∀ t ∈ (C.units.map (·.tasks)).flatten, IdR t.id) :
    Calls Tryz.prog 41 #[cv, nv, .int .i64 want] w (RetN w (outN C need want)) := by
  have h0 := h
  obtain ⟨rv, uv, rfl, hr, hu⟩ := h
  have hr0 := hr
  obtain ⟨Ar, cr, rfl, _⟩ := hr
  obtain ⟨A, c, rfl, hc, hc', _⟩ := hu
  obtain ⟨W, hW⟩ : ∃ W, W = w.alloc (.cells #[.slice Ar C.room.length cr, .slice A C.units.length c] 26) := ⟨_, rfl⟩
  have hEW : Ext w W := by rw [hW]; exact Ext.alloc _ _
  have hb0 : W.cell? ⟨w.heap.size, 0, none⟩ = some (.slice Ar C.room.length cr) := by rw [hW]; exact cell_new _ _ _ 0
  have hb1 : W.cell? ⟨w.heap.size, 1, none⟩ = some (.slice A C.units.length c) := by rw [hW]; exact cell_new _ _ _ 1
  have KC : Hid (∀ w', Ext W w' → w'.cell? ⟨w.heap.size, 0, none⟩ = some (.slice Ar C.room.length cr) ∧ w'.cell? ⟨w.heap.size, 1, none⟩ = some (.slice A C.units.length c)) := hid fun w' hw => ⟨hw.cell hb0, hw.cell hb1⟩
  have H0 := hid (h0.ext hEW)
  have HN := hid (hn.ext hEW)
  have HR := hid (hr0.ext hEW)
  have HEW := hid hEW
  clear hr0 h0 hn hEW
  by_cases h1 : clusOk C = true
  · by_cases h2 : needOk need = true
    · have hok : (clusOk C && needOk need) = true := by rw [h1, h2]; rfl
      by_cases h3 : inB want 0 999 = true
      · have HCL := hid h1
        have HNV := hid (show vecOk need = true by simp only [needOk, Bool.and_eq_true] at h2; exact h2.1)
        have HRV := hid (roomOk_vec (clusOk_room h1))
        have HOUT := hid (outN_ok hok h3)
        have hw2 : 0 ≤ want ∧ want ≤ 999 := by simpa [inB] using h3
        obtain ⟨hv1, hv2⟩ := hw2
        have hsb := spare_bd h1 need
        have hfb := full_bd h1 need
        have hlen := (clusOk_len h1).2
        have hol : openN C ≤ C.units.length := openTo_le _ _
        obtain ⟨sp, hsp⟩ : ∃ sp, spareL C need = sp := ⟨_, rfl⟩
        obtain ⟨fu, hfu⟩ : ∃ fu, timesL C.room need = fu := ⟨_, rfl⟩
        obtain ⟨on, hon⟩ : ∃ on, openN C = on := ⟨_, rfl⟩
        rw [hsp] at hsb
        rw [hfu] at hfb
        rw [hon] at hol
        have HS := hid hsp
        have HF := hid (show timesL (leftL C.room []) need = fu by rw [leftL_nil (vecOk_len HRV.out)]; exact hfu)
        have HF0 := hid hfu
        have HO := hid hon
        clear hsp hfu hon hok
        go_enter Tryz.func41, Tryz.ntmps41
        go_wp2_with (first
          | (go_at_call 37; rw [← hW]; refine (iClusterValid _ C _ H0.out hl hfl hid').mono ?_; rintro e w1 ⟨rfl, hE1⟩; rw [h1]; obtain ⟨hb0, hb1⟩ := KC.out _ hE1; have HE1 := hid hE1; clear hE1 hW)
          | (go_at_call 51; refine (iNeedValid _ need _ (HN.out.ext HE1.out)).mono ?_; rintro e w2 ⟨rfl, n2, rfl⟩; rw [h2])
          | (go_at_call 82; refine (iWithin _ _ _ _).mono ?_; rintro e w3 ⟨rfl, n3, hw3⟩; rw [h3]; have HE2 : Hid (Ext W w3) := hid (by rw [hw3]; exact (HE1.out.trans (Ext.drewN _ _)).trans (Ext.drewN _ _)); obtain ⟨hb0, hb1⟩ := KC.out _ HE2.out; clear hw3))
        have KH : Hid (∀ w', Ext w3 w' → w'.cell? ⟨w.heap.size, 0, none⟩ = some (.slice Ar C.room.length cr) ∧ w'.cell? ⟨w.heap.size, 1, none⟩ = some (.slice A C.units.length c) ∧ Ext w3 w') := hid fun w' hw => ⟨(KC.out _ (HE2.out.trans hw)).1, (KC.out _ (HE2.out.trans hw)).2, hw⟩
        go_region_held3 (fun w' => w'.cell? ⟨w.heap.size, 0, none⟩ = some (.slice Ar C.room.length cr) ∧ w'.cell? ⟨w.heap.size, 1, none⟩ = some (.slice A C.units.length c) ∧ Ext w3 w')
          (first | exact KH.out _ (by assumption) | exact KH.out _ (Below.drew (Below.refl _ _)))
          (first
            | (go_at_call 52; refine (iSpare _ _ C need _ (H0.out.ext (HE2.out.trans (Below.drew (Below.refl _ _)))) (HN.out.ext (HE2.out.trans (Below.drew (Below.refl _ _)))) HCL.out HNV.out).mono ?_; rintro e w4 ⟨rfl, hE4⟩; rw [HS.out]; have h04 : Ext w3 w4 := Ext.trans (Below.drew (Below.refl _ _)) hE4)
            | (go_at_call 91; refine (iPlacer _ _ C.room need _ (HR.out.ext (HE2.out.trans (by assumption))) (HN.out.ext (HE2.out.trans (by assumption)))).mono ?_; rintro e w5 ⟨b1, b2, rfl, hp1, hp2, hE5⟩; have h05 : Ext w3 w5 := Ext.trans (by assumption) hE5)
            | (go_at_call 139; refine (iPlacer1 _ _ _ [] C.room need b1 b2 _ (RSl.nil_ _ _ _ _ _ _ (by omega)) (HR.out.ext (HE2.out.trans (by assumption))) (HN.out.ext (HE2.out.trans (by assumption))) hp1 hp2 ⟨by simp, by simp⟩ HRV.out HNV.out (by rw [leftL_nil (vecOk_len HRV.out)]; exact vecOk_nn HRV.out)).mono ?_; rintro e w6 ⟨rfl, hE6⟩; rw [HF.out]; have h06 : Ext w3 w6 := Ext.trans (by assumption) hE6))
        have HE6 := hid (HE2.out.trans h06)
        have KI : Hid (∀ w', Ext w6 w' → w'.cell? ⟨w.heap.size, 0, none⟩ = some (.slice Ar C.room.length cr) ∧ w'.cell? ⟨w.heap.size, 1, none⟩ = some (.slice A C.units.length c) ∧ Ext w6 w') := hid fun w' hw => ⟨(KC.out _ (HE6.out.trans hw)).1, (KC.out _ (HE6.out.trans hw)).2, hw⟩
        clear h06 h05 h04
        go_wp2
        go_region_held3 (fun w' => w'.cell? ⟨w.heap.size, 0, none⟩ = some (.slice Ar C.room.length cr) ∧ w'.cell? ⟨w.heap.size, 1, none⟩ = some (.slice A C.units.length c) ∧ Ext w6 w')
          (first | exact KI.out _ (by assumption) | exact KI.out _ (Below.drew (Below.refl _ _)))
          ((go_at_call 92; refine (iOpen _ C _ (H0.out.ext (HE6.out.trans (Below.drew (Below.refl _ _)))) hl).mono ?_; rintro e w7 ⟨rfl, hE7⟩; rw [HO.out]; have h07 : Ext w6 w7 := Ext.trans (Below.drew (Below.refl _ _)) hE7))
        have HE5 := hid (HE6.out.trans h07)
        have hcl1 : (C.units.length : Int) - (on : Int) = ((C.units.length - on : Nat) : Int) := by omega
        have hcl2 : C.units.length - on ≤ 10 := by omega
        obtain ⟨cl, hcl⟩ : ∃ cl, C.units.length - on = cl := ⟨_, rfl⟩
        rw [hcl] at hcl1 hcl2
        have HC1 := hid hcl1
        have HC2 := hid hcl
        clear hcl hcl1
        go_wp2
        rw [HC1.out]
        go_loopw [38] (fun i wr => ∃ k : Nat, k ≤ cl + 1 ∧ i = .int .i64 k ∧ Hid (∀ j : Nat, j < k → sp + (j : Int) * fu < want) ∧ Ext w wr) (fun i _ => cl + 1 - (intOf i).toNat)
        case atStart => exact ⟨0, Nat.zero_le _, rfl, fun j hj => absurd hj (by omega), HEW.out.trans HE5.out⟩
        case round =>
          obtain ⟨k, hk, rfl, H, hE⟩ := hrel
          by_cases hlt : k < cl + 1
          · have hm := mul_bd (k := (k : Int)) (f := fu) (by omega) (by omega) hfb.1 hfb.2
            have g1 : IntKind.i64.wrap ((k : Int) * fu) = (k : Int) * fu := IntWalk.i64_in _ (by omega)
            have g2 : IntKind.i64.wrap (sp + (k : Int) * fu) = sp + (k : Int) * fu := IntWalk.i64_in _ (by omega)
            have i1 : (k : Int) < (cl : Int) + 1 := by omega
            by_cases hp : want ≤ sp + (k : Int) * fu
            · clear hm
              go_wp2
              go_ret
              exact ⟨ret_i (by rw [HOUT.out, HS.out, HF0.out, HO.out, HC2.out]; exact (enough_hit (by omega) hp H.out).symm), hE⟩
            · have hp' : sp + (k : Int) * fu < want := by omega
              clear hm
              go_wp2
              go_roundw
              case rel => exact ⟨k + 1, by omega, by go_num, hid (fun j hj => by
                by_cases hjk : j = k
                · subst hjk; exact hp'
                · exact H.out j (by omega)), hE⟩
              case measure => simp [intOf]; omega
          · have hk' : k = cl + 1 := by omega
            have i1 : ¬ (k : Int) < (cl : Int) + 1 := by omega
            go_wp2
            go_ret
            exact ⟨ret_i (by rw [HOUT.out, HS.out, HF0.out, HO.out, HC2.out, ← hk']; exact (enough_miss H.out).symm), hE⟩
      · have h3 : inB want 0 999 = false := by simpa using h3
        have HOUT := hid (outN_no2 (C := C) (need := need) h3)
        go_enter Tryz.func41, Tryz.ntmps41
        go_wp2_with (first
          | (go_at_call 37; rw [← hW]; refine (iClusterValid _ C _ H0.out hl hfl hid').mono ?_; rintro e w1 ⟨rfl, hE1⟩; rw [h1]; obtain ⟨hb0, hb1⟩ := KC.out _ hE1; have HE1 := hid hE1; clear hE1 hW)
          | (go_at_call 51; refine (iNeedValid _ need _ (HN.out.ext HE1.out)).mono ?_; rintro e w2 ⟨rfl, n2, rfl⟩; rw [h2])
          | (go_at_call 82; refine (iWithin _ _ _ _).mono ?_; rintro e w3 ⟨rfl, n3, hw3⟩; rw [h3]; have HE2 : Hid (Ext W w3) := hid (by rw [hw3]; exact (HE1.out.trans (Ext.drewN _ _)).trans (Ext.drewN _ _)); obtain ⟨hb0, hb1⟩ := KC.out _ HE2.out; clear hw3))
        go_ret
        exact ⟨ret_i HOUT.out.symm, HEW.out.trans HE2.out⟩
    · have h2 : needOk need = false := by simpa using h2
      have HOUT := hid (outN_no1 (C := C) (want := want) (show (clusOk C && needOk need) = false by rw [h1, h2]; rfl))
      go_enter Tryz.func41, Tryz.ntmps41
      go_wp2_with (first
        | (go_at_call 37; rw [← hW]; refine (iClusterValid _ C _ H0.out hl hfl hid').mono ?_; rintro e w1 ⟨rfl, hE1⟩; rw [h1]; obtain ⟨hb0, hb1⟩ := KC.out _ hE1; have HE1 := hid hE1; clear hE1 hW)
        | (go_at_call 51; refine (iNeedValid _ need _ (HN.out.ext HE1.out)).mono ?_; rintro e w2 ⟨rfl, n2, rfl⟩; rw [h2]))
      go_ret
      exact ⟨ret_i HOUT.out.symm, HEW.out.trans (HE1.out.trans (Ext.drewN _ _))⟩
  · have h1 : clusOk C = false := by simpa using h1
    have HOUT := hid (outN_no1 (C := C) (need := need) (want := want) (show (clusOk C && needOk need) = false by rw [h1]; rfl))
    go_enter Tryz.func41, Tryz.ntmps41
    go_wp2_with (go_at_call 37; rw [← hW]; refine (iClusterValid _ C _ H0.out hl hfl hid').mono ?_; rintro e w1 ⟨rfl, hE1⟩; rw [h1]; obtain ⟨hb0, hb1⟩ := KC.out _ hE1; have HE1 := hid hE1; clear hE1 hW)
    go_ret
    exact ⟨ret_i HOUT.out.symm, HEW.out.trans HE1.out⟩

end Go.Proofs.YtfgibhdglbjadaaGreat
