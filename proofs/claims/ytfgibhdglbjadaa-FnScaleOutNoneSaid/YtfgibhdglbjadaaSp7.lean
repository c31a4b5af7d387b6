/- The reference's scaling. -/
import Derived.Test.YtfgibhdglbjadaaSp6
import Derived.Test.YtfgibhdglbjadaaMath2
namespace Go.Proofs.Ytfgibhdglbjadaa
open Go.RowKit
set_option maxRecDepth 4000

theorem Nn.at_ {M : Int} {xs : List Int} (h : Nn M xs) {j : Nat} {x : Int} (hx : Hid (xs[j]? = some x)) : 0 ≤ x ∧ x ≤ M := h x (List.mem_of_getElem? hx)

theorem min_if (t x : Int) : (if x < t then x else t) = min t x := by simp only [Int.min_def]; split <;> split <;> omega

set_option maxHeartbeats 400000 in
theorem sTimes (va vb : Value) (a b : List Int) (w : World) (ha : RI w va a) (hb : RI w vb b) (la : a.length = 3) (lb : b.length = 3) (na : Nn 10000000 a) (nb : Nn 10000000 b) :
    Calls Try.prog 70 #[va, vb] w fun e w' => e = .returned (.int .i64 (timesL a b)) ∧ ∃ n, w' = w.drewN n := by
  obtain ⟨A, c, rfl, h1, h2, h3⟩ := ha.get
  obtain ⟨A', c', rfl, h1', h2', h3'⟩ := hb.get
  have La : 3 ≤ a.length := by omega
  have Lb : 3 ≤ b.length := by omega
  clear la lb ha hb
  go_enter Try.func70, Try.ntmps70
  go_wp2
  go_loopw [5, 6] (fun s i wr => ∃ (k : Nat) (t : Int), k ≤ 3 ∧ i = .int .i64 k ∧ s = .int .i64 t ∧ Hid (t = timesTo a b k) ∧ ∃ n, wr = w.drewN n) (fun _ i _ => 3 - (intOf i).toNat)
  case atStart => exact ⟨0, 20, by omega, rfl, rfl, rfl, 0, rfl⟩
  case round =>
    obtain ⟨k, t, hk, rfl, rfl, H, n, hwr⟩ := hrel
    have hE : Ext w wr := by rw [hwr]; exact Ext.drewN _ _
    have HW := hid hwr
    clear hwr
    by_cases hlt : k < 3
    · obtain ⟨b1, o1, x1, rfl, e1, c1⟩ := h3 k (by omega)
      obtain ⟨b2, o2, x2, rfl, e2, c2⟩ := h3' k (by omega)
      have i1 : (k : Int) < (a.length : Int) := by omega
      have i2 : (k : Int) < (b.length : Int) := by omega
      have c1r := hE.cell c1
      have c2r := hE.cell c2
      have d1 := na.at_ e1
      have d2 := nb.at_ e2
      clear c1 c2
      by_cases hp : 0 < x2
      · go_wp2
        go_quiet (fail)
        go_wp2
        go_roundw
        case rel => exact ⟨k + 1, min t (x1 / x2), by omega, by go_num, by rw [min_if], by show _ = timesTo a b (k + 1); rw [timesTo_succ e1.out e2.out, if_pos hp, H.out], _, by rw [HW.out]; exact World.drewN_drewN _ _ _⟩
        case measure => simp [intOf]; omega
      · go_wp2
        go_roundw
        case rel => exact ⟨k + 1, t, by omega, by go_num, rfl, by show _ = timesTo a b (k + 1); rw [timesTo_succ e1.out e2.out, if_neg hp, H.out], _, HW.out⟩
        case measure => simp [intOf]; omega
    · go_wp2
      go_ret
      have hk' : k = 3 := by omega
      subst hk'
      exact ⟨ret_i H.out, _, HW.out⟩

set_option maxHeartbeats 400000 in
theorem sL23Ok (cv nv : Value) (C : ClusD) (need : List Int) (w : World) (h : ClusV w cv C) (hn : RI w nv need) (hl : C.units.length ≤ 4000000) (hfl : (C.units.map (·.tasks)).flatten.length ≤ 4000000) :
    Calls Try.prog 58 #[cv, nv] w (RetB w (clusOk C && needOk need)) := by
  have h0 := h
  obtain ⟨rv, uv, rfl, hr, hu⟩ := h
  have hbx := cell_new w #[rv, uv] 26
  have hb0 := hbx 0
  have hb1 := hbx 1
  simp only [List.getElem?_toArray, List.getElem?_cons_succ, List.getElem?_cons_zero] at hb0 hb1
  have H0 := hid (h0.ext (Ext.alloc w (.cells #[rv, uv] 26)))
  have HN := hid (hn.ext (Ext.alloc w (.cells #[rv, uv] 26)))
  clear hr hu hbx h0 hn
  go_enter Try.func58, Try.ntmps58
  go_wp2_with fail
  refine (sClusterValid _ C _ H0.out hl hfl).mono ?_
  rintro e w1 ⟨rfl, hE1⟩
  have HE1 := hid ((Ext.alloc w _).trans hE1)
  by_cases h1 : clusOk C = true
  · go_wp2_with fail
    refine (sVecValid _ need _ (HN.out.ext hE1)).mono ?_
    rintro e w2 ⟨rfl, n2, rfl⟩
    by_cases h2 : vecOk need = true
    · go_wp2_with fail
      refine (sL4Sum _ need _ ((HN.out.ext hE1).ext (Ext.drewN _ _)) (fun x hx => by have := vecOk_mem h2 x hx; omega) (by have := vecOk_len h2; omega)).mono ?_
      rintro e w3 ⟨rfl, n3, rfl⟩
      by_cases h3 : 0 < sumL need
      · go_wp2
        go_ret
        exact ⟨ret_b (by simp [h1, needOk, h2, h3]), HE1.out.trans (Ext.drewN _ _)⟩
      · go_wp2
        go_ret
        exact ⟨ret_b (by simp [h1, needOk, h2, h3]), HE1.out.trans (Ext.drewN _ _)⟩
    · have h2 : vecOk need = false := by simpa using h2
      go_wp2
      go_ret
      exact ⟨ret_b (by simp [h1, needOk, h2]), HE1.out.trans (Ext.drewN _ _)⟩
  · have h1 : clusOk C = false := by simpa using h1
    go_wp2
    go_ret
    exact ⟨ret_b (by simp [h1]), HE1.out⟩

set_option maxHeartbeats 1000000 in
theorem sL23Node (cv nv : Value) (C : ClusD) (need : List Int) (k : Nat) (u : UnitD) (w : World) (h : ClusV w cv C) (hn : RI w nv need) (hC : clusOk C = true) (hk : C.units[k]? = some u) (hnd : vecOk need = true) :
    Calls Try.prog 59 #[cv, .int .i64 k, nv] w (RetN w (timesL (leftL C.room u.tasks) need)) := by
  obtain ⟨rv, uv, rfl, hr, hu⟩ := h
  obtain ⟨A, c, rfl, hc, hc', hg⟩ := hu.get
  have hkl : k < C.units.length := (List.getElem?_eq_some_iff.1 hk).1
  obtain ⟨b, o, x, An, cn, rfl, e, c1, c2, hnx⟩ := hg k hkl
  have hxu : x = u := by have := e.out; rw [hk] at this; injection this with this; exact this.symm
  subst hxu
  obtain ⟨W, hW⟩ : ∃ W, W = w.alloc (.cells #[rv, .slice (some ⟨b, o, none⟩) C.units.length c] 26) := ⟨_, rfl⟩
  have hEW : Ext w W := by rw [hW]; exact Ext.alloc _ _
  have hb0 : W.cell? ⟨w.heap.size, 0, none⟩ = some rv := by rw [hW]; exact cell_new _ _ _ 0
  have hb1 : W.cell? ⟨w.heap.size, 1, none⟩ = some (.slice (some ⟨b, o, none⟩) C.units.length c) := by rw [hW]; exact cell_new _ _ _ 1
  have HU := hid (clusOk_unit hC (List.mem_of_getElem? hk))
  have HRm := hid (roomOk_vec (clusOk_room hC))
  have HL := hid (left_nn HRm.out HU.out.1 HU.out.2)
  have HND := hid hnd
  have KH : Hid (∀ w', Ext W w' → w'.cell? ⟨w.heap.size, 0, none⟩ = some rv ∧ w'.cell? ⟨w.heap.size, 1, none⟩ = some (.slice (some ⟨b, o, none⟩) C.units.length c) ∧ w'.cell? ⟨b, o + k * 2 + 1, none⟩ = some (.slice An x.tasks.length cn) ∧ Ext W w') :=
    hid fun w' hw => ⟨hw.cell hb0, hw.cell hb1, (hEW.trans hw).cell c2, hw⟩
  have H1 := hid (hnx.ext hEW)
  have H2 := hid (hr.ext hEW)
  have H3 := hid (hn.ext hEW)
  have HEW := hid hEW
  have i1 : (k : Int) < (C.units.length : Int) := by omega
  have i0 : (0 : Int) ≤ (k : Int) := by omega
  clear hu hg hr hn hnx hb0 hb1 c1 c2 hC hk hnd hEW
  go_enter Try.func59, Try.ntmps59
  go_wp2
  rw [← hW]
  clear hW
  go_region_held3 (fun w' => w'.cell? ⟨w.heap.size, 0, none⟩ = some rv ∧ w'.cell? ⟨w.heap.size, 1, none⟩ = some (.slice (some ⟨b, o, none⟩) C.units.length c) ∧ w'.cell? ⟨b, o + k * 2 + 1, none⟩ = some (.slice An x.tasks.length cn) ∧ Ext W w')
    (first | exact KH.out _ (by assumption) | exact KH.out _ (Below.drew (Below.refl _ _)))
    (first
      | (go_at_call 107; refine (sLoad _ x.tasks _ (H1.out.ext (Below.drew (Below.refl _ _))) HU.out.1).mono ?_; rintro e w1 ⟨v1, rfl, hv1, hE1⟩; have h01 : Ext W w1 := Ext.trans (Below.drew (Below.refl _ _)) hE1)
      | (go_at_call 106; refine (sAdd _ _ C.room (loadL x.tasks) (-1) _ (H2.out.ext (by assumption)) (by assumption) (vecOk_len HRm.out) (loadL_len _) ((vecOk_bd HRm.out).mono (by omega)) (load_bd HU.out.1) (.inr rfl)).mono ?_; rintro e w2 ⟨v2, rfl, hv2, hE2⟩; have h02 : Ext W w2 := Ext.trans (by assumption) hE2)
      | (go_at_call 70; refine (sTimes _ _ (leftL C.room x.tasks) need _ (by assumption) (H3.out.ext (by assumption)) (leftL_len _ _) (vecOk_len HND.out) HL.out (vecOk_nn HND.out)).mono ?_; rintro e w3 ⟨rfl, n3, rfl⟩; have h03 : Ext W (w2.drewN n3) := Ext.trans (by assumption) (Ext.drewN _ _)))
  go_wp2
  go_ret
  exact ⟨rfl, HEW.out.trans (by assumption)⟩

set_option maxHeartbeats 1000000 in
theorem sSpareCount (cv nv : Value) (C : ClusD) (need : List Int) (w : World) (h : ClusV w cv C) (hn : RI w nv need) (hl : C.units.length ≤ 4000000) (hfl : (C.units.map (·.tasks)).flatten.length ≤ 4000000) :
    Calls Try.prog 20 #[cv, nv] w (RetN w (spareN C need)) := by
  have h0 := h
  obtain ⟨rv, uv, rfl, hr, hu⟩ := h
  obtain ⟨A, c, rfl, hc, hc', hg⟩ := hu.get
  obtain ⟨W, hW⟩ : ∃ W, W = w.alloc (.cells #[rv, .slice A C.units.length c] 26) := ⟨_, rfl⟩
  have hEW : Ext w W := by rw [hW]; exact Ext.alloc _ _
  have hb0 : W.cell? ⟨w.heap.size, 0, none⟩ = some rv := by rw [hW]; exact cell_new _ _ _ 0
  have hb1 : W.cell? ⟨w.heap.size, 1, none⟩ = some (.slice A C.units.length c) := by rw [hW]; exact cell_new _ _ _ 1
  have H0 := hid (h0.ext hEW)
  have HN := hid (hn.ext hEW)
  have HEW := hid hEW
  clear hu hr h0 hn
  go_enter Try.func20, Try.ntmps20
  go_wp2_with fail
  rw [← hW]
  refine (sL23Ok _ _ C need _ H0.out HN.out hl hfl).mono ?_
  rintro e w1 ⟨rfl, hE1⟩
  have HE1 := hid hE1
  have hb0 := hE1.cell hb0
  have hb1 := hE1.cell hb1
  clear hW hE1
  by_cases hok : (clusOk C && needOk need) = true
  · have hcl : clusOk C = true := by simp only [Bool.and_eq_true] at hok; exact hok.1
    have hnd : needOk need = true := by simp only [Bool.and_eq_true] at hok; exact hok.2
    have HCL := hid hcl
    have HNV := hid (show vecOk need = true by simp only [needOk, Bool.and_eq_true] at hnd; exact hnd.1)
    have HSP := hid (show spareN C need = spareL C need by unfold spareN; rw [if_pos hok])
    have HLen := (clusOk_len hcl).2
    clear hcl hnd
    go_wp2
    clear hok
    go_loopw [5, 6] (fun s i wr => ∃ (k : Nat) (t : Int), k ≤ C.units.length ∧ i = .int .i64 k ∧ s = .int .i64 t ∧ Hid (t = spareTo C need k) ∧ 0 ≤ t ∧ t ≤ 20 * (k : Int) ∧ Ext W wr ∧ wr.cell? ⟨w.heap.size, 0, none⟩ = some rv ∧ wr.cell? ⟨w.heap.size, 1, none⟩ = some (.slice A C.units.length c)) (fun _ i _ => C.units.length - (intOf i).toNat)
    case atStart => exact ⟨0, 0, Nat.zero_le _, rfl, rfl, rfl, by omega, by omega, HE1.out, hb0, hb1⟩
    case round =>
      obtain ⟨k, t, hk, rfl, rfl, H, ht0, ht1, hE, hb0, hb1⟩ := hrel
      by_cases hlt : k < C.units.length
      · obtain ⟨b, o, x, An, cn, rfl, e, c1, c2, hnx⟩ := hg k hlt
        have c1r := (HEW.out.trans hE).cell c1
        clear c1 c2 hnx
        have hu := clusOk_unit HCL.out (List.mem_of_getElem? e.out)
        have hbd := timesTo_bd (need := need) (left_nn (roomOk_vec (clusOk_room HCL.out)) hu.1 hu.2) (by omega) 3
        have hb20 : 0 ≤ timesL (leftL C.room x.tasks) need ∧ timesL (leftL C.room x.tasks) need ≤ 20 := hbd
        clear hu hbd
        by_cases ho : x.opened = true
        · go_wp2_with fail
          refine (sL23Node _ _ C need k x _ (H0.out.ext hE) (HN.out.ext hE) HCL.out e.out HNV.out).mono ?_
          rintro e1 w2 ⟨rfl, hE2⟩
          have hb0' := hE2.cell hb0
          have hb1' := hE2.cell hb1
          go_wp2
          go_roundw
          case rel => exact ⟨k + 1, _, by omega, by go_num, rfl, by show _ = spareTo C need (k + 1); rw [spareTo_succ e.out, if_pos ho, H.out], by omega, by omega, hE.trans hE2, hb0', hb1'⟩
          case measure => simp [intOf]; omega
        · have ho : x.opened = false := by simpa using ho
          go_wp2
          go_roundw
          case rel => exact ⟨k + 1, _, by omega, by go_num, rfl, by show _ = spareTo C need (k + 1); rw [spareTo_succ e.out, ho, H.out]; rfl, by omega, by omega, hE, hb0, hb1⟩
          case measure => simp [intOf]; omega
      · go_wp2
        go_ret
        have hk' : k = C.units.length := by omega
        subst hk'
        exact ⟨ret_i (by rw [HSP.out]; exact H.out), HEW.out.trans hE⟩
  · have hok : (clusOk C && needOk need) = false := by simpa using hok
    have HSP := hid (show spareN C need = -1 by unfold spareN; rw [hok]; rfl)
    go_wp2
    go_ret
    exact ⟨ret_i (by rw [HSP.out]), HEW.out.trans HE1.out⟩
end Go.Proofs.Ytfgibhdglbjadaa
