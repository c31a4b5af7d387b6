/- The program's valid nodes and clusters. -/
import Derived.Test.YtfgibhdglbjadaaIm5
namespace Go.Proofs.Ytfgibhdglbjadaa
open Go.RowKit
set_option maxRecDepth 4000

set_option maxHeartbeats 1000000 in
theorem iBinsValid (rv v : Value) (room : List Int) (bs : List (List TaskD)) (w : World) (hR : RI w rv room) (h : RB w v bs) (hl : bs.flatten.length ≤ 4000000) (hid' : ∀ t ∈ bs.flatten, IdR t.id) :
    Calls Try.prog 51 #[rv, v] w (RetB w (binsOk room bs)) := by
  have h0 := h
  obtain ⟨A, c, rfl, hc, hc', hr⟩ := h.get
  clear h
  by_cases hlen : bs.length ≤ 14
  · by_cases htk : tasksOk room bs.flatten = true
    · go_enter Try.func51, Try.ntmps51
      go_wp2_with fail
      refine (iConcat _ bs _ h0 hl).mono ?_
      rintro e w1 ⟨v1, rfl, hv1, hE1⟩
      go_wp2_with fail
      refine (iTasksValid _ _ room bs.flatten _ (hR.ext hE1) hv1.read hid').mono ?_
      rintro e w2 ⟨rfl, hE2⟩
      have HE := hid (hE1.trans hE2)
      have HRV := hid (vecOk_len (roomOk_vec (tasksOk_room htk)))
      have HT := hid htk
      clear hv1 hE1 hE2
      go_wp2
      clear htk
      go_loopw [19] (fun i wr => ∃ k : Nat, k ≤ bs.length ∧ i = .int .i64 k ∧ Hid (binsTo room bs k = true) ∧ Ext w wr) (fun i _ => bs.length - (intOf i).toNat)
      case atStart => exact ⟨0, Nat.zero_le _, rfl, rfl, HE.out⟩
      case round =>
        obtain ⟨k, hk, rfl, H, hE⟩ := hrel
        by_cases hlt : k < bs.length
        · obtain ⟨b, o, x, An, cn, rfl, e, c1, hnx⟩ := hr k hlt
          have i1 : (k : Int) < (bs.length : Int) := by omega
          have c1r := hE.cell c1
          have HN := hid (hnx.ext hE)
          clear c1 hnx
          go_wp2_with fail
          refine (iLoad _ x _ HN.out (binsOk_tasks HT.out (List.mem_of_getElem? e.out))).mono ?_
          rintro e2 w2 ⟨v2, rfl, hv2, hE2⟩
          have hEE := hE.trans hE2
          go_wp2_with fail
          refine (iFits _ _ (loadL x) room _ hv2.read (hR.ext hEE) (loadL_len _) HRV.out).mono ?_
          rintro e2 w3 ⟨rfl, n3, rfl⟩
          by_cases hf : fitsL (loadL x) room = true
          · go_wp2
            go_roundw
            case rel => exact ⟨k + 1, by omega, by go_num, by show binsTo room bs (k + 1) = true; rw [binsTo_succ room e.out, H.out, hf]; rfl, hEE.trans (Ext.drewN _ _)⟩
            case measure => simp [intOf]; omega
          · have hf : fitsL (loadL x) room = false := by simpa using hf
            go_wp2
            go_ret
            exact ⟨ret_b (by unfold binsOk; rw [all_false_of e.out hf]; simp), hEE.trans (Ext.drewN _ _)⟩
        · go_wp2
          go_ret
          have hk' : k = bs.length := by omega
          subst hk'
          have H1 := H.out
          unfold binsTo at H1
          rw [List.take_length] at H1
          exact ⟨ret_b (by unfold binsOk; rw [HT.out, H1]; simp; omega), hE⟩
    · have htk : tasksOk room bs.flatten = false := by simpa using htk
      go_enter Try.func51, Try.ntmps51
      go_wp2_with fail
      refine (iConcat _ bs _ h0 hl).mono ?_
      rintro e w1 ⟨v1, rfl, hv1, hE1⟩
      go_wp2_with fail
      refine (iTasksValid _ _ room bs.flatten _ (hR.ext hE1) hv1.read hid').mono ?_
      rintro e w2 ⟨rfl, hE2⟩
      have HE := hid (hE1.trans hE2)
      clear hv1 hE1 hE2
      go_wp2
      go_ret
      exact ⟨ret_b (by simp [binsOk, htk]), HE.out⟩
  · have hlen' : 14 < bs.length := by omega
    go_enter Try.func51, Try.ntmps51
    go_wp2
    go_ret
    exact ⟨ret_b (by simp [binsOk]; omega), Ext.refl _⟩

set_option maxHeartbeats 1000000 in
theorem iBins (cv : Value) (C : ClusD) (w : World) (h : ClusV w cv C) (hl : C.units.length ≤ 4000000) :
    Calls Try.prog 99 #[cv] w fun e w' => ∃ v, e = .returned v ∧ OB w' w.heap.size v (C.units.map (·.tasks)) ∧ Ext w w' := by
  obtain ⟨rv, uv, rfl, hr, hu⟩ := h
  obtain ⟨A, c, rfl, hc, hc', hg⟩ := hu.get
  have hbx := cell_new w #[rv, .slice A C.units.length c] 26 1
  simp only [List.getElem?_toArray, List.getElem?_cons_succ, List.getElem?_cons_zero] at hbx
  clear hu hr
  obtain ⟨i0_bin, hi0_bin, hz0_bin, hz1_bin, hz2_bin⟩ := info_parts info_bin
  go_enter Try.func99, Try.ntmps99
  go_wp2_with (at_make; refine wpList_make_own _ rfl _ _ 69 rfl w.heap.size 54 i0_bin _ 1 Try.underlying69 hi0_bin hz0_bin hz1_bin _ _ _ C.units.length rfl rfl rfl (by rw [hz2_bin]; omega) (by unfold maxLen; omega) (by simp) ?_; intro w1 hO1 hg1; have hE1 : Ext w w1 := Below.grown (Ext.alloc _ _) hg1 (by simp) (fun k hk => by cases hk); have hbx1 := Ext.cell (Below.grown (Below.refl _ _) hg1 (Nat.le_refl _) (fun k hk => by cases hk)) hbx; have HO1 : Hid (OB w1 w.heap.size (.slice (some ⟨w.heap.size + 1, 0, none⟩) 0 C.units.length) []) := hid ⟨[], (by simpa using hO1), Cells.nil_ _ _ _⟩; have HE1 := hid hE1; clear hbx hO1 hg1 hE1)
  go_loopw [3, 13] (fun s i wr => ∃ k : Nat, k ≤ C.units.length ∧ i = .int .i64 k ∧ OB wr w.heap.size s ((C.units.take k).map (·.tasks)) ∧ Ext w wr) (fun _ i _ => C.units.length - (intOf i).toNat)
  case atStart => exact ⟨0, Nat.zero_le _, rfl, HO1.out, HE1.out⟩
  case round =>
    obtain ⟨k, hk, rfl, hv, hE⟩ := hrel
    by_cases hlt : k < C.units.length
    · obtain ⟨b, o, x, An, cn, rfl, e, c1, c2, hn⟩ := hg k hlt
      have i1 : (k : Int) < (C.units.length : Int) := by omega
      have c1r := hE.cell c1
      have c2r := hE.cell c2
      have hb := cell_new wr #[.bool x.opened, .slice An x.tasks.length cn] 56 1
      simp only [List.getElem?_toArray, List.getElem?_cons_succ, List.getElem?_cons_zero] at hb
      have hEa := (Ext.alloc wr (.cells #[.bool x.opened, .slice An x.tasks.length cn] 56)).trans (Ext.alloc _ (.cells #[.slice An x.tasks.length cn] 54))
      have HV := hid (hv.ext EB.ok hEa)
      have HN := hid (hn.ext (hE.trans hEa))
      have HEa := hid (hE.trans hEa)
      have HK := hid (List.length_take_le k C.units)
      have hsz := hE.size
      clear c1 c2 hv hn hEa
      go_wp2_with (at_builtin; refine wpList_append_sl _ (by rfl) _ _ 69 (by rfl) EB.ok EB.flat (w.heap.size) 54 EB.ne i0_bin _ 1 24 Try.underlying69 hi0_bin hz0_bin hz1_bin hz2_bin rfl (by omega) _ (by rfl) _ (HV.out) _ (by rfl) _ (RSl.laid (cs := [.slice An x.tasks.length cn]) (heap_new (H := wr.heap.size + 1) (by simp)) rfl ⟨_, rfl, HN.out⟩) (by have := HK.out; simp; omega) (by have := HK.out; simp; omega) ?_ ?_; (focus (first | exact Nat.le_refl _ | (simp; done) | (simp; omega) | omega)); intro v1 w1 hO1 hg1 hat1 hs1; have hE1 : Ext w w1 := Ext.grown HEa.out hg1 HV.out.lt)
      go_roundw
      case rel => exact ⟨k + 1, by omega, by go_num, by rw [tasks_take_succ e.out]; exact hO1, hE1⟩
      case measure => simp [intOf]; omega
    · go_wp2
      go_ret
      have hk' : k = C.units.length := by omega
      subst hk'
      rw [List.take_length] at hv
      exact ⟨_, rfl, hv, hE⟩

theorem iClus1 (op : Bool) (An : Option Addr) (ts : List TaskD) (cn : Nat) (w : World) :
    Calls Try.prog 101 #[.agg #[.bool op, .slice An ts.length cn]] w (RetB w (!op && decide (0 < ts.length))) := by
  have hb := cell_new w #[.bool op, .slice An ts.length cn] 56
  have hb0 := hb 0
  have hb1 := hb 1
  simp only [List.getElem?_toArray, List.getElem?_cons_succ, List.getElem?_cons_zero] at hb0 hb1
  clear hb
  cases op
  · go_enter Try.func101, Try.ntmps101
    go_wp2
    go_ret
    exact ⟨ret_b (by simp), Ext.alloc _ _⟩
  · go_enter Try.func101, Try.ntmps101
    go_wp2
    go_ret
    exact ⟨ret_b (by simp), Ext.alloc _ _⟩

set_option maxHeartbeats 1000000 in
theorem iIndexU (v : Value) (us : List UnitD) (w : World) (h : RU w v us) :
    Calls Try.prog 139 #[v, .func (.func 101) #[] #[]] w (RetN w (idxI (fun u => !u.opened && decide (0 < u.tasks.length)) us)) := by
  obtain ⟨A, c, rfl, hc, hc', hr⟩ := h.get
  clear h
  go_enter Try.func139, Try.ntmps139
  go_wp2
  go_loopw [8] (fun i wr => ∃ k : Nat, k ≤ us.length ∧ i = .int .i64 k ∧ Hid (∀ (j : Nat) y, j < k → us[j]? = some y → (!y.opened && decide (0 < y.tasks.length)) = false) ∧ Ext w wr) (fun i _ => us.length - (intOf i).toNat)
  case atStart => exact ⟨0, Nat.zero_le _, rfl, fun j y hj => absurd hj (by omega), Ext.refl _⟩
  case round =>
    obtain ⟨k, hk, rfl, H, hE⟩ := hrel
    by_cases hlt : k < us.length
    · obtain ⟨b, o, x, An, cn, rfl, e, c1, c2, hn⟩ := hr k hlt
      have i1 : (k : Int) < (us.length : Int) := by omega
      have c1r := hE.cell c1
      have c2r := hE.cell c2
      clear c1 c2 hn
      go_wp2_with fail
      refine (iClus1 x.opened An x.tasks cn _).mono ?_
      rintro e1 w1 ⟨rfl, hE1⟩
      by_cases hx : (!x.opened && decide (0 < x.tasks.length)) = true
      · rw [hx]
        go_wp2
        go_ret
        exact ⟨ret_i (idxI_hit (p := fun u : UnitD => !u.opened && decide (0 < u.tasks.length)) e.out hx H.out).symm, hE.trans hE1⟩
      · have hx : (!x.opened && decide (0 < x.tasks.length)) = false := by simpa using hx
        rw [hx]
        go_wp2
        go_roundw
        case rel => exact ⟨k + 1, by omega, by go_num, idx_more (p := fun u : UnitD => !u.opened && decide (0 < u.tasks.length)) e.out hx H.out, hE.trans hE1⟩
        case measure => simp [intOf]; omega
    · go_wp2
      go_ret
      have hk' : k = us.length := by omega
      subst hk'
      exact ⟨ret_i (idxI_miss (p := fun u : UnitD => !u.opened && decide (0 < u.tasks.length)) fun j y hj => H.out j y (List.getElem?_eq_some_iff.1 hj).1 hj).symm, hE⟩

theorem iContainsU (v : Value) (us : List UnitD) (w : World) (h : RU w v us) :
    Calls Try.prog 100 #[v, .func (.func 101) #[] #[]] w (RetB w (us.any fun u => !u.opened && decide (0 < u.tasks.length))) := by
  go_enter Try.func100, Try.ntmps100
  go_wp2_with fail
  refine (iIndexU _ us _ h).mono ?_
  rintro e w' ⟨rfl, hE⟩
  go_wp2
  go_ret
  exact ⟨ret_b (idxI_ge _ _), hE⟩

end Go.Proofs.Ytfgibhdglbjadaa
