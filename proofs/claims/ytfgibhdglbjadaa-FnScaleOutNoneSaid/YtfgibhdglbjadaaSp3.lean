/- The reference's nodes. -/
import Derived.Test.YtfgibhdglbjadaaSp2
namespace Go.Proofs.Ytfgibhdglbjadaa
open Go.RowKit
set_option maxRecDepth 4000

set_option maxHeartbeats 1000000 in
theorem sBinsValid (rv v : Value) (room : List Int) (bs : List (List TaskD)) (w : World) (hR : RI w rv room) (h : RB w v bs) (hlen : bs.flatten.length ≤ 4000000) :
    Calls Try.prog 80 #[rv, v] w (RetB w (binsOk room bs)) := by
  have h0 := h
  obtain ⟨A, c, rfl, hc, hc', hr⟩ := h.get
  clear h
  by_cases htk : tasksOk room bs.flatten = true
  · by_cases hl14 : bs.length ≤ 14
    · go_enter Try.func80, Try.ntmps80
      go_wp2_with fail
      refine (sAll _ bs _ h0 hlen).mono ?_
      rintro e w1 ⟨av, rfl, ha, hE1⟩
      go_wp2_with fail
      refine (sTasksValid _ _ room bs.flatten _ (by exact hR.ext hE1) (by exact ha.read)).mono ?_
      rintro e w' ⟨rfl, n1, rfl⟩
      go_wp2
      go_loopw [5] (fun i wr => ∃ k : Nat, k ≤ bs.length ∧ i = .int .i64 k ∧ Hid (binsTo room bs k = true) ∧ Ext w wr) (fun i _ => bs.length - (intOf i).toNat)
      case atStart => exact ⟨0, Nat.zero_le _, rfl, rfl, hE1.trans (Ext.drewN _ _)⟩
      case round =>
        obtain ⟨k, hk, rfl, H, hE⟩ := hrel
        by_cases hlt : k < bs.length
        · obtain ⟨b, o, x, An, cn, rfl, e, c1, hn⟩ := hr k hlt
          have c1r := hE.cell c1
          have hgx := binsOk_tasks htk (List.mem_of_getElem? e.out)
          have HG := hid hgx
          have HL := hid (loadL_len x)
          have HLR := hid (vecOk_len (roomOk_vec (tasksOk_room htk)))
          clear hgx c1
          go_wp2_with fail
          refine (sLoad _ x _ (by exact hn.ext hE) HG.out).mono ?_
          rintro e1 w2 ⟨lv, rfl, hlv, hE2⟩
          go_wp2_with fail
          refine (sFits _ _ (loadL x) room _ (by exact hlv) (by exact hR.ext (hE.trans hE2)) HL.out HLR.out).mono ?_
          rintro e1 w3 ⟨rfl, n2, rfl⟩
          by_cases hf : fitsL (loadL x) room = true
          · go_wp2
            go_roundw
            case rel => exact ⟨k + 1, by omega, by go_num, by show binsTo room bs (k + 1) = true; rw [binsTo_succ room e.out, H.out, hf]; rfl, (hE.trans hE2).trans (Ext.drewN _ _)⟩
            case measure => simp [intOf]; omega
          · have hf : fitsL (loadL x) room = false := by simpa using hf
            go_wp2
            go_ret
            exact ⟨ret_b (by unfold binsOk; rw [all_false_of e.out hf]; simp), (hE.trans hE2).trans (Ext.drewN _ _)⟩
        · go_wp2
          go_ret
          have hk' : k = bs.length := by omega
          subst hk'
          have H1 := H.out
          unfold binsTo at H1
          rw [List.take_length] at H1
          exact ⟨ret_b (by unfold binsOk; rw [htk, H1]; simp; omega), hE⟩
    · go_enter Try.func80, Try.ntmps80
      go_wp2_with fail
      refine (sAll _ bs _ h0 hlen).mono ?_
      rintro e w1 ⟨av, rfl, ha, hE1⟩
      go_wp2_with fail
      refine (sTasksValid _ _ room bs.flatten _ (by exact hR.ext hE1) (by exact ha.read)).mono ?_
      rintro e w' ⟨rfl, n1, rfl⟩
      go_wp2
      go_ret
      exact ⟨ret_b (by unfold binsOk; simp [hl14]), hE1.trans (Ext.drewN _ _)⟩
  · have htk : tasksOk room bs.flatten = false := by simpa using htk
    go_enter Try.func80, Try.ntmps80
    go_wp2_with fail
    refine (sAll _ bs _ h0 hlen).mono ?_
    rintro e w1 ⟨av, rfl, ha, hE1⟩
    go_wp2_with fail
    refine (sTasksValid _ _ room bs.flatten _ (by exact hR.ext hE1) (by exact ha.read)).mono ?_
    rintro e w' ⟨rfl, n1, rfl⟩
    go_wp2
    go_ret
    exact ⟨ret_b (by unfold binsOk; simp [htk]), hE1.trans (Ext.drewN _ _)⟩

set_option maxHeartbeats 400000 in
theorem sWhere (v : Value) (bs : List (List TaskD)) (id : Int) (w : World) (h : RB w v bs) :
    Calls Try.prog 89 #[v, .int .i64 id] w fun e w' => e = .returned (.int .i64 (whereL bs id)) ∧ ∃ n, w' = w.drewN n := by
  obtain ⟨A, c, rfl, hc, hc', hr⟩ := h.get
  clear h
  go_enter Try.func89, Try.ntmps89
  go_wp2
  go_loopw [5] (fun i wr => ∃ k : Nat, k ≤ bs.length ∧ i = .int .i64 k ∧ Hid (∀ (j : Nat) c, j < k → bs[j]? = some c → hasId c id = false) ∧ ∃ n, wr = w.drewN n) (fun i _ => bs.length - (intOf i).toNat)
  case atStart => exact ⟨0, Nat.zero_le _, rfl, fun j c hj => absurd hj (by omega), 0, rfl⟩
  case round =>
    obtain ⟨k, hk, rfl, H, n, hwr⟩ := hrel
    have hE : Ext w wr := by rw [hwr]; exact Ext.drewN _ _
    have HW := hid hwr
    clear hwr
    by_cases hlt : k < bs.length
    · obtain ⟨b, o, x, An, cn, rfl, e, c1, hn⟩ := hr k hlt
      have hn0 := hn.ext hE
      have c1r := hE.cell c1
      have i1 : (k : Int) < (bs.length : Int) := by omega
      have HX := hid (List.take_length (l := x))
      have hq : ∀ m, Calls Try.prog 130 #[.slice An x.length cn, .int .i64 x.length, .int .i64 id] (wr.drewN m) fun e w' => e = .returned (.bool (hasId x id)) ∧ ∃ n, w' = (wr.drewN m).drewN n := by
        intro m
        have := sHas (.slice An x.length cn) x x.length id (wr.drewN m) (hn0.ext (Ext.drewN _ _)) (Nat.le_refl _)
        rwa [HX.out] at this
      have HQ := hid hq
      clear hq hE
      go_wp2
      go_quiet ((go_at_call 130; exact Calls.quiet_of (HQ.out _)))
      go_wp2
      · have hx : hasId x id = true := by assumption
        go_ret
        exact ⟨ret_i (whereL_hit e.out hx H.out).symm, _, by rw [HW.out]; exact World.drewN_drewN _ _ _⟩
      · have hx : hasId x id = false := by assumption
        go_roundw
        case rel =>
          refine ⟨k + 1, by omega, by go_num, ?_, _, by rw [HW.out]; exact World.drewN_drewN _ _ _⟩
          intro j c' hj hj'
          by_cases hjk : j = k
          · subst hjk
            rw [e.out] at hj'
            injection hj' with hj'
            rw [← hj']; exact hx
          · exact H.out j c' (by omega) hj'
        case measure => simp [intOf]; omega
    · go_wp2
      go_ret
      have hk' : k = bs.length := by omega
      subst hk'
      exact ⟨ret_i (whereL_miss fun j c hj => H.out j c (List.getElem?_eq_some_iff.1 hj).1 hj).symm, _, HW.out⟩

/-- a task as a value -/
def TaskV (w : World) (v : Value) (t : TaskD) : Prop := ∃ nv, v = .agg #[.int .i64 t.id, nv] ∧ RI w nv t.need
theorem TaskV.ext {w w' : World} {v : Value} {t : TaskD} (h : TaskV w v t) (ha : Ext w w') : TaskV w' v t := let ⟨nv, h1, h2⟩ := h; ⟨nv, h1, h2.ext ha⟩

def l11fits (room : List Int) (b : List TaskD) (t : TaskD) : Bool := fitsL (addL (loadL b) t.need 1) room

set_option maxHeartbeats 1000000 in
theorem sL11Fits (rv v xv : Value) (room : List Int) (b : List TaskD) (t : TaskD) (w : World) (hR : RI w rv room) (h : RT w v b) (hx : TaskV w xv t)
    (hlr : room.length = 3) (hg : GoodTs b) (hn : t.need.length = 3 ∧ Bd 1000 t.need) :
    Calls Try.prog 150 #[rv, v, xv] w (RetB w (l11fits room b t)) := by
  obtain ⟨nv, rfl, hnv⟩ := hx
  have hE0 := Ext.alloc w (.cells #[.int .i64 t.id, nv] 64)
  have HX := hid (hE0)
  have H1 := hid (h.ext hE0)
  have H2 := hid (hnv.ext hE0)
  have H3 := hid (hR.ext hE0)
  have HG := hid hg
  have HN := hid hn
  have HLR := hid hlr
  have HL := hid (loadL_len b)
  have HB := hid (load_bd hg)
  clear h hR hnv hg hn hlr hE0
  have KH : Hid (∀ w', Ext (w.alloc (.cells #[.int .i64 t.id, nv] 64)) w' → w'.cell? ⟨w.heap.size, 1, none⟩ = some nv ∧ Ext (w.alloc (.cells #[.int .i64 t.id, nv] 64)) w') :=
    hid fun w' hw => ⟨hw.cell (cell_new _ _ _ _), hw⟩
  go_enter Try.func150, Try.ntmps150
  go_wp2
  go_region_held3 (fun w' => w'.cell? ⟨w.heap.size, 1, none⟩ = some nv ∧ Ext (w.alloc (.cells #[.int .i64 t.id, nv] 64)) w')
    (first | exact KH.out _ (by assumption) | exact KH.out _ (Below.drew (Below.refl _ _)))
    (first
      | (go_at_call 107; refine (sLoad _ b _ (H1.out.ext (by first | assumption | exact Below.drew (Below.refl _ _))) HG.out).mono ?_; rintro e w1 ⟨v1, rfl, hv1, hE1⟩; have h01 : Ext (w.alloc (.cells #[.int .i64 t.id, nv] 64)) w1 := Ext.trans (by first | assumption | exact Below.drew (Below.refl _ _)) hE1)
      | (go_at_call 106; refine (sAdd _ _ (loadL b) t.need 1 _ (by assumption) (H2.out.ext (by assumption)) HL.out HN.out.1 HB.out (HN.out.2.mono (by omega)) (.inl rfl)).mono ?_; rintro e w2 ⟨v2, rfl, hv2, hE2⟩; have h02 : Ext (w.alloc (.cells #[.int .i64 t.id, nv] 64)) w2 := Ext.trans (by assumption) hE2)
      | (go_at_call 121; refine (sFits _ _ (addL (loadL b) t.need 1) room _ (by assumption) (H3.out.ext (by assumption)) (addL_len _ _ _) HLR.out).mono ?_; rintro e w3 ⟨rfl, n3, rfl⟩; have h03 : Ext (w.alloc (.cells #[.int .i64 t.id, nv] 64)) (w2.drewN n3) := Ext.trans (by assumption) (Ext.drewN _ _)))
  go_wp2
  go_ret
  exact ⟨rfl, HX.out.trans (by assumption)⟩

theorem sL4Sum (v : Value) (xs : List Int) (w : World) (h : RI w v xs) (hb : Bd 100000 xs) (hl : xs.length ≤ 1000) :
    Calls Try.prog 105 #[v] w fun e w' => e = .returned (.int .i64 (sumL xs)) ∧ ∃ n, w' = w.drewN n := by
  obtain ⟨A, c, rfl, hc, hc', hr⟩ := h.get
  clear h
  go_enter Try.func105, Try.ntmps105
  go_wp2
  go_loopw [3, 4] (fun s i wr => ∃ (k : Nat) (t : Int), k ≤ xs.length ∧ i = .int .i64 k ∧ s = .int .i64 t ∧ Hid (t = sumL (xs.take k)) ∧ -100000 * (k : Int) ≤ t ∧ t ≤ 100000 * (k : Int) ∧ ∃ n, wr = w.drewN n) (fun _ i _ => xs.length - (intOf i).toNat)
  case atStart => exact ⟨0, 0, Nat.zero_le _, rfl, rfl, rfl, by omega, by omega, 0, rfl⟩
  case round =>
    obtain ⟨k, t, hk, rfl, rfl, H, ht1, ht2, n, rfl⟩ := hrel
    by_cases hlt : k < xs.length
    · obtain ⟨b, o, x, rfl, e, hcell⟩ := hr k hlt
      have hx := hb.at_ e
      go_wp2
      go_roundw
      case rel =>
        refine ⟨k + 1, t + x, by omega, by go_num, by first | rfl | go_num, ?_, by omega, by omega, _, rfl⟩
        have := H.out
        subst this
        show sumL (xs.take k) + x = sumL (xs.take (k + 1))
        rw [take_snoc e.out]; simp [sumL]
      case measure => simp [intOf]; omega
    · go_wp2
      go_ret
      have hk' : k = xs.length := by omega
      subst hk'
      have H1 := H.out
      rw [List.take_length] at H1
      exact ⟨ret_i H1, _, rfl⟩

end Go.Proofs.Ytfgibhdglbjadaa
