/- The reference's moves: done, one and many. -/
import Derived.Test.YtibpijjigopdjaaDoorK6
namespace Go.Proofs.YtibpijjigopdjaaDoor
open Go.RowKit
set_option maxRecDepth 4000

set_option maxHeartbeats 4000000 in
theorem sDo (v : Value) (bs : List (List TaskD)) (mid mto : Int) (w : World) (h : RB w v bs) (hl : bs.length ≤ 3000000) (hb : ∀ b ∈ bs, b.length ≤ 4000000 ∧ ∀ t ∈ b, t.need.length ≤ 4000000) (ht : 0 ≤ mto) (htl : mto < bs.length) :
    Calls Tryd.prog 57 #[v, .agg #[.int .i64 mid, .int .i64 mto]] w (RetRB w (doMove bs ⟨mid, mto⟩)) := by
  obtain ⟨t, rfl⟩ : ∃ t : Nat, mto = (t : Int) := ⟨mto.toNat, by omega⟩
  have htn : t < bs.length := by omega
  obtain ⟨A, c, rfl, _⟩ := RB.get h
  obtain ⟨W, hW⟩ : ∃ W, W = w.alloc (.cells #[.int .i64 mid, .int .i64 (t : Int)] 32) := ⟨_, rfl⟩
  have hEW : Ext w W := by rw [hW]; exact Ext.alloc _ _
  have hbx : W.heap[w.heap.size]? = some (.cells #[.int .i64 mid, .int .i64 (t : Int)] 32 (0, 0)) := by rw [hW]; exact heap_alloc_new _ _
  have KB : Hid (∀ w', Ext W w' → w'.cell? ⟨w.heap.size, 0, none⟩ = some (.int .i64 mid) ∧ w'.cell? ⟨w.heap.size, 1, none⟩ = some (.int .i64 (t : Int))) := hid fun w' hw => ⟨obj_cell (hw.obj hbx) (i := 0) rfl, obj_cell (hw.obj hbx) (i := 1) rfl⟩
  obtain ⟨hb0, hb1⟩ := KB.out _ (Ext.refl _)
  obtain ⟨x, hx⟩ : ∃ x, lastL mid bs.flatten = x := ⟨_, rfl⟩
  have HX := hid hx
  have HD : Hid (doMove bs ⟨mid, (t : Int)⟩ = (takeBs bs mid).set t (takeL mid bs[t] ++ [x])) := hid (by
    unfold doMove putL
    rw [if_neg (by show ¬ (t : Int) < 0; omega)]
    show (takeBs bs mid).set t ((takeBs bs mid).getD t [] ++ [lastL mid bs.flatten]) = _
    rw [hx, List.getD_eq_getElem?_getD]
    unfold takeBs
    rw [List.getElem?_map, List.getElem?_eq_getElem htn]
    rfl)
  have HT : Hid ((takeBs bs mid)[t]? = some (takeL mid bs[t])) := hid (by unfold takeBs; rw [List.getElem?_map, List.getElem?_eq_getElem htn]; rfl)
  have HXL : Hid (x.need.length ≤ 4000000) := hid (by
    by_cases hm : x ∈ bs.flatten
    · obtain ⟨b, hbm, hxb⟩ := List.mem_flatten.1 hm
      exact (hb b hbm).2 x hxb
    · have : x = ⟨0, []⟩ := by
        rw [← hx]
        have key : ∀ (ts : List TaskD) (acc : TaskD), ts.foldl (fun x t => if t.id == mid then t else x) acc = acc ∨ ts.foldl (fun x t => if t.id == mid then t else x) acc ∈ ts := by
          intro ts
          induction ts with
          | nil => intro acc; exact .inl rfl
          | cons t ts ih =>
            intro acc
            rw [List.foldl_cons]
            rcases ih (if t.id == mid then t else acc) with h1 | h1
            · rw [h1]
              split
              · exact .inr (by simp)
              · exact .inl rfl
            · exact .inr (List.mem_cons_of_mem _ h1)
        rcases key bs.flatten ⟨0, []⟩ with h1 | h1
        · exact h1
        · exact absurd (by rw [← hx]; exact h1) hm
      rw [this]; simp)
  have HBL : Hid ((takeBs bs mid).length ≤ 3000000) := hid (by unfold takeBs; rw [List.length_map]; exact hl)
  have HBB : Hid (∀ b ∈ takeBs bs mid, b.length ≤ 4000000 ∧ ∀ t ∈ b, t.need.length ≤ 4000000) := hid (fun b hm => by
    obtain ⟨d, hd, rfl⟩ := List.mem_map.1 hm
    exact ⟨Nat.le_trans (List.length_filter_le _ _) (hb d hd).1, fun t ht => (hb d hd).2 t (List.mem_filter.1 ht).1⟩)
  have HB0 := hid hb
  have HB := hid (RB.ext h hEW)
  have HEW := hid hEW
  clear h hbx hEW hx hb ht htl
  go_enter Tryd.func57, Tryd.ntmps57
  go_wp2_with (first
    | (go_at_call 88; rw [← hW]; refine (sTake _ bs mid _ HB.out (by omega) (fun d hd => (HB0.out d hd).1)).mono ?_; rw [HX.out]; rintro e w3 ⟨bv, ps, A3, c3, rfl, ho, hp, _, hri, hE3⟩; have hx4 := Ext.alloc w3 (.cells #[.int .i64 x.id, .slice A3 x.need.length c3] 44); have HZ := hid (heap_alloc_new w3 (.cells #[.int .i64 x.id, .slice A3 x.need.length c3] 44)); have HX3 := hid (RI.ext hri hx4); have HP3 : Hid (RB (w3.alloc (.cells #[.int .i64 x.id, .slice A3 x.need.length c3] 44)) bv (takeBs bs mid)) := hid (by have h3 := RB.ext (OBV.read ho) hx4; rw [hp] at h3; exact h3); have HE3 := hid (hE3.trans hx4); obtain ⟨hb0, hb1⟩ := KB.out _ HE3.out; have z0 := obj_cell HZ.out (i := 0) rfl; have z1 := obj_cell HZ.out (i := 1) rfl; clear ho hp hri hE3 hx4 hW)
    | (go_at_call 89; refine (sPutAt _ _ (takeBs bs mid) t (takeL mid bs[t]) x _ HP3.out ⟨_, rfl, HX3.out⟩ HBL.out HBB.out HXL.out HT.out).mono ?_; rintro e w4 ⟨v4, rfl, hr4, hE4⟩; have HR4 := hid hr4; have HE4 := hid hE4; clear hr4 hE4))
  go_ret
  exact ⟨_, rfl, by rw [HD.out]; exact HR4.out, HEW.out.trans (HE3.out.trans HE4.out)⟩

/-- nodes that are small -/
theorem bins_rows {room : List Int} {bs : List (List TaskD)} (h : binsOk room bs = true) : bs.length ≤ 3000000 ∧ bs.flatten.length ≤ 4000000 ∧ ∀ b ∈ bs, b.length ≤ 4000000 ∧ ∀ t ∈ b, t.need.length ≤ 4000000 := by
  obtain ⟨_, h2, h3, h4⟩ := bins_small h
  exact ⟨by omega, by omega, fun b hb => ⟨by have := (h4 b hb).2.1; omega, fun t ht => by have := ((h4 b hb).2.2 t ht).1; omega⟩⟩
theorem can_to {room : List Int} {bs : List (List TaskD)} {mid mto : Int} (h : canMove room bs ⟨mid, mto⟩ = true) : 0 ≤ mto ∧ mto < bs.length := by
  unfold canMove inB at h
  simp only [Bool.and_eq_true, decide_eq_true_eq] at h
  omega

/-- nodes and a bool -/
def RetMB (w : World) (r : List (List TaskD) × Bool) (e : Ending) (w' : World) : Prop := ∃ v, e = .returned (.tuple #[v, .bool r.2]) ∧ RB w' v r.1 ∧ Ext w w'
/-- nodes and a number -/
def RetMN (w : World) (r : List (List TaskD) × Int) (e : Ending) (w' : World) : Prop := ∃ v, e = .returned (.tuple #[v, .int .i64 r.2]) ∧ RB w' v r.1 ∧ Ext w w'

set_option maxHeartbeats 4000000 in
theorem sMoveDo (rv v : Value) (room : List Int) (bs : List (List TaskD)) (mid mto : Int) (w : World) (hR : RI w rv room) (h : RB w v bs) (hfl : bs.flatten.length ≤ 4000000) :
    Calls Tryd.prog 24 #[rv, v, .agg #[.int .i64 mid, .int .i64 mto]] w (RetMB w (moveDo room bs ⟨mid, mto⟩)) := by
  have HR0 := hid hR
  have HB00 := hid h
  obtain ⟨Ar, cr, rfl, _⟩ := hR
  obtain ⟨A, c, rfl, _⟩ := h
  obtain ⟨W, hW⟩ : ∃ W, W = w.alloc (.cells #[.int .i64 mid, .int .i64 mto] 32) := ⟨_, rfl⟩
  have hEW : Ext w W := by rw [hW]; exact Ext.alloc _ _
  have hbx : W.heap[w.heap.size]? = some (.cells #[.int .i64 mid, .int .i64 mto] 32 (0, 0)) := by rw [hW]; exact heap_alloc_new _ _
  have KB : Hid (∀ w', Ext W w' → w'.cell? ⟨w.heap.size, 0, none⟩ = some (.int .i64 mid) ∧ w'.cell? ⟨w.heap.size, 1, none⟩ = some (.int .i64 mto)) := hid fun w' hw => ⟨obj_cell (hw.obj hbx) (i := 0) rfl, obj_cell (hw.obj hbx) (i := 1) rfl⟩
  obtain ⟨hb0, hb1⟩ := KB.out _ (Ext.refl _)
  have HB := hid (RB.ext HB00.out hEW)
  have HR := hid (RI.ext HR0.out hEW)
  have HEW := hid hEW
  clear hbx hEW
  have A1 : ∀ {b : Bool}, binsOk room bs = b → True := fun _ => trivial
  clear A1
  by_cases h1 : binsOk room bs = true
  · have HV := hid h1
    by_cases h2 : canMove room bs ⟨mid, mto⟩ = true
    · have HRS : Hid (moveDo room bs ⟨mid, mto⟩ = (doMove bs ⟨mid, mto⟩, true)) := hid (by unfold moveDo; rw [h1, h2]; rfl)
      have HTO := hid (can_to h2)
      go_enter Tryd.func24, Tryd.ntmps24
      go_wp2_with (first
        | (go_at_call 20; rw [← hW]; refine (sBinsValid _ _ room bs _ HR.out HB.out hfl).mono ?_; rintro e w1 ⟨rfl, hE1⟩; rw [h1]; have HE1 := hid hE1; obtain ⟨hb0, hb1⟩ := KB.out _ HE1.out; clear hE1 hW)
        | (go_at_call 67; refine (sCan _ _ room bs mid mto _ (RI.ext HR.out HE1.out) (RB.ext HB.out HE1.out) HV.out).mono ?_; rintro e w2 ⟨rfl, hE2⟩; rw [h2]; have HE2 := hid (HE1.out.trans hE2); obtain ⟨hb0, hb1⟩ := KB.out _ HE2.out; clear hE2)
        | (go_at_call 57; refine (sDo _ bs mid mto _ (RB.ext HB.out HE2.out) (bins_rows HV.out).1 (bins_rows HV.out).2.2 HTO.out.1 HTO.out.2).mono ?_; rintro e w3 ⟨v3, rfl, hr3, hE3⟩; have HR3 := hid hr3; have HE3 := hid (HE2.out.trans hE3); clear hr3 hE3))
      refine bodyPost_ret (results_tmp2 rfl _ _ _) rfl ?_
      exact ⟨v3, by rw [HRS.out]; rfl, by rw [HRS.out]; exact HR3.out, HEW.out.trans HE3.out⟩
    · have h2 : canMove room bs ⟨mid, mto⟩ = false := by simpa using h2
      have HRS : Hid (moveDo room bs ⟨mid, mto⟩ = ([], false)) := hid (by unfold moveDo; rw [h1, h2]; rfl)
      go_enter Tryd.func24, Tryd.ntmps24
      go_wp2_with (first
        | (go_at_call 20; rw [← hW]; refine (sBinsValid _ _ room bs _ HR.out HB.out hfl).mono ?_; rintro e w1 ⟨rfl, hE1⟩; rw [h1]; have HE1 := hid hE1; obtain ⟨hb0, hb1⟩ := KB.out _ HE1.out; clear hE1 hW)
        | (go_at_call 67; refine (sCan _ _ room bs mid mto _ (RI.ext HR.out HE1.out) (RB.ext HB.out HE1.out) HV.out).mono ?_; rintro e w2 ⟨rfl, hE2⟩; rw [h2]; have HE2 := hid (HE1.out.trans hE2); clear hE2))
      refine bodyPost_ret (results_tmp2 rfl _ _ _) rfl ?_
      exact ⟨.slice (some ⟨w2.heap.size, 0, none⟩) 0 0, by rw [HRS.out]; rfl, by rw [HRS.out]; exact RSl.nil_ _ _ _ _ _ 0 (by omega), (HEW.out.trans HE2.out).trans (Ext.alloc _ _)⟩
  · have h1 : binsOk room bs = false := by simpa using h1
    have HRS : Hid (moveDo room bs ⟨mid, mto⟩ = ([], false)) := hid (by unfold moveDo; rw [h1]; rfl)
    go_enter Tryd.func24, Tryd.ntmps24
    go_wp2_with (go_at_call 20; rw [← hW]; refine (sBinsValid _ _ room bs _ HR.out HB.out hfl).mono ?_; rintro e w1 ⟨rfl, hE1⟩; rw [h1]; have HE1 := hid hE1; obtain ⟨hb0, hb1⟩ := KB.out _ HE1.out; clear hE1 hW)
    refine bodyPost_ret (results_tmp2 rfl _ _ _) rfl ?_
    exact ⟨.slice (some ⟨w1.heap.size, 0, none⟩) 0 0, by rw [HRS.out]; rfl, by rw [HRS.out]; exact RSl.nil_ _ _ _ _ _ 0 (by omega), (HEW.out.trans HE1.out).trans (Ext.alloc _ _)⟩

end Go.Proofs.YtibpijjigopdjaaDoor

/- The reference's moves one after the other; all moves that are possible. -/
namespace Go.Proofs.YtibpijjigopdjaaDoor
open Go.RowKit
set_option maxRecDepth 4000

/-- moves in memory -/
def EM : Enc MoveD := fun _ cs m => cs = [.int .i64 m.id, .int .i64 m.to]
theorem EM.mk (w : World) (a b : Int) : EM w [.int .i64 a, .int .i64 b] ⟨a, b⟩ := rfl
theorem EM.ok : EM.Ok (fun _ => False) := fun _ _ _ _ h _ => h
theorem EM.okx : EM.OkX := fun _ _ _ _ h _ => h
theorem EM.flat : EM.Flat := fun _ _ _ h u hu => by rw [h] at hu; simp at hu; rcases hu with rfl | rfl <;> rfl
theorem EM.ne : ∀ t, (fun _ => False) t → t ≠ 32 := fun _ h => h.elim
abbrev RM := RSl 32 2 EM
abbrev OM := Own 32 2 EM
theorem RM.same {w w' : World} {v : Value} {xs : List MoveD} (h : RM w v xs) (ha : SameT (fun t => t = 32) w w') : RM w' v xs := RSl.same_ EM.ok h (ha.mono fun t ht => by rcases ht with h | h; exact h; cases h)
theorem RM.ext {w w' : World} {v : Value} {xs : List MoveD} (h : RM w v xs) (ha : Ext w w') : RM w' v xs := h.same (ha.same _)
theorem RM.get {w : World} {v : Value} {xs : List MoveD} (h : RM w v xs) : ∃ A c, v = .slice A xs.length c ∧ xs.length ≤ c ∧ c ≤ 9223372036854775807 ∧
    ∀ (j : Nat), j < xs.length → ∃ b o x, A = some ⟨b, o, none⟩ ∧ Hid (xs[j]? = some x) ∧ w.cell? ⟨b, o + j * 2, none⟩ = some (.int .i64 x.id) ∧ w.cell? ⟨b, o + j * 2 + 1, none⟩ = some (.int .i64 x.to) := by
  obtain ⟨A, c, hv, h1, h2, h⟩ := RSl.get_ h
  refine ⟨A, c, hv, h1, h2, fun j hj => ?_⟩
  obtain ⟨b, o, x, cs, hA, hx, _, he, hc⟩ := h j hj
  subst he
  exact ⟨b, o, x, hA, hx, by simpa using hc 0 _ rfl, by simpa [Nat.add_assoc] using hc 1 _ rfl⟩
theorem info_move : (Tryd.prog.info? 32).map (fun i => (i.zero, i.size, i.bytes)) = some (some (.agg #[.int .i64 0, .int .i64 0]), 2, 16) := by kernel_rfl

set_option maxHeartbeats 4000000 in
theorem sMovesDo (rv v lv : Value) (room : List Int) (bs : List (List TaskD)) (ms : List MoveD) (w : World) (hR : RI w rv room) (h : RB w v bs) (hm : RM w lv ms) (hfl : bs.flatten.length ≤ 4000000) :
    Calls Tryd.prog 43 #[rv, v, lv] w (RetMN w (movesDo room bs ms)) := by
  have HR := hid hR
  have HB := hid h
  obtain ⟨Ar, cr, rfl, _⟩ := hR
  obtain ⟨A, c, rfl, _⟩ := h
  obtain ⟨Am, cm, rfl, hcm, hcm', hg⟩ := hm.get
  clear hm
  by_cases h1 : binsOk room bs = true
  · have HV := hid h1
    by_cases h2 : ms.length ≤ 20
    · have HRS : Hid (movesDo room bs ms = ((movesRun room bs ms).1, ((movesRun room bs ms).2 : Int))) := hid (by unfold movesDo; rw [h1, decide_eq_true h2]; rfl)
      have i20 : ¬ (20 : Int) < (ms.length : Int) := by omega
      go_enter Tryd.func43, Tryd.ntmps43
      go_wp2_with (first
        | (go_at_call 20; refine (sBinsValid _ _ room bs _ HR.out HB.out hfl).mono ?_; rintro e w1 ⟨rfl, hE1⟩; rw [h1]; have HE1 := hid hE1; clear hE1)
        | (go_at_call 81; refine (sBins2 _ bs _ (RB.ext HB.out HE1.out) (Nat.le_trans (bins_rows HV.out).1 (by omega)) (bins_rows HV.out).2.2).mono ?_; rintro e w2 ⟨bv, ps, rfl, ho, hp, _, hE2⟩; have HO2 := hid (OBV.read ho); rw [hp] at HO2; have HE2 := hid (HE1.out.trans hE2); clear ho hp hE2))
      go_loopw [8, 9] (fun o i wr => ∃ (u : Value) (k : Nat) (cur : List (List TaskD)), u = o ∧ k ≤ ms.length ∧ i = .int .i64 k ∧ Hid (RB wr u cur ∧ movesRun room bs (ms.take k) = (cur, k) ∧ binsOk room cur = true ∧ Ext w wr)) (fun _ i _ => ms.length - (intOf i).toNat)
      case atStart => exact ⟨_, 0, bs, rfl, Nat.zero_le _, rfl, hid ⟨HO2.out, rfl, HV.out, HE2.out⟩⟩
      case round =>
        obtain ⟨u, k, cur, rfl, hk, rfl, H⟩ := hrel
        have HU := hid H.out.1
        have HM := hid H.out.2.1
        have HVC := hid H.out.2.2.1
        have HE := hid H.out.2.2.2
        clear H
        obtain ⟨Au, cu, hu, _⟩ := HU.out
        subst hu
        by_cases hlt : k < ms.length
        · obtain ⟨b, o, x, rfl, e, c1, c2⟩ := hg k hlt
          have i1 : (k : Int) < (ms.length : Int) := by omega
          have c1r := HE.out.cell c1
          have c2r := HE.out.cell c2
          have C1 := hid c1
          have C2 := hid c2
          clear c1 c2
          obtain ⟨xid, xto⟩ := x
          by_cases hc : canMove room cur ⟨xid, xto⟩ = true
          · have HTO := hid (can_to hc)
            have HC := hid hc
            go_wp2_with (first
              | (go_at_call 67; refine (sCan _ _ room cur xid xto _ (RI.ext HR.out HE.out) HU.out HVC.out).mono ?_; rintro e w4 ⟨rfl, hE4⟩; rw [hc]; have HE4 := hid hE4; have c1r := (HE.out.trans hE4).cell C1.out; have c2r := (HE.out.trans hE4).cell C2.out; clear hE4)
              | (go_at_call 57; refine (sDo _ cur xid xto _ (RB.ext HU.out HE4.out) (bins_rows HVC.out).1 (bins_rows HVC.out).2.2 HTO.out.1 HTO.out.2).mono ?_; rintro e w5 ⟨v5, rfl, hr5, hE5⟩; have HR5 := hid hr5; have HE5 := hid (HE4.out.trans hE5); clear hr5 hE5))
            go_roundw
            case rel => exact ⟨_, k + 1, doMove cur ⟨xid, xto⟩, rfl, by omega, by go_num, hid ⟨HR5.out, run_step e.out HM.out HC.out, move_valid HVC.out HC.out, HE.out.trans HE5.out⟩⟩
            case measure => simp [intOf]; omega
          · have hc : canMove room cur ⟨xid, xto⟩ = false := by simpa using hc
            have HC := hid hc
            go_wp2_with (go_at_call 67; refine (sCan _ _ room cur xid xto _ (RI.ext HR.out HE.out) HU.out HVC.out).mono ?_; rintro e w4 ⟨rfl, hE4⟩; rw [hc]; have HE4 := hid hE4; clear hE4)
            refine bodyPost_ret (results_tmp2 rfl _ _ _) rfl ?_
            have hend := run_end e.out HM.out HC.out
            exact ⟨_, by rw [HRS.out, hend]; rfl, by rw [HRS.out, hend]; exact RB.ext HU.out HE4.out, HE.out.trans HE4.out⟩
        · have hk' : k = ms.length := by omega
          have HK := hid hk'
          clear hk'
          go_wp2
          refine bodyPost_ret (results_tmp2 rfl _ _ _) rfl ?_
          have hend := HM.out
          rw [HK.out, List.take_length] at hend
          exact ⟨_, by rw [HRS.out, hend]; rfl, by rw [HRS.out, hend]; exact HU.out, HE.out⟩
    · have HRS : Hid (movesDo room bs ms = ([], -1)) := hid (by unfold movesDo; rw [h1, decide_eq_false h2]; rfl)
      have i20 : (20 : Int) < (ms.length : Int) := by omega
      go_enter Tryd.func43, Tryd.ntmps43
      go_wp2_with (go_at_call 20; refine (sBinsValid _ _ room bs _ HR.out HB.out hfl).mono ?_; rintro e w1 ⟨rfl, hE1⟩; rw [h1]; have HE1 := hid hE1; clear hE1)
      refine bodyPost_ret (results_tmp2 rfl _ _ _) rfl ?_
      exact ⟨.slice (some ⟨w1.heap.size, 0, none⟩) 0 0, by rw [HRS.out]; rfl, by rw [HRS.out]; exact RSl.nil_ _ _ _ _ _ 0 (by omega), HE1.out.trans (Ext.alloc _ _)⟩
  · have h1 : binsOk room bs = false := by simpa using h1
    have HRS : Hid (movesDo room bs ms = ([], -1)) := hid (by unfold movesDo; rw [h1]; rfl)
    go_enter Tryd.func43, Tryd.ntmps43
    go_wp2_with (go_at_call 20; refine (sBinsValid _ _ room bs _ HR.out HB.out hfl).mono ?_; rintro e w1 ⟨rfl, hE1⟩; rw [h1]; have HE1 := hid hE1; clear hE1)
    refine bodyPost_ret (results_tmp2 rfl _ _ _) rfl ?_
    exact ⟨.slice (some ⟨w1.heap.size, 0, none⟩) 0 0, by rw [HRS.out]; rfl, by rw [HRS.out]; exact RSl.nil_ _ _ _ _ _ 0 (by omega), HE1.out.trans (Ext.alloc _ _)⟩

end Go.Proofs.YtibpijjigopdjaaDoor

/- The reference's list of all moves that are possible. -/
namespace Go.Proofs.YtibpijjigopdjaaDoor
open Go.RowKit
set_option maxRecDepth 4000

def mvRow (room : List Int) (bs : List (List TaskD)) (x : TaskD) (n : Nat) : List MoveD := ((List.range n).filter fun (j : Nat) => canMove room bs ⟨x.id, (j : Int)⟩).map fun (j : Nat) => ⟨x.id, (j : Int)⟩
def mvTo (room : List Int) (bs : List (List TaskD)) (ts : List TaskD) : List MoveD := ts.flatMap fun x => mvRow room bs x bs.length
theorem mvRow_succ (room : List Int) (bs : List (List TaskD)) (x : TaskD) (n : Nat) : mvRow room bs x (n + 1) = if canMove room bs ⟨x.id, (n : Int)⟩ then mvRow room bs x n ++ [⟨x.id, (n : Int)⟩] else mvRow room bs x n := by
  unfold mvRow
  rw [List.range_succ, List.filter_append, List.map_append]
  by_cases h : canMove room bs ⟨x.id, (n : Int)⟩ = true
  · rw [if_pos h]; simp [h]
  · rw [if_neg h]; simp [h]
theorem mvRow_len (room : List Int) (bs : List (List TaskD)) (x : TaskD) (n : Nat) : (mvRow room bs x n).length ≤ n := by
  unfold mvRow
  rw [List.length_map]
  exact Nat.le_trans (List.length_filter_le _ _) (by simp)
theorem mvTo_len (room : List Int) (bs : List (List TaskD)) : ∀ (ts : List TaskD), (mvTo room bs ts).length ≤ ts.length * bs.length
  | [] => by simp [mvTo]
  | t :: ts => by
    have ih := mvTo_len room bs ts
    have h1 := mvRow_len room bs t bs.length
    unfold mvTo at ih ⊢
    rw [List.flatMap_cons, List.length_append, List.length_cons, Nat.add_mul]
    omega
theorem mvTo_succ (room : List Int) (bs : List (List TaskD)) {ts : List TaskD} {k : Nat} {x : TaskD} (h : ts[k]? = some x) : mvTo room bs (ts.take (k + 1)) = mvTo room bs (ts.take k) ++ mvRow room bs x bs.length := by
  unfold mvTo
  rw [take_snoc h, List.flatMap_append]
  simp
theorem movesOf_eq {room : List Int} {bs : List (List TaskD)} (h : binsOk room bs = true) : movesOf room bs = mvTo room bs bs.flatten := by unfold movesOf; rw [if_pos h]; rfl
theorem movesOf_len (room : List Int) (bs : List (List TaskD)) : (movesOf room bs).length ≤ 200 := by
  by_cases h : binsOk room bs = true
  · rw [movesOf_eq h]
    have h1 := mvTo_len room bs bs.flatten
    obtain ⟨_, h2, h3, _⟩ := bins_small h
    have : bs.flatten.length * bs.length ≤ 14 * 14 := Nat.mul_le_mul h3 h2
    omega
  · unfold movesOf
    rw [if_neg h]
    simp

def RetRM (w : World) (xs : List MoveD) (e : Ending) (w' : World) : Prop := ∃ v, e = .returned v ∧ RM w' v xs ∧ Ext w w'

set_option maxHeartbeats 8000000 in
theorem sMovesOf (rv v : Value) (room : List Int) (bs : List (List TaskD)) (w : World) (hR : RI w rv room) (h : RB w v bs) (hfl : bs.flatten.length ≤ 4000000) :
    Calls Tryd.prog 63 #[rv, v] w (RetRM w (movesOf room bs)) := by
  have HX0 := hid (Ext.alloc w (.cells #[] 32))
  have HRW := hid hR
  have HBW := hid h
  have HR := hid (RI.ext hR HX0.out)
  have HB := hid (RB.ext h HX0.out)
  have HM0 : Hid (OM (w.alloc (.cells #[] 32)) w.heap.size (.slice (some ⟨w.heap.size, 0, none⟩) 0 0) []) := hid (Own.made #[] 0 (Nat.le_refl _) (by omega) rfl)
  obtain ⟨Ar, cr, rfl, _⟩ := hR
  obtain ⟨A, c, rfl, _⟩ := h
  by_cases h1 : binsOk room bs = true
  · have HV := hid h1
    have HS := hid (bins_small h1)
    obtain ⟨i0_move, hi0_move, hz0_move, hz1_move, hz2_move⟩ := info_parts info_move
    have hl14 : bs.length ≤ 14 := (bins_small h1).2.1
    go_enter Tryd.func63, Tryd.ntmps63
    go_wp2_with (first
      | (go_at_call 20; refine (sBinsValid _ _ room bs _ HR.out HB.out hfl).mono ?_; rintro e w1 ⟨rfl, hE1⟩; rw [h1]; have HE1 := hid hE1; clear hE1)
      | (go_at_call 59; refine (sAll _ bs _ (RB.ext HB.out HE1.out) hfl).mono ?_; rintro e w2 ⟨av, rfl, ho, hE2⟩; have HA0 := hid ho.read; have HE2 := hid (HE1.out.trans hE2); clear ho hE2))
    obtain ⟨Aa, ca, hav, hca, hca', hga⟩ := RT.get HA0.out
    subst hav
    have HM2 := hid (HM0.out.ext EM.ok HE2.out)
    have HEW2 := hid (HX0.out.trans HE2.out)
    have HGA := hid hga
    clear hga
    obtain ⟨ts, hts⟩ : ∃ ts, ts = bs.flatten := ⟨_, rfl⟩
    have hts14 : ts.length ≤ 14 := by rw [hts]; exact HS.out.2.2.1
    have HTS := hid hts
    rw [← hts] at HGA HA0 ⊢
    rw [← hts] at hca
    clear hts
    go_loopw [5, 7] (fun o i wr => ∃ (u : Value) (k : Nat), u = o ∧ k ≤ ts.length ∧ i = .int .i64 k ∧ Hid (OM wr w.heap.size u (mvTo room bs (ts.take k)) ∧ Ext w wr ∧ RT wr (.slice Aa ts.length ca) ts)) (fun _ i _ => ts.length - (intOf i).toNat)
    case atStart => exact ⟨_, 0, rfl, Nat.zero_le _, rfl, hid ⟨HM2.out, HEW2.out, HA0.out⟩⟩
    case round =>
      obtain ⟨u, k, rfl, hk, rfl, H⟩ := hrel
      by_cases hlt : k < ts.length
      · obtain ⟨x, e⟩ : ∃ x, Hid (ts[k]? = some x) := ⟨_, hid (List.getElem?_eq_getElem hlt)⟩
        have HRA := hid H.out.2.2
        have i1 : (k : Int) < (ts.length : Int) := by omega
        go_wp2
        go_loopw [5, 8] (fun o i w3 => ∃ (u2 : Value) (j : Nat), u2 = o ∧ j ≤ bs.length ∧ i = .int .i64 j ∧ Hid (OM w3 w.heap.size u2 (mvTo room bs (ts.take k) ++ mvRow room bs x j) ∧ Ext w w3 ∧ RT w3 (.slice Aa ts.length ca) ts)) (fun _ i _ => bs.length - (intOf i).toNat)
        case atStart => exact ⟨_, 0, rfl, Nat.zero_le _, rfl, hid ⟨by rw [show mvRow room bs x 0 = [] from rfl, List.append_nil]; exact H.out.1, H.out.2⟩⟩
        case round =>
          obtain ⟨u2, j, rfl, hj, rfl, HH⟩ := hrel
          by_cases hjt : j < bs.length
          · have j1 : (j : Int) < (bs.length : Int) := by omega
            obtain ⟨A', c', hv', _, _, hgt⟩ := RT.get HH.out.2.2
            injection hv' with e1 _ e3
            subst e1 e3
            obtain ⟨b, o, x', An, cn, rfl, e', c1r, _, _⟩ := hgt k hlt
            have hxx : x = x' := by have a := e'.out; rw [e.out] at a; injection a
            subst hxx
            have HO := hid HH.out.1
            have HE := hid HH.out.2.1
            have HRT := hid HH.out.2.2
            clear hgt
            have HLEN : Hid ((mvTo room bs (ts.take k) ++ mvRow room bs x j).length ≤ 1000) := hid (by
              have a1 := mvTo_len room bs (ts.take k)
              have a2 := mvRow_len room bs x j
              have a3 : (ts.take k).length ≤ 14 := by rw [List.length_take]; omega
              have a4 : (ts.take k).length * bs.length ≤ 14 * 14 := Nat.mul_le_mul a3 hl14
              rw [List.length_append]
              omega)
            clear H HH
            by_cases hc : canMove room bs ⟨x.id, (j : Int)⟩ = true
            · have HC := hid hc
              go_wp2_with (first
                | (go_at_call 67; obtain ⟨W4, hW4⟩ : ∃ W4, W4 = wr.alloc (.cells #[.int .i64 x.id, .int .i64 (j : Int)] 32) := ⟨_, rfl⟩; have hE4 : Ext wr W4 := (by rw [hW4]; exact Ext.alloc _ _); have HX4 : Hid (W4.heap[wr.heap.size]? = some (.cells #[.int .i64 x.id, .int .i64 (j : Int)] 32 (0, 0))) := hid (by rw [hW4]; exact heap_alloc_new _ _); have HE4 := hid (HE.out.trans hE4); rw [← hW4]; refine (sCan _ _ room bs x.id (j : Int) _ (RI.ext HRW.out HE4.out) (RB.ext HBW.out HE4.out) HV.out).mono ?_; rintro e w5 ⟨rfl, hE5⟩; rw [hc]; have HE5 := hid (hE4.trans hE5); have b0 := obj_cell (hE5.obj HX4.out) (i := 0) rfl; have b1 := obj_cell (hE5.obj HX4.out) (i := 1) rfl; have HO6 := hid (HO.out.ext EM.ok (HE5.out.trans (Ext.alloc w5 (.cells #[.int .i64 x.id, .int .i64 (j : Int)] 32)))); have hsz6 : w.heap.size ≤ w5.heap.size := (HE.out.trans HE5.out).size; clear hE4 hE5 hW4)
                | (at_builtin; refine wpList_append_sl _ (by rfl) _ _ 27 (by rfl) EM.ok EM.flat (w.heap.size) 32 EM.ne i0_move _ 2 16 Tryd.underlying27 hi0_move hz0_move hz1_move hz2_move rfl (by omega) _ (by rfl) _ (HO6.out) _ (by rfl) _ (RSl.laid (cs := [.int .i64 x.id, .int .i64 (j : Int)]) (heap_alloc_new _ _) rfl (EM.mk _ x.id (j : Int))) (by have := HLEN.out; simp at this; simp; omega) (by have := HLEN.out; simp at this; simp; omega) ?_ ?_; (focus (first | exact Nat.le_refl _ | (simp; done) | (simp; omega) | omega)); intro v6 w6 hO6 hg6 hat6 hs6; have HO7 := hid hO6; have HG7 := hid hg6; have HS7 := hid hs6; clear hO6 hg6 hat6 hs6))
              go_roundw
              case rel => exact ⟨_, j + 1, rfl, by omega, by go_num, hid ⟨by rw [mvRow_succ, if_pos HC.out, ← List.append_assoc]; exact HO7.out, Ext.grown (HE.out.trans (HE5.out.trans (Ext.alloc _ _))) HG7.out (fun q hq => Own.lt HO6.out q hq), RT.same (RT.ext HRT.out (HE5.out.trans (Ext.alloc _ _))) (HS7.out.mono (by rintro t (rfl | rfl) <;> decide))⟩⟩
              case measure => simp [intOf]; omega
            · have hc : canMove room bs ⟨x.id, (j : Int)⟩ = false := by simpa using hc
              have HC := hid hc
              go_wp2_with (go_at_call 67; obtain ⟨W4, hW4⟩ : ∃ W4, W4 = wr.alloc (.cells #[.int .i64 x.id, .int .i64 (j : Int)] 32) := ⟨_, rfl⟩; have hE4 : Ext wr W4 := (by rw [hW4]; exact Ext.alloc _ _); have HX4 : Hid (W4.heap[wr.heap.size]? = some (.cells #[.int .i64 x.id, .int .i64 (j : Int)] 32 (0, 0))) := hid (by rw [hW4]; exact heap_alloc_new _ _); have HE4 := hid (HE.out.trans hE4); rw [← hW4]; refine (sCan _ _ room bs x.id (j : Int) _ (RI.ext HRW.out HE4.out) (RB.ext HBW.out HE4.out) HV.out).mono ?_; rintro e w5 ⟨rfl, hE5⟩; rw [hc]; have HE5 := hid (hE4.trans hE5);  clear hE4 hE5 hW4)
              go_roundw
              case rel => exact ⟨_, j + 1, rfl, by omega, by go_num, hid ⟨by rw [mvRow_succ, if_neg (by rw [HC.out]; simp)]; exact HO.out.ext EM.ok HE5.out, HE.out.trans HE5.out, RT.ext HRT.out HE5.out⟩⟩
              case measure => simp [intOf]; omega
          · have hj' : j = bs.length := by omega
            have HJ := hid hj'
            clear hj'
            go_wp2
            go_roundw
            case rel => exact ⟨_, k + 1, rfl, by omega, by go_num, hid ⟨by rw [mvTo_succ _ _ e.out, ← HJ.out]; exact HH.out.1, HH.out.2⟩⟩
            case measure => simp [intOf]; omega
      · have hk' : k = ts.length := by omega
        have HK := hid hk'
        clear hk'
        obtain ⟨Au, cu, hu, _, _⟩ := H.out.1.form
        subst hu
        go_wp2
        go_ret
        have hr := H.out.1.read
        have he : mvTo room bs (ts.take k) = movesOf room bs := by rw [HK.out, List.take_length, HTS.out, ← movesOf_eq HV.out]
        exact ⟨_, rfl, by rw [← he]; exact hr, H.out.2.1⟩
  · have h1 : binsOk room bs = false := by simpa using h1
    have HRS : Hid (movesOf room bs = []) := hid (by unfold movesOf; rw [h1]; rfl)
    go_enter Tryd.func63, Tryd.ntmps63
    go_wp2_with (go_at_call 20; refine (sBinsValid _ _ room bs _ HR.out HB.out hfl).mono ?_; rintro e w1 ⟨rfl, hE1⟩; rw [h1]; have HE1 := hid hE1; clear hE1)
    go_ret
    exact ⟨_, rfl, by rw [HRS.out]; exact RM.ext HM0.out.read HE1.out, HX0.out.trans HE1.out⟩

end Go.Proofs.YtibpijjigopdjaaDoor
