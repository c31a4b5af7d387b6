/- The program's MoveDo and MovesDo. -/
import Derived.Test.YtibpijjigopdjaaDoorK9
import Derived.Test.YtibpijjigopdjaaDoorK10
import Derived.Test.YtibpijjigopdjaaDoorK4
import Derived.Test.YtibpijjigopdjaaDoorK2
namespace Go.Proofs.YtibpijjigopdjaaDoor
open Go.RowKit
set_option maxRecDepth 4000

theorem iMoveOk (rv v : Value) (room : List Int) (us : List BinW) (bs : List (List TaskD)) (mid mto : Int) (base : Nat) (a : Addr) (w : World) (hR : RI w rv room) (h : ODB w base v us) (hbs : us.map BinW.d = bs) (hnt : (rowBs us).Nodup) (hni : (binNs us).Nodup) (hv : binsOk room bs = true) (hga : w.cell? ⟨0, 0, none⟩ = some (errV a)) (hb0 : 0 < base) (hbz : base ≤ w.heap.size) (hc : canMove room bs ⟨mid, mto⟩ = true) :
    Calls Tryd.prog 66 #[rv, v, .agg #[.int .i64 mid, .int .i64 mto]] w fun e w' => e = .returned .nilIface ∧ ∃ us', ODB w' base v us' ∧ us'.map BinW.d = doMove bs ⟨mid, mto⟩ ∧ (rowBs us').Nodup ∧ (binNs us').Nodup ∧ Below base w w' ∧ SameT (fun t => t ≠ 44 ∧ t ≠ 41) w w' :=
  (iMove rv v room us bs mid mto base a w hR h hbs hnt hni hv hga hb0 hbz).mono (fun e w' hr => by
    rcases hr with ⟨_, h1, h2⟩ | ⟨h1, _⟩
    · exact ⟨h1, h2⟩
    · rw [hc] at h1; cases h1)
theorem iMoveNo (rv v : Value) (room : List Int) (us : List BinW) (bs : List (List TaskD)) (mid mto : Int) (base : Nat) (a : Addr) (w : World) (hR : RI w rv room) (h : ODB w base v us) (hbs : us.map BinW.d = bs) (hnt : (rowBs us).Nodup) (hni : (binNs us).Nodup) (hv : binsOk room bs = true) (hga : w.cell? ⟨0, 0, none⟩ = some (errV a)) (hb0 : 0 < base) (hbz : base ≤ w.heap.size) (hc : canMove room bs ⟨mid, mto⟩ = false) :
    Calls Tryd.prog 66 #[rv, v, .agg #[.int .i64 mid, .int .i64 mto]] w fun e w' => e = .returned (errV a) ∧ Ext w w' :=
  (iMove rv v room us bs mid mto base a w hR h hbs hnt hni hv hga hb0 hbz).mono (fun e w' hr => by
    rcases hr with ⟨h1, _⟩ | ⟨_, h1, h2⟩
    · rw [hc] at h1; cases h1
    · exact ⟨h1, h2⟩)
/-- nodes whose rows are all the call's own, and apart -/
def DB (w : World) (base : Nat) (v : Value) (bs : List (List TaskD)) : Prop := ∃ us, ODB w base v us ∧ us.map BinW.d = bs ∧ (rowBs us).Nodup ∧ (binNs us).Nodup
theorem DB.read {w : World} {base : Nat} {v : Value} {bs : List (List TaskD)} (h : DB w base v bs) : RB w v bs := by
  obtain ⟨us, h1, h2, _⟩ := h
  rw [← h2]; exact h1.read
theorem DB.ext {w w' : World} {base : Nat} {v : Value} {bs : List (List TaskD)} (h : DB w base v bs) (ha : Ext w w') : DB w' base v bs := let ⟨us, h1, h2⟩ := h; ⟨us, Own.ext (EDB.ok _) h1 ha, h2⟩
theorem DB.low {w : World} {base base' : Nat} {v : Value} {bs : List (List TaskD)} (h : DB w base v bs) (hb : base' ≤ base) : DB w base' v bs := let ⟨us, h1, h2⟩ := h; ⟨us, ODB.low h1 hb, h2⟩
theorem DB.none_ (w : World) (base : Nat) : DB w base (.slice none 0 0) [] := ⟨[], Own.none_ _ _ _ _ _, rfl, by simp [rowBs], by simp [binNs]⟩
def RetMBD (w : World) (r : List (List TaskD) × Bool) (e : Ending) (w' : World) : Prop := ∃ v, e = .returned (.tuple #[v, .bool r.2]) ∧ DB w' w.heap.size v r.1 ∧ Ext w w'
def RetMND (w : World) (r : List (List TaskD) × Int) (e : Ending) (w' : World) : Prop := ∃ v, e = .returned (.tuple #[v, .int .i64 r.2]) ∧ DB w' w.heap.size v r.1 ∧ Ext w w'

set_option maxHeartbeats 4000000 in
theorem iMoveDo (rv v : Value) (room : List Int) (bs : List (List TaskD)) (mid mto : Int) (a : Addr) (w : World) (hR : RI w rv room) (h : RB w v bs) (hfl : bs.flatten.length ≤ 4000000) (hid' : ∀ t ∈ bs.flatten, IdR t.id) (hga : w.cell? ⟨0, 0, none⟩ = some (errV a)) :
    Calls Tryd.prog 23 #[rv, v, .agg #[.int .i64 mid, .int .i64 mto]] w (RetMBD w (moveDo room bs ⟨mid, mto⟩)) := by
  have HR0 := hid hR
  have HB00 := hid h
  obtain ⟨Ar, cr, rfl, _⟩ := hR
  obtain ⟨A, c, rfl, _⟩ := h
  obtain ⟨W, hW⟩ : ∃ W, W = w.alloc (.cells #[.int .i64 mid, .int .i64 mto] 32) := ⟨_, rfl⟩
  have hEW : Ext w W := by rw [hW]; exact Ext.alloc _ _
  have hbx : W.heap[w.heap.size]? = some (.cells #[.int .i64 mid, .int .i64 mto] 32 (0, 0)) := by rw [hW]; exact heap_alloc_new _ _
  have hgW := hEW.cell hga
  have HZ0 : Hid (0 < W.heap.size ∧ w.heap.size < W.heap.size) := hid ⟨by have := obj_lt hbx; omega, obj_lt hbx⟩
  have KB : Hid (∀ w1 w', Ext W w1 → Below W.heap.size w1 w' → w'.cell? ⟨w.heap.size, 0, none⟩ = some (.int .i64 mid) ∧ w'.cell? ⟨w.heap.size, 1, none⟩ = some (.int .i64 mto) ∧ w'.cell? ⟨0, 0, none⟩ = some (errV a)) := hid fun w1 w' hw hw' => by
    have hx := Below.trans hw hw'
    exact ⟨obj_cell (Ext.obj hx hbx) (i := 0) rfl, obj_cell (Ext.obj hx hbx) (i := 1) rfl, Ext.cell hx hgW⟩
  have HB := hid (RB.ext HB00.out hEW)
  have HR := hid (RI.ext HR0.out hEW)
  have HEW := hid hEW
  clear hbx hEW hga hgW
  by_cases h1 : binsOk room bs = true
  · have HV := hid h1
    have HRW := hid (bins_rows h1)
    cases h2 : canMove room bs ⟨mid, mto⟩ with
    | true =>
      have HC := hid h2
      have HRS : Hid (moveDo room bs ⟨mid, mto⟩ = (doMove bs ⟨mid, mto⟩, true)) := hid (by unfold moveDo; rw [h1, h2]; rfl)
      clear h2
      go_enter Tryd.func23, Tryd.ntmps23
      go_wp2_with (first
        | (go_at_call 54; refine (iCopyBinsD _ bs _ (RB.ext HB.out HE1.out) (by have := HRW.out.1; omega) HRW.out.2.2).mono ?_; rintro e w2 ⟨v2, us, rfl, hO2, hD2, hT2, hN2, hE2⟩; have HO2 := hid (ODB.low (base' := W.heap.size) hO2 HE1.out.size); have HD2 := hid hD2; have HT2 := hid hT2; have HN2 := hid hN2; have HE2 := hid (HE1.out.trans hE2); clear hO2 hD2 hT2 hN2 hE2)
        | (go_at_call 28; rw [← hW]; refine (iBinsValid _ _ room bs _ HR.out HB.out hfl hid').mono ?_; rintro e w1 ⟨rfl, hE1⟩; rw [h1]; have HE1 := hid hE1; clear hE1 hW))
      have HD : Hid (Ext w2 w2.drew) := hid (Below.drew (Below.refl _ _))
      have HE2d := hid (HE2.out.trans HD.out)
      obtain ⟨pz, hpz⟩ : ∃ x, x = w2.drew := ⟨_, rfl⟩
      refine WG.start (fun w' => w'.cell? ⟨w.heap.size, 0, none⟩ = some (.int .i64 mid) ∧ w'.cell? ⟨w.heap.size, 1, none⟩ = some (.int .i64 mto) ∧ w'.cell? ⟨0, 0, none⟩ = some (errV a)) [5] (by kernel_rfl) (by exact KB.out _ _ HE2d.out (Below.refl _ _)) (fun hHeld => ?_)
      rw [← hpz] at hHeld HE2d HD ⊢
      clear hpz
      (refine WG.take (i := 0) (v := ?_) rfl (by kernel_rfl) (by kernel_rfl) (by kernel_rfl) (by kernel_rfl) (fun _ _ _ h => h) (Or.inl ⟨by rfl, ?_⟩) (by assumption) ?_; rotate_left; (intro w hSw; (try dsimp only at hSw); go_split_ands; go_simp; (try with_reducible rfl)); (try simp only [Act.put, List.setIfInBounds_toArray, List.set_cons_zero, List.set_cons_succ]))
      (refine WG.take (i := 1) (v := ?_) rfl (by kernel_rfl) (by kernel_rfl) (by kernel_rfl) (by kernel_rfl) (fun _ _ _ h => h) (Or.inl ⟨by rfl, ?_⟩) (by assumption) ?_; rotate_left; (intro w hSw; (try dsimp only at hSw); go_split_ands; go_simp; (try with_reducible rfl)); (try simp only [Act.put, List.setIfInBounds_toArray, List.set_cons_zero, List.set_cons_succ]))
      (refine WG.take (i := 2) (v := ?_) rfl (by kernel_rfl) (by kernel_rfl) (by kernel_rfl) (by kernel_rfl) (fun _ _ _ h => h) (Or.inl ⟨by rfl, ?_⟩) (by assumption) ?_; rotate_left; (intro w hSw; (try dsimp only at hSw); go_split_ands; go_simp; (try with_reducible rfl)); (try simp only [Act.put, List.setIfInBounds_toArray, List.set_cons_zero, List.set_cons_succ]))
      (refine WG.take (i := 4) (v := ?_) rfl (by kernel_rfl) (by kernel_rfl) (by kernel_rfl) (by kernel_rfl) (fun _ _ _ h => h) (Or.inl ⟨by rfl, ?_⟩) (by assumption) ?_; rotate_left; (intro w hSw; (try dsimp only at hSw); go_split_ands; go_simp; (try with_reducible rfl)); (try simp only [Act.put, List.setIfInBounds_toArray, List.set_cons_zero, List.set_cons_succ]))
      refine WG.one (i := 3) rfl (by kernel_rfl) (fun K hK => ?_)
      go_simp; refine (iMoveOk _ _ room us bs mid mto W.heap.size a _ (RI.ext HR.out HE2d.out) (Own.ext (EDB.ok _) HO2.out HD.out) HD2.out HT2.out HN2.out HV.out (KB.out _ _ HE2d.out (Below.refl _ _)).2.2 HZ0.out.1 HE2d.out.size HC.out).mono ?_; rintro e3 w3 ⟨rfl, us3, ho3, hd3, ht3, hn3, hb3, _⟩; have HO3 := hid ho3; have HD3 := hid hd3; have HT3 := hid ht3; have HN3 := hid hn3; have HB3 := hid hb3; clear ho3 hd3 ht3 hn3 hb3; (try dsimp only)
      refine hK.out _ _ (by exact KB.out _ _ HE2d.out HB3.out) (fun hHeld => ?_)
      clear hK K
      (try simp only [Act.put, List.setIfInBounds_toArray, List.set_cons_zero, List.set_cons_succ])
      refine WG.last (i := 5) rfl (by kernel_rfl) (by kernel_rfl) (fun K hK => ?_)
      go_simp; refine (is_nil a _).mono ?_; rintro e4 w4 ⟨rfl, rfl⟩; (try dsimp only)
      refine hK.out _ _ ?_
      clear hK K
      (try simp only [Act.put, List.setIfInBounds_toArray, List.set_cons_zero, List.set_cons_succ])
      refine WG.done (by kernel_rfl) ?_
      go_wp2
      refine bodyPost_ret (results_tmp2 rfl _ _ _) rfl ?_
      exact ⟨_, by rw [HRS.out]; rfl, by rw [HRS.out]; exact DB.low ⟨us3, HO3.out, HD3.out, HT3.out, HN3.out⟩ HEW.out.size, HEW.out.trans (Below.trans HE2d.out HB3.out)⟩
    | false =>
      have HC := hid h2
      have HRS : Hid (moveDo room bs ⟨mid, mto⟩ = ([], false)) := hid (by unfold moveDo; rw [h1, h2]; rfl)
      clear h2
      go_enter Tryd.func23, Tryd.ntmps23
      go_wp2_with (first
        | (go_at_call 54; refine (iCopyBinsD _ bs _ (RB.ext HB.out HE1.out) (by have := HRW.out.1; omega) HRW.out.2.2).mono ?_; rintro e w2 ⟨v2, us, rfl, hO2, hD2, hT2, hN2, hE2⟩; have HO2 := hid (ODB.low (base' := W.heap.size) hO2 HE1.out.size); have HD2 := hid hD2; have HT2 := hid hT2; have HN2 := hid hN2; have HE2 := hid (HE1.out.trans hE2); clear hO2 hD2 hT2 hN2 hE2)
        | (go_at_call 28; rw [← hW]; refine (iBinsValid _ _ room bs _ HR.out HB.out hfl hid').mono ?_; rintro e w1 ⟨rfl, hE1⟩; rw [h1]; have HE1 := hid hE1; clear hE1 hW))
      have HD : Hid (Ext w2 w2.drew) := hid (Below.drew (Below.refl _ _))
      have HE2d := hid (HE2.out.trans HD.out)
      obtain ⟨pz, hpz⟩ : ∃ x, x = w2.drew := ⟨_, rfl⟩
      refine WG.start (fun w' => w'.cell? ⟨w.heap.size, 0, none⟩ = some (.int .i64 mid) ∧ w'.cell? ⟨w.heap.size, 1, none⟩ = some (.int .i64 mto) ∧ w'.cell? ⟨0, 0, none⟩ = some (errV a)) [5] (by kernel_rfl) (by exact KB.out _ _ HE2d.out (Below.refl _ _)) (fun hHeld => ?_)
      rw [← hpz] at hHeld HE2d HD ⊢
      clear hpz
      (refine WG.take (i := 0) (v := ?_) rfl (by kernel_rfl) (by kernel_rfl) (by kernel_rfl) (by kernel_rfl) (fun _ _ _ h => h) (Or.inl ⟨by rfl, ?_⟩) (by assumption) ?_; rotate_left; (intro w hSw; (try dsimp only at hSw); go_split_ands; go_simp; (try with_reducible rfl)); (try simp only [Act.put, List.setIfInBounds_toArray, List.set_cons_zero, List.set_cons_succ]))
      (refine WG.take (i := 1) (v := ?_) rfl (by kernel_rfl) (by kernel_rfl) (by kernel_rfl) (by kernel_rfl) (fun _ _ _ h => h) (Or.inl ⟨by rfl, ?_⟩) (by assumption) ?_; rotate_left; (intro w hSw; (try dsimp only at hSw); go_split_ands; go_simp; (try with_reducible rfl)); (try simp only [Act.put, List.setIfInBounds_toArray, List.set_cons_zero, List.set_cons_succ]))
      (refine WG.take (i := 2) (v := ?_) rfl (by kernel_rfl) (by kernel_rfl) (by kernel_rfl) (by kernel_rfl) (fun _ _ _ h => h) (Or.inl ⟨by rfl, ?_⟩) (by assumption) ?_; rotate_left; (intro w hSw; (try dsimp only at hSw); go_split_ands; go_simp; (try with_reducible rfl)); (try simp only [Act.put, List.setIfInBounds_toArray, List.set_cons_zero, List.set_cons_succ]))
      (refine WG.take (i := 4) (v := ?_) rfl (by kernel_rfl) (by kernel_rfl) (by kernel_rfl) (by kernel_rfl) (fun _ _ _ h => h) (Or.inl ⟨by rfl, ?_⟩) (by assumption) ?_; rotate_left; (intro w hSw; (try dsimp only at hSw); go_split_ands; go_simp; (try with_reducible rfl)); (try simp only [Act.put, List.setIfInBounds_toArray, List.set_cons_zero, List.set_cons_succ]))
      refine WG.one (i := 3) rfl (by kernel_rfl) (fun K hK => ?_)
      go_simp; refine (iMoveNo _ _ room us bs mid mto W.heap.size a _ (RI.ext HR.out HE2d.out) (Own.ext (EDB.ok _) HO2.out HD.out) HD2.out HT2.out HN2.out HV.out (KB.out _ _ HE2d.out (Below.refl _ _)).2.2 HZ0.out.1 HE2d.out.size HC.out).mono ?_; rintro e3 w3 ⟨rfl, hE3⟩; have HE3 := hid (HE2d.out.trans hE3); clear hE3; (try dsimp only)
      refine hK.out _ _ (by exact KB.out _ _ HE3.out (Below.refl _ _)) (fun hHeld => ?_)
      clear hK K
      (try simp only [Act.put, List.setIfInBounds_toArray, List.set_cons_zero, List.set_cons_succ])
      refine WG.last (i := 5) rfl (by kernel_rfl) (by kernel_rfl) (fun K hK => ?_)
      go_simp; refine (is_same a _).mono ?_; rintro e4 w4 ⟨rfl, rfl⟩; (try dsimp only)
      refine hK.out _ _ ?_
      clear hK K
      (try simp only [Act.put, List.setIfInBounds_toArray, List.set_cons_zero, List.set_cons_succ])
      refine WG.done (by kernel_rfl) ?_
      go_wp2
      refine bodyPost_ret (results_tmp2 rfl _ _ _) rfl ?_
      exact ⟨_, by rw [HRS.out]; rfl, by rw [HRS.out]; exact DB.none_ _ _, HEW.out.trans HE3.out⟩
  · have h1 : binsOk room bs = false := by simpa using h1
    have HRS : Hid (moveDo room bs ⟨mid, mto⟩ = ([], false)) := hid (by unfold moveDo; rw [h1]; rfl)
    go_enter Tryd.func23, Tryd.ntmps23
    go_wp2_with (go_at_call 28; rw [← hW]; refine (iBinsValid _ _ room bs _ HR.out HB.out hfl hid').mono ?_; rintro e w1 ⟨rfl, hE1⟩; rw [h1]; have HE1 := hid hE1; clear hE1 hW)
    refine bodyPost_ret (results_tmp2 rfl _ _ _) rfl ?_
    exact ⟨_, by rw [HRS.out]; rfl, by rw [HRS.out]; exact DB.none_ _ _, HEW.out.trans HE1.out⟩

end Go.Proofs.YtibpijjigopdjaaDoor

/- The program's MovesDo. -/
namespace Go.Proofs.YtibpijjigopdjaaDoor
open Go.RowKit
set_option maxRecDepth 4000

set_option maxHeartbeats 4000000 in
theorem iMovesDo (rv v lv : Value) (room : List Int) (bs : List (List TaskD)) (ms : List MoveD) (a : Addr) (w : World) (hR : RI w rv room) (h : RB w v bs) (hm : RM w lv ms) (hfl : bs.flatten.length ≤ 4000000) (hid' : ∀ t ∈ bs.flatten, IdR t.id) (hga : w.cell? ⟨0, 0, none⟩ = some (errV a)) :
    Calls Tryd.prog 30 #[rv, v, lv] w (RetMND w (movesDo room bs ms)) := by
  have HR := hid hR
  have HB := hid h
  have HGA := hid hga
  have HZ0 : Hid (0 < w.heap.size) := hid (by have := World.block_lt_of_cell? w _ hga; omega)
  obtain ⟨Ar, cr, rfl, _⟩ := hR
  obtain ⟨A, c, rfl, _⟩ := h
  obtain ⟨Am, cm, rfl, hcm, hcm', hg⟩ := hm.get
  clear hm hga
  by_cases h1 : binsOk room bs = true
  · have HV := hid h1
    have HRW := hid (bins_rows h1)
    by_cases h2 : ms.length ≤ 20
    · have HRS : Hid (movesDo room bs ms = ((movesRun room bs ms).1, ((movesRun room bs ms).2 : Int))) := hid (by unfold movesDo; rw [h1, decide_eq_true h2]; rfl)
      have i20 : ¬ (20 : Int) < (ms.length : Int) := by omega
      go_enter Tryd.func30, Tryd.ntmps30
      go_wp2_with (first
        | (go_at_call 28; refine (iBinsValid _ _ room bs _ HR.out HB.out hfl hid').mono ?_; rintro e w1 ⟨rfl, hE1⟩; rw [h1]; have HE1 := hid hE1; clear hE1)
        | (go_at_call 54; refine (iCopyBinsD _ bs _ (RB.ext HB.out HE1.out) (by have := HRW.out.1; omega) HRW.out.2.2).mono ?_; rintro e w2 ⟨v2, us, rfl, hO2, hD2, hT2, hN2, hE2⟩; have HO2 := hid (ODB.low (base' := w.heap.size) hO2 HE1.out.size); have HD2 := hid hD2; have HT2 := hid hT2; have HN2 := hid hN2; have HE2 := hid (HE1.out.trans hE2); clear hO2 hD2 hT2 hN2 hE2))
      go_loopw [24] (fun i wr => ∃ (k : Nat) (us' : List BinW) (cur : List (List TaskD)), k ≤ ms.length ∧ i = .int .i64 k ∧ Hid (ODB wr w.heap.size v2 us' ∧ us'.map BinW.d = cur ∧ (rowBs us').Nodup ∧ (binNs us').Nodup ∧ movesRun room bs (ms.take k) = (cur, k) ∧ binsOk room cur = true ∧ Ext w wr)) (fun i _ => ms.length - (intOf i).toNat)
      case atStart => exact ⟨0, us, bs, Nat.zero_le _, rfl, hid ⟨HO2.out, HD2.out, HT2.out, HN2.out, rfl, HV.out, HE2.out⟩⟩
      case round =>
        obtain ⟨k, us', cur, hk, rfl, H⟩ := hrel
        have HO := hid H.out.1
        have HD := hid H.out.2.1
        have HT := hid H.out.2.2.1
        have HN := hid H.out.2.2.2.1
        have HM := hid H.out.2.2.2.2.1
        have HVC := hid H.out.2.2.2.2.2.1
        have HE := hid H.out.2.2.2.2.2.2
        clear H
        by_cases hlt : k < ms.length
        · obtain ⟨b, o, x, rfl, e, c1, c2⟩ := hg k hlt
          have i1 : (k : Int) < (ms.length : Int) := by omega
          have c1r := HE.out.cell c1
          have c2r := HE.out.cell c2
          clear c1 c2
          obtain ⟨xid, xto⟩ := x
          obtain ⟨y0, y1, y0f, y1f, k1, k1f, hkk, _⟩ := box2 (heap_alloc_new wr (.cells #[.int .i64 0, .int .i64 0] 32)) (.int .i64 xid) (.int .i64 xto)
          clear hkk
          go_wp2
          obtain ⟨W5, hW5⟩ : ∃ W5, W5 = wr.alloc (.cells #[.int .i64 xid, .int .i64 xto] 32) := ⟨_, rfl⟩
          have hE5 : Ext wr W5 := by rw [hW5]; exact Ext.alloc _ _
          have hxb : W5.heap[wr.heap.size]? = some (.cells #[.int .i64 xid, .int .i64 xto] 32 (0, 0)) := by rw [hW5]; exact heap_alloc_new _ _
          rw [← hW5]
          clear hW5 y0 y1 y0f y1f k1 k1f c1r c2r
          have HXB := hid hxb
          have HE5 := hid (HE.out.trans hE5)
          have HO5 := hid (Own.ext (EDB.ok _) HO.out hE5)
          clear hE5 hxb
          have KB : Hid (∀ w', Ext W5 w' → w'.cell? ⟨wr.heap.size, 0, none⟩ = some (.int .i64 xid) ∧ w'.cell? ⟨wr.heap.size, 1, none⟩ = some (.int .i64 xto) ∧ w'.cell? ⟨0, 0, none⟩ = some (errV a)) := hid fun w' hw => ⟨obj_cell (hw.obj HXB.out) (i := 0) rfl, obj_cell (hw.obj HXB.out) (i := 1) rfl, (HE5.out.trans hw).cell HGA.out⟩
          have HDr : Hid (Ext W5 W5.drew) := hid (Below.drew (Below.refl _ _))
          cases hc : canMove room cur ⟨xid, xto⟩ with
          | true =>
            have HC := hid hc
            clear hc
            refine WG.start (fun w' => w'.cell? ⟨wr.heap.size, 0, none⟩ = some (.int .i64 xid) ∧ w'.cell? ⟨wr.heap.size, 1, none⟩ = some (.int .i64 xto) ∧ w'.cell? ⟨0, 0, none⟩ = some (errV a)) [5] (by kernel_rfl) (by exact KB.out _ HDr.out) (fun hHeld => ?_)
            obtain ⟨pz, hpz⟩ : ∃ x, x = W5.drew := ⟨_, rfl⟩
            rw [← hpz] at hHeld HDr ⊢
            clear hpz
            (refine WG.take (i := 0) (v := ?_) rfl (by kernel_rfl) (by kernel_rfl) (by kernel_rfl) (by kernel_rfl) (fun _ _ _ h => h) (Or.inl ⟨by rfl, ?_⟩) (by assumption) ?_; rotate_left; (intro w hSw; (try dsimp only at hSw); go_split_ands; go_simp; (try with_reducible rfl)); (try simp only [Act.put, List.setIfInBounds_toArray, List.set_cons_zero, List.set_cons_succ]))
            (refine WG.take (i := 1) (v := ?_) rfl (by kernel_rfl) (by kernel_rfl) (by kernel_rfl) (by kernel_rfl) (fun _ _ _ h => h) (Or.inl ⟨by rfl, ?_⟩) (by assumption) ?_; rotate_left; (intro w hSw; (try dsimp only at hSw); go_split_ands; go_simp; (try with_reducible rfl)); (try simp only [Act.put, List.setIfInBounds_toArray, List.set_cons_zero, List.set_cons_succ]))
            (refine WG.take (i := 2) (v := ?_) rfl (by kernel_rfl) (by kernel_rfl) (by kernel_rfl) (by kernel_rfl) (fun _ _ _ h => h) (Or.inl ⟨by rfl, ?_⟩) (by assumption) ?_; rotate_left; (intro w hSw; (try dsimp only at hSw); go_split_ands; go_simp; (try with_reducible rfl)); (try simp only [Act.put, List.setIfInBounds_toArray, List.set_cons_zero, List.set_cons_succ]))
            (refine WG.take (i := 4) (v := ?_) rfl (by kernel_rfl) (by kernel_rfl) (by kernel_rfl) (by kernel_rfl) (fun _ _ _ h => h) (Or.inl ⟨by rfl, ?_⟩) (by assumption) ?_; rotate_left; (intro w hSw; (try dsimp only at hSw); go_split_ands; go_simp; (try with_reducible rfl)); (try simp only [Act.put, List.setIfInBounds_toArray, List.set_cons_zero, List.set_cons_succ]))
            refine WG.one (i := 3) rfl (by kernel_rfl) (fun K hK => ?_)
            go_simp; refine (iMoveOk _ _ room us' cur xid xto w.heap.size a _ (RI.ext HR.out (HE5.out.trans HDr.out)) (Own.ext (EDB.ok _) HO5.out HDr.out) HD.out HT.out HN.out HVC.out (KB.out _ HDr.out).2.2 HZ0.out (HE5.out.trans HDr.out).size HC.out).mono ?_; rintro e3 w3 ⟨rfl, us3, ho3, hd3, ht3, hn3, hb3, hs3⟩; have HO3 := hid ho3; have HD3 := hid hd3; have HT3 := hid ht3; have HN3 := hid hn3; have HB3 : Hid (Ext w w3) := hid (Below.trans (HE5.out.trans HDr.out) hb3); have hx3 := hs3 _ _ _ _ (by decide) (HDr.out.obj HXB.out); clear ho3 hd3 ht3 hn3 hb3 hs3; (try dsimp only)
            refine hK.out _ _ (by exact ⟨obj_cell hx3 (i := 0) rfl, obj_cell hx3 (i := 1) rfl, HB3.out.cell HGA.out⟩) (fun hHeld => ?_)
            clear hK K
            (try simp only [Act.put, List.setIfInBounds_toArray, List.set_cons_zero, List.set_cons_succ])
            clear hx3
            refine WG.last (i := 5) rfl (by kernel_rfl) (by kernel_rfl) (fun K hK => ?_)
            go_simp; refine (is_nil a _).mono ?_; rintro e4 w4 ⟨rfl, rfl⟩; (try dsimp only)
            refine hK.out _ _ ?_
            clear hK K
            (try simp only [Act.put, List.setIfInBounds_toArray, List.set_cons_zero, List.set_cons_succ])
            refine WG.done (by kernel_rfl) ?_
            go_wp2
            go_roundw
            case rel => exact ⟨k + 1, us3, doMove cur ⟨xid, xto⟩, by omega, by go_num, hid ⟨HO3.out, HD3.out, HT3.out, HN3.out, run_step e.out HM.out HC.out, move_valid HVC.out HC.out, HB3.out⟩⟩
            case measure => simp [intOf]; omega
          | false =>
            have HC := hid hc
            clear hc
            refine WG.start (fun w' => w'.cell? ⟨wr.heap.size, 0, none⟩ = some (.int .i64 xid) ∧ w'.cell? ⟨wr.heap.size, 1, none⟩ = some (.int .i64 xto) ∧ w'.cell? ⟨0, 0, none⟩ = some (errV a)) [5] (by kernel_rfl) (by exact KB.out _ HDr.out) (fun hHeld => ?_)
            obtain ⟨pz, hpz⟩ : ∃ x, x = W5.drew := ⟨_, rfl⟩
            rw [← hpz] at hHeld HDr ⊢
            clear hpz
            (refine WG.take (i := 0) (v := ?_) rfl (by kernel_rfl) (by kernel_rfl) (by kernel_rfl) (by kernel_rfl) (fun _ _ _ h => h) (Or.inl ⟨by rfl, ?_⟩) (by assumption) ?_; rotate_left; (intro w hSw; (try dsimp only at hSw); go_split_ands; go_simp; (try with_reducible rfl)); (try simp only [Act.put, List.setIfInBounds_toArray, List.set_cons_zero, List.set_cons_succ]))
            (refine WG.take (i := 1) (v := ?_) rfl (by kernel_rfl) (by kernel_rfl) (by kernel_rfl) (by kernel_rfl) (fun _ _ _ h => h) (Or.inl ⟨by rfl, ?_⟩) (by assumption) ?_; rotate_left; (intro w hSw; (try dsimp only at hSw); go_split_ands; go_simp; (try with_reducible rfl)); (try simp only [Act.put, List.setIfInBounds_toArray, List.set_cons_zero, List.set_cons_succ]))
            (refine WG.take (i := 2) (v := ?_) rfl (by kernel_rfl) (by kernel_rfl) (by kernel_rfl) (by kernel_rfl) (fun _ _ _ h => h) (Or.inl ⟨by rfl, ?_⟩) (by assumption) ?_; rotate_left; (intro w hSw; (try dsimp only at hSw); go_split_ands; go_simp; (try with_reducible rfl)); (try simp only [Act.put, List.setIfInBounds_toArray, List.set_cons_zero, List.set_cons_succ]))
            (refine WG.take (i := 4) (v := ?_) rfl (by kernel_rfl) (by kernel_rfl) (by kernel_rfl) (by kernel_rfl) (fun _ _ _ h => h) (Or.inl ⟨by rfl, ?_⟩) (by assumption) ?_; rotate_left; (intro w hSw; (try dsimp only at hSw); go_split_ands; go_simp; (try with_reducible rfl)); (try simp only [Act.put, List.setIfInBounds_toArray, List.set_cons_zero, List.set_cons_succ]))
            refine WG.one (i := 3) rfl (by kernel_rfl) (fun K hK => ?_)
            go_simp; refine (iMoveNo _ _ room us' cur xid xto w.heap.size a _ (RI.ext HR.out (HE5.out.trans HDr.out)) (Own.ext (EDB.ok _) HO5.out HDr.out) HD.out HT.out HN.out HVC.out (KB.out _ HDr.out).2.2 HZ0.out (HE5.out.trans HDr.out).size HC.out).mono ?_; rintro e3 w3 ⟨rfl, hE3⟩; have HE3 := hid (HDr.out.trans hE3); clear hE3; (try dsimp only)
            refine hK.out _ _ (by exact KB.out _ HE3.out) (fun hHeld => ?_)
            clear hK K
            (try simp only [Act.put, List.setIfInBounds_toArray, List.set_cons_zero, List.set_cons_succ])
            refine WG.last (i := 5) rfl (by kernel_rfl) (by kernel_rfl) (fun K hK => ?_)
            go_simp; refine (is_same a _).mono ?_; rintro e4 w4 ⟨rfl, rfl⟩; (try dsimp only)
            refine hK.out _ _ ?_
            clear hK K
            (try simp only [Act.put, List.setIfInBounds_toArray, List.set_cons_zero, List.set_cons_succ])
            refine WG.done (by kernel_rfl) ?_
            go_wp2
            refine bodyPost_ret (results_tmp2 rfl _ _ _) rfl ?_
            have hend := run_end e.out HM.out HC.out
            exact ⟨_, by rw [HRS.out, hend]; rfl, by rw [HRS.out, hend]; exact ⟨us', Own.ext (EDB.ok _) HO5.out HE3.out, HD.out, HT.out, HN.out⟩, HE5.out.trans HE3.out⟩
        · have hk' : k = ms.length := by omega
          have HK := hid hk'
          clear hk'
          go_wp2
          refine bodyPost_ret (results_tmp2 rfl _ _ _) rfl ?_
          have hend := HM.out
          rw [HK.out, List.take_length] at hend
          exact ⟨_, by rw [HRS.out, hend]; rfl, by rw [HRS.out, hend]; exact ⟨us', HO.out, HD.out, HT.out, HN.out⟩, HE.out⟩
    · have HRS : Hid (movesDo room bs ms = ([], -1)) := hid (by unfold movesDo; rw [h1, decide_eq_false h2]; rfl)
      have i20 : (20 : Int) < (ms.length : Int) := by omega
      go_enter Tryd.func30, Tryd.ntmps30
      go_wp2_with (go_at_call 28; refine (iBinsValid _ _ room bs _ HR.out HB.out hfl hid').mono ?_; rintro e w1 ⟨rfl, hE1⟩; rw [h1]; have HE1 := hid hE1; clear hE1)
      refine bodyPost_ret (results_tmp2 rfl _ _ _) rfl ?_
      exact ⟨_, by rw [HRS.out]; rfl, by rw [HRS.out]; exact DB.none_ _ _, HE1.out⟩
  · have h1 : binsOk room bs = false := by simpa using h1
    have HRS : Hid (movesDo room bs ms = ([], -1)) := hid (by unfold movesDo; rw [h1]; rfl)
    go_enter Tryd.func30, Tryd.ntmps30
    go_wp2_with (go_at_call 28; refine (iBinsValid _ _ room bs _ HR.out HB.out hfl hid').mono ?_; rintro e w1 ⟨rfl, hE1⟩; rw [h1]; have HE1 := hid hE1; clear hE1)
    refine bodyPost_ret (results_tmp2 rfl _ _ _) rfl ?_
    exact ⟨_, by rw [HRS.out]; rfl, by rw [HRS.out]; exact DB.none_ _ _, HE1.out⟩

end Go.Proofs.YtibpijjigopdjaaDoor

/- The laws' tests for the same ints, tasks, cluster, where they are the same. -/
namespace Go.Proofs.YtibpijjigopdjaaDoor
open Go.RowKit
set_option maxRecDepth 4000

theorem lSameInts (v u : Value) (xs : List Int) (w : World) (h : RI w v xs) (h' : RI w u xs) :
    Calls Tryd.prog 68 #[v, u] w (RetB w true) := by
  obtain ⟨A, c, rfl, hc, hc', hr⟩ := h.get
  obtain ⟨A', c', rfl, _, _, hr'⟩ := h'.get
  clear h h'
  go_enter Tryd.func68, Tryd.ntmps68
  go_wp2
  go_loopw [5] (fun i wr => ∃ k : Nat, k ≤ xs.length ∧ i = .int .i64 k ∧ ∃ n, wr = w.drewN n) (fun i _ => xs.length - (intOf i).toNat)
  case atStart => exact ⟨0, Nat.zero_le _, rfl, 0, rfl⟩
  case round =>
    obtain ⟨k, hk, rfl, n, rfl⟩ := hrel
    by_cases hlt : k < xs.length
    · obtain ⟨b1, o1, x1, rfl, e1, c1⟩ := hr k hlt
      obtain ⟨b2, o2, x2, rfl, e2, c2⟩ := hr' k hlt
      have hx : x2 = x1 := by have a := e1.out; rw [e2.out] at a; injection a
      subst hx
      have i1 : (k : Int) < (xs.length : Int) := by omega
      go_wp2
      go_quiet (fail)
      go_wp2
      go_roundw
      case rel => exact ⟨k + 1, by omega, by go_num, _, rfl⟩
      case measure => simp [intOf]; omega
    · go_wp2
      go_ret
      exact ⟨rfl, Ext.drewN _ _⟩

set_option maxHeartbeats 2000000 in
theorem lSameTasks (v u : Value) (xs : List TaskD) (w : World) (h : RT w v xs) (h' : RT w u xs) :
    Calls Tryd.prog 26 #[v, u] w (RetB w true) := by
  obtain ⟨A, c, rfl, hc, hc', hr⟩ := h.get
  obtain ⟨A', c', rfl, _, _, hr'⟩ := h'.get
  clear h h'
  go_enter Tryd.func26, Tryd.ntmps26
  go_wp2
  go_loopw [5] (fun i wr => ∃ k : Nat, k ≤ xs.length ∧ i = .int .i64 k ∧ Ext w wr) (fun i _ => xs.length - (intOf i).toNat)
  case atStart => exact ⟨0, Nat.zero_le _, rfl, Ext.refl _⟩
  case round =>
    obtain ⟨k, hk, rfl, hE⟩ := hrel
    by_cases hlt : k < xs.length
    · obtain ⟨b1, o1, x1, An, cn, rfl, e1, c1, c2, hn⟩ := hr k hlt
      obtain ⟨b2, o2, x2, Am, cm, rfl, e2, d1, d2, hm⟩ := hr' k hlt
      have hx : x2 = x1 := by have a := e1.out; rw [e2.out] at a; injection a
      subst hx
      have i1 : (k : Int) < (xs.length : Int) := by omega
      have i0 : (0 : Int) ≤ (k : Int) := by omega
      have KH : Hid (∀ w', Ext wr w' → w'.cell? ⟨b1, o1 + k * 2, none⟩ = some (.int .i64 x2.id) ∧ w'.cell? ⟨b1, o1 + k * 2 + 1, none⟩ = some (.slice An x2.need.length cn) ∧ w'.cell? ⟨b2, o2 + k * 2, none⟩ = some (.int .i64 x2.id) ∧ w'.cell? ⟨b2, o2 + k * 2 + 1, none⟩ = some (.slice Am x2.need.length cm) ∧ Ext wr w') :=
        hid fun w' hw => ⟨hw.cell (hE.cell c1), hw.cell (hE.cell c2), hw.cell (hE.cell d1), hw.cell (hE.cell d2), hw⟩
      have H1 := hid (RI.ext hn hE)
      have H2 := hid (RI.ext hm hE)
      clear c1 c2 d1 d2 hn hm
      go_wp2
      go_region_held3 (fun w' => w'.cell? ⟨b1, o1 + k * 2, none⟩ = some (.int .i64 x2.id) ∧ w'.cell? ⟨b1, o1 + k * 2 + 1, none⟩ = some (.slice An x2.need.length cn) ∧ w'.cell? ⟨b2, o2 + k * 2, none⟩ = some (.int .i64 x2.id) ∧ w'.cell? ⟨b2, o2 + k * 2 + 1, none⟩ = some (.slice Am x2.need.length cm) ∧ Ext wr w')
        (first | exact KH.out _ (by assumption) | exact KH.out _ (Below.drew (Below.refl _ _)))
        ((go_at_call 68; refine (lSameInts _ _ x2.need _ (RI.ext H1.out (Below.drew (Below.refl _ _))) (RI.ext H2.out (Below.drew (Below.refl _ _)))).mono ?_; rintro e w1 ⟨rfl, hE1⟩; have h01 : Ext wr w1 := Ext.trans (Below.drew (Below.refl _ _)) hE1))
      go_wp2
      go_roundw
      case rel => exact ⟨k + 1, by omega, by go_num, hE.trans h01⟩
      case measure => simp [intOf]; omega
    · go_wp2
      go_ret
      exact ⟨rfl, hE⟩

end Go.Proofs.YtibpijjigopdjaaDoor

/- The laws' tests on nodes and moves; the program's tasks of nodes, and where one lies. -/
namespace Go.Proofs.YtibpijjigopdjaaDoor
open Go.RowKit
set_option maxRecDepth 4000

set_option maxHeartbeats 2000000 in
theorem lSameBins (v u : Value) (xs : List (List TaskD)) (w : World) (h : RB w v xs) (h' : RB w u xs) :
    Calls Tryd.prog 25 #[v, u] w (RetB w true) := by
  obtain ⟨A, c, rfl, hc, hc', hr⟩ := RB.get h
  obtain ⟨A', c', rfl, _, _, hr'⟩ := RB.get h'
  clear h h'
  go_enter Tryd.func25, Tryd.ntmps25
  go_wp2
  go_loopw [5] (fun i wr => ∃ k : Nat, k ≤ xs.length ∧ i = .int .i64 k ∧ Ext w wr) (fun i _ => xs.length - (intOf i).toNat)
  case atStart => exact ⟨0, Nat.zero_le _, rfl, Ext.refl _⟩
  case round =>
    obtain ⟨k, hk, rfl, hE⟩ := hrel
    by_cases hlt : k < xs.length
    · obtain ⟨b1, o1, x1, An, cn, rfl, e1, c1, hn⟩ := hr k hlt
      obtain ⟨b2, o2, x2, Am, cm, rfl, e2, d1, hm⟩ := hr' k hlt
      have hx : x2 = x1 := by have a := e1.out; rw [e2.out] at a; injection a
      subst hx
      have i1 : (k : Int) < (xs.length : Int) := by omega
      have i0 : (0 : Int) ≤ (k : Int) := by omega
      have KH : Hid (∀ w', Ext wr w' → w'.cell? ⟨b1, o1 + k, none⟩ = some (.slice An x2.length cn) ∧ w'.cell? ⟨b2, o2 + k, none⟩ = some (.slice Am x2.length cm) ∧ Ext wr w') :=
        hid fun w' hw => ⟨hw.cell (hE.cell c1), hw.cell (hE.cell d1), hw⟩
      have H1 := hid (RT.ext hn hE)
      have H2 := hid (RT.ext hm hE)
      clear c1 d1 hn hm
      go_wp2
      go_region_held3 (fun w' => w'.cell? ⟨b1, o1 + k, none⟩ = some (.slice An x2.length cn) ∧ w'.cell? ⟨b2, o2 + k, none⟩ = some (.slice Am x2.length cm) ∧ Ext wr w')
        (first | exact KH.out _ (by assumption) | exact KH.out _ (Below.drew (Below.refl _ _)))
        ((go_at_call 26; refine (lSameTasks _ _ x2 _ (RT.ext H1.out (Below.drew (Below.refl _ _))) (RT.ext H2.out (Below.drew (Below.refl _ _)))).mono ?_; rintro e w1 ⟨rfl, hE1⟩; have h01 : Ext wr w1 := Ext.trans (Below.drew (Below.refl _ _)) hE1))
      go_wp2
      go_roundw
      case rel => exact ⟨k + 1, by omega, by go_num, hE.trans h01⟩
      case measure => simp [intOf]; omega
    · go_wp2
      go_ret
      exact ⟨rfl, hE⟩

set_option maxHeartbeats 2000000 in
theorem lSameMoves (v u : Value) (xs : List MoveD) (w : World) (h : RM w v xs) (h' : RM w u xs) :
    Calls Tryd.prog 19 #[v, u] w (RetB w true) := by
  obtain ⟨A, c, rfl, hc, hc', hr⟩ := RM.get h
  obtain ⟨A', c', rfl, _, _, hr'⟩ := RM.get h'
  clear h h'
  go_enter Tryd.func19, Tryd.ntmps19
  go_wp2
  go_loopw [5] (fun i wr => ∃ k : Nat, k ≤ xs.length ∧ i = .int .i64 k ∧ ∃ n, wr = w.drewN n) (fun i _ => xs.length - (intOf i).toNat)
  case atStart => exact ⟨0, Nat.zero_le _, rfl, 0, rfl⟩
  case round =>
    obtain ⟨k, hk, rfl, n, rfl⟩ := hrel
    by_cases hlt : k < xs.length
    · obtain ⟨b1, o1, x1, rfl, e1, c1, c2⟩ := hr k hlt
      obtain ⟨b2, o2, x2, rfl, e2, d1, d2⟩ := hr' k hlt
      have hx : x2 = x1 := by have a := e1.out; rw [e2.out] at a; injection a
      subst hx
      have i1 : (k : Int) < (xs.length : Int) := by omega
      go_wp2
      go_quiet (fail)
      go_wp2
      go_roundw
      case rel => exact ⟨k + 1, by omega, by go_num, _, rfl⟩
      case measure => simp [intOf]; omega
    · go_wp2
      go_ret
      exact ⟨rfl, Ext.drewN _ _⟩

theorem iBinsWhere (rv v : Value) (room : List Int) (bs : List (List TaskD)) (id : Int) (w : World) (hR : RI w rv room) (h : RB w v bs) (hfl : bs.flatten.length ≤ 4000000) (hid' : ∀ t ∈ bs.flatten, IdR t.id) (hv : binsOk room bs = true) :
    Calls Tryd.prog 21 #[rv, v, .int .i64 id] w (RetN w (whereL bs id)) := by
  have HB := hid h
  go_enter Tryd.func21, Tryd.ntmps21
  go_wp2_with (first
    | (go_at_call 28; refine (iBinsValid _ _ room bs _ hR h hfl hid').mono ?_; rintro e w1 ⟨rfl, hE1⟩; rw [hv]; have HE1 := hid hE1; clear hE1)
    | (go_at_call 62; refine (iWhereOf _ bs id _ (RB.ext HB.out HE1.out)).mono ?_; rintro e w2 ⟨rfl, hE2⟩; have HE2 := hid (HE1.out.trans hE2); clear hE2))
  go_ret
  exact ⟨rfl, HE2.out⟩
theorem iBinsTasks (rv v : Value) (room : List Int) (bs : List (List TaskD)) (w : World) (hR : RI w rv room) (h : RB w v bs) (hfl : bs.flatten.length ≤ 4000000) (hid' : ∀ t ∈ bs.flatten, IdR t.id) (hv : binsOk room bs = true) :
    Calls Tryd.prog 27 #[rv, v] w fun e w' => ∃ v, e = .returned v ∧ RT w' v bs.flatten ∧ Ext w w' := by
  have HB := hid h
  have HN : Hid (∀ t ∈ bs.flatten, t.need.length ≤ 4000000) := hid (fun t ht => by obtain ⟨b, hb, hx⟩ := List.mem_flatten.1 ht; exact ((bins_rows hv).2.2 b hb).2 t hx)
  go_enter Tryd.func27, Tryd.ntmps27
  go_wp2_with (first
    | (go_at_call 28; refine (iBinsValid _ _ room bs _ hR h hfl hid').mono ?_; rintro e w1 ⟨rfl, hE1⟩; rw [hv]; have HE1 := hid hE1; clear hE1)
    | (go_at_call 70; refine (iConcat _ bs _ (RB.ext HB.out HE1.out) hfl).mono ?_; rintro e w2 ⟨v2, rfl, hO2, hE2⟩; have HR2 := hid hO2.read; have HE2 := hid (HE1.out.trans hE2); clear hO2 hE2)
    | (go_at_call 69; refine (iCopyTasks _ bs.flatten _ HR2.out hfl HN.out).mono ?_; rintro e w3 ⟨v3, rfl, hO3, hE3⟩; have HR3 := hid hO3.read; have HE3 := hid (HE2.out.trans hE3); clear hO3 hE3))
  go_ret
  exact ⟨_, rfl, HR3.out, HE3.out⟩

end Go.Proofs.YtibpijjigopdjaaDoor
