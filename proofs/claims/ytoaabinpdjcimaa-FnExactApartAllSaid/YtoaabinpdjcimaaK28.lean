/- Can a further task come to nodes: the program's and the reference's. (Printed by genpq3.py.) -/
import Derived.Test.YtoaabinpdjcimaaK16
import Derived.Test.YtoaabinpdjcimaaK23
import Derived.Test.YtoaabinpdjcimaaK6
import Derived.Test.YtoaabinpdjcimaaK27
import Derived.Test.YtoaabinpdjcimaaK26
namespace Go.Proofs.Ytoaabinpdjcimaa
open Go.RowKit
set_option maxRecDepth 4000

/-- an append that hangs on a guard -/
theorem step_append_slg {P : Program} (w : World) {ops : Array Oper} {o : Oper} {a : Act} {K : Act → World → Prop} {Q : Exit → Act → World → Prop} {X : Prop} (hgd : Region.wanted o (yielded ops a.tmps) = true) (s x : Operand) (t : TypeId)
    (ho : o.op = .call { callee := .builtin .append, args := #[s, x], argTypes := #[t, t] })
    {α : Type} {E : Enc α} {T : TypeId → Prop} (ok : E.Ok T) (flat : E.Flat) (base : Nat) (e : TypeId) (hTe : ∀ t, T t → t ≠ e) (i : TypeInfo) (z : Value) (size bytes : Nat) (ht : P.underlying t = some (.slice e)) (hi : P.info? e = some i) (hz : i.zero = some z)
    (hsize : i.size = size) (hby : i.bytes = bytes) (hzs : z.cells.size = size) (hsz : 0 < size)
    (v : Value) (hs : a.eval s = v) (xs : List α) (hown : Own e size E w base v xs) (sv : Value) (hx : a.eval x = sv) (ys : List α) (hr : RSl e size E w sv ys)
    (h63 : xs.length + ys.length ≤ 9223372036854775807) (hbytes : (xs.length + ys.length) * bytes ≤ 140737488355328) (hbase : base ≤ w.heap.size)
    (h : ∀ v' w', Own e size E w' base v' (xs ++ ys) → w.grownBy w' v.ownBlock → (v'.ownBlock = v.ownBlock ∨ v'.ownBlock = some w.heap.size) → SameT (fun t => t ≠ e) w w' → K (a.put o.dst v') w') :
    if Region.wanted o (yielded ops a.tmps) = true then Oper.wp P o a w K Q else X := by
  rw [if_pos hgd]
  exact wp_append_sl w s x t ho ok flat base e hTe i z size bytes ht hi hz hsize hby hzs hsz v hs xs hown sv hx ys hr h63 hbytes hbase h
theorem bin_row {w : World} {v : Value} {bs : List (List TaskD)} (h : RB w v bs) : ∃ A c, v = .slice A bs.length c := by
  obtain ⟨A, c, hv, _⟩ := h
  exact ⟨A, c, hv⟩

set_option maxHeartbeats 4000000 in
theorem iCanCome (rv v xv : Value) (room : List Int) (bs : List (List TaskD)) (x : TaskD) (w : World) (hR : RI w rv room) (h : RB w v bs) (hx : TaskV w xv x) (hfl : bs.flatten.length ≤ 3000000) (hids : ∀ t ∈ bs.flatten ++ [x], IdR t.id) :
    Calls Try.prog 59 #[rv, v, xv] w (RetB w (canComeL room bs x)) := by
  have hx0 := hx
  obtain ⟨nv, rfl, hnx⟩ := hx
  have HXN := hid hnx
  obtain ⟨An, cn, rfl, _⟩ := hnx
  obtain ⟨W, hW⟩ : ∃ W, W = w.alloc (.cells #[.int .i64 x.id, .slice An x.need.length cn] 34) := ⟨_, rfl⟩
  have hEW : Ext w W := by rw [hW]; exact Ext.alloc _ _
  have hxb : W.heap[w.heap.size]? = some (.cells #[.int .i64 x.id, .slice An x.need.length cn] 34 (0, 0)) := by rw [hW]; exact heap_alloc_new _ _
  have KB : Hid (∀ w', Ext W w' → w'.cell? ⟨w.heap.size, 0, none⟩ = some (.int .i64 x.id) ∧ w'.cell? ⟨w.heap.size, 1, none⟩ = some (.slice An x.need.length cn)) := hid fun w' hw => ⟨obj_cell (hw.obj hxb) (i := 0) rfl, obj_cell (hw.obj hxb) (i := 1) rfl⟩
  have HEW := hid hEW
  have HXW := hid (RI.ext HXN.out hEW)
  have HR := hid (RI.ext hR hEW)
  have HB := hid (RB.ext h hEW)
  obtain ⟨Ar, cr, rfl, _⟩ := hR
  obtain ⟨A, c, rfl⟩ := bin_row h
  obtain ⟨F, hF⟩ : ∃ F, F = bs.flatten := ⟨_, rfl⟩
  have HFF := hid hF
  have HFL : Hid (F.length ≤ 3000000) := hid (by rw [hF]; exact hfl)
  have HFB : Hid (bs.flatten.length ≤ 4000000) := hid (by omega)
  have HDr : Hid (Ext W W.drew) := hid (Below.drew (Below.refl _ _))
  obtain ⟨i0_task, hi0_task, hz0_task, hz1_task, hz2_task⟩ := info_parts info_task
  have HID := hid hids
  clear hids
  clear hxb hEW h hfl hx0 hF
  cases hb : binsOk room bs with
  | false =>
    have HBF := hid hb
    have HRS : Hid (canComeL room bs x = false) := hid (by unfold canComeL; rw [hb]; rfl)
    clear hb
    go_enter Try.func59, Try.ntmps59
    go_wp2
    rw [← hW]
    clear hW
    refine WG.start (fun w' => w'.cell? ⟨w.heap.size, 0, none⟩ = some (.int .i64 x.id) ∧ w'.cell? ⟨w.heap.size, 1, none⟩ = some (.slice An x.need.length cn)) [12] (by kernel_rfl) (by exact KB.out _ HDr.out) (fun hHeld => ?_)
    obtain ⟨pz, hpz⟩ : ∃ x, x = W.drew := ⟨_, rfl⟩
    rw [← hpz] at hHeld HDr ⊢
    clear hpz
    (refine WG.take (i := 0) (v := ?_) rfl (by kernel_rfl) (by kernel_rfl) (by kernel_rfl) (by kernel_rfl) (fun _ _ _ h => h) (Or.inl ⟨by rfl, ?_⟩) (by assumption) ?_; rotate_left; (intro w hSw; (try dsimp only at hSw); go_split_ands; go_simp; (try with_reducible rfl)); (try simp only [Act.put, List.setIfInBounds_toArray, List.set_cons_zero, List.set_cons_succ]))
    (refine WG.take (i := 1) (v := ?_) rfl (by kernel_rfl) (by kernel_rfl) (by kernel_rfl) (by kernel_rfl) (fun _ _ _ h => h) (Or.inl ⟨by rfl, ?_⟩) (by assumption) ?_; rotate_left; (intro w hSw; (try dsimp only at hSw); go_split_ands; go_simp; (try with_reducible rfl)); (try simp only [Act.put, List.setIfInBounds_toArray, List.set_cons_zero, List.set_cons_succ]))
    refine WG.one (i := 2) rfl (by kernel_rfl) (fun K hK => ?_)
    go_simp; refine (iBinsValid _ _ room bs _ (RI.ext HR.out HDr.out) (RB.ext HB.out HDr.out) HFB.out (fun t ht => HID.out t (List.mem_append_left _ ht))).mono ?_; rw [HBF.out]; rintro e2 w2 ⟨rfl, hE2⟩; have HE2 := hid (HDr.out.trans hE2); clear hE2; (try dsimp only)
    refine hK.out _ _ (by exact KB.out _ HE2.out) (fun hHeld => ?_)
    clear hK K
    (try simp only [Act.put, List.setIfInBounds_toArray, List.set_cons_zero, List.set_cons_succ])
    (refine WG.take (i := 3) (v := ?_) rfl (by kernel_rfl) (by kernel_rfl) (by kernel_rfl) (by kernel_rfl) (fun _ _ _ h => h) (Or.inl ⟨by rfl, ?_⟩) (by assumption) ?_; rotate_left; (intro w hSw; (try dsimp only at hSw); go_split_ands; go_simp; (try with_reducible rfl)); (try simp only [Act.put, List.setIfInBounds_toArray, List.set_cons_zero, List.set_cons_succ]))
    (refine WG.take (i := 4) rfl (by kernel_rfl) (by kernel_rfl) (by kernel_rfl) (by kernel_rfl) (fun _ _ _ h => h) (Or.inr ⟨?_, rfl⟩) (by assumption) ?_; go_simp; (try simp only [Act.put, List.setIfInBounds_toArray, List.set_cons_zero, List.set_cons_succ]))
    (refine WG.take (i := 5) rfl (by kernel_rfl) (by kernel_rfl) (by kernel_rfl) (by kernel_rfl) (fun _ _ _ h => h) (Or.inr ⟨?_, rfl⟩) (by assumption) ?_; go_simp; (try simp only [Act.put, List.setIfInBounds_toArray, List.set_cons_zero, List.set_cons_succ]))
    (refine WG.take (i := 6) rfl (by kernel_rfl) (by kernel_rfl) (by kernel_rfl) (by kernel_rfl) (fun _ _ _ h => h) (Or.inr ⟨?_, rfl⟩) (by assumption) ?_; go_simp; (try simp only [Act.put, List.setIfInBounds_toArray, List.set_cons_zero, List.set_cons_succ]))
    (refine WG.take (i := 7) rfl (by kernel_rfl) (by kernel_rfl) (by kernel_rfl) (by kernel_rfl) (fun _ _ _ h => h) (Or.inr ⟨?_, rfl⟩) (by assumption) ?_; go_simp; (try simp only [Act.put, List.setIfInBounds_toArray, List.set_cons_zero, List.set_cons_succ]))
    (refine WG.take (i := 8) rfl (by kernel_rfl) (by kernel_rfl) (by kernel_rfl) (by kernel_rfl) (fun _ _ _ h => h) (Or.inr ⟨?_, rfl⟩) (by assumption) ?_; go_simp; (try simp only [Act.put, List.setIfInBounds_toArray, List.set_cons_zero, List.set_cons_succ]))
    (refine WG.take (i := 9) rfl (by kernel_rfl) (by kernel_rfl) (by kernel_rfl) (by kernel_rfl) (fun _ _ _ h => h) (Or.inr ⟨?_, rfl⟩) (by assumption) ?_; go_simp; (try simp only [Act.put, List.setIfInBounds_toArray, List.set_cons_zero, List.set_cons_succ]))
    (refine WG.take (i := 10) rfl (by kernel_rfl) (by kernel_rfl) (by kernel_rfl) (by kernel_rfl) (fun _ _ _ h => h) (Or.inr ⟨?_, rfl⟩) (by assumption) ?_; go_simp; (try simp only [Act.put, List.setIfInBounds_toArray, List.set_cons_zero, List.set_cons_succ]))
    (refine WG.take (i := 11) (v := ?_) rfl (by kernel_rfl) (by kernel_rfl) (by kernel_rfl) (by kernel_rfl) (fun _ _ _ h => h) (Or.inl ⟨by rfl, ?_⟩) (by assumption) ?_; rotate_left; (intro w hSw; (try dsimp only at hSw); go_split_ands; go_simp; (try with_reducible rfl)); (try simp only [Act.put, List.setIfInBounds_toArray, List.set_cons_zero, List.set_cons_succ]))
    refine WG.last (i := 12) rfl (by kernel_rfl) (by kernel_rfl) (fun K hK => ?_)
    go_simp
    refine hK.out _ _ ?_
    clear hK K
    (try simp only [Act.put, List.setIfInBounds_toArray, List.set_cons_zero, List.set_cons_succ])
    refine WG.done (by kernel_rfl) ?_
    go_wp2
    go_ret
    exact ⟨ret_b HRS.out.symm, HEW.out.trans HE2.out⟩
  | true =>
    have HBF := hid hb
    have HRS : Hid (canComeL room bs x = tasksOk room (F ++ [x])) := hid (by rw [HFF.out]; unfold canComeL; rw [hb]; rfl)
    clear hb
    go_enter Try.func59, Try.ntmps59
    go_wp2
    rw [← hW]
    clear hW
    refine WG.start (fun w' => w'.cell? ⟨w.heap.size, 0, none⟩ = some (.int .i64 x.id) ∧ w'.cell? ⟨w.heap.size, 1, none⟩ = some (.slice An x.need.length cn)) [12] (by kernel_rfl) (by exact KB.out _ HDr.out) (fun hHeld => ?_)
    obtain ⟨pz, hpz⟩ : ∃ x, x = W.drew := ⟨_, rfl⟩
    rw [← hpz] at hHeld HDr ⊢
    clear hpz
    (refine WG.take (i := 0) (v := ?_) rfl (by kernel_rfl) (by kernel_rfl) (by kernel_rfl) (by kernel_rfl) (fun _ _ _ h => h) (Or.inl ⟨by rfl, ?_⟩) (by assumption) ?_; rotate_left; (intro w hSw; (try dsimp only at hSw); go_split_ands; go_simp; (try with_reducible rfl)); (try simp only [Act.put, List.setIfInBounds_toArray, List.set_cons_zero, List.set_cons_succ]))
    (refine WG.take (i := 1) (v := ?_) rfl (by kernel_rfl) (by kernel_rfl) (by kernel_rfl) (by kernel_rfl) (fun _ _ _ h => h) (Or.inl ⟨by rfl, ?_⟩) (by assumption) ?_; rotate_left; (intro w hSw; (try dsimp only at hSw); go_split_ands; go_simp; (try with_reducible rfl)); (try simp only [Act.put, List.setIfInBounds_toArray, List.set_cons_zero, List.set_cons_succ]))
    refine WG.one (i := 2) rfl (by kernel_rfl) (fun K hK => ?_)
    go_simp; refine (iBinsValid _ _ room bs _ (RI.ext HR.out HDr.out) (RB.ext HB.out HDr.out) HFB.out (fun t ht => HID.out t (List.mem_append_left _ ht))).mono ?_; rw [HBF.out]; rintro e2 w2 ⟨rfl, hE2⟩; have HE2 := hid (HDr.out.trans hE2); clear hE2; (try dsimp only)
    refine hK.out _ _ (by exact KB.out _ HE2.out) (fun hHeld => ?_)
    clear hK K
    (try simp only [Act.put, List.setIfInBounds_toArray, List.set_cons_zero, List.set_cons_succ])
    (refine WG.take (i := 3) (v := ?_) rfl (by kernel_rfl) (by kernel_rfl) (by kernel_rfl) (by kernel_rfl) (fun _ _ _ h => h) (Or.inl ⟨by rfl, ?_⟩) (by assumption) ?_; rotate_left; (intro w hSw; (try dsimp only at hSw); go_split_ands; go_simp; (try with_reducible rfl)); (try simp only [Act.put, List.setIfInBounds_toArray, List.set_cons_zero, List.set_cons_succ]))
    (refine WG.take (i := 4) (v := ?_) rfl (by kernel_rfl) (by kernel_rfl) (by kernel_rfl) (by kernel_rfl) (fun _ _ _ h => h) (Or.inl ⟨by rfl, ?_⟩) (by assumption) ?_; rotate_left; (intro w hSw; (try dsimp only at hSw); go_split_ands; go_simp; (try with_reducible rfl)); (try simp only [Act.put, List.setIfInBounds_toArray, List.set_cons_zero, List.set_cons_succ]))
    (refine WG.take (i := 5) (v := ?_) rfl (by kernel_rfl) (by kernel_rfl) (by kernel_rfl) (by kernel_rfl) (fun _ _ _ h => h) (Or.inl ⟨by rfl, ?_⟩) (by assumption) ?_; rotate_left; (intro w hSw; (try dsimp only at hSw); go_split_ands; go_simp; (try with_reducible rfl)); (try simp only [Act.put, List.setIfInBounds_toArray, List.set_cons_zero, List.set_cons_succ]))
    (refine WG.take (i := 7) (v := ?_) rfl (by kernel_rfl) (by kernel_rfl) (by kernel_rfl) (by kernel_rfl) (fun _ _ _ h => h) (Or.inl ⟨by rfl, ?_⟩) (by assumption) ?_; rotate_left; (intro w hSw; (try dsimp only at hSw); go_split_ands; go_simp; (try with_reducible rfl)); (try simp only [Act.put, List.setIfInBounds_toArray, List.set_cons_zero, List.set_cons_succ]))
    refine WG.two (i := 6) (j := 8) rfl rfl (by kernel_rfl) (fun K hK => ?_) (fun K hK => ?_)
    · go_simp
      refine (iConcat _ bs _ (RB.ext HB.out HE2.out) HFB.out).mono ?_
      rw [← HFF.out]
      rintro e6 w6 ⟨v6, rfl, hO6, hE6⟩
      have HE6 := hid (HE2.out.trans hE6)
      have HZ : Hid (W.heap.size ≤ w2.heap.size) := hid HE2.out.size
      have HO6 := hid (Own.low (base' := W.heap.size) hO6 HE2.out.size)
      obtain ⟨A6, c6, rfl, _, _⟩ := hO6.form
      clear hO6 hE6
      (try dsimp only)
      refine hK.out _ _ (by exact KB.out _ HE6.out) (fun hHeld => ?_)
      clear hK K
      (try simp only [Act.put, List.setIfInBounds_toArray, List.set_cons_zero, List.set_cons_succ])
      refine WG.one (i := 8) rfl (by kernel_rfl) (fun K hK => ?_)
      go_simp
      refine hK.out _ _ (by exact KB.out _ (HE6.out.trans (Ext.alloc _ _))) (fun hHeld => ?_)
      clear hK K
      (try simp only [Act.put, List.setIfInBounds_toArray, List.set_cons_zero, List.set_cons_succ])
      have hE8 := HE6.out.trans (Ext.alloc w6 (.cells #[.int .i64 x.id, .slice An x.need.length cn] 34))
      have HO8 := hid (HO6.out.ext ET.ok (Ext.alloc w6 (.cells #[.int .i64 x.id, .slice An x.need.length cn] 34)))
      have hsz : w.heap.size ≤ w6.heap.size := Nat.le_trans HEW.out.size HE6.out.size
      refine WG.one (i := 9) rfl (by kernel_rfl) (fun K hK => ?_)
      refine step_append_slg _ (by rfl) _ _ 24 (by rfl) ET.ok ET.flat (w.heap.size) 34 ET.ne i0_task _ 2 32 Try.underlying24 hi0_task hz0_task hz1_task hz2_task rfl (by omega) _ (by rfl) _ ((HO8.out.low (base' := w.heap.size) HEW.out.size)) _ (by rfl) _ (RSl.laid (cs := [.int .i64 x.id, .slice An x.need.length cn]) (x := x) (heap_alloc_new _ _) rfl ⟨_, rfl, RI.ext HXW.out hE8⟩) (by have := HFL.out; simp; omega) (by have := HFL.out; simp; omega) ?_ ?_; (focus (first | exact Nat.le_refl _ | (simp; done) | (simp; omega) | omega)); intro v9 w9 hO9 hg9 hat9 hs9; have HO9 := hid hO9; have HE9 : Hid (Ext W w9) := hid (Ext.grown (hE8) hg9 (fun q hq => ⟨(Own.lt ((HO8.out)) q hq).1, (Own.lt ((HO8.out)) q hq).2⟩)); clear hO9 hg9 hat9 hs9
      refine hK.out _ _ (by exact KB.out _ HE9.out) (fun hHeld => ?_)
      clear hK K
      (try simp only [Act.put, List.setIfInBounds_toArray, List.set_cons_zero, List.set_cons_succ])
      refine WG.one (i := 10) rfl (by kernel_rfl) (fun K hK => ?_)
      go_simp; refine (iTasksValid _ _ room (F ++ [x]) _ (RI.ext HR.out HE9.out) HO9.out.read (by rw [HFF.out]; exact HID.out)).mono ?_; rintro e10 w10 ⟨rfl, HQ⟩; have HE10 : Hid (Ext W w10) := hid (HE9.out.trans HQ); clear HQ; (try dsimp only)
      refine hK.out _ _ (by exact KB.out _ HE10.out) (fun hHeld => ?_)
      clear hK K
      (try simp only [Act.put, List.setIfInBounds_toArray, List.set_cons_zero, List.set_cons_succ])
      (refine WG.take (i := 11) (v := ?_) rfl (by kernel_rfl) (by kernel_rfl) (by kernel_rfl) (by kernel_rfl) (fun _ _ _ h => h) (Or.inl ⟨by rfl, ?_⟩) (by assumption) ?_; rotate_left; (intro w hSw; (try dsimp only at hSw); go_split_ands; go_simp; (try with_reducible rfl)); (try simp only [Act.put, List.setIfInBounds_toArray, List.set_cons_zero, List.set_cons_succ]))
      refine WG.last (i := 12) rfl (by kernel_rfl) (by kernel_rfl) (fun K hK => ?_)
      go_simp
      refine hK.out _ _ ?_
      clear hK K
      (try simp only [Act.put, List.setIfInBounds_toArray, List.set_cons_zero, List.set_cons_succ])
      refine WG.done (by kernel_rfl) ?_
      go_wp2
      go_ret
      exact ⟨ret_b HRS.out.symm, HEW.out.trans HE10.out⟩
    · go_simp
      refine hK.out _ _ (by exact KB.out _ (HE2.out.trans (Ext.alloc _ _))) (fun hHeld => ?_)
      clear hK K
      (try simp only [Act.put, List.setIfInBounds_toArray, List.set_cons_zero, List.set_cons_succ])
      obtain ⟨W3, hW3⟩ : ∃ W3, W3 = w2.alloc (.cells #[.int .i64 x.id, .slice An x.need.length cn] 34) := ⟨_, rfl⟩
      have hE3 : Ext W W3 := by rw [hW3]; exact HE2.out.trans (Ext.alloc _ _)
      have hz3 : W3.heap[w2.heap.size]? = some (.cells #[.int .i64 x.id, .slice An x.need.length cn] 34 (0, 0)) := by rw [hW3]; exact heap_alloc_new _ _
      rw [← hW3] at hHeld ⊢
      have HE3 := hid hE3
      have HZ3 := hid hz3
      have HZ : Hid (W.heap.size ≤ W3.heap.size) := hid hE3.size
      clear hW3 hE3 hz3
      refine WG.one (i := 6) rfl (by kernel_rfl) (fun K hK => ?_)
      go_simp; refine (iConcat _ bs _ (RB.ext HB.out HE3.out) HFB.out).mono ?_; rw [← HFF.out]; rintro e6 w6 ⟨v6, rfl, hO6, hE6⟩; have HE6 := hid (HE3.out.trans hE6); have hz6 := hE6.obj HZ3.out; have HO6 := hid (Own.low (base' := W.heap.size) hO6 HE3.out.size); obtain ⟨A6, c6, rfl, _, _⟩ := hO6.form; clear hO6 hE6; (try dsimp only)
      refine hK.out _ _ (by exact KB.out _ HE6.out) (fun hHeld => ?_)
      clear hK K
      (try simp only [Act.put, List.setIfInBounds_toArray, List.set_cons_zero, List.set_cons_succ])
      have hsz : w.heap.size ≤ w6.heap.size := Nat.le_trans HEW.out.size HE6.out.size
      have HZZ := hid hz6
      clear hz6
      refine WG.one (i := 9) rfl (by kernel_rfl) (fun K hK => ?_)
      refine step_append_slg _ (by rfl) _ _ 24 (by rfl) ET.ok ET.flat (w.heap.size) 34 ET.ne i0_task _ 2 32 Try.underlying24 hi0_task hz0_task hz1_task hz2_task rfl (by omega) _ (by rfl) _ ((HO6.out.low (base' := w.heap.size) HEW.out.size)) _ (by rfl) _ (RSl.laid (cs := [.int .i64 x.id, .slice An x.need.length cn]) (x := x) HZZ.out rfl ⟨_, rfl, RI.ext HXW.out HE6.out⟩) (by have := HFL.out; simp; omega) (by have := HFL.out; simp; omega) ?_ ?_; (focus (first | exact Nat.le_refl _ | (simp; done) | (simp; omega) | omega)); intro v9 w9 hO9 hg9 hat9 hs9; have HO9 := hid hO9; have HE9 : Hid (Ext W w9) := hid (Ext.grown (HE6.out) hg9 (fun q hq => ⟨(Own.lt ((HO6.out)) q hq).1, (Own.lt ((HO6.out)) q hq).2⟩)); clear hO9 hg9 hat9 hs9
      refine hK.out _ _ (by exact KB.out _ HE9.out) (fun hHeld => ?_)
      clear hK K
      (try simp only [Act.put, List.setIfInBounds_toArray, List.set_cons_zero, List.set_cons_succ])
      refine WG.one (i := 10) rfl (by kernel_rfl) (fun K hK => ?_)
      go_simp; refine (iTasksValid _ _ room (F ++ [x]) _ (RI.ext HR.out HE9.out) HO9.out.read (by rw [HFF.out]; exact HID.out)).mono ?_; rintro e10 w10 ⟨rfl, HQ⟩; have HE10 : Hid (Ext W w10) := hid (HE9.out.trans HQ); clear HQ; (try dsimp only)
      refine hK.out _ _ (by exact KB.out _ HE10.out) (fun hHeld => ?_)
      clear hK K
      (try simp only [Act.put, List.setIfInBounds_toArray, List.set_cons_zero, List.set_cons_succ])
      (refine WG.take (i := 11) (v := ?_) rfl (by kernel_rfl) (by kernel_rfl) (by kernel_rfl) (by kernel_rfl) (fun _ _ _ h => h) (Or.inl ⟨by rfl, ?_⟩) (by assumption) ?_; rotate_left; (intro w hSw; (try dsimp only at hSw); go_split_ands; go_simp; (try with_reducible rfl)); (try simp only [Act.put, List.setIfInBounds_toArray, List.set_cons_zero, List.set_cons_succ]))
      refine WG.last (i := 12) rfl (by kernel_rfl) (by kernel_rfl) (fun K hK => ?_)
      go_simp
      refine hK.out _ _ ?_
      clear hK K
      (try simp only [Act.put, List.setIfInBounds_toArray, List.set_cons_zero, List.set_cons_succ])
      refine WG.done (by kernel_rfl) ?_
      go_wp2
      go_ret
      exact ⟨ret_b HRS.out.symm, HEW.out.trans HE10.out⟩

set_option maxHeartbeats 4000000 in
theorem sL11Ok (rv v xv : Value) (room : List Int) (bs : List (List TaskD)) (x : TaskD) (w : World) (hR : RI w rv room) (h : RB w v bs) (hx : TaskV w xv x) (hfl : bs.flatten.length ≤ 3000000) :
    Calls Try.prog 60 #[rv, v, xv] w (RetB w (canComeL room bs x)) := by
  have hx0 := hx
  obtain ⟨nv, rfl, hnx⟩ := hx
  have HXN := hid hnx
  obtain ⟨An, cn, rfl, _⟩ := hnx
  obtain ⟨W, hW⟩ : ∃ W, W = w.alloc (.cells #[.int .i64 x.id, .slice An x.need.length cn] 34) := ⟨_, rfl⟩
  have hEW : Ext w W := by rw [hW]; exact Ext.alloc _ _
  have hxb : W.heap[w.heap.size]? = some (.cells #[.int .i64 x.id, .slice An x.need.length cn] 34 (0, 0)) := by rw [hW]; exact heap_alloc_new _ _
  have KB : Hid (∀ w', Ext W w' → w'.cell? ⟨w.heap.size, 0, none⟩ = some (.int .i64 x.id) ∧ w'.cell? ⟨w.heap.size, 1, none⟩ = some (.slice An x.need.length cn)) := hid fun w' hw => ⟨obj_cell (hw.obj hxb) (i := 0) rfl, obj_cell (hw.obj hxb) (i := 1) rfl⟩
  have HEW := hid hEW
  have HXW := hid (RI.ext HXN.out hEW)
  have HR := hid (RI.ext hR hEW)
  have HB := hid (RB.ext h hEW)
  obtain ⟨Ar, cr, rfl, _⟩ := hR
  obtain ⟨A, c, rfl⟩ := bin_row h
  obtain ⟨F, hF⟩ : ∃ F, F = bs.flatten := ⟨_, rfl⟩
  have HFF := hid hF
  have HFL : Hid (F.length ≤ 3000000) := hid (by rw [hF]; exact hfl)
  have HFB : Hid (bs.flatten.length ≤ 4000000) := hid (by omega)
  have HDr : Hid (Ext W W.drew) := hid (Below.drew (Below.refl _ _))
  obtain ⟨i0_task, hi0_task, hz0_task, hz1_task, hz2_task⟩ := info_parts info_task
  clear hxb hEW h hfl hx0 hF
  cases hb : binsOk room bs with
  | false =>
    have HBF := hid hb
    have HRS : Hid (canComeL room bs x = false) := hid (by unfold canComeL; rw [hb]; rfl)
    clear hb
    go_enter Try.func60, Try.ntmps60
    go_wp2
    rw [← hW]
    clear hW
    refine WG.start (fun w' => w'.cell? ⟨w.heap.size, 0, none⟩ = some (.int .i64 x.id) ∧ w'.cell? ⟨w.heap.size, 1, none⟩ = some (.slice An x.need.length cn)) [12] (by kernel_rfl) (by exact KB.out _ HDr.out) (fun hHeld => ?_)
    obtain ⟨pz, hpz⟩ : ∃ x, x = W.drew := ⟨_, rfl⟩
    rw [← hpz] at hHeld HDr ⊢
    clear hpz
    (refine WG.take (i := 0) (v := ?_) rfl (by kernel_rfl) (by kernel_rfl) (by kernel_rfl) (by kernel_rfl) (fun _ _ _ h => h) (Or.inl ⟨by rfl, ?_⟩) (by assumption) ?_; rotate_left; (intro w hSw; (try dsimp only at hSw); go_split_ands; go_simp; (try with_reducible rfl)); (try simp only [Act.put, List.setIfInBounds_toArray, List.set_cons_zero, List.set_cons_succ]))
    (refine WG.take (i := 1) (v := ?_) rfl (by kernel_rfl) (by kernel_rfl) (by kernel_rfl) (by kernel_rfl) (fun _ _ _ h => h) (Or.inl ⟨by rfl, ?_⟩) (by assumption) ?_; rotate_left; (intro w hSw; (try dsimp only at hSw); go_split_ands; go_simp; (try with_reducible rfl)); (try simp only [Act.put, List.setIfInBounds_toArray, List.set_cons_zero, List.set_cons_succ]))
    refine WG.one (i := 2) rfl (by kernel_rfl) (fun K hK => ?_)
    go_simp; refine (sBinsValid _ _ room bs _ (RI.ext HR.out HDr.out) (RB.ext HB.out HDr.out) HFB.out).mono ?_; rw [HBF.out]; rintro e2 w2 ⟨rfl, hE2⟩; have HE2 := hid (HDr.out.trans hE2); clear hE2; (try dsimp only)
    refine hK.out _ _ (by exact KB.out _ HE2.out) (fun hHeld => ?_)
    clear hK K
    (try simp only [Act.put, List.setIfInBounds_toArray, List.set_cons_zero, List.set_cons_succ])
    (refine WG.take (i := 3) (v := ?_) rfl (by kernel_rfl) (by kernel_rfl) (by kernel_rfl) (by kernel_rfl) (fun _ _ _ h => h) (Or.inl ⟨by rfl, ?_⟩) (by assumption) ?_; rotate_left; (intro w hSw; (try dsimp only at hSw); go_split_ands; go_simp; (try with_reducible rfl)); (try simp only [Act.put, List.setIfInBounds_toArray, List.set_cons_zero, List.set_cons_succ]))
    (refine WG.take (i := 4) rfl (by kernel_rfl) (by kernel_rfl) (by kernel_rfl) (by kernel_rfl) (fun _ _ _ h => h) (Or.inr ⟨?_, rfl⟩) (by assumption) ?_; go_simp; (try simp only [Act.put, List.setIfInBounds_toArray, List.set_cons_zero, List.set_cons_succ]))
    (refine WG.take (i := 5) rfl (by kernel_rfl) (by kernel_rfl) (by kernel_rfl) (by kernel_rfl) (fun _ _ _ h => h) (Or.inr ⟨?_, rfl⟩) (by assumption) ?_; go_simp; (try simp only [Act.put, List.setIfInBounds_toArray, List.set_cons_zero, List.set_cons_succ]))
    (refine WG.take (i := 6) rfl (by kernel_rfl) (by kernel_rfl) (by kernel_rfl) (by kernel_rfl) (fun _ _ _ h => h) (Or.inr ⟨?_, rfl⟩) (by assumption) ?_; go_simp; (try simp only [Act.put, List.setIfInBounds_toArray, List.set_cons_zero, List.set_cons_succ]))
    (refine WG.take (i := 7) rfl (by kernel_rfl) (by kernel_rfl) (by kernel_rfl) (by kernel_rfl) (fun _ _ _ h => h) (Or.inr ⟨?_, rfl⟩) (by assumption) ?_; go_simp; (try simp only [Act.put, List.setIfInBounds_toArray, List.set_cons_zero, List.set_cons_succ]))
    (refine WG.take (i := 8) rfl (by kernel_rfl) (by kernel_rfl) (by kernel_rfl) (by kernel_rfl) (fun _ _ _ h => h) (Or.inr ⟨?_, rfl⟩) (by assumption) ?_; go_simp; (try simp only [Act.put, List.setIfInBounds_toArray, List.set_cons_zero, List.set_cons_succ]))
    (refine WG.take (i := 9) rfl (by kernel_rfl) (by kernel_rfl) (by kernel_rfl) (by kernel_rfl) (fun _ _ _ h => h) (Or.inr ⟨?_, rfl⟩) (by assumption) ?_; go_simp; (try simp only [Act.put, List.setIfInBounds_toArray, List.set_cons_zero, List.set_cons_succ]))
    (refine WG.take (i := 10) rfl (by kernel_rfl) (by kernel_rfl) (by kernel_rfl) (by kernel_rfl) (fun _ _ _ h => h) (Or.inr ⟨?_, rfl⟩) (by assumption) ?_; go_simp; (try simp only [Act.put, List.setIfInBounds_toArray, List.set_cons_zero, List.set_cons_succ]))
    (refine WG.take (i := 11) (v := ?_) rfl (by kernel_rfl) (by kernel_rfl) (by kernel_rfl) (by kernel_rfl) (fun _ _ _ h => h) (Or.inl ⟨by rfl, ?_⟩) (by assumption) ?_; rotate_left; (intro w hSw; (try dsimp only at hSw); go_split_ands; go_simp; (try with_reducible rfl)); (try simp only [Act.put, List.setIfInBounds_toArray, List.set_cons_zero, List.set_cons_succ]))
    refine WG.last (i := 12) rfl (by kernel_rfl) (by kernel_rfl) (fun K hK => ?_)
    go_simp
    refine hK.out _ _ ?_
    clear hK K
    (try simp only [Act.put, List.setIfInBounds_toArray, List.set_cons_zero, List.set_cons_succ])
    refine WG.done (by kernel_rfl) ?_
    go_wp2
    go_ret
    exact ⟨ret_b HRS.out.symm, HEW.out.trans HE2.out⟩
  | true =>
    have HBF := hid hb
    have HRS : Hid (canComeL room bs x = tasksOk room (F ++ [x])) := hid (by rw [HFF.out]; unfold canComeL; rw [hb]; rfl)
    clear hb
    go_enter Try.func60, Try.ntmps60
    go_wp2
    rw [← hW]
    clear hW
    refine WG.start (fun w' => w'.cell? ⟨w.heap.size, 0, none⟩ = some (.int .i64 x.id) ∧ w'.cell? ⟨w.heap.size, 1, none⟩ = some (.slice An x.need.length cn)) [12] (by kernel_rfl) (by exact KB.out _ HDr.out) (fun hHeld => ?_)
    obtain ⟨pz, hpz⟩ : ∃ x, x = W.drew := ⟨_, rfl⟩
    rw [← hpz] at hHeld HDr ⊢
    clear hpz
    (refine WG.take (i := 0) (v := ?_) rfl (by kernel_rfl) (by kernel_rfl) (by kernel_rfl) (by kernel_rfl) (fun _ _ _ h => h) (Or.inl ⟨by rfl, ?_⟩) (by assumption) ?_; rotate_left; (intro w hSw; (try dsimp only at hSw); go_split_ands; go_simp; (try with_reducible rfl)); (try simp only [Act.put, List.setIfInBounds_toArray, List.set_cons_zero, List.set_cons_succ]))
    (refine WG.take (i := 1) (v := ?_) rfl (by kernel_rfl) (by kernel_rfl) (by kernel_rfl) (by kernel_rfl) (fun _ _ _ h => h) (Or.inl ⟨by rfl, ?_⟩) (by assumption) ?_; rotate_left; (intro w hSw; (try dsimp only at hSw); go_split_ands; go_simp; (try with_reducible rfl)); (try simp only [Act.put, List.setIfInBounds_toArray, List.set_cons_zero, List.set_cons_succ]))
    refine WG.one (i := 2) rfl (by kernel_rfl) (fun K hK => ?_)
    go_simp; refine (sBinsValid _ _ room bs _ (RI.ext HR.out HDr.out) (RB.ext HB.out HDr.out) HFB.out).mono ?_; rw [HBF.out]; rintro e2 w2 ⟨rfl, hE2⟩; have HE2 := hid (HDr.out.trans hE2); clear hE2; (try dsimp only)
    refine hK.out _ _ (by exact KB.out _ HE2.out) (fun hHeld => ?_)
    clear hK K
    (try simp only [Act.put, List.setIfInBounds_toArray, List.set_cons_zero, List.set_cons_succ])
    (refine WG.take (i := 3) (v := ?_) rfl (by kernel_rfl) (by kernel_rfl) (by kernel_rfl) (by kernel_rfl) (fun _ _ _ h => h) (Or.inl ⟨by rfl, ?_⟩) (by assumption) ?_; rotate_left; (intro w hSw; (try dsimp only at hSw); go_split_ands; go_simp; (try with_reducible rfl)); (try simp only [Act.put, List.setIfInBounds_toArray, List.set_cons_zero, List.set_cons_succ]))
    (refine WG.take (i := 4) (v := ?_) rfl (by kernel_rfl) (by kernel_rfl) (by kernel_rfl) (by kernel_rfl) (fun _ _ _ h => h) (Or.inl ⟨by rfl, ?_⟩) (by assumption) ?_; rotate_left; (intro w hSw; (try dsimp only at hSw); go_split_ands; go_simp; (try with_reducible rfl)); (try simp only [Act.put, List.setIfInBounds_toArray, List.set_cons_zero, List.set_cons_succ]))
    (refine WG.take (i := 5) (v := ?_) rfl (by kernel_rfl) (by kernel_rfl) (by kernel_rfl) (by kernel_rfl) (fun _ _ _ h => h) (Or.inl ⟨by rfl, ?_⟩) (by assumption) ?_; rotate_left; (intro w hSw; (try dsimp only at hSw); go_split_ands; go_simp; (try with_reducible rfl)); (try simp only [Act.put, List.setIfInBounds_toArray, List.set_cons_zero, List.set_cons_succ]))
    (refine WG.take (i := 7) (v := ?_) rfl (by kernel_rfl) (by kernel_rfl) (by kernel_rfl) (by kernel_rfl) (fun _ _ _ h => h) (Or.inl ⟨by rfl, ?_⟩) (by assumption) ?_; rotate_left; (intro w hSw; (try dsimp only at hSw); go_split_ands; go_simp; (try with_reducible rfl)); (try simp only [Act.put, List.setIfInBounds_toArray, List.set_cons_zero, List.set_cons_succ]))
    refine WG.two (i := 6) (j := 8) rfl rfl (by kernel_rfl) (fun K hK => ?_) (fun K hK => ?_)
    · go_simp
      refine (sAll _ bs _ (RB.ext HB.out HE2.out) HFB.out).mono ?_
      rw [← HFF.out]
      rintro e6 w6 ⟨v6, rfl, hO6, hE6⟩
      have HE6 := hid (HE2.out.trans hE6)
      have HZ : Hid (W.heap.size ≤ w2.heap.size) := hid HE2.out.size
      have HO6 := hid (Own.low (base' := W.heap.size) hO6 HE2.out.size)
      obtain ⟨A6, c6, rfl, _, _⟩ := hO6.form
      clear hO6 hE6
      (try dsimp only)
      refine hK.out _ _ (by exact KB.out _ HE6.out) (fun hHeld => ?_)
      clear hK K
      (try simp only [Act.put, List.setIfInBounds_toArray, List.set_cons_zero, List.set_cons_succ])
      refine WG.one (i := 8) rfl (by kernel_rfl) (fun K hK => ?_)
      go_simp
      refine hK.out _ _ (by exact KB.out _ (HE6.out.trans (Ext.alloc _ _))) (fun hHeld => ?_)
      clear hK K
      (try simp only [Act.put, List.setIfInBounds_toArray, List.set_cons_zero, List.set_cons_succ])
      have hE8 := HE6.out.trans (Ext.alloc w6 (.cells #[.int .i64 x.id, .slice An x.need.length cn] 34))
      have HO8 := hid (HO6.out.ext ET.ok (Ext.alloc w6 (.cells #[.int .i64 x.id, .slice An x.need.length cn] 34)))
      have hsz : w.heap.size ≤ w6.heap.size := Nat.le_trans HEW.out.size HE6.out.size
      refine WG.one (i := 9) rfl (by kernel_rfl) (fun K hK => ?_)
      refine step_append_slg _ (by rfl) _ _ 24 (by rfl) ET.ok ET.flat (w.heap.size) 34 ET.ne i0_task _ 2 32 Try.underlying24 hi0_task hz0_task hz1_task hz2_task rfl (by omega) _ (by rfl) _ ((HO8.out.low (base' := w.heap.size) HEW.out.size)) _ (by rfl) _ (RSl.laid (cs := [.int .i64 x.id, .slice An x.need.length cn]) (x := x) (heap_alloc_new _ _) rfl ⟨_, rfl, RI.ext HXW.out hE8⟩) (by have := HFL.out; simp; omega) (by have := HFL.out; simp; omega) ?_ ?_; (focus (first | exact Nat.le_refl _ | (simp; done) | (simp; omega) | omega)); intro v9 w9 hO9 hg9 hat9 hs9; have HO9 := hid hO9; have HE9 : Hid (Ext W w9) := hid (Ext.grown (hE8) hg9 (fun q hq => ⟨(Own.lt ((HO8.out)) q hq).1, (Own.lt ((HO8.out)) q hq).2⟩)); clear hO9 hg9 hat9 hs9
      refine hK.out _ _ (by exact KB.out _ HE9.out) (fun hHeld => ?_)
      clear hK K
      (try simp only [Act.put, List.setIfInBounds_toArray, List.set_cons_zero, List.set_cons_succ])
      refine WG.one (i := 10) rfl (by kernel_rfl) (fun K hK => ?_)
      go_simp; refine (sTasksValid _ _ room (F ++ [x]) _ (RI.ext HR.out HE9.out) HO9.out.read).mono ?_; rintro e10 w10 ⟨rfl, HQ⟩; have HE10 : Hid (Ext W w10) := hid (by obtain ⟨n, hn⟩ := HQ; rw [hn]; exact HE9.out.trans (Ext.drewN _ _)); clear HQ; (try dsimp only)
      refine hK.out _ _ (by exact KB.out _ HE10.out) (fun hHeld => ?_)
      clear hK K
      (try simp only [Act.put, List.setIfInBounds_toArray, List.set_cons_zero, List.set_cons_succ])
      (refine WG.take (i := 11) (v := ?_) rfl (by kernel_rfl) (by kernel_rfl) (by kernel_rfl) (by kernel_rfl) (fun _ _ _ h => h) (Or.inl ⟨by rfl, ?_⟩) (by assumption) ?_; rotate_left; (intro w hSw; (try dsimp only at hSw); go_split_ands; go_simp; (try with_reducible rfl)); (try simp only [Act.put, List.setIfInBounds_toArray, List.set_cons_zero, List.set_cons_succ]))
      refine WG.last (i := 12) rfl (by kernel_rfl) (by kernel_rfl) (fun K hK => ?_)
      go_simp
      refine hK.out _ _ ?_
      clear hK K
      (try simp only [Act.put, List.setIfInBounds_toArray, List.set_cons_zero, List.set_cons_succ])
      refine WG.done (by kernel_rfl) ?_
      go_wp2
      go_ret
      exact ⟨ret_b HRS.out.symm, HEW.out.trans HE10.out⟩
    · go_simp
      refine hK.out _ _ (by exact KB.out _ (HE2.out.trans (Ext.alloc _ _))) (fun hHeld => ?_)
      clear hK K
      (try simp only [Act.put, List.setIfInBounds_toArray, List.set_cons_zero, List.set_cons_succ])
      obtain ⟨W3, hW3⟩ : ∃ W3, W3 = w2.alloc (.cells #[.int .i64 x.id, .slice An x.need.length cn] 34) := ⟨_, rfl⟩
      have hE3 : Ext W W3 := by rw [hW3]; exact HE2.out.trans (Ext.alloc _ _)
      have hz3 : W3.heap[w2.heap.size]? = some (.cells #[.int .i64 x.id, .slice An x.need.length cn] 34 (0, 0)) := by rw [hW3]; exact heap_alloc_new _ _
      rw [← hW3] at hHeld ⊢
      have HE3 := hid hE3
      have HZ3 := hid hz3
      have HZ : Hid (W.heap.size ≤ W3.heap.size) := hid hE3.size
      clear hW3 hE3 hz3
      refine WG.one (i := 6) rfl (by kernel_rfl) (fun K hK => ?_)
      go_simp; refine (sAll _ bs _ (RB.ext HB.out HE3.out) HFB.out).mono ?_; rw [← HFF.out]; rintro e6 w6 ⟨v6, rfl, hO6, hE6⟩; have HE6 := hid (HE3.out.trans hE6); have hz6 := hE6.obj HZ3.out; have HO6 := hid (Own.low (base' := W.heap.size) hO6 HE3.out.size); obtain ⟨A6, c6, rfl, _, _⟩ := hO6.form; clear hO6 hE6; (try dsimp only)
      refine hK.out _ _ (by exact KB.out _ HE6.out) (fun hHeld => ?_)
      clear hK K
      (try simp only [Act.put, List.setIfInBounds_toArray, List.set_cons_zero, List.set_cons_succ])
      have hsz : w.heap.size ≤ w6.heap.size := Nat.le_trans HEW.out.size HE6.out.size
      have HZZ := hid hz6
      clear hz6
      refine WG.one (i := 9) rfl (by kernel_rfl) (fun K hK => ?_)
      refine step_append_slg _ (by rfl) _ _ 24 (by rfl) ET.ok ET.flat (w.heap.size) 34 ET.ne i0_task _ 2 32 Try.underlying24 hi0_task hz0_task hz1_task hz2_task rfl (by omega) _ (by rfl) _ ((HO6.out.low (base' := w.heap.size) HEW.out.size)) _ (by rfl) _ (RSl.laid (cs := [.int .i64 x.id, .slice An x.need.length cn]) (x := x) HZZ.out rfl ⟨_, rfl, RI.ext HXW.out HE6.out⟩) (by have := HFL.out; simp; omega) (by have := HFL.out; simp; omega) ?_ ?_; (focus (first | exact Nat.le_refl _ | (simp; done) | (simp; omega) | omega)); intro v9 w9 hO9 hg9 hat9 hs9; have HO9 := hid hO9; have HE9 : Hid (Ext W w9) := hid (Ext.grown (HE6.out) hg9 (fun q hq => ⟨(Own.lt ((HO6.out)) q hq).1, (Own.lt ((HO6.out)) q hq).2⟩)); clear hO9 hg9 hat9 hs9
      refine hK.out _ _ (by exact KB.out _ HE9.out) (fun hHeld => ?_)
      clear hK K
      (try simp only [Act.put, List.setIfInBounds_toArray, List.set_cons_zero, List.set_cons_succ])
      refine WG.one (i := 10) rfl (by kernel_rfl) (fun K hK => ?_)
      go_simp; refine (sTasksValid _ _ room (F ++ [x]) _ (RI.ext HR.out HE9.out) HO9.out.read).mono ?_; rintro e10 w10 ⟨rfl, HQ⟩; have HE10 : Hid (Ext W w10) := hid (by obtain ⟨n, hn⟩ := HQ; rw [hn]; exact HE9.out.trans (Ext.drewN _ _)); clear HQ; (try dsimp only)
      refine hK.out _ _ (by exact KB.out _ HE10.out) (fun hHeld => ?_)
      clear hK K
      (try simp only [Act.put, List.setIfInBounds_toArray, List.set_cons_zero, List.set_cons_succ])
      (refine WG.take (i := 11) (v := ?_) rfl (by kernel_rfl) (by kernel_rfl) (by kernel_rfl) (by kernel_rfl) (fun _ _ _ h => h) (Or.inl ⟨by rfl, ?_⟩) (by assumption) ?_; rotate_left; (intro w hSw; (try dsimp only at hSw); go_split_ands; go_simp; (try with_reducible rfl)); (try simp only [Act.put, List.setIfInBounds_toArray, List.set_cons_zero, List.set_cons_succ]))
      refine WG.last (i := 12) rfl (by kernel_rfl) (by kernel_rfl) (fun K hK => ?_)
      go_simp
      refine hK.out _ _ ?_
      clear hK K
      (try simp only [Act.put, List.setIfInBounds_toArray, List.set_cons_zero, List.set_cons_succ])
      refine WG.done (by kernel_rfl) ?_
      go_wp2
      go_ret
      exact ⟨ret_b HRS.out.symm, HEW.out.trans HE10.out⟩

end Go.Proofs.Ytoaabinpdjcimaa

/- The program's FirstAt, ApartAt, FirstAll, ApartAll. -/
namespace Go.Proofs.Ytoaabinpdjcimaa
open Go.RowKit
set_option maxRecDepth 4000

theorem come_parts {room : List Int} {bs : List (List TaskD)} {x : TaskD} (h : canComeL room bs x = true) : room.length = 3 ∧ bs.length ≤ 14 ∧ (∀ b ∈ bs, GoodTs b) ∧ x.need.length = 3 ∧ Bd 1000 x.need := by
  simp only [canComeL, Bool.and_eq_true] at h
  obtain ⟨h1, h2, _, h4⟩ := bins_small h.1
  have h5 := (tasksOk_good h.2).2 x (by simp)
  exact ⟨h1, h2, fun b hb => (h4 b hb).1, h5.1, h5.2⟩

set_option maxHeartbeats 1000000 in
theorem iFirstAt (rv v xv : Value) (room : List Int) (bs : List (List TaskD)) (x : TaskD) (w : World) (hR : RI w rv room) (h : RB w v bs) (hx : TaskV w xv x) (hfl : bs.flatten.length ≤ 3000000) (hids : ∀ t ∈ bs.flatten ++ [x], IdR t.id) :
    Calls Try.prog 18 #[rv, v, xv] w (RetN w (firstAtN room bs x)) := by
  have HXV := hid hx
  obtain ⟨nv, rfl, hnx⟩ := hx
  have HXN := hid hnx
  obtain ⟨An, cn, rfl, _⟩ := hnx
  obtain ⟨W, hW⟩ : ∃ W, W = w.alloc (.cells #[.int .i64 x.id, .slice An x.need.length cn] 34) := ⟨_, rfl⟩
  have hEW : Ext w W := by rw [hW]; exact Ext.alloc _ _
  have hxb : W.heap[w.heap.size]? = some (.cells #[.int .i64 x.id, .slice An x.need.length cn] 34 (0, 0)) := by rw [hW]; exact heap_alloc_new _ _
  have KB : Hid (∀ w', Ext W w' → w'.cell? ⟨w.heap.size, 0, none⟩ = some (.int .i64 x.id) ∧ w'.cell? ⟨w.heap.size, 1, none⟩ = some (.slice An x.need.length cn)) := hid fun w' hw => ⟨obj_cell (hw.obj hxb) (i := 0) rfl, obj_cell (hw.obj hxb) (i := 1) rfl⟩
  have HEW := hid hEW
  have HR := hid (RI.ext hR hEW)
  have HB := hid (RB.ext h hEW)
  have HXW := hid (RI.ext HXN.out hEW)
  have HTW : Hid (TaskV W (.agg #[.int .i64 x.id, .slice An x.need.length cn]) x) := hid ⟨_, rfl, HXW.out⟩
  have HFL := hid hfl
  have HID := hid hids
  obtain ⟨Ar, cr, rfl, _⟩ := hR
  obtain ⟨A, c, rfl⟩ := bin_row h
  clear hxb hEW h hfl hids
  cases hc : canComeL room bs x with
  | false =>
    have HRS : Hid (firstAtN room bs x = -1) := hid (by unfold firstAtN; rw [hc]; rfl)
    go_enter Try.func18, Try.ntmps18
    go_wp2_with (go_at_call 59; rw [← hW]; refine (iCanCome _ _ _ room bs x _ HR.out HB.out HTW.out HFL.out HID.out).mono ?_; rintro e w1 ⟨rfl, hE1⟩; rw [hc]; have HE1 := hid hE1; clear hE1 hW)
    go_ret
    exact ⟨ret_i HRS.out.symm, HEW.out.trans HE1.out⟩
  | true =>
    have HRS : Hid (firstAtN room bs x = firstAt room bs x) := hid (by unfold firstAtN; rw [hc]; rfl)
    have HCP := hid (come_parts hc)
    go_enter Try.func18, Try.ntmps18
    go_wp2_with (first
      | (go_at_call 59; rw [← hW]; refine (iCanCome _ _ _ room bs x _ HR.out HB.out HTW.out HFL.out HID.out).mono ?_; rintro e w1 ⟨rfl, hE1⟩; rw [hc]; obtain ⟨q0, q1⟩ := KB.out _ hE1; have HE1 := hid hE1; clear hE1 hW)
      | (go_at_call 55; refine (iFirstOf room bs x Ar cr A c An cn _ (RI.ext HR.out HE1.out) (RB.ext HB.out HE1.out) (RI.ext HXW.out HE1.out) HCP.out.1 HCP.out.2.2.1 HCP.out.2.2.2 (by have := HCP.out.2.1; omega)).mono ?_; rintro e w2 ⟨rfl, hE2⟩; have HE2 := hid (HE1.out.trans hE2); clear hE2))
    go_ret
    exact ⟨ret_i HRS.out.symm, HEW.out.trans HE2.out⟩

theorem iApartOf (A : Option Addr) (n c : Nat) (w : World) :
    Calls Try.prog 50 #[.slice A n c] w fun e w' => ∃ b, e = .returned (.func (.func 79) #[] #[.pointer (some ⟨b, 0, none⟩)]) ∧ w'.cell? ⟨b, 0, none⟩ = some (.slice A n c) ∧ Ext w w' := by
  go_enter Try.func50, Try.ntmps50
  go_wp2
  go_ret
  exact ⟨_, rfl, cell_new _ _ _ 0, Ext.alloc _ _⟩

set_option maxHeartbeats 2000000 in
theorem iApartAt (rv v pv xv : Value) (room : List Int) (bs : List (List TaskD)) (ps : List PairD) (x : TaskD) (w : World) (hR : RI w rv room) (h : RB w v bs) (hp : RP w pv ps) (hx : TaskV w xv x) (hfl : bs.flatten.length ≤ 3000000) (hids : ∀ t ∈ bs.flatten ++ [x], IdR t.id) :
    Calls Try.prog 16 #[rv, v, pv, xv] w (RetN w (apartAtN room bs ps x)) := by
  have HXV := hid hx
  obtain ⟨nv, rfl, hnx⟩ := hx
  have HXN := hid hnx
  obtain ⟨An, cn, rfl, _⟩ := hnx
  obtain ⟨W, hW⟩ : ∃ W, W = w.alloc (.cells #[.int .i64 x.id, .slice An x.need.length cn] 34) := ⟨_, rfl⟩
  have hEW : Ext w W := by rw [hW]; exact Ext.alloc _ _
  have hxb : W.heap[w.heap.size]? = some (.cells #[.int .i64 x.id, .slice An x.need.length cn] 34 (0, 0)) := by rw [hW]; exact heap_alloc_new _ _
  have KB : Hid (∀ w', Ext W w' → w'.cell? ⟨w.heap.size, 0, none⟩ = some (.int .i64 x.id) ∧ w'.cell? ⟨w.heap.size, 1, none⟩ = some (.slice An x.need.length cn)) := hid fun w' hw => ⟨obj_cell (hw.obj hxb) (i := 0) rfl, obj_cell (hw.obj hxb) (i := 1) rfl⟩
  have HEW := hid hEW
  have HR := hid (RI.ext hR hEW)
  have HB := hid (RB.ext h hEW)
  have HP := hid (RP.ext hp hEW)
  have HXW := hid (RI.ext HXN.out hEW)
  have HTW : Hid (TaskV W (.agg #[.int .i64 x.id, .slice An x.need.length cn]) x) := hid ⟨_, rfl, HXW.out⟩
  have HFL := hid hfl
  have HID := hid hids
  obtain ⟨Ar, cr, rfl, _⟩ := hR
  obtain ⟨Ap, cp, rfl, _⟩ := hp
  obtain ⟨A, c, rfl⟩ := bin_row h
  clear hxb hEW h hfl hids
  cases hc : canComeL room bs x with
  | false =>
    have HRS : Hid (apartAtN room bs ps x = -1) := hid (by unfold apartAtN; rw [hc]; rfl)
    go_enter Try.func16, Try.ntmps16
    go_wp2_with (go_at_call 59; rw [← hW]; refine (iCanCome _ _ _ room bs x _ HR.out HB.out HTW.out HFL.out HID.out).mono ?_; rintro e w1 ⟨rfl, hE1⟩; rw [hc]; have HE1 := hid hE1; clear hE1 hW)
    go_ret
    exact ⟨ret_i HRS.out.symm, HEW.out.trans HE1.out⟩
  | true =>
    cases hq : pairsOk ps with
    | false =>
      have HRS : Hid (apartAtN room bs ps x = -1) := hid (by unfold apartAtN; rw [hq, Bool.and_false]; rfl)
      go_enter Try.func16, Try.ntmps16
      go_wp2_with (first
        | (go_at_call 59; rw [← hW]; refine (iCanCome _ _ _ room bs x _ HR.out HB.out HTW.out HFL.out HID.out).mono ?_; rintro e w1 ⟨rfl, hE1⟩; rw [hc]; have HE1 := hid hE1; clear hE1 hW)
        | (go_at_call 49; refine (iPairsValid _ ps _ (RP.ext HP.out HE1.out)).mono ?_; rintro e w2 ⟨rfl, hE2⟩; rw [hq]; have HE2 := hid (HE1.out.trans hE2); clear hE2))
      go_ret
      exact ⟨ret_i HRS.out.symm, HEW.out.trans HE2.out⟩
    | true =>
      have HRS : Hid (apartAtN room bs ps x = apartAt room bs ps x) := hid (by unfold apartAtN; rw [hc, hq]; rfl)
      have HCP := hid (come_parts hc)
      have HPL : Hid (ps.length ≤ 100000) := hid (by simp only [pairsOk, Bool.and_eq_true, decide_eq_true_eq] at hq; omega)
      have HPS : Hid (∀ p ∈ ps, p.a < p.b) := hid (fun p hp => (pairsOk_mem hq hp).2.1)
      go_enter Try.func16, Try.ntmps16
      go_wp2_with (first
        | (go_at_call 59; rw [← hW]; refine (iCanCome _ _ _ room bs x _ HR.out HB.out HTW.out HFL.out HID.out).mono ?_; rintro e w1 ⟨rfl, hE1⟩; rw [hc]; have HE1 := hid hE1; clear hE1 hW)
        | (go_at_call 49; refine (iPairsValid _ ps _ (RP.ext HP.out HE1.out)).mono ?_; rintro e w2 ⟨rfl, hE2⟩; rw [hq]; have HE2 := hid (HE1.out.trans hE2); clear hE2))
      have HDr := hid (HE2.out.trans (Below.drew (Below.refl _ _)))
      refine WG.start (fun w' => w'.cell? ⟨w.heap.size, 0, none⟩ = some (.int .i64 x.id) ∧ w'.cell? ⟨w.heap.size, 1, none⟩ = some (.slice An x.need.length cn)) [5,6] (by kernel_rfl) (by exact KB.out _ HDr.out) (fun hHeld => ?_)
      obtain ⟨pz, hpz⟩ : ∃ x, x = w2.drew := ⟨_, rfl⟩
      rw [← hpz] at hHeld HDr ⊢
      clear hpz
      (refine WG.take (i := 0) (v := ?_) rfl (by kernel_rfl) (by kernel_rfl) (by kernel_rfl) (by kernel_rfl) (fun _ _ _ h => h) (Or.inl ⟨by rfl, ?_⟩) (by assumption) ?_; rotate_left; (intro w hSw; (try dsimp only at hSw); go_split_ands; go_simp; (try with_reducible rfl)); (try simp only [Act.put, List.setIfInBounds_toArray, List.set_cons_zero, List.set_cons_succ]))
      (refine WG.take (i := 2) (v := ?_) rfl (by kernel_rfl) (by kernel_rfl) (by kernel_rfl) (by kernel_rfl) (fun _ _ _ h => h) (Or.inl ⟨by rfl, ?_⟩) (by assumption) ?_; rotate_left; (intro w hSw; (try dsimp only at hSw); go_split_ands; go_simp; (try with_reducible rfl)); (try simp only [Act.put, List.setIfInBounds_toArray, List.set_cons_zero, List.set_cons_succ]))
      (refine WG.take (i := 3) (v := ?_) rfl (by kernel_rfl) (by kernel_rfl) (by kernel_rfl) (by kernel_rfl) (fun _ _ _ h => h) (Or.inl ⟨by rfl, ?_⟩) (by assumption) ?_; rotate_left; (intro w hSw; (try dsimp only at hSw); go_split_ands; go_simp; (try with_reducible rfl)); (try simp only [Act.put, List.setIfInBounds_toArray, List.set_cons_zero, List.set_cons_succ]))
      (refine WG.take (i := 4) (v := ?_) rfl (by kernel_rfl) (by kernel_rfl) (by kernel_rfl) (by kernel_rfl) (fun _ _ _ h => h) (Or.inl ⟨by rfl, ?_⟩) (by assumption) ?_; rotate_left; (intro w hSw; (try dsimp only at hSw); go_split_ands; go_simp; (try with_reducible rfl)); (try simp only [Act.put, List.setIfInBounds_toArray, List.set_cons_zero, List.set_cons_succ]))
      refine WG.one (i := 1) rfl (by kernel_rfl) (fun K hK => ?_)
      go_simp; refine (iApartOf Ap ps.length cp _).mono ?_; rintro e3 w3 ⟨b3, rfl, hb3, hE3⟩; have HB3 := hid hb3; have HE3 := hid (HDr.out.trans hE3); clear hb3 hE3; (try dsimp only)
      refine hK.out _ _ (by exact KB.out _ HE3.out) (fun hHeld => ?_)
      clear hK K
      (try simp only [Act.put, List.setIfInBounds_toArray, List.set_cons_zero, List.set_cons_succ])
      refine WG.last (i := 5) rfl (by kernel_rfl) (by kernel_rfl) (fun K hK => ?_)
      go_simp; refine (iApart1 room bs x ps Ar cr A c An cn Ap cp b3 _ (RI.ext HR.out HE3.out) (RB.ext HB.out HE3.out) (RI.ext HXW.out HE3.out) (RP.ext HP.out HE3.out) HB3.out HPL.out HPS.out HCP.out.1 HCP.out.2.2.1 HCP.out.2.2.2 (by have := HCP.out.2.1; omega)).mono ?_; rintro e4 w4 ⟨rfl, hE4⟩; have HE4 := hid (HE3.out.trans hE4); clear hE4; (try dsimp only)
      refine hK.out _ _ ?_
      clear hK K
      (try simp only [Act.put, List.setIfInBounds_toArray, List.set_cons_zero, List.set_cons_succ])
      refine WG.last (i := 6) rfl (by kernel_rfl) (by kernel_rfl) (fun K hK => ?_)
      go_simp
      refine hK.out _ _ ?_
      clear hK K
      (try simp only [Act.put, List.setIfInBounds_toArray, List.set_cons_zero, List.set_cons_succ])
      refine WG.done (by kernel_rfl) ?_
      go_wp2
      go_ret
      exact ⟨ret_i HRS.out.symm, HEW.out.trans HE4.out⟩

def RetDB (r : List (List TaskD)) (w : World) (e : Ending) (w' : World) : Prop := ∃ v, e = .returned v ∧ DB w' w.heap.size v r ∧ Ext w w'
set_option maxHeartbeats 1000000 in
theorem iFirstAll (rv tv : Value) (room : List Int) (ts : List TaskD) (w : World) (hR : RI w rv room) (h : RT w tv ts) (hids : ∀ t ∈ ts, IdR t.id) :
    Calls Try.prog 14 #[rv, tv] w (RetDB (firstAllN room ts) w) := by
  have HR := hid hR
  have HT := hid h
  have HID := hid hids
  clear hids
  obtain ⟨Ar, cr, rfl, _⟩ := hR
  obtain ⟨At, ct, rfl, _⟩ := h
  cases hq : tasksOk room ts with
  | false =>
    have HRS : Hid (firstAllN room ts = []) := hid (by unfold firstAllN; rw [hq]; rfl)
    go_enter Try.func14, Try.ntmps14
    go_wp2_with (go_at_call 48; refine (iTasksValid _ _ room ts _ HR.out HT.out HID.out).mono ?_; rintro e w1 ⟨rfl, hE1⟩; rw [hq]; have HE1 := hid hE1; clear hE1)
    go_ret
    exact ⟨_, rfl, by rw [HRS.out]; exact DB.none_ _ _, HE1.out⟩
  | true =>
    have HRS : Hid (firstAllN room ts = allBy (fun bs x => firstAt room bs x) ts) := hid (by unfold firstAllN; rw [hq]; rfl)
    have HQ := hid hq
    go_enter Try.func14, Try.ntmps14
    go_wp2_with (first
      | (go_at_call 48; refine (iTasksValid _ _ room ts _ HR.out HT.out HID.out).mono ?_; rintro e w1 ⟨rfl, hE1⟩; rw [hq]; have HE1 := hid hE1; clear hE1)
      | (go_at_call 51; refine (iAllFirst _ _ room ts _ (RI.ext HR.out HE1.out) (RT.ext HT.out HE1.out) HQ.out).mono ?_; rintro e w2 ⟨v2, rfl, hD2, hE2⟩; have HD2 := hid (DB.low hD2 HE1.out.size); have HE2 := hid (HE1.out.trans hE2); clear hD2 hE2))
    go_ret
    exact ⟨_, rfl, by rw [HRS.out]; exact HD2.out, HE2.out⟩

set_option maxHeartbeats 1000000 in
theorem iApartAll (rv tv pv : Value) (room : List Int) (ts : List TaskD) (ps : List PairD) (w : World) (hR : RI w rv room) (h : RT w tv ts) (hp : RP w pv ps) (hids : ∀ t ∈ ts, IdR t.id) :
    Calls Try.prog 11 #[rv, tv, pv] w (RetDB (apartAllN room ts ps) w) := by
  have HR := hid hR
  have HT := hid h
  have HP := hid hp
  have HID := hid hids
  clear hids
  obtain ⟨Ar, cr, rfl, _⟩ := hR
  obtain ⟨At, ct, rfl, _⟩ := h
  obtain ⟨Ap, cp, rfl, _⟩ := hp
  cases hq : tasksOk room ts with
  | false =>
    have HRS : Hid (apartAllN room ts ps = []) := hid (by unfold apartAllN; rw [hq]; rfl)
    go_enter Try.func11, Try.ntmps11
    go_wp2_with (go_at_call 48; refine (iTasksValid _ _ room ts _ HR.out HT.out HID.out).mono ?_; rintro e w1 ⟨rfl, hE1⟩; rw [hq]; have HE1 := hid hE1; clear hE1)
    go_ret
    exact ⟨_, rfl, by rw [HRS.out]; exact DB.none_ _ _, HE1.out⟩
  | true =>
    cases hq2 : pairsOk ps with
    | false =>
      have HRS : Hid (apartAllN room ts ps = []) := hid (by unfold apartAllN; rw [hq2, Bool.and_false]; rfl)
      go_enter Try.func11, Try.ntmps11
      go_wp2_with (first
        | (go_at_call 48; refine (iTasksValid _ _ room ts _ HR.out HT.out HID.out).mono ?_; rintro e w1 ⟨rfl, hE1⟩; rw [hq]; have HE1 := hid hE1; clear hE1)
        | (go_at_call 49; refine (iPairsValid _ ps _ (RP.ext HP.out HE1.out)).mono ?_; rintro e w2 ⟨rfl, hE2⟩; rw [hq2]; have HE2 := hid (HE1.out.trans hE2); clear hE2))
      go_ret
      exact ⟨_, rfl, by rw [HRS.out]; exact DB.none_ _ _, HE2.out⟩
    | true =>
      have HRS : Hid (apartAllN room ts ps = allBy (fun bs x => apartAt room bs ps x) ts) := hid (by unfold apartAllN; rw [hq, hq2]; rfl)
      have HQ := hid hq
      have HPL : Hid (ps.length ≤ 100000) := hid (by have h1 := hq2; simp only [pairsOk, Bool.and_eq_true, decide_eq_true_eq] at h1; omega)
      have HPS : Hid (∀ p ∈ ps, p.a < p.b) := hid (fun p hp => (pairsOk_mem hq2 hp).2.1)
      go_enter Try.func11, Try.ntmps11
      go_wp2_with (first
        | (go_at_call 48; refine (iTasksValid _ _ room ts _ HR.out HT.out HID.out).mono ?_; rintro e w1 ⟨rfl, hE1⟩; rw [hq]; have HE1 := hid hE1; clear hE1)
        | (go_at_call 49; refine (iPairsValid _ ps _ (RP.ext HP.out HE1.out)).mono ?_; rintro e w2 ⟨rfl, hE2⟩; rw [hq2]; have HE2 := hid (HE1.out.trans hE2); clear hE2)
        | (go_at_call 50; refine (iApartOf Ap ps.length cp _).mono ?_; rintro e w3 ⟨b3, rfl, hb3, hE3⟩; have HB3 := hid hb3; have HE3 := hid (HE2.out.trans hE3); clear hb3 hE3)
        | (go_at_call 51; refine (iAllApart _ _ room ts ps Ap cp b3 _ (RI.ext HR.out HE3.out) (RT.ext HT.out HE3.out) HQ.out (RP.ext HP.out HE3.out) HB3.out HPL.out HPS.out).mono ?_; rintro e w4 ⟨v4, rfl, hD4, hE4⟩; have HD4 := hid (DB.low hD4 HE3.out.size); have HE4 := hid (HE3.out.trans hE4); clear hD4 hE4))
      go_ret
      exact ⟨_, rfl, by rw [HRS.out]; exact HD4.out, HE4.out⟩

end Go.Proofs.Ytoaabinpdjcimaa

/- The reference's ApartAt and ApartAll. -/
namespace Go.Proofs.Ytoaabinpdjcimaa
open Go.RowKit
set_option maxRecDepth 4000

theorem come_parts' {room : List Int} {bs : List (List TaskD)} {x : TaskD} (h : canComeL room bs x = true) : room.length = 3 ∧ bs.length ≤ 14 ∧ (∀ b ∈ bs, GoodTs b) ∧ x.need.length = 3 ∧ Bd 1000 x.need := by
  simp only [canComeL, Bool.and_eq_true] at h
  obtain ⟨h1, h2, _, h4⟩ := bins_small h.1
  have h5 := (tasksOk_good h.2).2 x (by simp)
  exact ⟨h1, h2, fun b hb => (h4 b hb).1, h5.1, h5.2⟩

set_option maxHeartbeats 2000000 in
theorem sApartAt (rv v pv xv : Value) (room : List Int) (bs : List (List TaskD)) (ps : List PairD) (x : TaskD) (w : World) (hR : RI w rv room) (h : RB w v bs) (hp : RP w pv ps) (hx : TaskV w xv x) (hfl : bs.flatten.length ≤ 3000000) :
    Calls Try.prog 17 #[rv, v, pv, xv] w (RetN w (apartAtN room bs ps x)) := by
  have HXV := hid hx
  obtain ⟨nv, rfl, hnx⟩ := hx
  have HXN := hid hnx
  obtain ⟨An, cn, rfl, _⟩ := hnx
  obtain ⟨W, hW⟩ : ∃ W, W = w.alloc (.cells #[.int .i64 x.id, .slice An x.need.length cn] 34) := ⟨_, rfl⟩
  have hEW : Ext w W := by rw [hW]; exact Ext.alloc _ _
  have hxb : W.heap[w.heap.size]? = some (.cells #[.int .i64 x.id, .slice An x.need.length cn] 34 (0, 0)) := by rw [hW]; exact heap_alloc_new _ _
  have KB : Hid (∀ w', Ext W w' → w'.cell? ⟨w.heap.size, 0, none⟩ = some (.int .i64 x.id) ∧ w'.cell? ⟨w.heap.size, 1, none⟩ = some (.slice An x.need.length cn)) := hid fun w' hw => ⟨obj_cell (hw.obj hxb) (i := 0) rfl, obj_cell (hw.obj hxb) (i := 1) rfl⟩
  have HEW := hid hEW
  have HR := hid (RI.ext hR hEW)
  have HB := hid (RB.ext h hEW)
  have HP := hid (RP.ext hp hEW)
  have HTW : Hid (TaskV W (.agg #[.int .i64 x.id, .slice An x.need.length cn]) x) := hid ⟨_, rfl, RI.ext HXN.out hEW⟩
  have HFL := hid hfl
  obtain ⟨Ar, cr, rfl, _⟩ := hR
  obtain ⟨Ap, cp, rfl, _⟩ := hp
  obtain ⟨A, c, rfl⟩ := bin_row h
  clear hxb hEW h hfl
  cases hc : canComeL room bs x with
  | false =>
    have HRS : Hid (apartAtN room bs ps x = -1) := hid (by unfold apartAtN; rw [hc]; rfl)
    go_enter Try.func17, Try.ntmps17
    go_wp2_with (go_at_call 60; rw [← hW]; refine (sL11Ok _ _ _ room bs x _ HR.out HB.out HTW.out HFL.out).mono ?_; rintro e w1 ⟨rfl, hE1⟩; rw [hc]; have HE1 := hid hE1; clear hE1 hW)
    go_ret
    exact ⟨ret_i HRS.out.symm, HEW.out.trans HE1.out⟩
  | true =>
    cases hq : pairsOk ps with
    | false =>
      have HRS : Hid (apartAtN room bs ps x = -1) := hid (by unfold apartAtN; rw [hq, Bool.and_false]; rfl)
      go_enter Try.func17, Try.ntmps17
      go_wp2_with (first
        | (go_at_call 60; rw [← hW]; refine (sL11Ok _ _ _ room bs x _ HR.out HB.out HTW.out HFL.out).mono ?_; rintro e w1 ⟨rfl, hE1⟩; rw [hc]; have HE1 := hid hE1; clear hE1 hW)
        | (go_at_call 33; refine (sPairsValid _ ps _ (RP.ext HP.out HE1.out)).mono ?_; rintro e w2 ⟨rfl, hE2⟩; rw [hq]; have HE2 := hid (HE1.out.trans hE2); clear hE2))
      go_ret
      exact ⟨ret_i HRS.out.symm, HEW.out.trans HE2.out⟩
    | true =>
      have HRS : Hid (apartAtN room bs ps x = apartAt room bs ps x) := hid (by unfold apartAtN; rw [hc, hq]; rfl)
      have HCP := hid (come_parts' hc)
      go_enter Try.func17, Try.ntmps17
      go_wp2_with (first
        | (go_at_call 60; rw [← hW]; refine (sL11Ok _ _ _ room bs x _ HR.out HB.out HTW.out HFL.out).mono ?_; rintro e w1 ⟨rfl, hE1⟩; rw [hc]; have HE1 := hid hE1; clear hE1 hW)
        | (go_at_call 33; refine (sPairsValid _ ps _ (RP.ext HP.out HE1.out)).mono ?_; rintro e w2 ⟨rfl, hE2⟩; rw [hq]; obtain ⟨q0, q1⟩ := KB.out _ (HE1.out.trans hE2); have HE2 := hid (HE1.out.trans hE2); clear hE2)
        | (go_at_call 53; refine (sAt41 _ _ _ _ room bs ps x _ (RI.ext HR.out HE2.out) (RB.ext HB.out HE2.out) (RP.ext HP.out HE2.out) (HTW.out.ext HE2.out) HCP.out.1 HCP.out.2.2.1 HCP.out.2.2.2).mono ?_; rintro e w3 ⟨rfl, hE3⟩; have HE3 := hid (HE2.out.trans hE3); clear hE3))
      go_ret
      exact ⟨ret_i HRS.out.symm, HEW.out.trans HE3.out⟩

theorem sPut (v xv : Value) (room : List Int) (bs : List (List TaskD)) (z : Int) (x : TaskD) (w : World) (h : RB w v bs) (hx : TaskV w xv x) (hz : z < 0 ∨ ∃ (k : Nat) (b : List TaskD), z = (k : Int) ∧ bs[k]? = some b ∧ l11fits room b x = true) (hl : bs.length ≤ 3000000) (hb : ∀ b ∈ bs, b.length ≤ 4000000 ∧ ∀ t ∈ b, t.need.length ≤ 4000000) (hn : x.need.length ≤ 4000000) :
    Calls Try.prog 52 #[v, .int .i64 z, xv] w (RetRB w (putL bs z x)) := by
  rcases hz with hz | ⟨k, b, rfl, hk, _⟩
  · rw [putL_new hz]
    exact sPutNew v xv bs z x w h hx hl hb hn hz
  · rw [putL_at hk]
    exact sPutAt v xv bs k b x w h hx hl hb hn hk

set_option maxHeartbeats 4000000 in
theorem sApartAll (rv tv pv : Value) (room : List Int) (ts : List TaskD) (ps : List PairD) (w : World) (hR : RI w rv room) (h : RT w tv ts) (hp : RP w pv ps) (hl : ts.length ≤ 4000000) :
    Calls Try.prog 12 #[rv, tv, pv] w (RetRB w (apartAllN room ts ps)) := by
  have HR := hid hR
  have HT := hid h
  have HP := hid hp
  obtain ⟨Ar, cr, rfl, _⟩ := hR
  obtain ⟨At, ct, rfl, _, _, hg⟩ := RT.get h
  obtain ⟨Ap, cp, rfl, _⟩ := hp
  have HG := hid hg
  obtain ⟨W, hW⟩ : ∃ W, W = w.alloc (.cells #[] 24) := ⟨_, rfl⟩
  have hEW : Ext w W := by rw [hW]; exact Ext.alloc _ _
  have HEW := hid hEW
  have HO0 : Hid (RB W (.slice (some ⟨w.heap.size, 0, none⟩) 0 0) []) := hid (RSl.nil_ _ _ _ _ _ _ (by omega))
  clear hEW h hg
  cases hq : (tasksOk room ts && pairsOk ps) with
  | true =>
    have HRS : Hid (apartAllN room ts ps = allBy (fun bs x => apartAt room bs ps x) ts) := hid (by unfold apartAllN; rw [hq]; rfl)
    simp only [Bool.and_eq_true] at hq
    have HQ1 := hid hq.1
    have HQ2 := hid hq.2
    have HSM := hid (fun k => bins_small (allBy_ok (chooses_apart room ps) (tasks_sub (List.take_sublist k ts) hq.1)))
    have HRW := hid (fun k => bins_rows (allBy_ok (chooses_apart room ps) (tasks_sub (List.take_sublist k ts) hq.1)))
    have HGT := hid (tasksOk_good hq.1)
    clear hq
    go_enter Try.func12, Try.ntmps12
    go_wp2
    rw [← hW]
    clear hW
    go_loopw [7, 8] (fun o i wr => ∃ (u : Value) (k : Nat), u = o ∧ k ≤ ts.length ∧ i = .int .i64 k ∧ Hid (RB wr u (allBy (fun bs x => apartAt room bs ps x) (ts.take k)) ∧ Ext w wr)) (fun _ i _ => ts.length - (intOf i).toNat)
    case atStart => exact ⟨_, 0, rfl, Nat.zero_le _, rfl, hid ⟨HO0.out, HEW.out⟩⟩
    case round =>
      obtain ⟨u, k, rfl, hk, rfl, H⟩ := hrel
      by_cases hlt : k < ts.length
      · obtain ⟨b, o, x, An, cn, rfl, e, c0, c1, hnx⟩ := HG.out k hlt
        have i1 : (k : Int) < (ts.length : Int) := by omega
        have i0 : (0 : Int) ≤ (k : Int) := by omega
        have HBR := hid H.out.1
        have HE := hid H.out.2
        have HNX := hid (RI.ext hnx HE.out)
        have HXG := hid (HGT.out.2 x (List.mem_of_getElem? e.out))
        have HST := hid (allBy_take_succ (fun bs x => apartAt room bs ps x) e.out)
        obtain ⟨Bs, hBs⟩ : ∃ Bs, Bs = allBy (fun bs x => apartAt room bs ps x) (ts.take k) := ⟨_, rfl⟩
        have HSK := hid (hBs ▸ HSM.out k)
        have HRK := hid (hBs ▸ HRW.out k)
        rw [← hBs] at HBR HST
        obtain ⟨Au, cu, hu⟩ := bin_row HBR.out
        subst hu
        have KB : Hid (∀ w', Ext wr w' → w'.cell? ⟨b, o + k * 2, none⟩ = some (.int .i64 x.id) ∧ w'.cell? ⟨b, o + k * 2 + 1, none⟩ = some (.slice An x.need.length cn)) := hid fun w' hw => ⟨(HE.out.trans hw).cell c0, (HE.out.trans hw).cell c1⟩
        obtain ⟨zz, hzz⟩ : ∃ zz, zz = apartAt room Bs ps x := ⟨_, rfl⟩
        have HZC : Hid (zz < 0 ∨ ∃ (k : Nat) (b : List TaskD), zz = (k : Int) ∧ Bs[k]? = some b ∧ l11fits room b x = true) := hid (by rw [hzz]; exact chooses_apart room ps Bs x)
        have HZZ := hid hzz
        clear hBs H c0 c1 hnx hzz
        go_wp2_with (first
          | (go_at_call 32; refine (sTasksValid _ _ room ts _ (RI.ext HR.out HE.out) (RT.ext HT.out HE.out)).mono ?_; rintro e w1 ⟨rfl, n1, hw1⟩; rw [HQ1.out]; have HE1 : Hid (Ext wr w1) := hid (by rw [hw1]; exact Ext.drewN _ _); clear hw1)
          | (go_at_call 33; refine (sPairsValid _ ps _ (RP.ext HP.out (HE.out.trans HE1.out))).mono ?_; rintro e w2 ⟨rfl, hE2⟩; rw [HQ2.out]; have HE2 := hid (HE1.out.trans hE2); clear hE2))
        have HDr := hid (HE2.out.trans (Below.drew (Below.refl _ _)))
        refine WG.start (fun w' => w'.cell? ⟨b, o + k * 2, none⟩ = some (.int .i64 x.id) ∧ w'.cell? ⟨b, o + k * 2 + 1, none⟩ = some (.slice An x.need.length cn)) [13,14] (by kernel_rfl) (by exact KB.out _ HDr.out) (fun hHeld => ?_)
        obtain ⟨pz, hpz⟩ : ∃ x, x = w2.drew := ⟨_, rfl⟩
        rw [← hpz] at hHeld HDr ⊢
        clear hpz
        (refine WG.take (i := 0) (v := ?_) rfl (by kernel_rfl) (by kernel_rfl) (by kernel_rfl) (by kernel_rfl) (fun _ _ _ h => h) (Or.inl ⟨by rfl, ?_⟩) (by assumption) ?_; rotate_left; (intro w hSw; (try dsimp only at hSw); go_split_ands; go_simp; (try with_reducible rfl)); (try simp only [Act.put, List.setIfInBounds_toArray, List.set_cons_zero, List.set_cons_succ]))
        (refine WG.take (i := 1) (v := ?_) rfl (by kernel_rfl) (by kernel_rfl) (by kernel_rfl) (by kernel_rfl) (fun _ _ _ h => h) (Or.inl ⟨by rfl, ?_⟩) (by assumption) ?_; rotate_left; (intro w hSw; (try dsimp only at hSw); go_split_ands; go_simp; (try with_reducible rfl)); (try simp only [Act.put, List.setIfInBounds_toArray, List.set_cons_zero, List.set_cons_succ]))
        (refine WG.take (i := 2) (v := ?_) rfl (by kernel_rfl) (by kernel_rfl) (by kernel_rfl) (by kernel_rfl) (fun _ _ _ h => h) (Or.inl ⟨by rfl, ?_⟩) (by assumption) ?_; rotate_left; (intro w hSw; (try dsimp only at hSw); go_split_ands; go_simp; (try with_reducible rfl)); (try simp only [Act.put, List.setIfInBounds_toArray, List.set_cons_zero, List.set_cons_succ]))
        (refine WG.take (i := 3) (v := ?_) rfl (by kernel_rfl) (by kernel_rfl) (by kernel_rfl) (by kernel_rfl) (fun _ _ _ h => h) (Or.inl ⟨by rfl, ?_⟩) (by assumption) ?_; rotate_left; (intro w hSw; (try dsimp only at hSw); go_split_ands; go_simp; (try with_reducible rfl)); (try simp only [Act.put, List.setIfInBounds_toArray, List.set_cons_zero, List.set_cons_succ]))
        (refine WG.take (i := 4) (v := ?_) rfl (by kernel_rfl) (by kernel_rfl) (by kernel_rfl) (by kernel_rfl) (fun _ _ _ h => h) (Or.inl ⟨by rfl, ?_⟩) (by assumption) ?_; rotate_left; (intro w hSw; (try dsimp only at hSw); go_split_ands; go_simp; (try with_reducible rfl)); (try simp only [Act.put, List.setIfInBounds_toArray, List.set_cons_zero, List.set_cons_succ]))
        (refine WG.take (i := 5) (v := ?_) rfl (by kernel_rfl) (by kernel_rfl) (by kernel_rfl) (by kernel_rfl) (fun _ _ _ h => h) (Or.inl ⟨by rfl, ?_⟩) (by assumption) ?_; rotate_left; (intro w hSw; (try dsimp only at hSw); go_split_ands; go_simp; (try with_reducible rfl)); (try simp only [Act.put, List.setIfInBounds_toArray, List.set_cons_zero, List.set_cons_succ]))
        (refine WG.take (i := 6) (v := ?_) rfl (by kernel_rfl) (by kernel_rfl) (by kernel_rfl) (by kernel_rfl) (fun _ _ _ h => h) (Or.inl ⟨by rfl, ?_⟩) (by assumption) ?_; rotate_left; (intro w hSw; (try dsimp only at hSw); go_split_ands; go_simp; (try with_reducible rfl)); (try simp only [Act.put, List.setIfInBounds_toArray, List.set_cons_zero, List.set_cons_succ]))
        (refine WG.take (i := 7) (v := ?_) rfl (by kernel_rfl) (by kernel_rfl) (by kernel_rfl) (by kernel_rfl) (fun _ _ _ h => h) (Or.inl ⟨by rfl, ?_⟩) (by assumption) ?_; rotate_left; (intro w hSw; (try dsimp only at hSw); go_split_ands; go_simp; (try with_reducible rfl)); (try simp only [Act.put, List.setIfInBounds_toArray, List.set_cons_zero, List.set_cons_succ]))
        (refine WG.take (i := 9) (v := ?_) rfl (by kernel_rfl) (by kernel_rfl) (by kernel_rfl) (by kernel_rfl) (fun _ _ _ h => h) (Or.inl ⟨by rfl, ?_⟩) (by assumption) ?_; rotate_left; (intro w hSw; (try dsimp only at hSw); go_split_ands; go_simp; (try with_reducible rfl)); (try simp only [Act.put, List.setIfInBounds_toArray, List.set_cons_zero, List.set_cons_succ]))
        (refine WG.take (i := 10) (v := ?_) rfl (by kernel_rfl) (by kernel_rfl) (by kernel_rfl) (by kernel_rfl) (fun _ _ _ h => h) (Or.inl ⟨by rfl, ?_⟩) (by assumption) ?_; rotate_left; (intro w hSw; (try dsimp only at hSw); go_split_ands; go_simp; (try with_reducible rfl)); (try simp only [Act.put, List.setIfInBounds_toArray, List.set_cons_zero, List.set_cons_succ]))
        (refine WG.take (i := 11) (v := ?_) rfl (by kernel_rfl) (by kernel_rfl) (by kernel_rfl) (by kernel_rfl) (fun _ _ _ h => h) (Or.inl ⟨by rfl, ?_⟩) (by assumption) ?_; rotate_left; (intro w hSw; (try dsimp only at hSw); go_split_ands; go_simp; (try with_reducible rfl)); (try simp only [Act.put, List.setIfInBounds_toArray, List.set_cons_zero, List.set_cons_succ]))
        (refine WG.take (i := 12) (v := ?_) rfl (by kernel_rfl) (by kernel_rfl) (by kernel_rfl) (by kernel_rfl) (fun _ _ _ h => h) (Or.inl ⟨by rfl, ?_⟩) (by assumption) ?_; rotate_left; (intro w hSw; (try dsimp only at hSw); go_split_ands; go_simp; (try with_reducible rfl)); (try simp only [Act.put, List.setIfInBounds_toArray, List.set_cons_zero, List.set_cons_succ]))
        refine WG.one (i := 8) rfl (by kernel_rfl) (fun K hK => ?_)
        go_simp; refine (sAt41 _ _ _ _ room Bs ps x _ (RI.ext HR.out (HE.out.trans HDr.out)) (RB.ext HBR.out HDr.out) (RP.ext HP.out (HE.out.trans HDr.out)) ⟨_, rfl, RI.ext HNX.out HDr.out⟩ HSK.out.1 (fun b hb => (HSK.out.2.2.2 b hb).1) HXG.out).mono ?_; rw [← HZZ.out]; rintro e6 w6 ⟨rfl, hE6⟩; have HE6 := hid (HDr.out.trans hE6); clear hE6; (try dsimp only)
        refine hK.out _ _ (by exact KB.out _ HE6.out) (fun hHeld => ?_)
        clear hK K
        (try simp only [Act.put, List.setIfInBounds_toArray, List.set_cons_zero, List.set_cons_succ])
        refine WG.last (i := 13) rfl (by kernel_rfl) (by kernel_rfl) (fun K hK => ?_)
        go_simp; refine (sPut _ _ room Bs zz x _ (RB.ext HBR.out HE6.out) ⟨_, rfl, RI.ext HNX.out HE6.out⟩ HZC.out (by have := HSK.out.2.1; omega) HRK.out.2.2 (by have := HXG.out.1; omega)).mono ?_; rintro e7 w7 ⟨v7, rfl, hB7, hE7⟩; have HB7 := hid hB7; have HE7 := hid (HE6.out.trans hE7); clear hB7 hE7; (try dsimp only)
        refine hK.out _ _ ?_
        clear hK K
        (try simp only [Act.put, List.setIfInBounds_toArray, List.set_cons_zero, List.set_cons_succ])
        refine WG.last (i := 14) rfl (by kernel_rfl) (by kernel_rfl) (fun K hK => ?_)
        go_simp
        refine hK.out _ _ ?_
        clear hK K
        (try simp only [Act.put, List.setIfInBounds_toArray, List.set_cons_zero, List.set_cons_succ])
        refine WG.done (by kernel_rfl) ?_
        go_wp2
        go_roundw
        case rel => exact ⟨_, k + 1, rfl, by omega, by go_num, hid ⟨by rw [HST.out, ← HZZ.out]; exact HB7.out, HE.out.trans HE7.out⟩⟩
        case measure => simp [intOf]; omega
      · have hk' : k = ts.length := by omega
        have HK := hid hk'
        clear hk'
        go_wp2
        go_ret
        have h1 := H.out.1
        rw [HK.out, List.take_length] at h1
        exact ⟨_, rfl, by rw [HRS.out]; exact h1, H.out.2⟩
  | false =>
    have HRS : Hid (apartAllN room ts ps = []) := hid (by unfold apartAllN; rw [hq]; rfl)
    have HQ := hid hq
    clear hq
    go_enter Try.func12, Try.ntmps12
    go_wp2
    rw [← hW]
    clear hW
    go_loopw [7, 8] (fun o i wr => o = .slice (some ⟨w.heap.size, 0, none⟩) 0 0 ∧ i = .int .i64 0 ∧ Hid (Ext W wr)) (fun _ i _ => 0)
    case atStart => exact ⟨rfl, rfl, hid (Ext.refl _)⟩
    case round =>
      obtain ⟨rfl, rfl, HE⟩ := hrel
      by_cases hlt : 0 < ts.length
      · have i1 : (0 : Int) < (ts.length : Int) := by omega
        cases hq1 : tasksOk room ts with
        | false =>
          go_wp2_with (go_at_call 32; refine (sTasksValid _ _ room ts _ (RI.ext HR.out (HEW.out.trans HE.out)) (RT.ext HT.out (HEW.out.trans HE.out))).mono ?_; rintro e w1 ⟨rfl, n1, hw1⟩; rw [hq1]; have HE1 : Hid (Ext W w1) := hid (by rw [hw1]; exact HE.out.trans (Ext.drewN _ _)); clear hw1)
          go_ret
          exact ⟨_, rfl, by rw [HRS.out]; exact RB.ext HO0.out HE1.out, HEW.out.trans HE1.out⟩
        | true =>
          have hq2 : pairsOk ps = false := by have := HQ.out; rw [hq1, Bool.true_and] at this; exact this
          go_wp2_with (first
            | (go_at_call 32; refine (sTasksValid _ _ room ts _ (RI.ext HR.out (HEW.out.trans HE.out)) (RT.ext HT.out (HEW.out.trans HE.out))).mono ?_; rintro e w1 ⟨rfl, n1, hw1⟩; rw [hq1]; have HE1 : Hid (Ext W w1) := hid (by rw [hw1]; exact HE.out.trans (Ext.drewN _ _)); clear hw1)
            | (go_at_call 33; refine (sPairsValid _ ps _ (RP.ext HP.out (HEW.out.trans HE1.out))).mono ?_; rintro e w2 ⟨rfl, hE2⟩; rw [hq2]; have HE2 := hid (HE1.out.trans hE2); clear hE2))
          go_ret
          exact ⟨_, rfl, by rw [HRS.out]; exact RB.ext HO0.out HE2.out, HEW.out.trans HE2.out⟩
      · have i1 : ts.length = 0 := by omega
        go_wp2
        go_ret
        exact ⟨_, rfl, by rw [HRS.out]; exact RB.ext HO0.out HE.out, HEW.out.trans HE.out⟩

end Go.Proofs.Ytoaabinpdjcimaa
