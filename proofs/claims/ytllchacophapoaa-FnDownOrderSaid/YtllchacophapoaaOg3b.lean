/- The law FnDownOrder. (Printed by genog3.py.) -/
import Derived.Test.YtllchacophapoaaOg1b
namespace Go.Proofs.Ytllchacophapoaa
open Go.RowKit
set_option maxRecDepth 4000

set_option maxHeartbeats 1000000 in
theorem iTaskBefore1 (xv yv : Value) (x y : TaskD) (w : World) (hx : TaskV w xv x) (hy : TaskV w yv y) (hb : taskBefore x y = true) :
    Calls Try.prog 24 #[xv, yv] w (RetB w true) := by
  obtain ⟨nx, rfl, hnx⟩ := hx
  obtain ⟨ny, rfl, hny⟩ := hy
  obtain ⟨Ax, cx, rfl, _⟩ := RI.get hnx
  obtain ⟨Ay, cy, rfl, _⟩ := RI.get hny
  obtain ⟨W, hW⟩ : ∃ W, W = (w.alloc (.cells #[.int .i64 x.id, .slice Ax x.need.length cx] 43)).alloc (.cells #[.int .i64 y.id, .slice Ay y.need.length cy] 43) := ⟨_, rfl⟩
  have hEW : Ext w W := by rw [hW]; exact (Ext.alloc _ _).trans (Ext.alloc _ _)
  have hx1 : W.heap[w.heap.size]? = some (.cells #[.int .i64 x.id, .slice Ax x.need.length cx] 43 (0, 0)) := by rw [hW]; exact (Ext.alloc _ _).obj (heap_alloc_new _ _)
  have hx2 : W.heap[w.heap.size + 1]? = some (.cells #[.int .i64 y.id, .slice Ay y.need.length cy] 43 (0, 0)) := by rw [hW]; exact heap_new (by simp)
  have KB : Hid (∀ w', Ext W w' → w'.cell? ⟨w.heap.size, 0, none⟩ = some (.int .i64 x.id) ∧ w'.cell? ⟨w.heap.size, 1, none⟩ = some (.slice Ax x.need.length cx) ∧ w'.cell? ⟨w.heap.size + 1, 0, none⟩ = some (.int .i64 y.id) ∧ w'.cell? ⟨w.heap.size + 1, 1, none⟩ = some (.slice Ay y.need.length cy)) := hid fun w' hw => ⟨obj_cell (hw.obj hx1) (i := 0) rfl, obj_cell (hw.obj hx1) (i := 1) rfl, obj_cell (hw.obj hx2) (i := 0) rfl, obj_cell (hw.obj hx2) (i := 1) rfl⟩
  have HEW := hid hEW
  have HX := hid (RI.ext hnx hEW)
  have HY := hid (RI.ext hny hEW)
  unfold taskBefore at hb
  simp only [Bool.and_eq_true] at hb
  obtain ⟨⟨a1, a2⟩, ⟨a3, a4⟩, a5⟩ := hb
  have HC : Hid (decide (cmpT x y < 0) = true) := hid (by rw [cmpT_lt]; exact a5)
  have HA1 := hid a1
  have HA2 := hid a2
  have HA3 := hid a3
  have HA4 := hid a4
  have TK0 : Hid True := hid trivial
  obtain ⟨q0, q1, q2, q3⟩ := KB.out W (Ext.refl _)
  obtain ⟨z, hz⟩ : ∃ z, z = cmpT x y := ⟨_, rfl⟩
  have hz0 : z < 0 := by have := HC.out; rw [← hz] at this; simpa using this
  have HZ := hid hz
  rw [hW] at q0 q1 q2 q3
  clear hx1 hx2 hEW hnx hny a1 a2 a3 a4 a5 hz
  go_enter Try.func24, Try.ntmps24
  go_wp2_with (first
    | (go_at_call 47; clear TK0; rw [← hW]; refine (iIdValid x.id _).mono ?_; rw [HA1.out]; rintro e w1 ⟨rfl, n1, hw1⟩; have HE1 : Hid (Ext W w1) := hid (by rw [hw1]; exact Ext.drewN _ _); clear q0 q1 q2 q3 hw1 hW; obtain ⟨q0, q1, q2, q3⟩ := KB.out _ HE1.out; have TK1 : Hid True := hid trivial)
    | (go_at_call 47; clear TK1; refine (iIdValid y.id _).mono ?_; rw [HA2.out]; rintro e w2 ⟨rfl, n2, hw2⟩; have HE2 : Hid (Ext W w2) := hid (by rw [hw2]; exact HE1.out.trans (Ext.drewN _ _)); clear hw2; obtain ⟨q0, q1, q2, q3⟩ := KB.out _ HE2.out)
    | (go_at_call 48; refine (iBothValid _ _ x.need y.need _ (RI.ext HX.out HE2.out) (RI.ext HY.out HE2.out)).mono ?_; rw [HA3.out, HA4.out]; rintro e w3 ⟨rfl, n3, hw3⟩; have HE3 : Hid (Ext W w3) := hid (by rw [hw3]; exact HE2.out.trans (Ext.drewN _ _)); clear hw3; obtain ⟨q0, q1, q2, q3⟩ := KB.out _ HE3.out)
    | (go_at_call 49; refine (iCompare x y _ _ _ (RI.ext HX.out HE3.out) (RI.ext HY.out HE3.out) HA3.out HA4.out).mono ?_; rw [← HZ.out]; rintro e w4 ⟨rfl, hE4⟩; have HE4 := hid (HE3.out.trans hE4); clear hE4))
  go_ret
  exact ⟨rfl, HEW.out.trans HE4.out⟩

theorem down_sub {room : List Int} {ts : List TaskD} : (downAllN room ts).flatten.length ≤ ts.length ∧ ∀ t ∈ (downAllN room ts).flatten, t ∈ ts := by
  cases h : tasksOk room ts with
  | true =>
    obtain ⟨e1, h1⟩ := sortN_ok h
    have e : downAllN room ts = allBy (fun bs x => firstAt room bs x) (sortT ts) := by unfold downAllN firstAllN; rw [e1, h1]; rfl
    have hp := (allBy_perm (chooses_first room) (sortT ts).length (sortT ts) rfl).1
    rw [e]
    exact ⟨by rw [hp.length_eq, sortT_len]; exact Nat.le_refl _, fun t ht => (sortT_perm ts).mem_iff.1 (hp.mem_iff.1 ht)⟩
  | false =>
    have e3 : sortN room ts = [] := by unfold sortN; rw [h]; rfl
    have e5 : downAllN room ts = [] := by unfold downAllN; rw [e3, firstAllN_nil]
    rw [e5]
    exact ⟨Nat.zero_le _, fun t ht => by cases ht⟩

set_option maxHeartbeats 8000000 in
theorem lawDownOrder (v : Value) (bs : List Int) (w : World) (h : XBy w v bs) :
    Calls Try.prog 4 #[v] w (RetB w true) := by
  have HB := hid h
  obtain ⟨A, c, rfl, _⟩ := h
  by_cases h1 : bs.length ≤ 1048576
  · have i1 : ¬ (1048576 : Int) < (bs.length : Int) := by omega
    have TK0 : Hid True := hid trivial
    go_enter Try.func4, Try.ntmps4
    go_wp2_with (first
      | (go_at_call 21; refine (dDrawDownAll _ bs _ HB.out (by omega)).mono ?_; rintro e w1 ⟨rv, tv, room, ts, rfl, hr, ht, hll, hg, hE1⟩; have hr0 := hr; have ht0 := ht; obtain ⟨Ar, cr, rfl, _⟩ := RI.get hr; obtain ⟨At, ct, rfl, _⟩ := RT.get ht; have HR := hid hr0; have HT := hid ht0; have HLL := hid hll; have HID : Hid (∀ t ∈ ts, IdR t.id) := hid (fun t ht => (hg t ht).2.2); have HE1 := hid hE1; obtain ⟨R, hR⟩ : ∃ R, R = downAllN room ts := ⟨_, rfl⟩; have HRR := hid hR; have HFL : Hid (R.flatten.length ≤ 4000000) := hid (by rw [hR]; have := (down_sub (room := room) (ts := ts)).1; omega); have HIF : Hid (∀ t ∈ R.flatten, IdR t.id) := hid (by rw [hR]; exact fun t ht => HID.out t ((down_sub (room := room) (ts := ts)).2 t ht)); clear hr ht hr0 ht0 hll hg hE1 hR)
      | (go_at_call 13; refine (iDownAll _ _ room ts _ HR.out HT.out HID.out).mono ?_; rw [← HRR.out]; rintro e w2 ⟨v2, rfl, hB2, hE2⟩; obtain ⟨A2, c2, rfl⟩ := DB.form hB2; have HB2 := hid hB2.read; have HE2 := hid hE2; clear hB2 hE2)
      | (go_at_call 10; refine (sDownAll _ _ room ts _ (RI.ext HR.out HE2.out) (RT.ext HT.out HE2.out)).mono ?_; rw [← HRR.out]; rintro e w3 ⟨v3, rfl, hB3, hE3⟩; have HB3 := hid hB3; have HB2 := hid (RB.ext HB2.out hE3); have HE3 := hid (HE2.out.trans hE3); clear hB3 hE3)
      | (go_at_call 22; clear TK0; refine (lSameBins _ _ R _ HB2.out HB3.out).mono ?_; rintro e w4 ⟨rfl, hE4⟩; have HB4 := hid (RB.ext HB2.out hE4); have HB4' := hid (RB.ext HB3.out hE4); have HE4 := hid (HE3.out.trans hE4); have TK1 : Hid True := hid trivial; clear hE4)
      | (go_at_call 23; refine (sTasksValid _ _ room ts _ (RI.ext HR.out HE4.out) (RT.ext HT.out HE4.out)).mono ?_; rintro e w5 ⟨rfl, n5, hw5⟩; have hE5 : Ext w4 w5 := (by rw [hw5]; exact Ext.drewN _ _); have HB5 := hid (RB.ext HB4.out hE5); have HB5' := hid (RB.ext HB4'.out hE5); have HE5 := hid (HE4.out.trans hE5); clear hw5 hE5; cases hq : tasksOk room ts)
      | (go_at_call 22; clear TK1; refine (lSameBins _ _ R _ HB5.out HB5'.out).mono ?_; rintro e w6 ⟨rfl, hE6⟩; have HE6 := hid (HE5.out.trans hE6); clear hE6))
    · go_ret
      exact ⟨rfl, HE1.out.trans HE6.out⟩
    · have hdo := down_order hq
      rw [← HRR.out] at hdo
      have HDA := hid hdo.1
      have HDB := hid hdo.2.1
      have HDC := hid hdo.2.2
      obtain ⟨_, _, hv2, _, _, hgb⟩ := RB.get HB5.out
      injection hv2 with ha _ hc
      subst ha hc
      have HGB := hid hgb
      have HRL : Hid (R.length ≤ 14) := hid (bins_small HDC.out).2.1
      clear hdo hgb hq
      go_loopw [7] (fun i wr => ∃ k : Nat, k ≤ R.length ∧ i = .int .i64 k ∧ Hid (Ext w5 wr)) (fun i _ => R.length - (intOf i).toNat)
      case atStart => exact ⟨0, Nat.zero_le _, rfl, hid (Ext.refl _)⟩
      case round =>
        obtain ⟨k, hk, rfl, HE⟩ := hrel
        by_cases hlt : k < R.length
        · obtain ⟨b, o, bin, Ak, ck, rfl, ek, cc, hbin⟩ := HGB.out k hlt
          have i2 : (k : Int) < (R.length : Int) := by omega
          have i0 : (0 : Int) ≤ (k : Int) := by omega
          have HNE := hid (HDA.out k bin ek.out)
          have HLEN : Hid (bin.length ≤ 1000) := hid (by have := (bins_small HDC.out).2.2.2 bin (List.mem_of_getElem? ek.out); have := this.2.1; omega)
          have hpos : 0 < bin.length := List.length_pos_iff.2 HNE.out.1
          have HBIN := hid hbin
          obtain ⟨_, _, hvb, _, _, hgt⟩ := RT.get hbin
          injection hvb with ha _ hc
          subst ha hc
          have HGT := hid hgt
          have HCC := hid cc
          clear hbin hgt cc
          have hcr := HE.out.cell HCC.out
          go_wp2
          clear hcr
          go_loopw [8] (fun j wr' => ∃ m : Nat, 1 ≤ m ∧ m ≤ bin.length ∧ j = .int .i64 m ∧ Hid (Ext w5 wr')) (fun j _ => bin.length - (intOf j).toNat)
          case atStart => exact ⟨1, Nat.le_refl _, hpos, rfl, HE⟩
          case round =>
            obtain ⟨m, hm1, hm2, rfl, HF⟩ := hrel
            have hcr := HF.out.cell HCC.out
            by_cases hl : m < bin.length
            · obtain ⟨q, hq⟩ : ∃ q, m = q + 1 := ⟨m - 1, by omega⟩
              obtain ⟨b1, o1, y, Ay, cy, rfl, ey, cy1, cy2, hyn⟩ := HGT.out m hl
              obtain ⟨b1', o1', x, Ax, cx, hA, ex, cx1, cx2, hxn⟩ := HGT.out q (by omega)
              injection hA with hA
              injection hA with ha hb _
              subst ha hb
              have HTB := hid (HNE.out.2 q x y ex.out (by rw [← hq]; exact ey.out))
              have i4 : (m : Int) < (bin.length : Int) := by omega
              have i5 : (q : Int) < (bin.length : Int) := by omega
              have i6 : (0 : Int) ≤ (m : Int) := by omega
              have i7 : (0 : Int) ≤ (q : Int) := by omega
              have hw : IntKind.i64.wrap ((m : Int) - 1) = (q : Int) := by rw [show (m : Int) - 1 = (q : Int) by omega]; exact IntWalk.i64_in _ (by have := HLEN.out; omega)
              have KC : Hid (∀ w', Ext wr w' → w'.cell? ⟨b, o + k, none⟩ = some (.slice (some ⟨b1, o1, none⟩) bin.length ck) ∧ w'.cell? ⟨b1, o1 + q * 2, none⟩ = some (.int .i64 x.id) ∧ w'.cell? ⟨b1, o1 + q * 2 + 1, none⟩ = some (.slice Ax x.need.length cx) ∧ w'.cell? ⟨b1, o1 + m * 2, none⟩ = some (.int .i64 y.id) ∧ w'.cell? ⟨b1, o1 + m * 2 + 1, none⟩ = some (.slice Ay y.need.length cy)) := hid fun w' hw => ⟨(HF.out.trans hw).cell HCC.out, (HF.out.trans hw).cell cx1, (HF.out.trans hw).cell cx2, (HF.out.trans hw).cell cy1, (HF.out.trans hw).cell cy2⟩
              have HXN := hid (RI.ext hxn HF.out)
              have HYN := hid (RI.ext hyn HF.out)
              have HQ := hid hq
              have HDr : Hid (Ext wr wr.drew) := hid (Below.drew (Below.refl _ _))
              clear cx1 cx2 cy1 cy2 hxn hyn hq
              go_wp2
              refine WG.start (fun w' => w'.cell? ⟨b, o + k, none⟩ = some (.slice (some ⟨b1, o1, none⟩) bin.length ck) ∧ w'.cell? ⟨b1, o1 + q * 2, none⟩ = some (.int .i64 x.id) ∧ w'.cell? ⟨b1, o1 + q * 2 + 1, none⟩ = some (.slice Ax x.need.length cx) ∧ w'.cell? ⟨b1, o1 + m * 2, none⟩ = some (.int .i64 y.id) ∧ w'.cell? ⟨b1, o1 + m * 2 + 1, none⟩ = some (.slice Ay y.need.length cy)) [] (by kernel_rfl) (by exact KC.out _ HDr.out) (fun hHeld => ?_)
              obtain ⟨pz, hpz⟩ : ∃ x, x = wr.drew := ⟨_, rfl⟩
              rw [← hpz] at hHeld HDr ⊢
              clear hpz
              (refine WG.take (i := 0) (v := ?_) rfl (by kernel_rfl) (by kernel_rfl) (by kernel_rfl) (by kernel_rfl) (fun _ _ _ h => h) (Or.inl ⟨by rfl, ?_⟩) (by assumption) ?_; rotate_left; (intro w hSw; (try dsimp only at hSw); go_split_ands; go_simp; (try with_reducible rfl)); (try simp only [Act.put, List.setIfInBounds_toArray, List.set_cons_zero, List.set_cons_succ]))
              (refine WG.take (i := 1) (v := ?_) rfl (by kernel_rfl) (by kernel_rfl) (by kernel_rfl) (by kernel_rfl) (fun _ _ _ h => h) (Or.inl ⟨by rfl, ?_⟩) (by assumption) ?_; rotate_left; (intro w hSw; (try dsimp only at hSw); go_split_ands; go_simp; (try with_reducible rfl)); (try simp only [Act.put, List.setIfInBounds_toArray, List.set_cons_zero, List.set_cons_succ]))
              (refine WG.take (i := 2) (v := ?_) rfl (by kernel_rfl) (by kernel_rfl) (by kernel_rfl) (by kernel_rfl) (fun _ _ _ h => h) (Or.inl ⟨by rfl, ?_⟩) (by assumption) ?_; rotate_left; (intro w hSw; (try dsimp only at hSw); go_split_ands; go_simp; (try with_reducible rfl)); (try simp only [Act.put, List.setIfInBounds_toArray, List.set_cons_zero, List.set_cons_succ]))
              (refine WG.take (i := 3) (v := ?_) rfl (by kernel_rfl) (by kernel_rfl) (by kernel_rfl) (by kernel_rfl) (fun _ _ _ h => h) (Or.inl ⟨by rfl, ?_⟩) (by assumption) ?_; rotate_left; (intro w hSw; (try dsimp only at hSw); go_split_ands; go_simp; (try with_reducible rfl)); (try simp only [Act.put, List.setIfInBounds_toArray, List.set_cons_zero, List.set_cons_succ]))
              (refine WG.take (i := 4) (v := ?_) rfl (by kernel_rfl) (by kernel_rfl) (by kernel_rfl) (by kernel_rfl) (fun _ _ _ h => h) (Or.inl ⟨by rfl, ?_⟩) (by assumption) ?_; rotate_left; (intro w hSw; (try dsimp only at hSw); go_split_ands; go_simp; (try with_reducible rfl)); (try simp only [Act.put, List.setIfInBounds_toArray, List.set_cons_zero, List.set_cons_succ]))
              (refine WG.take (i := 5) (v := ?_) rfl (by kernel_rfl) (by kernel_rfl) (by kernel_rfl) (by kernel_rfl) (fun _ _ _ h => h) (Or.inl ⟨by rfl, ?_⟩) (by assumption) ?_; rotate_left; (intro w hSw; (try dsimp only at hSw); go_split_ands; go_simp; (try with_reducible rfl)); (try simp only [Act.put, List.setIfInBounds_toArray, List.set_cons_zero, List.set_cons_succ]))
              (refine WG.take (i := 6) (v := ?_) rfl (by kernel_rfl) (by kernel_rfl) (by kernel_rfl) (by kernel_rfl) (fun _ _ _ h => h) (Or.inl ⟨by rfl, ?_⟩) (by assumption) ?_; rotate_left; (intro w hSw; (try dsimp only at hSw); go_split_ands; go_simp; (try with_reducible rfl)); (try simp only [Act.put, List.setIfInBounds_toArray, List.set_cons_zero, List.set_cons_succ]))
              (refine WG.take (i := 7) (v := ?_) rfl (by kernel_rfl) (by kernel_rfl) (by kernel_rfl) (by kernel_rfl) (fun _ _ _ h => h) (Or.inl ⟨by rfl, ?_⟩) (by assumption) ?_; rotate_left; (intro w hSw; (try dsimp only at hSw); go_split_ands; go_simp; (try with_reducible rfl)); (try simp only [Act.put, List.setIfInBounds_toArray, List.set_cons_zero, List.set_cons_succ]))
              (refine WG.take (i := 8) (v := ?_) rfl (by kernel_rfl) (by kernel_rfl) (by kernel_rfl) (by kernel_rfl) (fun _ _ _ h => h) (Or.inl ⟨by rfl, ?_⟩) (by assumption) ?_; rotate_left; (intro w hSw; (try dsimp only at hSw); go_split_ands; go_simp; (try with_reducible rfl)); (try simp only [Act.put, List.setIfInBounds_toArray, List.set_cons_zero, List.set_cons_succ]))
              (refine WG.take (i := 9) (v := ?_) rfl (by kernel_rfl) (by kernel_rfl) (by kernel_rfl) (by kernel_rfl) (fun _ _ _ h => h) (Or.inl ⟨by rfl, ?_⟩) (by assumption) ?_; rotate_left; (intro w hSw; (try dsimp only at hSw); go_split_ands; go_simp; (try with_reducible rfl)); (try simp only [Act.put, List.setIfInBounds_toArray, List.set_cons_zero, List.set_cons_succ]))
              (refine WG.take (i := 10) (v := ?_) rfl (by kernel_rfl) (by kernel_rfl) (by kernel_rfl) (by kernel_rfl) (fun _ _ _ h => h) (Or.inl ⟨by rfl, ?_⟩) (by assumption) ?_; rotate_left; (intro w hSw; (try dsimp only at hSw); go_split_ands; go_simp; (try with_reducible rfl)); (try simp only [Act.put, List.setIfInBounds_toArray, List.set_cons_zero, List.set_cons_succ]))
              (refine WG.take (i := 11) (v := ?_) rfl (by kernel_rfl) (by kernel_rfl) (by kernel_rfl) (by kernel_rfl) (fun _ _ _ h => h) (Or.inl ⟨by rfl, ?_⟩) (by assumption) ?_; rotate_left; (intro w hSw; (try dsimp only at hSw); go_split_ands; go_simp; (try with_reducible rfl)); (try simp only [Act.put, List.setIfInBounds_toArray, List.set_cons_zero, List.set_cons_succ]))
              (refine WG.take (i := 12) (v := ?_) rfl (by kernel_rfl) (by kernel_rfl) (by kernel_rfl) (by kernel_rfl) (fun _ _ _ h => h) (Or.inl ⟨by rfl, ?_⟩) (by assumption) ?_; rotate_left; (intro w hSw; (try dsimp only at hSw); go_split_ands; go_simp; (try with_reducible rfl)); (try simp only [Act.put, List.setIfInBounds_toArray, List.set_cons_zero, List.set_cons_succ]))
              (refine WG.take (i := 13) (v := ?_) rfl (by kernel_rfl) (by kernel_rfl) (by kernel_rfl) (by kernel_rfl) (fun _ _ _ h => h) (Or.inl ⟨by rfl, ?_⟩) (by assumption) ?_; rotate_left; (intro w hSw; (try dsimp only at hSw); go_split_ands; go_simp; (try with_reducible rfl)); (try simp only [Act.put, List.setIfInBounds_toArray, List.set_cons_zero, List.set_cons_succ]))
              (refine WG.take (i := 14) (v := ?_) rfl (by kernel_rfl) (by kernel_rfl) (by kernel_rfl) (by kernel_rfl) (fun _ _ _ h => h) (Or.inl ⟨by rfl, ?_⟩) (by assumption) ?_; rotate_left; (intro w hSw; (try dsimp only at hSw); go_split_ands; go_simp; (try with_reducible rfl)); (try simp only [Act.put, List.setIfInBounds_toArray, List.set_cons_zero, List.set_cons_succ]))
              refine WG.one (i := 15) rfl (by kernel_rfl) (fun K hK => ?_)
              go_simp; refine (iTaskBefore1 _ _ x y _ ⟨_, rfl, RI.ext HXN.out HDr.out⟩ ⟨_, rfl, RI.ext HYN.out HDr.out⟩ HTB.out).mono ?_; rintro e6 w6 ⟨rfl, hE6⟩; have HE6 := hid (HDr.out.trans hE6); clear hE6; (try dsimp only)
              refine hK.out _ _ (by exact KC.out _ HE6.out) (fun hHeld => ?_)
              clear hK K
              (try simp only [Act.put, List.setIfInBounds_toArray, List.set_cons_zero, List.set_cons_succ])
              (refine WG.take (i := 16) (v := ?_) rfl (by kernel_rfl) (by kernel_rfl) (by kernel_rfl) (by kernel_rfl) (fun _ _ _ h => h) (Or.inl ⟨by rfl, ?_⟩) (by assumption) ?_; rotate_left; (intro w hSw; (try dsimp only at hSw); go_split_ands; go_simp; (try with_reducible rfl)); (try simp only [Act.put, List.setIfInBounds_toArray, List.set_cons_zero, List.set_cons_succ]))
              refine WG.done (by kernel_rfl) ?_
              clear hw
              go_wp2
              go_roundw
              case rel => exact ⟨m + 1, by omega, by omega, by go_num, hid (HF.out.trans HE6.out)⟩
              case measure => simp [intOf]; omega
            · have hge : ¬ (m : Int) < (bin.length : Int) := by omega
              by_cases hk0 : 0 < k
              · obtain ⟨q, hq⟩ : ∃ q, k = q + 1 := ⟨k - 1, by omega⟩
                obtain ⟨b', o', bq, Aq, cq, hA, eq, ccq, hbq⟩ := HGB.out q (by omega)
                injection hA with hA
                injection hA with ha hb _
                subst ha hb
                have hposq : 0 < bq.length := List.length_pos_iff.2 (HDA.out q bq eq.out).1
                obtain ⟨_, _, hvq, _, _, hgq⟩ := RT.get hbq
                injection hvq with ha _ hc
                subst ha hc
                obtain ⟨b1, o1, x, Ax, cx, rfl, ex, cx1, cx2, hxn⟩ := hgq 0 hposq
                obtain ⟨b2, o2, y, Ay, cy, rfl, ey, cy1, cy2, hyn⟩ := HGT.out 0 hpos
                simp only [Nat.zero_mul, Nat.add_zero] at cx1 cx2 cy1 cy2
                have HTB := hid (HDB.out q bq bin eq.out (by rw [← hq]; exact ek.out) x y ex.out ey.out)
                have i4 : (q : Int) < (R.length : Int) := by omega
                have i7 : (0 : Int) ≤ (q : Int) := by omega
                have i8 : (0 : Int) < (k : Int) := by omega
                have i9 : (0 : Int) < (bin.length : Int) := by omega
                have i10 : (0 : Int) < (bq.length : Int) := by omega
                have hw : IntKind.i64.wrap ((k : Int) - 1) = (q : Int) := by rw [show (k : Int) - 1 = (q : Int) by omega]; exact IntWalk.i64_in _ (by have := HRL.out; omega)
                have KC : Hid (∀ w', Ext wr w' → w'.cell? ⟨b, o + q, none⟩ = some (.slice (some ⟨b1, o1, none⟩) bq.length cq) ∧ w'.cell? ⟨b, o + k, none⟩ = some (.slice (some ⟨b2, o2, none⟩) bin.length ck) ∧ w'.cell? ⟨b1, o1, none⟩ = some (.int .i64 x.id) ∧ w'.cell? ⟨b1, o1 + 1, none⟩ = some (.slice Ax x.need.length cx) ∧ w'.cell? ⟨b2, o2, none⟩ = some (.int .i64 y.id) ∧ w'.cell? ⟨b2, o2 + 1, none⟩ = some (.slice Ay y.need.length cy)) := hid fun w' hw => ⟨(HF.out.trans hw).cell ccq, (HF.out.trans hw).cell HCC.out, (HF.out.trans hw).cell cx1, (HF.out.trans hw).cell cx2, (HF.out.trans hw).cell cy1, (HF.out.trans hw).cell cy2⟩
                have HXN := hid (RI.ext hxn HF.out)
                have HYN := hid (RI.ext hyn HF.out)
                have HQ := hid hq
                have HDr : Hid (Ext wr wr.drew) := hid (Below.drew (Below.refl _ _))
                clear cx1 cx2 cy1 cy2 hxn hyn hq ccq hbq hgq
                go_wp2
                refine WG.start (fun w' => w'.cell? ⟨b, o + q, none⟩ = some (.slice (some ⟨b1, o1, none⟩) bq.length cq) ∧ w'.cell? ⟨b, o + k, none⟩ = some (.slice (some ⟨b2, o2, none⟩) bin.length ck) ∧ w'.cell? ⟨b1, o1, none⟩ = some (.int .i64 x.id) ∧ w'.cell? ⟨b1, o1 + 1, none⟩ = some (.slice Ax x.need.length cx) ∧ w'.cell? ⟨b2, o2, none⟩ = some (.int .i64 y.id) ∧ w'.cell? ⟨b2, o2 + 1, none⟩ = some (.slice Ay y.need.length cy)) [] (by kernel_rfl) (by exact KC.out _ HDr.out) (fun hHeld => ?_)
                obtain ⟨pz, hpz⟩ : ∃ x, x = wr.drew := ⟨_, rfl⟩
                rw [← hpz] at hHeld HDr ⊢
                clear hpz
                (refine WG.take (i := 0) (v := ?_) rfl (by kernel_rfl) (by kernel_rfl) (by kernel_rfl) (by kernel_rfl) (fun _ _ _ h => h) (Or.inl ⟨by rfl, ?_⟩) (by assumption) ?_; rotate_left; (intro w hSw; (try dsimp only at hSw); go_split_ands; go_simp; (try with_reducible rfl)); (try simp only [Act.put, List.setIfInBounds_toArray, List.set_cons_zero, List.set_cons_succ]))
                (refine WG.take (i := 1) (v := ?_) rfl (by kernel_rfl) (by kernel_rfl) (by kernel_rfl) (by kernel_rfl) (fun _ _ _ h => h) (Or.inl ⟨by rfl, ?_⟩) (by assumption) ?_; rotate_left; (intro w hSw; (try dsimp only at hSw); go_split_ands; go_simp; (try with_reducible rfl)); (try simp only [Act.put, List.setIfInBounds_toArray, List.set_cons_zero, List.set_cons_succ]))
                (refine WG.take (i := 2) (v := ?_) rfl (by kernel_rfl) (by kernel_rfl) (by kernel_rfl) (by kernel_rfl) (fun _ _ _ h => h) (Or.inl ⟨by rfl, ?_⟩) (by assumption) ?_; rotate_left; (intro w hSw; (try dsimp only at hSw); go_split_ands; go_simp; (try with_reducible rfl)); (try simp only [Act.put, List.setIfInBounds_toArray, List.set_cons_zero, List.set_cons_succ]))
                (refine WG.take (i := 3) (v := ?_) rfl (by kernel_rfl) (by kernel_rfl) (by kernel_rfl) (by kernel_rfl) (fun _ _ _ h => h) (Or.inl ⟨by rfl, ?_⟩) (by assumption) ?_; rotate_left; (intro w hSw; (try dsimp only at hSw); go_split_ands; go_simp; (try with_reducible rfl)); (try simp only [Act.put, List.setIfInBounds_toArray, List.set_cons_zero, List.set_cons_succ]))
                (refine WG.take (i := 4) (v := ?_) rfl (by kernel_rfl) (by kernel_rfl) (by kernel_rfl) (by kernel_rfl) (fun _ _ _ h => h) (Or.inl ⟨by rfl, ?_⟩) (by assumption) ?_; rotate_left; (intro w hSw; (try dsimp only at hSw); go_split_ands; go_simp; (try with_reducible rfl)); (try simp only [Act.put, List.setIfInBounds_toArray, List.set_cons_zero, List.set_cons_succ]))
                (refine WG.take (i := 5) (v := ?_) rfl (by kernel_rfl) (by kernel_rfl) (by kernel_rfl) (by kernel_rfl) (fun _ _ _ h => h) (Or.inl ⟨by rfl, ?_⟩) (by assumption) ?_; rotate_left; (intro w hSw; (try dsimp only at hSw); go_split_ands; go_simp; (try with_reducible rfl)); (try simp only [Act.put, List.setIfInBounds_toArray, List.set_cons_zero, List.set_cons_succ]))
                (refine WG.take (i := 6) (v := ?_) rfl (by kernel_rfl) (by kernel_rfl) (by kernel_rfl) (by kernel_rfl) (fun _ _ _ h => h) (Or.inl ⟨by rfl, ?_⟩) (by assumption) ?_; rotate_left; (intro w hSw; (try dsimp only at hSw); go_split_ands; go_simp; (try with_reducible rfl)); (try simp only [Act.put, List.setIfInBounds_toArray, List.set_cons_zero, List.set_cons_succ]))
                (refine WG.take (i := 7) (v := ?_) rfl (by kernel_rfl) (by kernel_rfl) (by kernel_rfl) (by kernel_rfl) (fun _ _ _ h => h) (Or.inl ⟨by rfl, ?_⟩) (by assumption) ?_; rotate_left; (intro w hSw; (try dsimp only at hSw); go_split_ands; go_simp; (try with_reducible rfl)); (try simp only [Act.put, List.setIfInBounds_toArray, List.set_cons_zero, List.set_cons_succ]))
                (refine WG.take (i := 8) (v := ?_) rfl (by kernel_rfl) (by kernel_rfl) (by kernel_rfl) (by kernel_rfl) (fun _ _ _ h => h) (Or.inl ⟨by rfl, ?_⟩) (by assumption) ?_; rotate_left; (intro w hSw; (try dsimp only at hSw); go_split_ands; go_simp; (try with_reducible rfl)); (try simp only [Act.put, List.setIfInBounds_toArray, List.set_cons_zero, List.set_cons_succ]))
                (refine WG.take (i := 9) (v := ?_) rfl (by kernel_rfl) (by kernel_rfl) (by kernel_rfl) (by kernel_rfl) (fun _ _ _ h => h) (Or.inl ⟨by rfl, ?_⟩) (by assumption) ?_; rotate_left; (intro w hSw; (try dsimp only at hSw); go_split_ands; go_simp; (try with_reducible rfl)); (try simp only [Act.put, List.setIfInBounds_toArray, List.set_cons_zero, List.set_cons_succ]))
                (refine WG.take (i := 10) (v := ?_) rfl (by kernel_rfl) (by kernel_rfl) (by kernel_rfl) (by kernel_rfl) (fun _ _ _ h => h) (Or.inl ⟨by rfl, ?_⟩) (by assumption) ?_; rotate_left; (intro w hSw; (try dsimp only at hSw); go_split_ands; go_simp; (try with_reducible rfl)); (try simp only [Act.put, List.setIfInBounds_toArray, List.set_cons_zero, List.set_cons_succ]))
                (refine WG.take (i := 11) (v := ?_) rfl (by kernel_rfl) (by kernel_rfl) (by kernel_rfl) (by kernel_rfl) (fun _ _ _ h => h) (Or.inl ⟨by rfl, ?_⟩) (by assumption) ?_; rotate_left; (intro w hSw; (try dsimp only at hSw); go_split_ands; go_simp; (try with_reducible rfl)); (try simp only [Act.put, List.setIfInBounds_toArray, List.set_cons_zero, List.set_cons_succ]))
                (refine WG.take (i := 12) (v := ?_) rfl (by kernel_rfl) (by kernel_rfl) (by kernel_rfl) (by kernel_rfl) (fun _ _ _ h => h) (Or.inl ⟨by rfl, ?_⟩) (by assumption) ?_; rotate_left; (intro w hSw; (try dsimp only at hSw); go_split_ands; go_simp; (try with_reducible rfl)); (try simp only [Act.put, List.setIfInBounds_toArray, List.set_cons_zero, List.set_cons_succ]))
                (refine WG.take (i := 13) (v := ?_) rfl (by kernel_rfl) (by kernel_rfl) (by kernel_rfl) (by kernel_rfl) (fun _ _ _ h => h) (Or.inl ⟨by rfl, ?_⟩) (by assumption) ?_; rotate_left; (intro w hSw; (try dsimp only at hSw); go_split_ands; go_simp; (try with_reducible rfl)); (try simp only [Act.put, List.setIfInBounds_toArray, List.set_cons_zero, List.set_cons_succ]))
                (refine WG.take (i := 14) (v := ?_) rfl (by kernel_rfl) (by kernel_rfl) (by kernel_rfl) (by kernel_rfl) (fun _ _ _ h => h) (Or.inl ⟨by rfl, ?_⟩) (by assumption) ?_; rotate_left; (intro w hSw; (try dsimp only at hSw); go_split_ands; go_simp; (try with_reducible rfl)); (try simp only [Act.put, List.setIfInBounds_toArray, List.set_cons_zero, List.set_cons_succ]))
                (refine WG.take (i := 15) (v := ?_) rfl (by kernel_rfl) (by kernel_rfl) (by kernel_rfl) (by kernel_rfl) (fun _ _ _ h => h) (Or.inl ⟨by rfl, ?_⟩) (by assumption) ?_; rotate_left; (intro w hSw; (try dsimp only at hSw); go_split_ands; go_simp; (try with_reducible rfl)); (try simp only [Act.put, List.setIfInBounds_toArray, List.set_cons_zero, List.set_cons_succ]))
                refine WG.one (i := 16) rfl (by kernel_rfl) (fun K hK => ?_)
                go_simp; refine (iTaskBefore1 _ _ x y _ ⟨_, rfl, RI.ext HXN.out HDr.out⟩ ⟨_, rfl, RI.ext HYN.out HDr.out⟩ HTB.out).mono ?_; rintro e6 w6 ⟨rfl, hE6⟩; have HE6 := hid (HDr.out.trans hE6); clear hE6; (try dsimp only)
                refine hK.out _ _ (by exact KC.out _ HE6.out) (fun hHeld => ?_)
                clear hK K
                (try simp only [Act.put, List.setIfInBounds_toArray, List.set_cons_zero, List.set_cons_succ])
                (refine WG.take (i := 17) (v := ?_) rfl (by kernel_rfl) (by kernel_rfl) (by kernel_rfl) (by kernel_rfl) (fun _ _ _ h => h) (Or.inl ⟨by rfl, ?_⟩) (by assumption) ?_; rotate_left; (intro w hSw; (try dsimp only at hSw); go_split_ands; go_simp; (try with_reducible rfl)); (try simp only [Act.put, List.setIfInBounds_toArray, List.set_cons_zero, List.set_cons_succ]))
                (refine WG.take (i := 18) (v := ?_) rfl (by kernel_rfl) (by kernel_rfl) (by kernel_rfl) (by kernel_rfl) (fun _ _ _ h => h) (Or.inl ⟨by rfl, ?_⟩) (by assumption) ?_; rotate_left; (intro w hSw; (try dsimp only at hSw); go_split_ands; go_simp; (try with_reducible rfl)); (try simp only [Act.put, List.setIfInBounds_toArray, List.set_cons_zero, List.set_cons_succ]))
                refine WG.done (by kernel_rfl) ?_
                clear hw
                go_wp2
                go_roundw
                case rel => exact ⟨k + 1, by omega, by go_num, hid (HF.out.trans HE6.out)⟩
                case measure => simp [intOf]; omega
              · have hk1 : k = 0 := by omega
                subst hk1
                simp only [Nat.add_zero] at hcr
                have i9 : (0 : Int) < (R.length : Int) := by omega
                have HDr : Hid (Ext wr wr.drew) := hid (Below.drew (Below.refl _ _))
                go_wp2
                refine WG.start (fun w' => True) [] (by kernel_rfl) (by exact trivial) (fun hHeld => ?_)
                obtain ⟨pz, hpz⟩ : ∃ x, x = wr.drew := ⟨_, rfl⟩
                rw [← hpz] at HDr ⊢
                clear hpz
                (refine WG.take (i := 0) (v := ?_) rfl (by kernel_rfl) (by kernel_rfl) (by kernel_rfl) (by kernel_rfl) (fun _ _ _ h => h) (Or.inl ⟨by rfl, ?_⟩) (by assumption) ?_; rotate_left; (intro w hSw; (try dsimp only at hSw); go_split_ands; go_simp; (try with_reducible rfl)); (try simp only [Act.put, List.setIfInBounds_toArray, List.set_cons_zero, List.set_cons_succ]))
                (refine WG.take (i := 1) (v := ?_) rfl (by kernel_rfl) (by kernel_rfl) (by kernel_rfl) (by kernel_rfl) (fun _ _ _ h => h) (Or.inl ⟨by rfl, ?_⟩) (by assumption) ?_; rotate_left; (intro w hSw; (try dsimp only at hSw); go_split_ands; go_simp; (try with_reducible rfl)); (try simp only [Act.put, List.setIfInBounds_toArray, List.set_cons_zero, List.set_cons_succ]))
                (refine WG.take (i := 2) (v := ?_) rfl (by kernel_rfl) (by kernel_rfl) (by kernel_rfl) (by kernel_rfl) (fun _ _ _ h => h) (Or.inl ⟨by rfl, ?_⟩) (by assumption) ?_; rotate_left; (intro w hSw; (try dsimp only at hSw); go_split_ands; go_simp; (try with_reducible rfl)); (try simp only [Act.put, List.setIfInBounds_toArray, List.set_cons_zero, List.set_cons_succ]))
                (refine WG.take (i := 3) rfl (by kernel_rfl) (by kernel_rfl) (by kernel_rfl) (by kernel_rfl) (fun _ _ _ h => h) (Or.inr ⟨?_, rfl⟩) (by assumption) ?_; go_simp; (try simp only [Act.put, List.setIfInBounds_toArray, List.set_cons_zero, List.set_cons_succ]))
                (refine WG.take (i := 4) rfl (by kernel_rfl) (by kernel_rfl) (by kernel_rfl) (by kernel_rfl) (fun _ _ _ h => h) (Or.inr ⟨?_, rfl⟩) (by assumption) ?_; go_simp; (try simp only [Act.put, List.setIfInBounds_toArray, List.set_cons_zero, List.set_cons_succ]))
                (refine WG.take (i := 5) rfl (by kernel_rfl) (by kernel_rfl) (by kernel_rfl) (by kernel_rfl) (fun _ _ _ h => h) (Or.inr ⟨?_, rfl⟩) (by assumption) ?_; go_simp; (try simp only [Act.put, List.setIfInBounds_toArray, List.set_cons_zero, List.set_cons_succ]))
                (refine WG.take (i := 6) rfl (by kernel_rfl) (by kernel_rfl) (by kernel_rfl) (by kernel_rfl) (fun _ _ _ h => h) (Or.inr ⟨?_, rfl⟩) (by assumption) ?_; go_simp; (try simp only [Act.put, List.setIfInBounds_toArray, List.set_cons_zero, List.set_cons_succ]))
                (refine WG.take (i := 7) rfl (by kernel_rfl) (by kernel_rfl) (by kernel_rfl) (by kernel_rfl) (fun _ _ _ h => h) (Or.inr ⟨?_, rfl⟩) (by assumption) ?_; go_simp; (try simp only [Act.put, List.setIfInBounds_toArray, List.set_cons_zero, List.set_cons_succ]))
                (refine WG.take (i := 8) rfl (by kernel_rfl) (by kernel_rfl) (by kernel_rfl) (by kernel_rfl) (fun _ _ _ h => h) (Or.inr ⟨?_, rfl⟩) (by assumption) ?_; go_simp; (try simp only [Act.put, List.setIfInBounds_toArray, List.set_cons_zero, List.set_cons_succ]))
                (refine WG.take (i := 9) rfl (by kernel_rfl) (by kernel_rfl) (by kernel_rfl) (by kernel_rfl) (fun _ _ _ h => h) (Or.inr ⟨?_, rfl⟩) (by assumption) ?_; go_simp; (try simp only [Act.put, List.setIfInBounds_toArray, List.set_cons_zero, List.set_cons_succ]))
                (refine WG.take (i := 10) rfl (by kernel_rfl) (by kernel_rfl) (by kernel_rfl) (by kernel_rfl) (fun _ _ _ h => h) (Or.inr ⟨?_, rfl⟩) (by assumption) ?_; go_simp; (try simp only [Act.put, List.setIfInBounds_toArray, List.set_cons_zero, List.set_cons_succ]))
                (refine WG.take (i := 11) rfl (by kernel_rfl) (by kernel_rfl) (by kernel_rfl) (by kernel_rfl) (fun _ _ _ h => h) (Or.inr ⟨?_, rfl⟩) (by assumption) ?_; go_simp; (try simp only [Act.put, List.setIfInBounds_toArray, List.set_cons_zero, List.set_cons_succ]))
                (refine WG.take (i := 12) rfl (by kernel_rfl) (by kernel_rfl) (by kernel_rfl) (by kernel_rfl) (fun _ _ _ h => h) (Or.inr ⟨?_, rfl⟩) (by assumption) ?_; go_simp; (try simp only [Act.put, List.setIfInBounds_toArray, List.set_cons_zero, List.set_cons_succ]))
                (refine WG.take (i := 13) rfl (by kernel_rfl) (by kernel_rfl) (by kernel_rfl) (by kernel_rfl) (fun _ _ _ h => h) (Or.inr ⟨?_, rfl⟩) (by assumption) ?_; go_simp; (try simp only [Act.put, List.setIfInBounds_toArray, List.set_cons_zero, List.set_cons_succ]))
                (refine WG.take (i := 14) rfl (by kernel_rfl) (by kernel_rfl) (by kernel_rfl) (by kernel_rfl) (fun _ _ _ h => h) (Or.inr ⟨?_, rfl⟩) (by assumption) ?_; go_simp; (try simp only [Act.put, List.setIfInBounds_toArray, List.set_cons_zero, List.set_cons_succ]))
                (refine WG.take (i := 15) rfl (by kernel_rfl) (by kernel_rfl) (by kernel_rfl) (by kernel_rfl) (fun _ _ _ h => h) (Or.inr ⟨?_, rfl⟩) (by assumption) ?_; go_simp; (try simp only [Act.put, List.setIfInBounds_toArray, List.set_cons_zero, List.set_cons_succ]))
                (refine WG.take (i := 16) rfl (by kernel_rfl) (by kernel_rfl) (by kernel_rfl) (by kernel_rfl) (fun _ _ _ h => h) (Or.inr ⟨?_, rfl⟩) (by assumption) ?_; go_simp; (try simp only [Act.put, List.setIfInBounds_toArray, List.set_cons_zero, List.set_cons_succ]))
                (refine WG.take (i := 17) rfl (by kernel_rfl) (by kernel_rfl) (by kernel_rfl) (by kernel_rfl) (fun _ _ _ h => h) (Or.inr ⟨?_, rfl⟩) (by assumption) ?_; go_simp; (try simp only [Act.put, List.setIfInBounds_toArray, List.set_cons_zero, List.set_cons_succ]))
                (refine WG.take (i := 18) (v := ?_) rfl (by kernel_rfl) (by kernel_rfl) (by kernel_rfl) (by kernel_rfl) (fun _ _ _ h => h) (Or.inl ⟨by rfl, ?_⟩) (by assumption) ?_; rotate_left; (intro w hSw; (try dsimp only at hSw); go_split_ands; go_simp; (try with_reducible rfl)); (try simp only [Act.put, List.setIfInBounds_toArray, List.set_cons_zero, List.set_cons_succ]))
                refine WG.done (by kernel_rfl) ?_
                go_wp2
                go_roundw
                case rel => exact ⟨1, by omega, by go_num, hid (HF.out.trans HDr.out)⟩
                case measure => simp [intOf]; omega
        · have hk' : k = R.length := by omega
          have hge : ¬ (k : Int) < (R.length : Int) := by omega
          go_wp2_with (go_at_call 25; refine (iBinsValid _ _ room R _ (RI.ext HR.out (HE5.out.trans HE.out)) (RB.ext HB5.out HE.out) HFL.out HIF.out).mono ?_; rw [HDC.out]; rintro e w9 ⟨rfl, hE9⟩; have HE9 := hid (HE.out.trans hE9); clear hE9)
          go_ret
          exact ⟨rfl, HE1.out.trans (HE5.out.trans HE9.out)⟩
  · have i1 : (1048576 : Int) < (bs.length : Int) := by omega
    go_enter Try.func4, Try.ntmps4
    go_wp2
    go_ret
    exact ⟨rfl, Ext.refl _⟩

end Go.Proofs.Ytllchacophapoaa
