/- The law FnArriveFull. -/
import Derived.Test.YtfgibhdglbjadaaK19
import Derived.Test.YtfgibhdglbjadaaK17
import Derived.Test.YtfgibhdglbjadaaK16
namespace Go.Proofs.Ytfgibhdglbjadaa
open Go.RowKit
set_option maxRecDepth 4000

theorem RT.far_app {w w' : World} {b n c : Nat} {row : Option Nat} {ts : List TaskD} (h : RT w (.slice (some ⟨b, 0, none⟩) n c) ts) (hg : w.grownBy w' row) (hne : row ≠ some b) (hs : SameT (fun t => t ≠ 64) w w') : RT w' (.slice (some ⟨b, 0, none⟩) n c) ts := by
  obtain ⟨A, c', hv, h1, h2, h3⟩ := h
  injection hv with e1 e2 e3
  subst e1 e3
  refine ⟨_, _, by rw [e2], h1, h2, fun hp => ?_⟩
  obtain ⟨b', o, cur, fr, hA, hb, hc⟩ := h3 hp
  injection hA with hA
  injection hA with e4 e5 _
  subst e4 e5
  refine ⟨_, _, cur, fr, rfl, (hg.block _ (obj_lt hb) (fun e => hne e.symm)).trans hb, fun j x hx => ?_⟩
  obtain ⟨cs, hl, he, hu⟩ := hc j x hx
  exact ⟨cs, hl, ET.ok _ _ _ _ he (hs.mono (by rintro t rfl; decide)), hu⟩
theorem arrive3_ok {C : ClusD} {x : TaskD} {g : Bool} (h : (arriveC C x g).2 = 3) : clusOk C = true := by
  cases hc : clusOk C with
  | true => rfl
  | false =>
    unfold arriveC at h
    rw [hc] at h
    exact absurd h (by simp)
set_option maxHeartbeats 8000000 in
theorem lawArriveFull (v : Value) (bs : List Int) (w : World) (h : XBy w v bs) :
    Calls Try.prog 16 #[v] w (RetB w true) := by
  have HB := hid h
  obtain ⟨A, c, rfl, _⟩ := h
  by_cases h1 : bs.length ≤ 1048576
  · have i1 : ¬ (1048576 : Int) < (bs.length : Int) := by omega
    go_enter Try.func16, Try.ntmps16
    go_wp2_with (go_at_call 47; refine (dDrawArrive _ bs _ HB.out (by omega)).mono ?_; rintro e w1 ⟨cv, C, xid, nv, need, g, rfl, hO, hS, hN, hNl, hnd, hE⟩; obtain ⟨Ar, cr, Au, cu, rfl⟩ := hO.form; obtain ⟨An, cn, rfl, _⟩ := hN.form; have HC := hid hO.read; have HS := hid hS; have HE := hid hE; have HID := hid hnd; have HNd := hid hN.read; have HNL := hid hNl; obtain ⟨y0, y1, y0f, y1f, k1, k1f, hkk, _⟩ := box2 (H := w1.heap.size) ((Ext.alloc (w1.alloc (.cells #[.slice none 0 0, .slice none 0 0] 26)) (.cells #[.int .i64 0, .slice none 0 0] 64)).obj (heap_alloc_new w1 (.cells #[.slice none 0 0, .slice none 0 0] 26))) (.slice Ar C.room.length cr) (.slice Au C.units.length cu); obtain ⟨z0, z1, z0f, z1f, l1, l1f, hll, _⟩ := box2 (heap_alloc_new (w1.alloc (.cells #[.slice Ar C.room.length cr, .slice Au C.units.length cu] 26)) (.cells #[.int .i64 0, .slice none 0 0] 64)) (.int .i64 xid) (.slice An need.length cn); clear hkk hll hO hS hE hN hNl hnd)
    obtain ⟨W, hW⟩ : ∃ W, W = (w1.alloc (.cells #[.slice Ar C.room.length cr, .slice Au C.units.length cu] 26)).alloc (.cells #[.int .i64 xid, .slice An need.length cn] 64) := ⟨_, rfl⟩
    have hEW : Ext w1 W := by rw [hW]; exact (Ext.alloc _ _).trans (Ext.alloc _ _)
    have hbx : W.heap[w1.heap.size]? = some (.cells #[.slice Ar C.room.length cr, .slice Au C.units.length cu] 26 (0, 0)) := by rw [hW]; exact (Ext.alloc _ _).obj (heap_alloc_new _ _)
    have hbt : W.heap[w1.heap.size + 1]? = some (.cells #[.int .i64 xid, .slice An need.length cn] 64 (0, 0)) := by rw [hW]; exact heap_new (by simp)
    have KB : Hid (∀ w', Ext W w' → w'.cell? ⟨w1.heap.size, 0, none⟩ = some (.slice Ar C.room.length cr) ∧ w'.cell? ⟨w1.heap.size, 1, none⟩ = some (.slice Au C.units.length cu) ∧ w'.cell? ⟨w1.heap.size + 1, 0, none⟩ = some (.int .i64 xid) ∧ w'.cell? ⟨w1.heap.size + 1, 1, none⟩ = some (.slice An need.length cn)) := hid fun w' hw => ⟨obj_cell (hw.obj hbx) (i := 0) rfl, obj_cell (hw.obj hbx) (i := 1) rfl, obj_cell (hw.obj hbt) (i := 0) rfl, obj_cell (hw.obj hbt) (i := 1) rfl⟩
    obtain ⟨hb0, hb1, hb2, hb3⟩ := KB.out _ (Ext.refl _)
    have HEW := hid (HE.out.trans hEW)
    have HO1 := hid (HC.out.ext hEW)
    have HNW := hid (RI.ext HNd.out hEW)
    rw [← hW]
    clear hW y0 y1 y0f y1f k1 k1f z0 z1 z0f z1f l1 l1f hEW hbx hbt
    obtain ⟨x, hx⟩ : ∃ x : TaskD, x = ⟨xid, need⟩ := ⟨_, rfl⟩
    have HX := hid hx
    have HXI : Hid (IdR x.id) := hid (by rw [hx]; exact HID.out)
    have HXV : Hid (TaskV W (.agg #[.int .i64 xid, .slice An need.length cn]) x) := hid (by rw [hx]; exact ⟨_, rfl, HNW.out⟩)
    clear hx
    obtain ⟨R, hR⟩ : ∃ R, R = arriveC C x g := ⟨_, rfl⟩
    have HRR := hid hR
    have HSR : Hid (SmallC R.1) := hid (by rw [hR]; exact (few_arrive C x g).small)
    clear hR
    by_cases h0 : R.2 = 3
    · cases g
      · have h3 : (arriveC C x false).2 = 3 := by rw [← HRR.out]; exact h0
        have hv1 := arrive3_ok h3
        have h0' : (R.2 != 3) = false := by simp [h0]
        by_cases hm : manyN C = 14
        · have em : ((manyN C : Int) == 14) = true := by rw [hm]; rfl
          go_wp2_with (first
            | (go_at_call 36; refine (iClusterCounts _ C _ (HO1.out.ext (HE2.out.trans (HE3.out.trans HE4.out))) HS.out.len HS.out.flat HS.out.ids).mono ?_; rintro e w5 ⟨v5, rfl, hO5, hE5⟩; obtain ⟨g5, c5, rfl, hK5⟩ := counts_row hv1 hO5; have K5 := hid hK5; have HE5 := hid hE5; obtain ⟨hb0, hb1, hb2, hb3⟩ := KB.out _ (HE2.out.trans (HE3.out.trans (HE4.out.trans HE5.out))); obtain ⟨p20, p21⟩ := K2.out _ (HE3.out.trans (HE4.out.trans HE5.out)); obtain ⟨p30, p31⟩ := K3.out _ (HE4.out.trans HE5.out); obtain ⟨q50, q51, q52⟩ := K5.out _ (Ext.refl _); clear hO5 hE5 hK5)
            | (go_at_call 40; refine (lSameCluster _ _ R.1 _ (HO2.out.ext HE3.out) (HO3.out.ext (Ext.refl _))).mono ?_; rintro e w4 ⟨rfl, hE4⟩; have HE4 := hid hE4; obtain ⟨hb0, hb1, hb2, hb3⟩ := KB.out _ (HE2.out.trans (HE3.out.trans HE4.out)); obtain ⟨p20, p21⟩ := K2.out _ (HE3.out.trans HE4.out); obtain ⟨p30, p31⟩ := K3.out _ HE4.out; clear hE4)
            | (go_at_call 49; refine (sClusterArrive _ _ C x false _ (HO1.out.ext HE2.out) (HXV.out.ext HE2.out) HS.out.len HS.out.flat).mono ?_; rw [← HRR.out]; rintro e w3 ⟨v3, rfl, hO3, hE3⟩; obtain ⟨A3, c3, B3, d3, rfl⟩ := hO3.form; obtain ⟨y0, y1, y0f, y1f, k1, k1f, hkk, _⟩ := box2 (heap_alloc_new w3 (.cells #[.slice none 0 0, .slice none 0 0] 26)) (.slice A3 R.1.room.length c3) (.slice B3 R.1.units.length d3); have hx3 := Ext.alloc w3 (.cells #[.slice A3 R.1.room.length c3, .slice B3 R.1.units.length d3] 26); have hbx3 := heap_alloc_new w3 (.cells #[.slice A3 R.1.room.length c3, .slice B3 R.1.units.length d3] 26); have HO3 := hid (hO3.read.ext hx3); have HE3 := hid (hE3.trans hx3); have K3 := hid (show ∀ w', Ext (w3.alloc (.cells #[.slice A3 R.1.room.length c3, .slice B3 R.1.units.length d3] 26)) w' → w'.cell? ⟨w3.heap.size, 0, none⟩ = some (.slice A3 R.1.room.length c3) ∧ w'.cell? ⟨w3.heap.size, 1, none⟩ = some (.slice B3 R.1.units.length d3) from fun w' hw => ⟨obj_cell (hw.obj hbx3) (i := 0) rfl, obj_cell (hw.obj hbx3) (i := 1) rfl⟩); obtain ⟨hb0, hb1, hb2, hb3⟩ := KB.out _ (HE2.out.trans HE3.out); obtain ⟨p20, p21⟩ := K2.out _ HE3.out; obtain ⟨p30, p31⟩ := K3.out _ (Ext.refl _); clear hO3 hE3 hkk hx3 hbx3)
            | (go_at_call 48; refine (iClusterArrive _ C _ x false _ HO1.out HS.out.len HS.out.flat HS.out.ids HXV.out HXI.out).mono ?_; rw [← HRR.out]; rintro e w2 ⟨v2, rfl, hO2, hE2⟩; obtain ⟨A2, c2, B2, d2, rfl⟩ := hO2.form; obtain ⟨y0, y1, y0f, y1f, k1, k1f, hkk, _⟩ := box2 (heap_alloc_new w2 (.cells #[.slice none 0 0, .slice none 0 0] 26)) (.slice A2 R.1.room.length c2) (.slice B2 R.1.units.length d2); have hx2 := Ext.alloc w2 (.cells #[.slice A2 R.1.room.length c2, .slice B2 R.1.units.length d2] 26); have hbx2 := heap_alloc_new w2 (.cells #[.slice A2 R.1.room.length c2, .slice B2 R.1.units.length d2] 26); have HO2 := hid (hO2.read.ext hx2); have HE2 := hid (hE2.trans hx2); have K2 := hid (show ∀ w', Ext (w2.alloc (.cells #[.slice A2 R.1.room.length c2, .slice B2 R.1.units.length d2] 26)) w' → w'.cell? ⟨w2.heap.size, 0, none⟩ = some (.slice A2 R.1.room.length c2) ∧ w'.cell? ⟨w2.heap.size, 1, none⟩ = some (.slice B2 R.1.units.length d2) from fun w' hw => ⟨obj_cell (hw.obj hbx2) (i := 0) rfl, obj_cell (hw.obj hbx2) (i := 1) rfl⟩); obtain ⟨hb0, hb1, hb2, hb3⟩ := KB.out _ HE2.out; obtain ⟨p20, p21⟩ := K2.out _ (Ext.refl _); clear hO2 hE2 hkk hx2 hbx2))
          go_ret
          exact ⟨rfl, HEW.out.trans (HE2.out.trans (HE3.out.trans (HE4.out.trans HE5.out)))⟩
        · have em : ((manyN C : Int) == 14) = false := by simp; omega
          have hfull := arrive_full h3 hm
          have HAT := hid hfull.2.1
          have HALL := hid hfull.2.2
          clear hfull h3 hm
          go_wp2_with (first
            | (go_at_call 36; refine (iClusterCounts _ C _ (HO1.out.ext (HE2.out.trans (HE3.out.trans HE4.out))) HS.out.len HS.out.flat HS.out.ids).mono ?_; rintro e w5 ⟨v5, rfl, hO5, hE5⟩; obtain ⟨g5, c5, rfl, hK5⟩ := counts_row hv1 hO5; have K5 := hid hK5; have HE5 := hid hE5; obtain ⟨hb0, hb1, hb2, hb3⟩ := KB.out _ (HE2.out.trans (HE3.out.trans (HE4.out.trans HE5.out))); obtain ⟨p20, p21⟩ := K2.out _ (HE3.out.trans (HE4.out.trans HE5.out)); obtain ⟨p30, p31⟩ := K3.out _ (HE4.out.trans HE5.out); obtain ⟨q50, q51, q52⟩ := K5.out _ (Ext.refl _); clear hO5 hE5 hK5)
            | (go_at_call 40; refine (lSameCluster _ _ R.1 _ (HO2.out.ext HE3.out) (HO3.out.ext (Ext.refl _))).mono ?_; rintro e w4 ⟨rfl, hE4⟩; have HE4 := hid hE4; obtain ⟨hb0, hb1, hb2, hb3⟩ := KB.out _ (HE2.out.trans (HE3.out.trans HE4.out)); obtain ⟨p20, p21⟩ := K2.out _ (HE3.out.trans HE4.out); obtain ⟨p30, p31⟩ := K3.out _ HE4.out; clear hE4)
            | (go_at_call 49; refine (sClusterArrive _ _ C x false _ (HO1.out.ext HE2.out) (HXV.out.ext HE2.out) HS.out.len HS.out.flat).mono ?_; rw [← HRR.out]; rintro e w3 ⟨v3, rfl, hO3, hE3⟩; obtain ⟨A3, c3, B3, d3, rfl⟩ := hO3.form; obtain ⟨y0, y1, y0f, y1f, k1, k1f, hkk, _⟩ := box2 (heap_alloc_new w3 (.cells #[.slice none 0 0, .slice none 0 0] 26)) (.slice A3 R.1.room.length c3) (.slice B3 R.1.units.length d3); have hx3 := Ext.alloc w3 (.cells #[.slice A3 R.1.room.length c3, .slice B3 R.1.units.length d3] 26); have hbx3 := heap_alloc_new w3 (.cells #[.slice A3 R.1.room.length c3, .slice B3 R.1.units.length d3] 26); have HO3 := hid (hO3.read.ext hx3); have HE3 := hid (hE3.trans hx3); have K3 := hid (show ∀ w', Ext (w3.alloc (.cells #[.slice A3 R.1.room.length c3, .slice B3 R.1.units.length d3] 26)) w' → w'.cell? ⟨w3.heap.size, 0, none⟩ = some (.slice A3 R.1.room.length c3) ∧ w'.cell? ⟨w3.heap.size, 1, none⟩ = some (.slice B3 R.1.units.length d3) from fun w' hw => ⟨obj_cell (hw.obj hbx3) (i := 0) rfl, obj_cell (hw.obj hbx3) (i := 1) rfl⟩); obtain ⟨hb0, hb1, hb2, hb3⟩ := KB.out _ (HE2.out.trans HE3.out); obtain ⟨p20, p21⟩ := K2.out _ HE3.out; obtain ⟨p30, p31⟩ := K3.out _ (Ext.refl _); clear hO3 hE3 hkk hx3 hbx3)
            | (go_at_call 48; refine (iClusterArrive _ C _ x false _ HO1.out HS.out.len HS.out.flat HS.out.ids HXV.out HXI.out).mono ?_; rw [← HRR.out]; rintro e w2 ⟨v2, rfl, hO2, hE2⟩; obtain ⟨A2, c2, B2, d2, rfl⟩ := hO2.form; obtain ⟨y0, y1, y0f, y1f, k1, k1f, hkk, _⟩ := box2 (heap_alloc_new w2 (.cells #[.slice none 0 0, .slice none 0 0] 26)) (.slice A2 R.1.room.length c2) (.slice B2 R.1.units.length d2); have hx2 := Ext.alloc w2 (.cells #[.slice A2 R.1.room.length c2, .slice B2 R.1.units.length d2] 26); have hbx2 := heap_alloc_new w2 (.cells #[.slice A2 R.1.room.length c2, .slice B2 R.1.units.length d2] 26); have HO2 := hid (hO2.read.ext hx2); have HE2 := hid (hE2.trans hx2); have K2 := hid (show ∀ w', Ext (w2.alloc (.cells #[.slice A2 R.1.room.length c2, .slice B2 R.1.units.length d2] 26)) w' → w'.cell? ⟨w2.heap.size, 0, none⟩ = some (.slice A2 R.1.room.length c2) ∧ w'.cell? ⟨w2.heap.size, 1, none⟩ = some (.slice B2 R.1.units.length d2) from fun w' hw => ⟨obj_cell (hw.obj hbx2) (i := 0) rfl, obj_cell (hw.obj hbx2) (i := 1) rfl⟩); obtain ⟨hb0, hb1, hb2, hb3⟩ := KB.out _ HE2.out; obtain ⟨p20, p21⟩ := K2.out _ (Ext.refl _); clear hO2 hE2 hkk hx2 hbx2))
          have HCG := hid (RU.get (show RU W (.slice Au C.units.length cu) C.units by obtain ⟨_, _, he, _, h2⟩ := HO1.out; injection he with he; injection he with he; injection he with _ he; injection he with he _; rw [he]; exact h2))
          have HRW := hid (show RI W (.slice Ar C.room.length cr) C.room by obtain ⟨_, _, he, h2, _⟩ := HO1.out; injection he with he; injection he with he; injection he with he _; rw [he]; exact h2)
          obtain ⟨i0_task, hi0_task, hz0_task, hz1_task, hz2_task⟩ := info_parts info_task
          go_loopw [10] (fun i wr => ∃ j : Nat, j ≤ C.units.length ∧ i = .int .i64 j ∧ Hid (Ext W wr)) (fun i _ => C.units.length - (intOf i).toNat)
          case atStart => exact ⟨0, Nat.zero_le _, rfl, hid (HE2.out.trans (HE3.out.trans (HE4.out.trans HE5.out)))⟩
          case round =>
            obtain ⟨j, hj, rfl, hE⟩ := hrel
            have hu10 := HS.out.units
            obtain ⟨qb0, qb1, qb2, qb3⟩ := KB.out _ hE.out
            by_cases hjl : j < C.units.length
            · have ij : (j : Int) < (C.units.length : Int) := by omega
              have i0 : (0 : Int) ≤ (j : Int) := by omega
              obtain ⟨A', c', hvu, _, _, hgc⟩ := HCG.out
              injection hvu with e1 _ e3
              subst e1 e3
              obtain ⟨ub, uo, u, At, ct, rfl, eu, u1, u2, hut⟩ := hgc j hjl
              have hum := List.mem_of_getElem? eu.out
              have HUM := hid hum
              have HT := hid (RT.ext hut hE.out)
              have HTL := hid (HS.out.tasks u hum).1
              have HTI : Hid (∀ t ∈ [u.tasks ++ [x]].flatten, IdR t.id) := hid fun t ht => by
                have ht : t ∈ u.tasks ++ [x] := by simpa using ht
                rcases List.mem_append.1 ht with ht | ht
                · exact ((HS.out.tasks u hum).2 t ht).2
                · rw [List.mem_singleton.1 ht]; exact HXI.out
              have HRm := hid (RI.ext HRW.out hE.out)
              have EW := hE.out
              have u1w := hE.out.cell u1
              have u2w := hE.out.cell u2
              have KS : Hid (∀ w', Ext wr w' → w'.cell? ⟨w1.heap.size, 0, none⟩ = some (.slice Ar C.room.length cr) ∧ w'.cell? ⟨w1.heap.size, 1, none⟩ = some (.slice (some ⟨ub, uo, none⟩) C.units.length cu) ∧ w'.cell? ⟨w1.heap.size + 1, 0, none⟩ = some (.int .i64 xid) ∧ w'.cell? ⟨w1.heap.size + 1, 1, none⟩ = some (.slice An need.length cn) ∧ w'.cell? ⟨ub, uo + j * 2, none⟩ = some (.bool u.opened) ∧ w'.cell? ⟨ub, uo + j * 2 + 1, none⟩ = some (.slice At u.tasks.length ct) ∧ Ext wr w') :=
                hid fun w' hw => ⟨hw.cell qb0, hw.cell qb1, hw.cell qb2, hw.cell qb3, hw.cell u1w, hw.cell u2w, hw⟩
              clear hgc u1 u2 hut hum
              by_cases ho : u.opened = true
              · have HNR : Hid (binsOk C.room [u.tasks ++ [x]] = false) := hid (no_room HAT.out HUM.out ho)
                go_wp2
                refine WG.start (fun w' => w'.cell? ⟨w1.heap.size, 0, none⟩ = some (.slice Ar C.room.length cr) ∧ w'.cell? ⟨w1.heap.size, 1, none⟩ = some (.slice (some ⟨ub, uo, none⟩) C.units.length cu) ∧ w'.cell? ⟨w1.heap.size + 1, 0, none⟩ = some (.int .i64 xid) ∧ w'.cell? ⟨w1.heap.size + 1, 1, none⟩ = some (.slice An need.length cn) ∧ w'.cell? ⟨ub, uo + j * 2, none⟩ = some (.bool u.opened) ∧ w'.cell? ⟨ub, uo + j * 2 + 1, none⟩ = some (.slice At u.tasks.length ct) ∧ Ext wr w') [10,11] (by kernel_rfl) (by exact KS.out _ (Below.drew (Below.refl _ _))) (fun hHeld => ?_)
                (refine WG.take (i := 1) (v := ?_) rfl (by kernel_rfl) (by kernel_rfl) (by kernel_rfl) (by kernel_rfl) (fun _ _ _ h => h) (Or.inl ⟨by rfl, ?_⟩) (by assumption) ?_; rotate_left; (intro w hSw; (try dsimp only at hSw); go_split_ands; go_simp; (try with_reducible rfl)); (try simp only [Act.put, List.setIfInBounds_toArray, List.set_cons_zero, List.set_cons_succ]))
                (refine WG.take (i := 2) (v := ?_) rfl (by kernel_rfl) (by kernel_rfl) (by kernel_rfl) (by kernel_rfl) (fun _ _ _ h => h) (Or.inl ⟨by rfl, ?_⟩) (by assumption) ?_; rotate_left; (intro w hSw; (try dsimp only at hSw); go_split_ands; go_simp; (try with_reducible rfl)); (try simp only [Act.put, List.setIfInBounds_toArray, List.set_cons_zero, List.set_cons_succ]))
                (refine WG.take (i := 3) (v := ?_) rfl (by kernel_rfl) (by kernel_rfl) (by kernel_rfl) (by kernel_rfl) (fun _ _ _ h => h) (Or.inl ⟨by rfl, ?_⟩) (by assumption) ?_; rotate_left; (intro w hSw; (try dsimp only at hSw); go_split_ands; go_simp; (try with_reducible rfl)); (try simp only [Act.put, List.setIfInBounds_toArray, List.set_cons_zero, List.set_cons_succ]))
                (refine WG.take (i := 4) (v := ?_) rfl (by kernel_rfl) (by kernel_rfl) (by kernel_rfl) (by kernel_rfl) (fun _ _ _ h => h) (Or.inl ⟨by rfl, ?_⟩) (by assumption) ?_; rotate_left; (intro w hSw; (try dsimp only at hSw); go_split_ands; go_simp; (try with_reducible rfl)); (try simp only [Act.put, List.setIfInBounds_toArray, List.set_cons_zero, List.set_cons_succ]))
                (refine WG.take (i := 5) (v := ?_) rfl (by kernel_rfl) (by kernel_rfl) (by kernel_rfl) (by kernel_rfl) (fun _ _ _ h => h) (Or.inl ⟨by rfl, ?_⟩) (by assumption) ?_; rotate_left; (intro w hSw; (try dsimp only at hSw); go_split_ands; go_simp; (try with_reducible rfl)); (try simp only [Act.put, List.setIfInBounds_toArray, List.set_cons_zero, List.set_cons_succ]))
                (refine WG.take (i := 6) (v := ?_) rfl (by kernel_rfl) (by kernel_rfl) (by kernel_rfl) (by kernel_rfl) (fun _ _ _ h => h) (Or.inl ⟨by rfl, ?_⟩) (by assumption) ?_; rotate_left; (intro w hSw; (try dsimp only at hSw); go_split_ands; go_simp; (try with_reducible rfl)); (try simp only [Act.put, List.setIfInBounds_toArray, List.set_cons_zero, List.set_cons_succ]))
                (refine WG.take (i := 8) (v := ?_) rfl (by kernel_rfl) (by kernel_rfl) (by kernel_rfl) (by kernel_rfl) (fun _ _ _ h => h) (Or.inl ⟨by rfl, ?_⟩) (by assumption) ?_; rotate_left; (intro w hSw; (try dsimp only at hSw); go_split_ands; go_simp; (try with_reducible rfl)); (try simp only [Act.put, List.setIfInBounds_toArray, List.set_cons_zero, List.set_cons_succ]))
                refine WG.two (i := 0) (j := 9) rfl rfl (by kernel_rfl) (fun K hK => ?_) (fun K hK => ?_)
                · go_simp
                  have hea1 : Ext wr (wr.drew.alloc (.cells #[] 64)) := Ext.trans (show Ext wr wr.drew from Below.drew (Below.refl _ _)) (Ext.alloc _ _)
                  refine hK.out _ _ (by exact KS.out _ hea1) (fun hHeld => ?_)
                  clear hK K
                  (try simp only [Act.put, List.setIfInBounds_toArray, List.set_cons_zero, List.set_cons_succ])
                  have HA := hid (show OT (wr.drew.alloc (.cells #[] 64)) wr.heap.size (.slice (some ⟨wr.heap.size, 0, none⟩) 0 0) [] from Own.madeAt #[] 0 _ (by simp) (by have := (show Ext wr wr.drew from Below.drew (Below.refl _ _)).size; simp at this ⊢; try omega) (by omega) rfl)
                  have HEA := hid hea1
                  clear hea1
                  refine WG.two (i := 7) (j := 9) rfl rfl (by kernel_rfl) (fun K hK => ?_) (fun K hK => ?_)
                  · refine step_append_sl _ (by rfl) _ _ 54 (by rfl) ET.ok ET.flat (wr.heap.size) 64 ET.ne i0_task _ 2 32 Try.underlying54 hi0_task hz0_task hz1_task hz2_task rfl (by omega) _ (by rfl) _ (HA.out) _ (by rfl) _ (RT.ext HT.out HEA.out) (by have := HTL.out; simp; omega) (by have := HTL.out; simp; omega) ?_ ?_; (focus (first | exact Nat.le_refl _ | (simp; done) | (simp; omega) | omega)); intro v7 w7 hO7 hg7 hat7 hs7
                    rw [List.nil_append] at hO7
                    have hE7 : Ext wr w7 := Ext.grown HEA.out hg7 (fun k hk => (HA.out).lt k hk)
                    obtain ⟨A7, c7, rfl, _, _⟩ := hO7.form
                    refine hK.out _ _ (by exact KS.out _ hE7) (fun hHeld => ?_)
                    clear hK K
                    (try simp only [Act.put, List.setIfInBounds_toArray, List.set_cons_zero, List.set_cons_succ])
                    have HO7 := hid hO7
                    have HE7 := hid hE7
                    have hz7 := hE7.size
                    clear hO7 hg7 hat7 hs7 hE7
                    refine WG.one (i := 9) rfl (by kernel_rfl) (fun K hK => ?_)
                    go_simp
                    have hea2 : Ext wr (w7.alloc (.cells #[.int .i64 xid, .slice An need.length cn] 64)) := Ext.trans HE7.out (Ext.alloc _ _)
                    refine hK.out _ _ (by exact KS.out _ hea2) (fun hHeld => ?_)
                    clear hK K
                    (try simp only [Act.put, List.setIfInBounds_toArray, List.set_cons_zero, List.set_cons_succ])
                    have HL := hid (show RT (w7.alloc (.cells #[.int .i64 xid, .slice An need.length cn] 64)) (.slice (some ⟨w7.heap.size, 0, none⟩) 1 1) [x] from RSl.laid (cs := [.int .i64 xid, .slice An need.length cn]) (heap_new (by simp)) rfl (by rw [HX.out]; exact ⟨_, rfl, RI.ext HNW.out ((Ext.trans EW HE7.out).trans (Ext.alloc _ _))⟩))
                    have HEL := hid hea2
                    clear hea2
                    have HO72 := hid (Own.ext ET.ok HO7.out (Ext.alloc _ (.cells #[.int .i64 xid, .slice An need.length cn] 64)))
                    refine WG.last (i := 10) rfl (by kernel_rfl) (by kernel_rfl) (fun K hK => ?_)
                    refine step_append_sl _ (by rfl) _ _ 54 (by rfl) ET.ok ET.flat (wr.heap.size) 64 ET.ne i0_task _ 2 32 Try.underlying54 hi0_task hz0_task hz1_task hz2_task rfl (by omega) _ (by rfl) _ (HO72.out) _ (by rfl) _ (HL.out) (by have := HTL.out; simp; omega) (by have := HTL.out; simp; omega) ?_ ?_; (focus (first | exact Nat.le_refl _ | (simp; done) | (simp; omega) | omega)); intro v10 w10 hO10 hg10 hat10 hs10
                    have hE10 : Ext wr w10 := Ext.grown HEL.out hg10 (fun k hk => (HO72.out).lt k hk)
                    obtain ⟨A10, c10, rfl, _, _⟩ := hO10.form_app
                    have HB10 := hid hO10.read
                    have HE10 := hid hE10
                    clear hO10 hg10 hat10 hs10 hE10
                    refine hK.out _ _ ?_
                    clear hK K
                    (try simp only [Act.put, List.setIfInBounds_toArray, List.set_cons_zero, List.set_cons_succ])
                    refine WG.last (i := 11) rfl (by kernel_rfl) (by kernel_rfl) (fun K hK => ?_)
                    go_simp
                    refine hK.out _ _ ?_
                    clear hK K
                    (try simp only [Act.put, List.setIfInBounds_toArray, List.set_cons_zero, List.set_cons_succ])
                    refine WG.done (by kernel_rfl) ?_
                    obtain ⟨qb0, qb1, qb2, qb3, u1w, u2w, _⟩ := KS.out _ HE10.out
                    go_wp2_with (go_at_call 51; have hx11 := Ext.alloc w10 (.cells #[.slice A10 (u.tasks.length + 1) c10] 54); refine (iBinsValid _ _ C.room [u.tasks ++ [x]] _ (RI.ext HRm.out (HE10.out.trans hx11)) (RSl.laid (cs := [.slice A10 (u.tasks.length + 1) c10]) (heap_alloc_new _ _) rfl ⟨_, rfl, RT.ext HB10.out hx11⟩) (by have := HTL.out; simp; omega) HTI.out).mono ?_; rintro e w11 ⟨rfl, hE11⟩; rw [HNR.out]; have HE11 := hid (HE10.out.trans (hx11.trans hE11)); obtain ⟨qb0, qb1, qb2, qb3, u1w, u2w, _⟩ := KS.out _ HE11.out; clear hx11 hE11)
                    go_roundw
                    case rel => exact ⟨j + 1, by omega, by go_num, hid (hE.out.trans HE11.out)⟩
                    case measure => simp [intOf]; omega
                  · go_simp
                    have hea2 : Ext wr ((wr.drew.alloc (.cells #[] 64)).alloc (.cells #[.int .i64 xid, .slice An need.length cn] 64)) := Ext.trans HEA.out (Ext.alloc _ _)
                    refine hK.out _ _ (by exact KS.out _ hea2) (fun hHeld => ?_)
                    clear hK K
                    (try simp only [Act.put, List.setIfInBounds_toArray, List.set_cons_zero, List.set_cons_succ])
                    have HL := hid (show RT ((wr.drew.alloc (.cells #[] 64)).alloc (.cells #[.int .i64 xid, .slice An need.length cn] 64)) (.slice (some ⟨(wr.heap.size + 1), 0, none⟩) 1 1) [x] from RSl.laid (cs := [.int .i64 xid, .slice An need.length cn]) (heap_new (by simp)) rfl (by rw [HX.out]; exact ⟨_, rfl, RI.ext HNW.out ((Ext.trans EW HEA.out).trans (Ext.alloc _ _))⟩))
                    have HEL := hid hea2
                    clear hea2
                    have HA2 := hid (Own.ext ET.ok HA.out (Ext.alloc _ (.cells #[.int .i64 xid, .slice An need.length cn] 64)))
                    refine WG.one (i := 7) rfl (by kernel_rfl) (fun K hK => ?_)
                    refine step_append_sl _ (by rfl) _ _ 54 (by rfl) ET.ok ET.flat (wr.heap.size) 64 ET.ne i0_task _ 2 32 Try.underlying54 hi0_task hz0_task hz1_task hz2_task rfl (by omega) _ (by rfl) _ (HA2.out) _ (by rfl) _ (RT.ext HT.out HEL.out) (by have := HTL.out; simp; omega) (by have := HTL.out; simp; omega) ?_ ?_; (focus (first | exact Nat.le_refl _ | (simp; done) | (simp; omega) | omega)); intro v7 w7 hO7 hg7 hat7 hs7
                    rw [List.nil_append] at hO7
                    have hE7 : Ext wr w7 := Ext.grown HEL.out hg7 (fun k hk => (HA2.out).lt k hk)
                    obtain ⟨A7, c7, rfl, _, _⟩ := hO7.form
                    refine hK.out _ _ (by exact KS.out _ hE7) (fun hHeld => ?_)
                    clear hK K
                    (try simp only [Act.put, List.setIfInBounds_toArray, List.set_cons_zero, List.set_cons_succ])
                    have HO7 := hid hO7
                    have HE7 := hid hE7
                    have hz7 := hE7.size
                    have HL7 := hid (RT.far_app HL.out hg7 (by simp [Value.ownBlock]) hs7)
                    clear hO7 hg7 hat7 hs7 hE7
                    refine WG.last (i := 10) rfl (by kernel_rfl) (by kernel_rfl) (fun K hK => ?_)
                    refine step_append_sl _ (by rfl) _ _ 54 (by rfl) ET.ok ET.flat (wr.heap.size) 64 ET.ne i0_task _ 2 32 Try.underlying54 hi0_task hz0_task hz1_task hz2_task rfl (by omega) _ (by rfl) _ (HO7.out) _ (by rfl) _ (HL7.out) (by have := HTL.out; simp; omega) (by have := HTL.out; simp; omega) ?_ ?_; (focus (first | exact Nat.le_refl _ | (simp; done) | (simp; omega) | omega)); intro v10 w10 hO10 hg10 hat10 hs10
                    have hE10 : Ext wr w10 := Ext.grown HE7.out hg10 (fun k hk => (HO7.out).lt k hk)
                    obtain ⟨A10, c10, rfl, _, _⟩ := hO10.form_app
                    have HB10 := hid hO10.read
                    have HE10 := hid hE10
                    clear hO10 hg10 hat10 hs10 hE10
                    refine hK.out _ _ ?_
                    clear hK K
                    (try simp only [Act.put, List.setIfInBounds_toArray, List.set_cons_zero, List.set_cons_succ])
                    refine WG.last (i := 11) rfl (by kernel_rfl) (by kernel_rfl) (fun K hK => ?_)
                    go_simp
                    refine hK.out _ _ ?_
                    clear hK K
                    (try simp only [Act.put, List.setIfInBounds_toArray, List.set_cons_zero, List.set_cons_succ])
                    refine WG.done (by kernel_rfl) ?_
                    obtain ⟨qb0, qb1, qb2, qb3, u1w, u2w, _⟩ := KS.out _ HE10.out
                    go_wp2_with (go_at_call 51; have hx11 := Ext.alloc w10 (.cells #[.slice A10 (u.tasks.length + 1) c10] 54); refine (iBinsValid _ _ C.room [u.tasks ++ [x]] _ (RI.ext HRm.out (HE10.out.trans hx11)) (RSl.laid (cs := [.slice A10 (u.tasks.length + 1) c10]) (heap_alloc_new _ _) rfl ⟨_, rfl, RT.ext HB10.out hx11⟩) (by have := HTL.out; simp; omega) HTI.out).mono ?_; rintro e w11 ⟨rfl, hE11⟩; rw [HNR.out]; have HE11 := hid (HE10.out.trans (hx11.trans hE11)); obtain ⟨qb0, qb1, qb2, qb3, u1w, u2w, _⟩ := KS.out _ HE11.out; clear hx11 hE11)
                    go_roundw
                    case rel => exact ⟨j + 1, by omega, by go_num, hid (hE.out.trans HE11.out)⟩
                    case measure => simp [intOf]; omega

                · go_simp
                  have hea1 : Ext wr (wr.drew.alloc (.cells #[.int .i64 xid, .slice An need.length cn] 64)) := Ext.trans (show Ext wr wr.drew from Below.drew (Below.refl _ _)) (Ext.alloc _ _)
                  refine hK.out _ _ (by exact KS.out _ hea1) (fun hHeld => ?_)
                  clear hK K
                  (try simp only [Act.put, List.setIfInBounds_toArray, List.set_cons_zero, List.set_cons_succ])
                  have HL := hid (show RT (wr.drew.alloc (.cells #[.int .i64 xid, .slice An need.length cn] 64)) (.slice (some ⟨wr.heap.size, 0, none⟩) 1 1) [x] from RSl.laid (cs := [.int .i64 xid, .slice An need.length cn]) (heap_new (by simp)) rfl (by rw [HX.out]; exact ⟨_, rfl, RI.ext HNW.out ((Ext.trans EW (show Ext wr wr.drew from Below.drew (Below.refl _ _))).trans (Ext.alloc _ _))⟩))
                  have HEL := hid hea1
                  clear hea1
                  refine WG.one (i := 0) rfl (by kernel_rfl) (fun K hK => ?_)
                  go_simp
                  have hea2 : Ext wr ((wr.drew.alloc (.cells #[.int .i64 xid, .slice An need.length cn] 64)).alloc (.cells #[] 64)) := Ext.trans HEL.out (Ext.alloc _ _)
                  refine hK.out _ _ (by exact KS.out _ hea2) (fun hHeld => ?_)
                  clear hK K
                  (try simp only [Act.put, List.setIfInBounds_toArray, List.set_cons_zero, List.set_cons_succ])
                  have HA := hid (show OT ((wr.drew.alloc (.cells #[.int .i64 xid, .slice An need.length cn] 64)).alloc (.cells #[] 64)) wr.heap.size (.slice (some ⟨(wr.heap.size + 1), 0, none⟩) 0 0) [] from Own.madeAt #[] 0 _ (by simp) (by have := HEL.out.size; simp at this ⊢; try omega) (by omega) rfl)
                  have HEA := hid hea2
                  clear hea2
                  have HL0 := hid (RT.ext HL.out (Ext.alloc _ (.cells #[] 64)))
                  refine WG.one (i := 7) rfl (by kernel_rfl) (fun K hK => ?_)
                  refine step_append_sl _ (by rfl) _ _ 54 (by rfl) ET.ok ET.flat (wr.heap.size) 64 ET.ne i0_task _ 2 32 Try.underlying54 hi0_task hz0_task hz1_task hz2_task rfl (by omega) _ (by rfl) _ (HA.out) _ (by rfl) _ (RT.ext HT.out HEA.out) (by have := HTL.out; simp; omega) (by have := HTL.out; simp; omega) ?_ ?_; (focus (first | exact Nat.le_refl _ | (simp; done) | (simp; omega) | omega)); intro v7 w7 hO7 hg7 hat7 hs7
                  rw [List.nil_append] at hO7
                  have hE7 : Ext wr w7 := Ext.grown HEA.out hg7 (fun k hk => (HA.out).lt k hk)
                  obtain ⟨A7, c7, rfl, _, _⟩ := hO7.form
                  refine hK.out _ _ (by exact KS.out _ hE7) (fun hHeld => ?_)
                  clear hK K
                  (try simp only [Act.put, List.setIfInBounds_toArray, List.set_cons_zero, List.set_cons_succ])
                  have HO7 := hid hO7
                  have HE7 := hid hE7
                  have hz7 := hE7.size
                  have HL7 := hid (RT.far_app HL0.out hg7 (by simp [Value.ownBlock]) hs7)
                  clear hO7 hg7 hat7 hs7 hE7
                  refine WG.last (i := 10) rfl (by kernel_rfl) (by kernel_rfl) (fun K hK => ?_)
                  refine step_append_sl _ (by rfl) _ _ 54 (by rfl) ET.ok ET.flat (wr.heap.size) 64 ET.ne i0_task _ 2 32 Try.underlying54 hi0_task hz0_task hz1_task hz2_task rfl (by omega) _ (by rfl) _ (HO7.out) _ (by rfl) _ (HL7.out) (by have := HTL.out; simp; omega) (by have := HTL.out; simp; omega) ?_ ?_; (focus (first | exact Nat.le_refl _ | (simp; done) | (simp; omega) | omega)); intro v10 w10 hO10 hg10 hat10 hs10
                  have hE10 : Ext wr w10 := Ext.grown HE7.out hg10 (fun k hk => (HO7.out).lt k hk)
                  obtain ⟨A10, c10, rfl, _, _⟩ := hO10.form_app
                  have HB10 := hid hO10.read
                  have HE10 := hid hE10
                  clear hO10 hg10 hat10 hs10 hE10
                  refine hK.out _ _ ?_
                  clear hK K
                  (try simp only [Act.put, List.setIfInBounds_toArray, List.set_cons_zero, List.set_cons_succ])
                  refine WG.last (i := 11) rfl (by kernel_rfl) (by kernel_rfl) (fun K hK => ?_)
                  go_simp
                  refine hK.out _ _ ?_
                  clear hK K
                  (try simp only [Act.put, List.setIfInBounds_toArray, List.set_cons_zero, List.set_cons_succ])
                  refine WG.done (by kernel_rfl) ?_
                  obtain ⟨qb0, qb1, qb2, qb3, u1w, u2w, _⟩ := KS.out _ HE10.out
                  go_wp2_with (go_at_call 51; have hx11 := Ext.alloc w10 (.cells #[.slice A10 (u.tasks.length + 1) c10] 54); refine (iBinsValid _ _ C.room [u.tasks ++ [x]] _ (RI.ext HRm.out (HE10.out.trans hx11)) (RSl.laid (cs := [.slice A10 (u.tasks.length + 1) c10]) (heap_alloc_new _ _) rfl ⟨_, rfl, RT.ext HB10.out hx11⟩) (by have := HTL.out; simp; omega) HTI.out).mono ?_; rintro e w11 ⟨rfl, hE11⟩; rw [HNR.out]; have HE11 := hid (HE10.out.trans (hx11.trans hE11)); obtain ⟨qb0, qb1, qb2, qb3, u1w, u2w, _⟩ := KS.out _ HE11.out; clear hx11 hE11)
                  go_roundw
                  case rel => exact ⟨j + 1, by omega, by go_num, hid (hE.out.trans HE11.out)⟩
                  case measure => simp [intOf]; omega
              · have ho : u.opened = false := by simpa using ho
                go_wp2
                refine WG.start (fun w' => w'.cell? ⟨w1.heap.size, 0, none⟩ = some (.slice Ar C.room.length cr) ∧ w'.cell? ⟨w1.heap.size, 1, none⟩ = some (.slice (some ⟨ub, uo, none⟩) C.units.length cu) ∧ w'.cell? ⟨w1.heap.size + 1, 0, none⟩ = some (.int .i64 xid) ∧ w'.cell? ⟨w1.heap.size + 1, 1, none⟩ = some (.slice An need.length cn) ∧ w'.cell? ⟨ub, uo + j * 2, none⟩ = some (.bool u.opened) ∧ w'.cell? ⟨ub, uo + j * 2 + 1, none⟩ = some (.slice At u.tasks.length ct) ∧ Ext wr w') [10,11] (by kernel_rfl) (by exact KS.out _ (Below.drew (Below.refl _ _))) (fun hHeld => ?_)
                (refine WG.take (i := 1) (v := ?_) rfl (by kernel_rfl) (by kernel_rfl) (by kernel_rfl) (by kernel_rfl) (fun _ _ _ h => h) (Or.inl ⟨by rfl, ?_⟩) (by assumption) ?_; rotate_left; (intro w hSw; (try dsimp only at hSw); go_split_ands; go_simp; (try with_reducible rfl)); (try simp only [Act.put, List.setIfInBounds_toArray, List.set_cons_zero, List.set_cons_succ]))
                (refine WG.take (i := 2) (v := ?_) rfl (by kernel_rfl) (by kernel_rfl) (by kernel_rfl) (by kernel_rfl) (fun _ _ _ h => h) (Or.inl ⟨by rfl, ?_⟩) (by assumption) ?_; rotate_left; (intro w hSw; (try dsimp only at hSw); go_split_ands; go_simp; (try with_reducible rfl)); (try simp only [Act.put, List.setIfInBounds_toArray, List.set_cons_zero, List.set_cons_succ]))
                (refine WG.take (i := 3) (v := ?_) rfl (by kernel_rfl) (by kernel_rfl) (by kernel_rfl) (by kernel_rfl) (fun _ _ _ h => h) (Or.inl ⟨by rfl, ?_⟩) (by assumption) ?_; rotate_left; (intro w hSw; (try dsimp only at hSw); go_split_ands; go_simp; (try with_reducible rfl)); (try simp only [Act.put, List.setIfInBounds_toArray, List.set_cons_zero, List.set_cons_succ]))
                (refine WG.take (i := 4) (v := ?_) rfl (by kernel_rfl) (by kernel_rfl) (by kernel_rfl) (by kernel_rfl) (fun _ _ _ h => h) (Or.inl ⟨by rfl, ?_⟩) (by assumption) ?_; rotate_left; (intro w hSw; (try dsimp only at hSw); go_split_ands; go_simp; (try with_reducible rfl)); (try simp only [Act.put, List.setIfInBounds_toArray, List.set_cons_zero, List.set_cons_succ]))
                (refine WG.take (i := 5) (v := ?_) rfl (by kernel_rfl) (by kernel_rfl) (by kernel_rfl) (by kernel_rfl) (fun _ _ _ h => h) (Or.inl ⟨by rfl, ?_⟩) (by assumption) ?_; rotate_left; (intro w hSw; (try dsimp only at hSw); go_split_ands; go_simp; (try with_reducible rfl)); (try simp only [Act.put, List.setIfInBounds_toArray, List.set_cons_zero, List.set_cons_succ]))
                (refine WG.take (i := 6) (v := ?_) rfl (by kernel_rfl) (by kernel_rfl) (by kernel_rfl) (by kernel_rfl) (fun _ _ _ h => h) (Or.inl ⟨by rfl, ?_⟩) (by assumption) ?_; rotate_left; (intro w hSw; (try dsimp only at hSw); go_split_ands; go_simp; (try with_reducible rfl)); (try simp only [Act.put, List.setIfInBounds_toArray, List.set_cons_zero, List.set_cons_succ]))
                (refine WG.take (i := 8) (v := ?_) rfl (by kernel_rfl) (by kernel_rfl) (by kernel_rfl) (by kernel_rfl) (fun _ _ _ h => h) (Or.inl ⟨by rfl, ?_⟩) (by assumption) ?_; rotate_left; (intro w hSw; (try dsimp only at hSw); go_split_ands; go_simp; (try with_reducible rfl)); (try simp only [Act.put, List.setIfInBounds_toArray, List.set_cons_zero, List.set_cons_succ]))
                refine WG.two (i := 0) (j := 9) rfl rfl (by kernel_rfl) (fun K hK => ?_) (fun K hK => ?_)
                · go_simp
                  have hea1 : Ext wr (wr.drew.alloc (.cells #[] 64)) := Ext.trans (show Ext wr wr.drew from Below.drew (Below.refl _ _)) (Ext.alloc _ _)
                  refine hK.out _ _ (by exact KS.out _ hea1) (fun hHeld => ?_)
                  clear hK K
                  (try simp only [Act.put, List.setIfInBounds_toArray, List.set_cons_zero, List.set_cons_succ])
                  have HA := hid (show OT (wr.drew.alloc (.cells #[] 64)) wr.heap.size (.slice (some ⟨wr.heap.size, 0, none⟩) 0 0) [] from Own.madeAt #[] 0 _ (by simp) (by have := (show Ext wr wr.drew from Below.drew (Below.refl _ _)).size; simp at this ⊢; try omega) (by omega) rfl)
                  have HEA := hid hea1
                  clear hea1
                  refine WG.two (i := 7) (j := 9) rfl rfl (by kernel_rfl) (fun K hK => ?_) (fun K hK => ?_)
                  · refine step_append_sl _ (by rfl) _ _ 54 (by rfl) ET.ok ET.flat (wr.heap.size) 64 ET.ne i0_task _ 2 32 Try.underlying54 hi0_task hz0_task hz1_task hz2_task rfl (by omega) _ (by rfl) _ (HA.out) _ (by rfl) _ (RT.ext HT.out HEA.out) (by have := HTL.out; simp; omega) (by have := HTL.out; simp; omega) ?_ ?_; (focus (first | exact Nat.le_refl _ | (simp; done) | (simp; omega) | omega)); intro v7 w7 hO7 hg7 hat7 hs7
                    rw [List.nil_append] at hO7
                    have hE7 : Ext wr w7 := Ext.grown HEA.out hg7 (fun k hk => (HA.out).lt k hk)
                    obtain ⟨A7, c7, rfl, _, _⟩ := hO7.form
                    refine hK.out _ _ (by exact KS.out _ hE7) (fun hHeld => ?_)
                    clear hK K
                    (try simp only [Act.put, List.setIfInBounds_toArray, List.set_cons_zero, List.set_cons_succ])
                    have HO7 := hid hO7
                    have HE7 := hid hE7
                    have hz7 := hE7.size
                    clear hO7 hg7 hat7 hs7 hE7
                    refine WG.one (i := 9) rfl (by kernel_rfl) (fun K hK => ?_)
                    go_simp
                    have hea2 : Ext wr (w7.alloc (.cells #[.int .i64 xid, .slice An need.length cn] 64)) := Ext.trans HE7.out (Ext.alloc _ _)
                    refine hK.out _ _ (by exact KS.out _ hea2) (fun hHeld => ?_)
                    clear hK K
                    (try simp only [Act.put, List.setIfInBounds_toArray, List.set_cons_zero, List.set_cons_succ])
                    have HL := hid (show RT (w7.alloc (.cells #[.int .i64 xid, .slice An need.length cn] 64)) (.slice (some ⟨w7.heap.size, 0, none⟩) 1 1) [x] from RSl.laid (cs := [.int .i64 xid, .slice An need.length cn]) (heap_new (by simp)) rfl (by rw [HX.out]; exact ⟨_, rfl, RI.ext HNW.out ((Ext.trans EW HE7.out).trans (Ext.alloc _ _))⟩))
                    have HEL := hid hea2
                    clear hea2
                    have HO72 := hid (Own.ext ET.ok HO7.out (Ext.alloc _ (.cells #[.int .i64 xid, .slice An need.length cn] 64)))
                    refine WG.last (i := 10) rfl (by kernel_rfl) (by kernel_rfl) (fun K hK => ?_)
                    refine step_append_sl _ (by rfl) _ _ 54 (by rfl) ET.ok ET.flat (wr.heap.size) 64 ET.ne i0_task _ 2 32 Try.underlying54 hi0_task hz0_task hz1_task hz2_task rfl (by omega) _ (by rfl) _ (HO72.out) _ (by rfl) _ (HL.out) (by have := HTL.out; simp; omega) (by have := HTL.out; simp; omega) ?_ ?_; (focus (first | exact Nat.le_refl _ | (simp; done) | (simp; omega) | omega)); intro v10 w10 hO10 hg10 hat10 hs10
                    have hE10 : Ext wr w10 := Ext.grown HEL.out hg10 (fun k hk => (HO72.out).lt k hk)
                    obtain ⟨A10, c10, rfl, _, _⟩ := hO10.form_app
                    have HB10 := hid hO10.read
                    have HE10 := hid hE10
                    clear hO10 hg10 hat10 hs10 hE10
                    refine hK.out _ _ ?_
                    clear hK K
                    (try simp only [Act.put, List.setIfInBounds_toArray, List.set_cons_zero, List.set_cons_succ])
                    refine WG.last (i := 11) rfl (by kernel_rfl) (by kernel_rfl) (fun K hK => ?_)
                    go_simp
                    refine hK.out _ _ ?_
                    clear hK K
                    (try simp only [Act.put, List.setIfInBounds_toArray, List.set_cons_zero, List.set_cons_succ])
                    refine WG.done (by kernel_rfl) ?_
                    obtain ⟨qb0, qb1, qb2, qb3, u1w, u2w, _⟩ := KS.out _ HE10.out
                    go_wp2_with fail
                    go_roundw
                    case rel => exact ⟨j + 1, by omega, by go_num, hid (hE.out.trans HE10.out)⟩
                    case measure => simp [intOf]; omega
                  · go_simp
                    have hea2 : Ext wr ((wr.drew.alloc (.cells #[] 64)).alloc (.cells #[.int .i64 xid, .slice An need.length cn] 64)) := Ext.trans HEA.out (Ext.alloc _ _)
                    refine hK.out _ _ (by exact KS.out _ hea2) (fun hHeld => ?_)
                    clear hK K
                    (try simp only [Act.put, List.setIfInBounds_toArray, List.set_cons_zero, List.set_cons_succ])
                    have HL := hid (show RT ((wr.drew.alloc (.cells #[] 64)).alloc (.cells #[.int .i64 xid, .slice An need.length cn] 64)) (.slice (some ⟨(wr.heap.size + 1), 0, none⟩) 1 1) [x] from RSl.laid (cs := [.int .i64 xid, .slice An need.length cn]) (heap_new (by simp)) rfl (by rw [HX.out]; exact ⟨_, rfl, RI.ext HNW.out ((Ext.trans EW HEA.out).trans (Ext.alloc _ _))⟩))
                    have HEL := hid hea2
                    clear hea2
                    have HA2 := hid (Own.ext ET.ok HA.out (Ext.alloc _ (.cells #[.int .i64 xid, .slice An need.length cn] 64)))
                    refine WG.one (i := 7) rfl (by kernel_rfl) (fun K hK => ?_)
                    refine step_append_sl _ (by rfl) _ _ 54 (by rfl) ET.ok ET.flat (wr.heap.size) 64 ET.ne i0_task _ 2 32 Try.underlying54 hi0_task hz0_task hz1_task hz2_task rfl (by omega) _ (by rfl) _ (HA2.out) _ (by rfl) _ (RT.ext HT.out HEL.out) (by have := HTL.out; simp; omega) (by have := HTL.out; simp; omega) ?_ ?_; (focus (first | exact Nat.le_refl _ | (simp; done) | (simp; omega) | omega)); intro v7 w7 hO7 hg7 hat7 hs7
                    rw [List.nil_append] at hO7
                    have hE7 : Ext wr w7 := Ext.grown HEL.out hg7 (fun k hk => (HA2.out).lt k hk)
                    obtain ⟨A7, c7, rfl, _, _⟩ := hO7.form
                    refine hK.out _ _ (by exact KS.out _ hE7) (fun hHeld => ?_)
                    clear hK K
                    (try simp only [Act.put, List.setIfInBounds_toArray, List.set_cons_zero, List.set_cons_succ])
                    have HO7 := hid hO7
                    have HE7 := hid hE7
                    have hz7 := hE7.size
                    have HL7 := hid (RT.far_app HL.out hg7 (by simp [Value.ownBlock]) hs7)
                    clear hO7 hg7 hat7 hs7 hE7
                    refine WG.last (i := 10) rfl (by kernel_rfl) (by kernel_rfl) (fun K hK => ?_)
                    refine step_append_sl _ (by rfl) _ _ 54 (by rfl) ET.ok ET.flat (wr.heap.size) 64 ET.ne i0_task _ 2 32 Try.underlying54 hi0_task hz0_task hz1_task hz2_task rfl (by omega) _ (by rfl) _ (HO7.out) _ (by rfl) _ (HL7.out) (by have := HTL.out; simp; omega) (by have := HTL.out; simp; omega) ?_ ?_; (focus (first | exact Nat.le_refl _ | (simp; done) | (simp; omega) | omega)); intro v10 w10 hO10 hg10 hat10 hs10
                    have hE10 : Ext wr w10 := Ext.grown HE7.out hg10 (fun k hk => (HO7.out).lt k hk)
                    obtain ⟨A10, c10, rfl, _, _⟩ := hO10.form_app
                    have HB10 := hid hO10.read
                    have HE10 := hid hE10
                    clear hO10 hg10 hat10 hs10 hE10
                    refine hK.out _ _ ?_
                    clear hK K
                    (try simp only [Act.put, List.setIfInBounds_toArray, List.set_cons_zero, List.set_cons_succ])
                    refine WG.last (i := 11) rfl (by kernel_rfl) (by kernel_rfl) (fun K hK => ?_)
                    go_simp
                    refine hK.out _ _ ?_
                    clear hK K
                    (try simp only [Act.put, List.setIfInBounds_toArray, List.set_cons_zero, List.set_cons_succ])
                    refine WG.done (by kernel_rfl) ?_
                    obtain ⟨qb0, qb1, qb2, qb3, u1w, u2w, _⟩ := KS.out _ HE10.out
                    go_wp2_with fail
                    go_roundw
                    case rel => exact ⟨j + 1, by omega, by go_num, hid (hE.out.trans HE10.out)⟩
                    case measure => simp [intOf]; omega

                · go_simp
                  have hea1 : Ext wr (wr.drew.alloc (.cells #[.int .i64 xid, .slice An need.length cn] 64)) := Ext.trans (show Ext wr wr.drew from Below.drew (Below.refl _ _)) (Ext.alloc _ _)
                  refine hK.out _ _ (by exact KS.out _ hea1) (fun hHeld => ?_)
                  clear hK K
                  (try simp only [Act.put, List.setIfInBounds_toArray, List.set_cons_zero, List.set_cons_succ])
                  have HL := hid (show RT (wr.drew.alloc (.cells #[.int .i64 xid, .slice An need.length cn] 64)) (.slice (some ⟨wr.heap.size, 0, none⟩) 1 1) [x] from RSl.laid (cs := [.int .i64 xid, .slice An need.length cn]) (heap_new (by simp)) rfl (by rw [HX.out]; exact ⟨_, rfl, RI.ext HNW.out ((Ext.trans EW (show Ext wr wr.drew from Below.drew (Below.refl _ _))).trans (Ext.alloc _ _))⟩))
                  have HEL := hid hea1
                  clear hea1
                  refine WG.one (i := 0) rfl (by kernel_rfl) (fun K hK => ?_)
                  go_simp
                  have hea2 : Ext wr ((wr.drew.alloc (.cells #[.int .i64 xid, .slice An need.length cn] 64)).alloc (.cells #[] 64)) := Ext.trans HEL.out (Ext.alloc _ _)
                  refine hK.out _ _ (by exact KS.out _ hea2) (fun hHeld => ?_)
                  clear hK K
                  (try simp only [Act.put, List.setIfInBounds_toArray, List.set_cons_zero, List.set_cons_succ])
                  have HA := hid (show OT ((wr.drew.alloc (.cells #[.int .i64 xid, .slice An need.length cn] 64)).alloc (.cells #[] 64)) wr.heap.size (.slice (some ⟨(wr.heap.size + 1), 0, none⟩) 0 0) [] from Own.madeAt #[] 0 _ (by simp) (by have := HEL.out.size; simp at this ⊢; try omega) (by omega) rfl)
                  have HEA := hid hea2
                  clear hea2
                  have HL0 := hid (RT.ext HL.out (Ext.alloc _ (.cells #[] 64)))
                  refine WG.one (i := 7) rfl (by kernel_rfl) (fun K hK => ?_)
                  refine step_append_sl _ (by rfl) _ _ 54 (by rfl) ET.ok ET.flat (wr.heap.size) 64 ET.ne i0_task _ 2 32 Try.underlying54 hi0_task hz0_task hz1_task hz2_task rfl (by omega) _ (by rfl) _ (HA.out) _ (by rfl) _ (RT.ext HT.out HEA.out) (by have := HTL.out; simp; omega) (by have := HTL.out; simp; omega) ?_ ?_; (focus (first | exact Nat.le_refl _ | (simp; done) | (simp; omega) | omega)); intro v7 w7 hO7 hg7 hat7 hs7
                  rw [List.nil_append] at hO7
                  have hE7 : Ext wr w7 := Ext.grown HEA.out hg7 (fun k hk => (HA.out).lt k hk)
                  obtain ⟨A7, c7, rfl, _, _⟩ := hO7.form
                  refine hK.out _ _ (by exact KS.out _ hE7) (fun hHeld => ?_)
                  clear hK K
                  (try simp only [Act.put, List.setIfInBounds_toArray, List.set_cons_zero, List.set_cons_succ])
                  have HO7 := hid hO7
                  have HE7 := hid hE7
                  have hz7 := hE7.size
                  have HL7 := hid (RT.far_app HL0.out hg7 (by simp [Value.ownBlock]) hs7)
                  clear hO7 hg7 hat7 hs7 hE7
                  refine WG.last (i := 10) rfl (by kernel_rfl) (by kernel_rfl) (fun K hK => ?_)
                  refine step_append_sl _ (by rfl) _ _ 54 (by rfl) ET.ok ET.flat (wr.heap.size) 64 ET.ne i0_task _ 2 32 Try.underlying54 hi0_task hz0_task hz1_task hz2_task rfl (by omega) _ (by rfl) _ (HO7.out) _ (by rfl) _ (HL7.out) (by have := HTL.out; simp; omega) (by have := HTL.out; simp; omega) ?_ ?_; (focus (first | exact Nat.le_refl _ | (simp; done) | (simp; omega) | omega)); intro v10 w10 hO10 hg10 hat10 hs10
                  have hE10 : Ext wr w10 := Ext.grown HE7.out hg10 (fun k hk => (HO7.out).lt k hk)
                  obtain ⟨A10, c10, rfl, _, _⟩ := hO10.form_app
                  have HB10 := hid hO10.read
                  have HE10 := hid hE10
                  clear hO10 hg10 hat10 hs10 hE10
                  refine hK.out _ _ ?_
                  clear hK K
                  (try simp only [Act.put, List.setIfInBounds_toArray, List.set_cons_zero, List.set_cons_succ])
                  refine WG.last (i := 11) rfl (by kernel_rfl) (by kernel_rfl) (fun K hK => ?_)
                  go_simp
                  refine hK.out _ _ ?_
                  clear hK K
                  (try simp only [Act.put, List.setIfInBounds_toArray, List.set_cons_zero, List.set_cons_succ])
                  refine WG.done (by kernel_rfl) ?_
                  obtain ⟨qb0, qb1, qb2, qb3, u1w, u2w, _⟩ := KS.out _ HE10.out
                  go_wp2_with fail
                  go_roundw
                  case rel => exact ⟨j + 1, by omega, by go_num, hid (hE.out.trans HE10.out)⟩
                  case measure => simp [intOf]; omega
            · go_wp2
              go_ret
              exact ⟨rfl, HEW.out.trans hE.out⟩
      · have h3 : (arriveC C x true).2 = 3 := by rw [← HRR.out]; exact h0
        have hv1 := arrive3_ok h3
        have h0' : (R.2 != 3) = false := by simp [h0]
        by_cases hm : manyN C = 14
        · have em : ((manyN C : Int) == 14) = true := by rw [hm]; rfl
          go_wp2_with (first
            | (go_at_call 36; refine (iClusterCounts _ C _ (HO1.out.ext (HE2.out.trans (HE3.out.trans HE4.out))) HS.out.len HS.out.flat HS.out.ids).mono ?_; rintro e w5 ⟨v5, rfl, hO5, hE5⟩; obtain ⟨g5, c5, rfl, hK5⟩ := counts_row hv1 hO5; have K5 := hid hK5; have HE5 := hid hE5; obtain ⟨hb0, hb1, hb2, hb3⟩ := KB.out _ (HE2.out.trans (HE3.out.trans (HE4.out.trans HE5.out))); obtain ⟨p20, p21⟩ := K2.out _ (HE3.out.trans (HE4.out.trans HE5.out)); obtain ⟨p30, p31⟩ := K3.out _ (HE4.out.trans HE5.out); obtain ⟨q50, q51, q52⟩ := K5.out _ (Ext.refl _); clear hO5 hE5 hK5)
            | (go_at_call 40; refine (lSameCluster _ _ R.1 _ (HO2.out.ext HE3.out) (HO3.out.ext (Ext.refl _))).mono ?_; rintro e w4 ⟨rfl, hE4⟩; have HE4 := hid hE4; obtain ⟨hb0, hb1, hb2, hb3⟩ := KB.out _ (HE2.out.trans (HE3.out.trans HE4.out)); obtain ⟨p20, p21⟩ := K2.out _ (HE3.out.trans HE4.out); obtain ⟨p30, p31⟩ := K3.out _ HE4.out; clear hE4)
            | (go_at_call 49; refine (sClusterArrive _ _ C x true _ (HO1.out.ext HE2.out) (HXV.out.ext HE2.out) HS.out.len HS.out.flat).mono ?_; rw [← HRR.out]; rintro e w3 ⟨v3, rfl, hO3, hE3⟩; obtain ⟨A3, c3, B3, d3, rfl⟩ := hO3.form; obtain ⟨y0, y1, y0f, y1f, k1, k1f, hkk, _⟩ := box2 (heap_alloc_new w3 (.cells #[.slice none 0 0, .slice none 0 0] 26)) (.slice A3 R.1.room.length c3) (.slice B3 R.1.units.length d3); have hx3 := Ext.alloc w3 (.cells #[.slice A3 R.1.room.length c3, .slice B3 R.1.units.length d3] 26); have hbx3 := heap_alloc_new w3 (.cells #[.slice A3 R.1.room.length c3, .slice B3 R.1.units.length d3] 26); have HO3 := hid (hO3.read.ext hx3); have HE3 := hid (hE3.trans hx3); have K3 := hid (show ∀ w', Ext (w3.alloc (.cells #[.slice A3 R.1.room.length c3, .slice B3 R.1.units.length d3] 26)) w' → w'.cell? ⟨w3.heap.size, 0, none⟩ = some (.slice A3 R.1.room.length c3) ∧ w'.cell? ⟨w3.heap.size, 1, none⟩ = some (.slice B3 R.1.units.length d3) from fun w' hw => ⟨obj_cell (hw.obj hbx3) (i := 0) rfl, obj_cell (hw.obj hbx3) (i := 1) rfl⟩); obtain ⟨hb0, hb1, hb2, hb3⟩ := KB.out _ (HE2.out.trans HE3.out); obtain ⟨p20, p21⟩ := K2.out _ HE3.out; obtain ⟨p30, p31⟩ := K3.out _ (Ext.refl _); clear hO3 hE3 hkk hx3 hbx3)
            | (go_at_call 48; refine (iClusterArrive _ C _ x true _ HO1.out HS.out.len HS.out.flat HS.out.ids HXV.out HXI.out).mono ?_; rw [← HRR.out]; rintro e w2 ⟨v2, rfl, hO2, hE2⟩; obtain ⟨A2, c2, B2, d2, rfl⟩ := hO2.form; obtain ⟨y0, y1, y0f, y1f, k1, k1f, hkk, _⟩ := box2 (heap_alloc_new w2 (.cells #[.slice none 0 0, .slice none 0 0] 26)) (.slice A2 R.1.room.length c2) (.slice B2 R.1.units.length d2); have hx2 := Ext.alloc w2 (.cells #[.slice A2 R.1.room.length c2, .slice B2 R.1.units.length d2] 26); have hbx2 := heap_alloc_new w2 (.cells #[.slice A2 R.1.room.length c2, .slice B2 R.1.units.length d2] 26); have HO2 := hid (hO2.read.ext hx2); have HE2 := hid (hE2.trans hx2); have K2 := hid (show ∀ w', Ext (w2.alloc (.cells #[.slice A2 R.1.room.length c2, .slice B2 R.1.units.length d2] 26)) w' → w'.cell? ⟨w2.heap.size, 0, none⟩ = some (.slice A2 R.1.room.length c2) ∧ w'.cell? ⟨w2.heap.size, 1, none⟩ = some (.slice B2 R.1.units.length d2) from fun w' hw => ⟨obj_cell (hw.obj hbx2) (i := 0) rfl, obj_cell (hw.obj hbx2) (i := 1) rfl⟩); obtain ⟨hb0, hb1, hb2, hb3⟩ := KB.out _ HE2.out; obtain ⟨p20, p21⟩ := K2.out _ (Ext.refl _); clear hO2 hE2 hkk hx2 hbx2))
          go_ret
          exact ⟨rfl, HEW.out.trans (HE2.out.trans (HE3.out.trans (HE4.out.trans HE5.out)))⟩
        · have em : ((manyN C : Int) == 14) = false := by simp; omega
          have hfull := arrive_full h3 hm
          have HAT := hid hfull.2.1
          have HALL := hid hfull.2.2
          clear hfull h3 hm
          go_wp2_with (first
            | (go_at_call 36; refine (iClusterCounts _ C _ (HO1.out.ext (HE2.out.trans (HE3.out.trans HE4.out))) HS.out.len HS.out.flat HS.out.ids).mono ?_; rintro e w5 ⟨v5, rfl, hO5, hE5⟩; obtain ⟨g5, c5, rfl, hK5⟩ := counts_row hv1 hO5; have K5 := hid hK5; have HE5 := hid hE5; obtain ⟨hb0, hb1, hb2, hb3⟩ := KB.out _ (HE2.out.trans (HE3.out.trans (HE4.out.trans HE5.out))); obtain ⟨p20, p21⟩ := K2.out _ (HE3.out.trans (HE4.out.trans HE5.out)); obtain ⟨p30, p31⟩ := K3.out _ (HE4.out.trans HE5.out); obtain ⟨q50, q51, q52⟩ := K5.out _ (Ext.refl _); clear hO5 hE5 hK5)
            | (go_at_call 40; refine (lSameCluster _ _ R.1 _ (HO2.out.ext HE3.out) (HO3.out.ext (Ext.refl _))).mono ?_; rintro e w4 ⟨rfl, hE4⟩; have HE4 := hid hE4; obtain ⟨hb0, hb1, hb2, hb3⟩ := KB.out _ (HE2.out.trans (HE3.out.trans HE4.out)); obtain ⟨p20, p21⟩ := K2.out _ (HE3.out.trans HE4.out); obtain ⟨p30, p31⟩ := K3.out _ HE4.out; clear hE4)
            | (go_at_call 49; refine (sClusterArrive _ _ C x true _ (HO1.out.ext HE2.out) (HXV.out.ext HE2.out) HS.out.len HS.out.flat).mono ?_; rw [← HRR.out]; rintro e w3 ⟨v3, rfl, hO3, hE3⟩; obtain ⟨A3, c3, B3, d3, rfl⟩ := hO3.form; obtain ⟨y0, y1, y0f, y1f, k1, k1f, hkk, _⟩ := box2 (heap_alloc_new w3 (.cells #[.slice none 0 0, .slice none 0 0] 26)) (.slice A3 R.1.room.length c3) (.slice B3 R.1.units.length d3); have hx3 := Ext.alloc w3 (.cells #[.slice A3 R.1.room.length c3, .slice B3 R.1.units.length d3] 26); have hbx3 := heap_alloc_new w3 (.cells #[.slice A3 R.1.room.length c3, .slice B3 R.1.units.length d3] 26); have HO3 := hid (hO3.read.ext hx3); have HE3 := hid (hE3.trans hx3); have K3 := hid (show ∀ w', Ext (w3.alloc (.cells #[.slice A3 R.1.room.length c3, .slice B3 R.1.units.length d3] 26)) w' → w'.cell? ⟨w3.heap.size, 0, none⟩ = some (.slice A3 R.1.room.length c3) ∧ w'.cell? ⟨w3.heap.size, 1, none⟩ = some (.slice B3 R.1.units.length d3) from fun w' hw => ⟨obj_cell (hw.obj hbx3) (i := 0) rfl, obj_cell (hw.obj hbx3) (i := 1) rfl⟩); obtain ⟨hb0, hb1, hb2, hb3⟩ := KB.out _ (HE2.out.trans HE3.out); obtain ⟨p20, p21⟩ := K2.out _ HE3.out; obtain ⟨p30, p31⟩ := K3.out _ (Ext.refl _); clear hO3 hE3 hkk hx3 hbx3)
            | (go_at_call 48; refine (iClusterArrive _ C _ x true _ HO1.out HS.out.len HS.out.flat HS.out.ids HXV.out HXI.out).mono ?_; rw [← HRR.out]; rintro e w2 ⟨v2, rfl, hO2, hE2⟩; obtain ⟨A2, c2, B2, d2, rfl⟩ := hO2.form; obtain ⟨y0, y1, y0f, y1f, k1, k1f, hkk, _⟩ := box2 (heap_alloc_new w2 (.cells #[.slice none 0 0, .slice none 0 0] 26)) (.slice A2 R.1.room.length c2) (.slice B2 R.1.units.length d2); have hx2 := Ext.alloc w2 (.cells #[.slice A2 R.1.room.length c2, .slice B2 R.1.units.length d2] 26); have hbx2 := heap_alloc_new w2 (.cells #[.slice A2 R.1.room.length c2, .slice B2 R.1.units.length d2] 26); have HO2 := hid (hO2.read.ext hx2); have HE2 := hid (hE2.trans hx2); have K2 := hid (show ∀ w', Ext (w2.alloc (.cells #[.slice A2 R.1.room.length c2, .slice B2 R.1.units.length d2] 26)) w' → w'.cell? ⟨w2.heap.size, 0, none⟩ = some (.slice A2 R.1.room.length c2) ∧ w'.cell? ⟨w2.heap.size, 1, none⟩ = some (.slice B2 R.1.units.length d2) from fun w' hw => ⟨obj_cell (hw.obj hbx2) (i := 0) rfl, obj_cell (hw.obj hbx2) (i := 1) rfl⟩); obtain ⟨hb0, hb1, hb2, hb3⟩ := KB.out _ HE2.out; obtain ⟨p20, p21⟩ := K2.out _ (Ext.refl _); clear hO2 hE2 hkk hx2 hbx2))
          have HCG := hid (RU.get (show RU W (.slice Au C.units.length cu) C.units by obtain ⟨_, _, he, _, h2⟩ := HO1.out; injection he with he; injection he with he; injection he with _ he; injection he with he _; rw [he]; exact h2))
          have HRW := hid (show RI W (.slice Ar C.room.length cr) C.room by obtain ⟨_, _, he, h2, _⟩ := HO1.out; injection he with he; injection he with he; injection he with he _; rw [he]; exact h2)
          obtain ⟨i0_task, hi0_task, hz0_task, hz1_task, hz2_task⟩ := info_parts info_task
          go_loopw [10] (fun i wr => ∃ j : Nat, j ≤ C.units.length ∧ i = .int .i64 j ∧ Hid (Ext W wr)) (fun i _ => C.units.length - (intOf i).toNat)
          case atStart => exact ⟨0, Nat.zero_le _, rfl, hid (HE2.out.trans (HE3.out.trans (HE4.out.trans HE5.out)))⟩
          case round =>
            obtain ⟨j, hj, rfl, hE⟩ := hrel
            have hu10 := HS.out.units
            obtain ⟨qb0, qb1, qb2, qb3⟩ := KB.out _ hE.out
            by_cases hjl : j < C.units.length
            · have ij : (j : Int) < (C.units.length : Int) := by omega
              have i0 : (0 : Int) ≤ (j : Int) := by omega
              obtain ⟨A', c', hvu, _, _, hgc⟩ := HCG.out
              injection hvu with e1 _ e3
              subst e1 e3
              obtain ⟨ub, uo, u, At, ct, rfl, eu, u1, u2, hut⟩ := hgc j hjl
              have hum := List.mem_of_getElem? eu.out
              have HUM := hid hum
              have HT := hid (RT.ext hut hE.out)
              have HTL := hid (HS.out.tasks u hum).1
              have HTI : Hid (∀ t ∈ [u.tasks ++ [x]].flatten, IdR t.id) := hid fun t ht => by
                have ht : t ∈ u.tasks ++ [x] := by simpa using ht
                rcases List.mem_append.1 ht with ht | ht
                · exact ((HS.out.tasks u hum).2 t ht).2
                · rw [List.mem_singleton.1 ht]; exact HXI.out
              have HRm := hid (RI.ext HRW.out hE.out)
              have EW := hE.out
              have u1w := hE.out.cell u1
              have u2w := hE.out.cell u2
              have KS : Hid (∀ w', Ext wr w' → w'.cell? ⟨w1.heap.size, 0, none⟩ = some (.slice Ar C.room.length cr) ∧ w'.cell? ⟨w1.heap.size, 1, none⟩ = some (.slice (some ⟨ub, uo, none⟩) C.units.length cu) ∧ w'.cell? ⟨w1.heap.size + 1, 0, none⟩ = some (.int .i64 xid) ∧ w'.cell? ⟨w1.heap.size + 1, 1, none⟩ = some (.slice An need.length cn) ∧ w'.cell? ⟨ub, uo + j * 2, none⟩ = some (.bool u.opened) ∧ w'.cell? ⟨ub, uo + j * 2 + 1, none⟩ = some (.slice At u.tasks.length ct) ∧ Ext wr w') :=
                hid fun w' hw => ⟨hw.cell qb0, hw.cell qb1, hw.cell qb2, hw.cell qb3, hw.cell u1w, hw.cell u2w, hw⟩
              clear hgc u1 u2 hut hum
              by_cases ho : u.opened = true
              · have HNR : Hid (binsOk C.room [u.tasks ++ [x]] = false) := hid (no_room HAT.out HUM.out ho)
                go_wp2
                refine WG.start (fun w' => w'.cell? ⟨w1.heap.size, 0, none⟩ = some (.slice Ar C.room.length cr) ∧ w'.cell? ⟨w1.heap.size, 1, none⟩ = some (.slice (some ⟨ub, uo, none⟩) C.units.length cu) ∧ w'.cell? ⟨w1.heap.size + 1, 0, none⟩ = some (.int .i64 xid) ∧ w'.cell? ⟨w1.heap.size + 1, 1, none⟩ = some (.slice An need.length cn) ∧ w'.cell? ⟨ub, uo + j * 2, none⟩ = some (.bool u.opened) ∧ w'.cell? ⟨ub, uo + j * 2 + 1, none⟩ = some (.slice At u.tasks.length ct) ∧ Ext wr w') [10,11] (by kernel_rfl) (by exact KS.out _ (Below.drew (Below.refl _ _))) (fun hHeld => ?_)
                (refine WG.take (i := 1) (v := ?_) rfl (by kernel_rfl) (by kernel_rfl) (by kernel_rfl) (by kernel_rfl) (fun _ _ _ h => h) (Or.inl ⟨by rfl, ?_⟩) (by assumption) ?_; rotate_left; (intro w hSw; (try dsimp only at hSw); go_split_ands; go_simp; (try with_reducible rfl)); (try simp only [Act.put, List.setIfInBounds_toArray, List.set_cons_zero, List.set_cons_succ]))
                (refine WG.take (i := 2) (v := ?_) rfl (by kernel_rfl) (by kernel_rfl) (by kernel_rfl) (by kernel_rfl) (fun _ _ _ h => h) (Or.inl ⟨by rfl, ?_⟩) (by assumption) ?_; rotate_left; (intro w hSw; (try dsimp only at hSw); go_split_ands; go_simp; (try with_reducible rfl)); (try simp only [Act.put, List.setIfInBounds_toArray, List.set_cons_zero, List.set_cons_succ]))
                (refine WG.take (i := 3) (v := ?_) rfl (by kernel_rfl) (by kernel_rfl) (by kernel_rfl) (by kernel_rfl) (fun _ _ _ h => h) (Or.inl ⟨by rfl, ?_⟩) (by assumption) ?_; rotate_left; (intro w hSw; (try dsimp only at hSw); go_split_ands; go_simp; (try with_reducible rfl)); (try simp only [Act.put, List.setIfInBounds_toArray, List.set_cons_zero, List.set_cons_succ]))
                (refine WG.take (i := 4) (v := ?_) rfl (by kernel_rfl) (by kernel_rfl) (by kernel_rfl) (by kernel_rfl) (fun _ _ _ h => h) (Or.inl ⟨by rfl, ?_⟩) (by assumption) ?_; rotate_left; (intro w hSw; (try dsimp only at hSw); go_split_ands; go_simp; (try with_reducible rfl)); (try simp only [Act.put, List.setIfInBounds_toArray, List.set_cons_zero, List.set_cons_succ]))
                (refine WG.take (i := 5) (v := ?_) rfl (by kernel_rfl) (by kernel_rfl) (by kernel_rfl) (by kernel_rfl) (fun _ _ _ h => h) (Or.inl ⟨by rfl, ?_⟩) (by assumption) ?_; rotate_left; (intro w hSw; (try dsimp only at hSw); go_split_ands; go_simp; (try with_reducible rfl)); (try simp only [Act.put, List.setIfInBounds_toArray, List.set_cons_zero, List.set_cons_succ]))
                (refine WG.take (i := 6) (v := ?_) rfl (by kernel_rfl) (by kernel_rfl) (by kernel_rfl) (by kernel_rfl) (fun _ _ _ h => h) (Or.inl ⟨by rfl, ?_⟩) (by assumption) ?_; rotate_left; (intro w hSw; (try dsimp only at hSw); go_split_ands; go_simp; (try with_reducible rfl)); (try simp only [Act.put, List.setIfInBounds_toArray, List.set_cons_zero, List.set_cons_succ]))
                (refine WG.take (i := 8) (v := ?_) rfl (by kernel_rfl) (by kernel_rfl) (by kernel_rfl) (by kernel_rfl) (fun _ _ _ h => h) (Or.inl ⟨by rfl, ?_⟩) (by assumption) ?_; rotate_left; (intro w hSw; (try dsimp only at hSw); go_split_ands; go_simp; (try with_reducible rfl)); (try simp only [Act.put, List.setIfInBounds_toArray, List.set_cons_zero, List.set_cons_succ]))
                refine WG.two (i := 0) (j := 9) rfl rfl (by kernel_rfl) (fun K hK => ?_) (fun K hK => ?_)
                · go_simp
                  have hea1 : Ext wr (wr.drew.alloc (.cells #[] 64)) := Ext.trans (show Ext wr wr.drew from Below.drew (Below.refl _ _)) (Ext.alloc _ _)
                  refine hK.out _ _ (by exact KS.out _ hea1) (fun hHeld => ?_)
                  clear hK K
                  (try simp only [Act.put, List.setIfInBounds_toArray, List.set_cons_zero, List.set_cons_succ])
                  have HA := hid (show OT (wr.drew.alloc (.cells #[] 64)) wr.heap.size (.slice (some ⟨wr.heap.size, 0, none⟩) 0 0) [] from Own.madeAt #[] 0 _ (by simp) (by have := (show Ext wr wr.drew from Below.drew (Below.refl _ _)).size; simp at this ⊢; try omega) (by omega) rfl)
                  have HEA := hid hea1
                  clear hea1
                  refine WG.two (i := 7) (j := 9) rfl rfl (by kernel_rfl) (fun K hK => ?_) (fun K hK => ?_)
                  · refine step_append_sl _ (by rfl) _ _ 54 (by rfl) ET.ok ET.flat (wr.heap.size) 64 ET.ne i0_task _ 2 32 Try.underlying54 hi0_task hz0_task hz1_task hz2_task rfl (by omega) _ (by rfl) _ (HA.out) _ (by rfl) _ (RT.ext HT.out HEA.out) (by have := HTL.out; simp; omega) (by have := HTL.out; simp; omega) ?_ ?_; (focus (first | exact Nat.le_refl _ | (simp; done) | (simp; omega) | omega)); intro v7 w7 hO7 hg7 hat7 hs7
                    rw [List.nil_append] at hO7
                    have hE7 : Ext wr w7 := Ext.grown HEA.out hg7 (fun k hk => (HA.out).lt k hk)
                    obtain ⟨A7, c7, rfl, _, _⟩ := hO7.form
                    refine hK.out _ _ (by exact KS.out _ hE7) (fun hHeld => ?_)
                    clear hK K
                    (try simp only [Act.put, List.setIfInBounds_toArray, List.set_cons_zero, List.set_cons_succ])
                    have HO7 := hid hO7
                    have HE7 := hid hE7
                    have hz7 := hE7.size
                    clear hO7 hg7 hat7 hs7 hE7
                    refine WG.one (i := 9) rfl (by kernel_rfl) (fun K hK => ?_)
                    go_simp
                    have hea2 : Ext wr (w7.alloc (.cells #[.int .i64 xid, .slice An need.length cn] 64)) := Ext.trans HE7.out (Ext.alloc _ _)
                    refine hK.out _ _ (by exact KS.out _ hea2) (fun hHeld => ?_)
                    clear hK K
                    (try simp only [Act.put, List.setIfInBounds_toArray, List.set_cons_zero, List.set_cons_succ])
                    have HL := hid (show RT (w7.alloc (.cells #[.int .i64 xid, .slice An need.length cn] 64)) (.slice (some ⟨w7.heap.size, 0, none⟩) 1 1) [x] from RSl.laid (cs := [.int .i64 xid, .slice An need.length cn]) (heap_new (by simp)) rfl (by rw [HX.out]; exact ⟨_, rfl, RI.ext HNW.out ((Ext.trans EW HE7.out).trans (Ext.alloc _ _))⟩))
                    have HEL := hid hea2
                    clear hea2
                    have HO72 := hid (Own.ext ET.ok HO7.out (Ext.alloc _ (.cells #[.int .i64 xid, .slice An need.length cn] 64)))
                    refine WG.last (i := 10) rfl (by kernel_rfl) (by kernel_rfl) (fun K hK => ?_)
                    refine step_append_sl _ (by rfl) _ _ 54 (by rfl) ET.ok ET.flat (wr.heap.size) 64 ET.ne i0_task _ 2 32 Try.underlying54 hi0_task hz0_task hz1_task hz2_task rfl (by omega) _ (by rfl) _ (HO72.out) _ (by rfl) _ (HL.out) (by have := HTL.out; simp; omega) (by have := HTL.out; simp; omega) ?_ ?_; (focus (first | exact Nat.le_refl _ | (simp; done) | (simp; omega) | omega)); intro v10 w10 hO10 hg10 hat10 hs10
                    have hE10 : Ext wr w10 := Ext.grown HEL.out hg10 (fun k hk => (HO72.out).lt k hk)
                    obtain ⟨A10, c10, rfl, _, _⟩ := hO10.form_app
                    have HB10 := hid hO10.read
                    have HE10 := hid hE10
                    clear hO10 hg10 hat10 hs10 hE10
                    refine hK.out _ _ ?_
                    clear hK K
                    (try simp only [Act.put, List.setIfInBounds_toArray, List.set_cons_zero, List.set_cons_succ])
                    refine WG.last (i := 11) rfl (by kernel_rfl) (by kernel_rfl) (fun K hK => ?_)
                    go_simp
                    refine hK.out _ _ ?_
                    clear hK K
                    (try simp only [Act.put, List.setIfInBounds_toArray, List.set_cons_zero, List.set_cons_succ])
                    refine WG.done (by kernel_rfl) ?_
                    obtain ⟨qb0, qb1, qb2, qb3, u1w, u2w, _⟩ := KS.out _ HE10.out
                    go_wp2_with (go_at_call 51; have hx11 := Ext.alloc w10 (.cells #[.slice A10 (u.tasks.length + 1) c10] 54); refine (iBinsValid _ _ C.room [u.tasks ++ [x]] _ (RI.ext HRm.out (HE10.out.trans hx11)) (RSl.laid (cs := [.slice A10 (u.tasks.length + 1) c10]) (heap_alloc_new _ _) rfl ⟨_, rfl, RT.ext HB10.out hx11⟩) (by have := HTL.out; simp; omega) HTI.out).mono ?_; rintro e w11 ⟨rfl, hE11⟩; rw [HNR.out]; have HE11 := hid (HE10.out.trans (hx11.trans hE11)); obtain ⟨qb0, qb1, qb2, qb3, u1w, u2w, _⟩ := KS.out _ HE11.out; clear hx11 hE11)
                    go_roundw
                    case rel => exact ⟨j + 1, by omega, by go_num, hid (hE.out.trans HE11.out)⟩
                    case measure => simp [intOf]; omega
                  · go_simp
                    have hea2 : Ext wr ((wr.drew.alloc (.cells #[] 64)).alloc (.cells #[.int .i64 xid, .slice An need.length cn] 64)) := Ext.trans HEA.out (Ext.alloc _ _)
                    refine hK.out _ _ (by exact KS.out _ hea2) (fun hHeld => ?_)
                    clear hK K
                    (try simp only [Act.put, List.setIfInBounds_toArray, List.set_cons_zero, List.set_cons_succ])
                    have HL := hid (show RT ((wr.drew.alloc (.cells #[] 64)).alloc (.cells #[.int .i64 xid, .slice An need.length cn] 64)) (.slice (some ⟨(wr.heap.size + 1), 0, none⟩) 1 1) [x] from RSl.laid (cs := [.int .i64 xid, .slice An need.length cn]) (heap_new (by simp)) rfl (by rw [HX.out]; exact ⟨_, rfl, RI.ext HNW.out ((Ext.trans EW HEA.out).trans (Ext.alloc _ _))⟩))
                    have HEL := hid hea2
                    clear hea2
                    have HA2 := hid (Own.ext ET.ok HA.out (Ext.alloc _ (.cells #[.int .i64 xid, .slice An need.length cn] 64)))
                    refine WG.one (i := 7) rfl (by kernel_rfl) (fun K hK => ?_)
                    refine step_append_sl _ (by rfl) _ _ 54 (by rfl) ET.ok ET.flat (wr.heap.size) 64 ET.ne i0_task _ 2 32 Try.underlying54 hi0_task hz0_task hz1_task hz2_task rfl (by omega) _ (by rfl) _ (HA2.out) _ (by rfl) _ (RT.ext HT.out HEL.out) (by have := HTL.out; simp; omega) (by have := HTL.out; simp; omega) ?_ ?_; (focus (first | exact Nat.le_refl _ | (simp; done) | (simp; omega) | omega)); intro v7 w7 hO7 hg7 hat7 hs7
                    rw [List.nil_append] at hO7
                    have hE7 : Ext wr w7 := Ext.grown HEL.out hg7 (fun k hk => (HA2.out).lt k hk)
                    obtain ⟨A7, c7, rfl, _, _⟩ := hO7.form
                    refine hK.out _ _ (by exact KS.out _ hE7) (fun hHeld => ?_)
                    clear hK K
                    (try simp only [Act.put, List.setIfInBounds_toArray, List.set_cons_zero, List.set_cons_succ])
                    have HO7 := hid hO7
                    have HE7 := hid hE7
                    have hz7 := hE7.size
                    have HL7 := hid (RT.far_app HL.out hg7 (by simp [Value.ownBlock]) hs7)
                    clear hO7 hg7 hat7 hs7 hE7
                    refine WG.last (i := 10) rfl (by kernel_rfl) (by kernel_rfl) (fun K hK => ?_)
                    refine step_append_sl _ (by rfl) _ _ 54 (by rfl) ET.ok ET.flat (wr.heap.size) 64 ET.ne i0_task _ 2 32 Try.underlying54 hi0_task hz0_task hz1_task hz2_task rfl (by omega) _ (by rfl) _ (HO7.out) _ (by rfl) _ (HL7.out) (by have := HTL.out; simp; omega) (by have := HTL.out; simp; omega) ?_ ?_; (focus (first | exact Nat.le_refl _ | (simp; done) | (simp; omega) | omega)); intro v10 w10 hO10 hg10 hat10 hs10
                    have hE10 : Ext wr w10 := Ext.grown HE7.out hg10 (fun k hk => (HO7.out).lt k hk)
                    obtain ⟨A10, c10, rfl, _, _⟩ := hO10.form_app
                    have HB10 := hid hO10.read
                    have HE10 := hid hE10
                    clear hO10 hg10 hat10 hs10 hE10
                    refine hK.out _ _ ?_
                    clear hK K
                    (try simp only [Act.put, List.setIfInBounds_toArray, List.set_cons_zero, List.set_cons_succ])
                    refine WG.last (i := 11) rfl (by kernel_rfl) (by kernel_rfl) (fun K hK => ?_)
                    go_simp
                    refine hK.out _ _ ?_
                    clear hK K
                    (try simp only [Act.put, List.setIfInBounds_toArray, List.set_cons_zero, List.set_cons_succ])
                    refine WG.done (by kernel_rfl) ?_
                    obtain ⟨qb0, qb1, qb2, qb3, u1w, u2w, _⟩ := KS.out _ HE10.out
                    go_wp2_with (go_at_call 51; have hx11 := Ext.alloc w10 (.cells #[.slice A10 (u.tasks.length + 1) c10] 54); refine (iBinsValid _ _ C.room [u.tasks ++ [x]] _ (RI.ext HRm.out (HE10.out.trans hx11)) (RSl.laid (cs := [.slice A10 (u.tasks.length + 1) c10]) (heap_alloc_new _ _) rfl ⟨_, rfl, RT.ext HB10.out hx11⟩) (by have := HTL.out; simp; omega) HTI.out).mono ?_; rintro e w11 ⟨rfl, hE11⟩; rw [HNR.out]; have HE11 := hid (HE10.out.trans (hx11.trans hE11)); obtain ⟨qb0, qb1, qb2, qb3, u1w, u2w, _⟩ := KS.out _ HE11.out; clear hx11 hE11)
                    go_roundw
                    case rel => exact ⟨j + 1, by omega, by go_num, hid (hE.out.trans HE11.out)⟩
                    case measure => simp [intOf]; omega

                · go_simp
                  have hea1 : Ext wr (wr.drew.alloc (.cells #[.int .i64 xid, .slice An need.length cn] 64)) := Ext.trans (show Ext wr wr.drew from Below.drew (Below.refl _ _)) (Ext.alloc _ _)
                  refine hK.out _ _ (by exact KS.out _ hea1) (fun hHeld => ?_)
                  clear hK K
                  (try simp only [Act.put, List.setIfInBounds_toArray, List.set_cons_zero, List.set_cons_succ])
                  have HL := hid (show RT (wr.drew.alloc (.cells #[.int .i64 xid, .slice An need.length cn] 64)) (.slice (some ⟨wr.heap.size, 0, none⟩) 1 1) [x] from RSl.laid (cs := [.int .i64 xid, .slice An need.length cn]) (heap_new (by simp)) rfl (by rw [HX.out]; exact ⟨_, rfl, RI.ext HNW.out ((Ext.trans EW (show Ext wr wr.drew from Below.drew (Below.refl _ _))).trans (Ext.alloc _ _))⟩))
                  have HEL := hid hea1
                  clear hea1
                  refine WG.one (i := 0) rfl (by kernel_rfl) (fun K hK => ?_)
                  go_simp
                  have hea2 : Ext wr ((wr.drew.alloc (.cells #[.int .i64 xid, .slice An need.length cn] 64)).alloc (.cells #[] 64)) := Ext.trans HEL.out (Ext.alloc _ _)
                  refine hK.out _ _ (by exact KS.out _ hea2) (fun hHeld => ?_)
                  clear hK K
                  (try simp only [Act.put, List.setIfInBounds_toArray, List.set_cons_zero, List.set_cons_succ])
                  have HA := hid (show OT ((wr.drew.alloc (.cells #[.int .i64 xid, .slice An need.length cn] 64)).alloc (.cells #[] 64)) wr.heap.size (.slice (some ⟨(wr.heap.size + 1), 0, none⟩) 0 0) [] from Own.madeAt #[] 0 _ (by simp) (by have := HEL.out.size; simp at this ⊢; try omega) (by omega) rfl)
                  have HEA := hid hea2
                  clear hea2
                  have HL0 := hid (RT.ext HL.out (Ext.alloc _ (.cells #[] 64)))
                  refine WG.one (i := 7) rfl (by kernel_rfl) (fun K hK => ?_)
                  refine step_append_sl _ (by rfl) _ _ 54 (by rfl) ET.ok ET.flat (wr.heap.size) 64 ET.ne i0_task _ 2 32 Try.underlying54 hi0_task hz0_task hz1_task hz2_task rfl (by omega) _ (by rfl) _ (HA.out) _ (by rfl) _ (RT.ext HT.out HEA.out) (by have := HTL.out; simp; omega) (by have := HTL.out; simp; omega) ?_ ?_; (focus (first | exact Nat.le_refl _ | (simp; done) | (simp; omega) | omega)); intro v7 w7 hO7 hg7 hat7 hs7
                  rw [List.nil_append] at hO7
                  have hE7 : Ext wr w7 := Ext.grown HEA.out hg7 (fun k hk => (HA.out).lt k hk)
                  obtain ⟨A7, c7, rfl, _, _⟩ := hO7.form
                  refine hK.out _ _ (by exact KS.out _ hE7) (fun hHeld => ?_)
                  clear hK K
                  (try simp only [Act.put, List.setIfInBounds_toArray, List.set_cons_zero, List.set_cons_succ])
                  have HO7 := hid hO7
                  have HE7 := hid hE7
                  have hz7 := hE7.size
                  have HL7 := hid (RT.far_app HL0.out hg7 (by simp [Value.ownBlock]) hs7)
                  clear hO7 hg7 hat7 hs7 hE7
                  refine WG.last (i := 10) rfl (by kernel_rfl) (by kernel_rfl) (fun K hK => ?_)
                  refine step_append_sl _ (by rfl) _ _ 54 (by rfl) ET.ok ET.flat (wr.heap.size) 64 ET.ne i0_task _ 2 32 Try.underlying54 hi0_task hz0_task hz1_task hz2_task rfl (by omega) _ (by rfl) _ (HO7.out) _ (by rfl) _ (HL7.out) (by have := HTL.out; simp; omega) (by have := HTL.out; simp; omega) ?_ ?_; (focus (first | exact Nat.le_refl _ | (simp; done) | (simp; omega) | omega)); intro v10 w10 hO10 hg10 hat10 hs10
                  have hE10 : Ext wr w10 := Ext.grown HE7.out hg10 (fun k hk => (HO7.out).lt k hk)
                  obtain ⟨A10, c10, rfl, _, _⟩ := hO10.form_app
                  have HB10 := hid hO10.read
                  have HE10 := hid hE10
                  clear hO10 hg10 hat10 hs10 hE10
                  refine hK.out _ _ ?_
                  clear hK K
                  (try simp only [Act.put, List.setIfInBounds_toArray, List.set_cons_zero, List.set_cons_succ])
                  refine WG.last (i := 11) rfl (by kernel_rfl) (by kernel_rfl) (fun K hK => ?_)
                  go_simp
                  refine hK.out _ _ ?_
                  clear hK K
                  (try simp only [Act.put, List.setIfInBounds_toArray, List.set_cons_zero, List.set_cons_succ])
                  refine WG.done (by kernel_rfl) ?_
                  obtain ⟨qb0, qb1, qb2, qb3, u1w, u2w, _⟩ := KS.out _ HE10.out
                  go_wp2_with (go_at_call 51; have hx11 := Ext.alloc w10 (.cells #[.slice A10 (u.tasks.length + 1) c10] 54); refine (iBinsValid _ _ C.room [u.tasks ++ [x]] _ (RI.ext HRm.out (HE10.out.trans hx11)) (RSl.laid (cs := [.slice A10 (u.tasks.length + 1) c10]) (heap_alloc_new _ _) rfl ⟨_, rfl, RT.ext HB10.out hx11⟩) (by have := HTL.out; simp; omega) HTI.out).mono ?_; rintro e w11 ⟨rfl, hE11⟩; rw [HNR.out]; have HE11 := hid (HE10.out.trans (hx11.trans hE11)); obtain ⟨qb0, qb1, qb2, qb3, u1w, u2w, _⟩ := KS.out _ HE11.out; clear hx11 hE11)
                  go_roundw
                  case rel => exact ⟨j + 1, by omega, by go_num, hid (hE.out.trans HE11.out)⟩
                  case measure => simp [intOf]; omega
              · have ho : u.opened = false := by simpa using ho
                exfalso
                have := HALL.out (by simp) u HUM.out
                rw [ho] at this
                cases this
            · go_wp2
              go_ret
              exact ⟨rfl, HEW.out.trans hE.out⟩
    · have h0' : (R.2 != 3) = true := by simpa using h0
      go_wp2_with (first
        | (go_at_call 40; refine (lSameCluster _ _ R.1 _ (HO2.out.ext (HE3.out.trans HE4.out)) (HO3.out.ext HE4.out)).mono ?_; rintro e w5 ⟨rfl, hE5⟩; have HE5 := hid hE5; obtain ⟨hb0, hb1, hb2, hb3⟩ := KB.out _ (HE2.out.trans (HE3.out.trans (HE4.out.trans HE5.out))); obtain ⟨p20, p21⟩ := K2.out _ (HE3.out.trans (HE4.out.trans HE5.out)); obtain ⟨p30, p31⟩ := K3.out _ (HE4.out.trans HE5.out); clear hE5)
        | (go_at_call 40; refine (lSameCluster _ _ R.1 _ (HO2.out.ext HE3.out) (HO3.out.ext (Ext.refl _))).mono ?_; rintro e w4 ⟨rfl, hE4⟩; have HE4 := hid hE4; obtain ⟨hb0, hb1, hb2, hb3⟩ := KB.out _ (HE2.out.trans (HE3.out.trans HE4.out)); obtain ⟨p20, p21⟩ := K2.out _ (HE3.out.trans HE4.out); obtain ⟨p30, p31⟩ := K3.out _ HE4.out; clear hE4)
        | (go_at_call 49; refine (sClusterArrive _ _ C x g _ (HO1.out.ext HE2.out) (HXV.out.ext HE2.out) HS.out.len HS.out.flat).mono ?_; rw [← HRR.out]; rintro e w3 ⟨v3, rfl, hO3, hE3⟩; obtain ⟨A3, c3, B3, d3, rfl⟩ := hO3.form; obtain ⟨y0, y1, y0f, y1f, k1, k1f, hkk, _⟩ := box2 (heap_alloc_new w3 (.cells #[.slice none 0 0, .slice none 0 0] 26)) (.slice A3 R.1.room.length c3) (.slice B3 R.1.units.length d3); have hx3 := Ext.alloc w3 (.cells #[.slice A3 R.1.room.length c3, .slice B3 R.1.units.length d3] 26); have hbx3 := heap_alloc_new w3 (.cells #[.slice A3 R.1.room.length c3, .slice B3 R.1.units.length d3] 26); have HO3 := hid (hO3.read.ext hx3); have HE3 := hid (hE3.trans hx3); have K3 := hid (show ∀ w', Ext (w3.alloc (.cells #[.slice A3 R.1.room.length c3, .slice B3 R.1.units.length d3] 26)) w' → w'.cell? ⟨w3.heap.size, 0, none⟩ = some (.slice A3 R.1.room.length c3) ∧ w'.cell? ⟨w3.heap.size, 1, none⟩ = some (.slice B3 R.1.units.length d3) from fun w' hw => ⟨obj_cell (hw.obj hbx3) (i := 0) rfl, obj_cell (hw.obj hbx3) (i := 1) rfl⟩); obtain ⟨hb0, hb1, hb2, hb3⟩ := KB.out _ (HE2.out.trans HE3.out); obtain ⟨p20, p21⟩ := K2.out _ HE3.out; obtain ⟨p30, p31⟩ := K3.out _ (Ext.refl _); clear hO3 hE3 hkk hx3 hbx3)
        | (go_at_call 48; refine (iClusterArrive _ C _ x g _ HO1.out HS.out.len HS.out.flat HS.out.ids HXV.out HXI.out).mono ?_; rw [← HRR.out]; rintro e w2 ⟨v2, rfl, hO2, hE2⟩; obtain ⟨A2, c2, B2, d2, rfl⟩ := hO2.form; obtain ⟨y0, y1, y0f, y1f, k1, k1f, hkk, _⟩ := box2 (heap_alloc_new w2 (.cells #[.slice none 0 0, .slice none 0 0] 26)) (.slice A2 R.1.room.length c2) (.slice B2 R.1.units.length d2); have hx2 := Ext.alloc w2 (.cells #[.slice A2 R.1.room.length c2, .slice B2 R.1.units.length d2] 26); have hbx2 := heap_alloc_new w2 (.cells #[.slice A2 R.1.room.length c2, .slice B2 R.1.units.length d2] 26); have HO2 := hid (hO2.read.ext hx2); have HE2 := hid (hE2.trans hx2); have K2 := hid (show ∀ w', Ext (w2.alloc (.cells #[.slice A2 R.1.room.length c2, .slice B2 R.1.units.length d2] 26)) w' → w'.cell? ⟨w2.heap.size, 0, none⟩ = some (.slice A2 R.1.room.length c2) ∧ w'.cell? ⟨w2.heap.size, 1, none⟩ = some (.slice B2 R.1.units.length d2) from fun w' hw => ⟨obj_cell (hw.obj hbx2) (i := 0) rfl, obj_cell (hw.obj hbx2) (i := 1) rfl⟩); obtain ⟨hb0, hb1, hb2, hb3⟩ := KB.out _ HE2.out; obtain ⟨p20, p21⟩ := K2.out _ (Ext.refl _); clear hO2 hE2 hkk hx2 hbx2))
      go_ret
      exact ⟨rfl, HEW.out.trans (HE2.out.trans (HE3.out.trans (HE4.out.trans HE5.out)))⟩
  · have i1 : (1048576 : Int) < (bs.length : Int) := by omega
    go_enter Try.func16, Try.ntmps16
    go_wp2
    go_ret
    exact ⟨rfl, Ext.refl _⟩

end Go.Proofs.Ytfgibhdglbjadaa
