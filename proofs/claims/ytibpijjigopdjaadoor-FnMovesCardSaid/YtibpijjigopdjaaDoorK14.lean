/- Moves are drawn. -/
import Derived.Test.YtibpijjigopdjaaDoorK12
import Derived.Test.YtibpijjigopdjaaDoorK13
import Derived.Test.YtibpijjigopdjaaDoorK11
namespace Go.Proofs.YtibpijjigopdjaaDoor
open Go.RowKit
set_option maxRecDepth 4000

theorem movesOf_mem {room : List Int} {bs : List (List TaskD)} {m : MoveD} (h : m ∈ movesOf room bs) : (∃ x ∈ bs.flatten, m.id = x.id) ∧ 0 ≤ m.to ∧ m.to < bs.length := by
  unfold movesOf at h
  split at h
  · obtain ⟨x, hx, hm⟩ := List.mem_flatMap.1 h
    obtain ⟨j, hj, rfl⟩ := List.mem_map.1 hm
    have hj := List.mem_range.1 (List.mem_filter.1 hj).1
    exact ⟨⟨x, hx, rfl⟩, by show 0 ≤ (j : Int); omega, by show (j : Int) < _; omega⟩
  · simp at h
theorem notMoveRd : ∀ t, (t = 32) → t ≠ 101 := by rintro t rfl; decide
def DrawnMv (w : World) (b : Nat) (bv : Value) (bs : List Int) (p : Nat) (e : Ending) (w' : World) : Prop := ∃ id tt : Int, e = .returned (.agg #[.int .i64 id, .int .i64 tt]) ∧ IdR id ∧ (-1 ≤ tt ∧ tt ≤ 100) ∧ DrawR w b bv bs p 4 w'

set_option maxHeartbeats 4000000 in
theorem dMove (b : Nat) (bv : Value) (bs : List Int) (p : Nat) (v : Value) (Bs : List (List TaskD)) (w : World) (h : Rd w b bv bs p) (hp : p ≤ 800000) (hv : RB w v Bs) (hl : Bs.length ≤ 20) (hfl : Bs.flatten.length ≤ 1000) (hg : ∀ t ∈ Bs.flatten, GoodT t) :
    Calls Tryd.prog 64 #[.pointer (some ⟨b, 0, none⟩), v] w (DrawnMv w b bv bs p) := by
  have hE := Ext.alloc w (.cells #[.int .i64 0, .int .i64 0] 32)
  have HR0 := hid (h.ext hE)
  have HB0 := hid h.low
  have HZ0 := hid (heap_alloc_new w (.cells #[.int .i64 0, .int .i64 0] 32))
  have HV := hid (RB.ext hv hE)
  have HE0 := hid hE
  have HG := hid hg
  have HS0 : Hid ((w.alloc (.cells #[.int .i64 0, .int .i64 0] 32)).heap.size = w.heap.size + 1) := hid (by simp)
  have hbl : b < w.heap.size := h.low.1
  obtain ⟨A, c, rfl, _⟩ := hv
  clear h hg hE
  go_enter Tryd.func64, Tryd.ntmps64
  go_wp2_with (first
    | (go_at_call 51; obtain ⟨hg, pp, hpp, hr⟩ := HD2.out; refine (dPick b bv bs pp _ _ hr (by omega) (by omega)).mono ?_; rintro e w3 ⟨x3, rfl, hx, hg3, hr3⟩; have hx3 := pick_lt hx (by omega); have HD3 := hid (DrawR.more HD2.out hg3 hr3 hpp); have HZ3 := hid (hg3.obj HZ2.out (by omega)); obtain ⟨y0, y1, y0f, y1f, k1, k1f, hkk, hsm⟩ := box2 HZ3.out (.int .i64 n1) (.int .i64 ((x2 : Int) - (x3 : Int) / 19)); have r0 := obj_cell hkk (i := 0) rfl; have r1 := obj_cell hkk (i := 1) rfl; clear hg hpp hr hx hg3 hr3 hkk hsm)
    | (go_at_call 51; obtain ⟨hg, pp, hpp, hr⟩ := HD1.out; refine (dPick b bv bs pp _ _ hr (by omega) (by omega)).mono ?_; rintro e w2 ⟨x2, rfl, hx, hg2, hr2⟩; have hx2 := pick_lt hx (by omega); have HD2 := hid (DrawR.more HD1.out hg2 hr2 hpp); have HZ2 := hid (hg2.obj HZ1.out (by omega)); clear hg hpp hr hx hg2 hr2)
    | (go_at_call 97; refine (dId91 b bv bs p _ Bs _ HR0.out (by omega) HV.out (by omega) (fun t ht => (HG.out t ht).2.2)).mono ?_; rintro e w1 ⟨n1, rfl, hn1, hd1⟩; have HN1 := hid hn1; have HD1 : Hid (DrawR w b bv bs p 2 w1) := hid ⟨(Gr.of_ext HE0.out).trans hd1.1, hd1.2⟩; have HZ1 := hid (hd1.1.obj HZ0.out (by omega)); clear hn1 hd1))
  refine bodyPost_ret (v := .agg #[.int .i64 n1, .int .i64 ((x2 : Int) - (x3 : Int) / 19)]) (by simp [results, Tryd.results64, go_sem, r0, r1]) rfl ?_
  exact ⟨n1, _, rfl, HN1.out, by omega, ((HD3.out.stored (Nat.le_refl _) HB0.out.1 HB0.out.2 _).stored (Nat.le_refl _) HB0.out.1 HB0.out.2 _).mono (by omega)⟩

def DrawnM (w : World) (e : Ending) (w' : World) : Prop := ∃ (rv nv : Value) (room : List Int) (Bs : List (List TaskD)) (id tt : Int), e = .returned (.tuple #[rv, nv, .agg #[.int .i64 id, .int .i64 tt]]) ∧ RI w' rv room ∧ RB w' nv Bs ∧ Bs.length ≤ 10 ∧ Bs.flatten.length ≤ 30 ∧ (∀ t ∈ Bs.flatten, GoodT t) ∧ IdR id ∧ (-1 ≤ tt ∧ tt ≤ 100) ∧ Ext w w'

set_option maxHeartbeats 8000000 in
theorem dDrawMoveDo (v : Value) (bs : List Int) (w : World) (h : XBy w v bs) (hl : bs.length ≤ 4000000) :
    Calls Tryd.prog 22 #[v] w (DrawnM w) := by
  have HW := hid (Ext.alloc w (.cells #[.int .i64 0, .int .i64 0] 32))
  have HB := hid (h.ext (Ext.alloc w (.cells #[.int .i64 0, .int .i64 0] 32)))
  have Z0 := hid (heap_alloc_new w (.cells #[.int .i64 0, .int .i64 0] 32))
  clear h
  go_enter Tryd.func22, Tryd.ntmps22
  go_wp2_with (first
    | (go_at_call 64; obtain ⟨hg, pp, hpp, hr⟩ := HD4.out; refine (dMove b bv bs' pp _ Bs _ hr (by omega) HB4.out (by omega) (by have := HFL.out; omega) HG2.out).mono ?_; rintro e w5 ⟨id5, tt5, rfl, hi5, ht5, hd5⟩; have HI5 := hid hi5; have Z5 := hid (hd5.1.obj Z4.out (by omega)); have HD5 := hid (DrawR.then hg hpp hd5); have HR5 := hid (RI.same HR4.out (hd5.1.same hr _ (by rintro t rfl; decide))); have HB5 := hid (RB.same HB4.out (hd5.1.same hr _ notBTI)); obtain ⟨y0, y1, y0f, y1f, k1, k1f, hkk, hsm⟩ := box2 Z5.out (.int .i64 id5) (.int .i64 tt5); have r0 := obj_cell hkk (i := 0) rfl; have r1 := obj_cell hkk (i := 1) rfl; have HSM := hid hsm; clear hg hpp hr hi5 hd5 hkk hsm)
    | (go_at_call 64; obtain ⟨hg, pp, hpp, hr⟩ := HD3.out; refine (dMove b bv bs' pp _ Bs _ hr (by omega) HB3.out (by omega) (by have := HFL.out; omega) HG2.out).mono ?_; rintro e w5 ⟨id5, tt5, rfl, hi5, ht5, hd5⟩; have HI5 := hid hi5; have Z5 := hid (hd5.1.obj Z3.out (by omega)); have HD5 := hid (DrawR.then hg hpp hd5); have HR5 := hid (RI.same HR3.out (hd5.1.same hr _ (by rintro t rfl; decide))); have HB5 := hid (RB.same HB3.out (hd5.1.same hr _ notBTI)); obtain ⟨y0, y1, y0f, y1f, k1, k1f, hkk, hsm⟩ := box2 Z5.out (.int .i64 id5) (.int .i64 tt5); have r0 := obj_cell hkk (i := 0) rfl; have r1 := obj_cell hkk (i := 1) rfl; have HSM := hid hsm; clear hg hpp hr hi5 hd5 hkk hsm)
    | (go_at_call 51; obtain ⟨hg, pp, hpp, hr⟩ := HD3.out; refine (dPick b bv bs' pp _ _ hr (by omega) (by omega)).mono ?_; rintro e w4 ⟨x4, rfl, hx, hg4, hr4⟩; have hx4 := pick_lt hx (by decide); have HD4 := hid (DrawR.more HD3.out hg4 hr4 hpp); have HL4 := hid (RM.same HL3.out (hg4.same hr _ notMoveRd)); have Z4 := hid (hg4.obj Z3.out (by omega)); have HR4 := hid (RI.same (RI.ext HR2.out HE3.out) (hg4.same hr _ (by rintro t rfl; decide))); have HB4 := hid (RB.same (RB.ext HB2.out HE3.out) (hg4.same hr _ notBTI)); clear hg hpp hr hx hg4 hr4)
    | (go_at_call 49; refine (dOpen _ bs _ HB.out hl).mono ?_; rintro e w1 ⟨rfl, ⟨bv, bs', hr1⟩, hE1⟩; have HR1 := hid hr1; have HE1 := hid (HW.out.trans hE1); have Z1 := hid (hE1.obj Z0.out); obtain ⟨b, hb⟩ : ∃ b, b = (w.alloc (.cells #[.int .i64 0, .int .i64 0] 32)).heap.size := ⟨_, rfl⟩; have hbw : w.heap.size < b := (by rw [hb]; simp); rw [← hb] at HR1 ⊢; have hb1 : b < w1.heap.size := HR1.out.low.1; clear hb hr1 hE1)
    | (go_at_call 50; refine (dBins b bv bs' 0 _ HR1.out (by omega)).mono ?_; rintro e w2 ⟨rv, nv, room, Bs, rfl, hR2, hB2, hl2, hf2, hg2, hd2⟩; have HR2 := hid hR2; have HB2 := hid hB2; obtain ⟨Ar, cr, rfl, _⟩ := hR2; obtain ⟨A2, c2, rfl, _⟩ := hB2; have HBL := hid hl2; have HFL := hid hf2; have HG2 := hid hg2; have Z2 := hid (hd2.1.obj Z1.out (by omega)); have HD2 := hid hd2; have hBs10 : Bs.length ≤ 10 := hl2; clear hf2 hg2 hd2 hl2)
    | (go_at_call 63; refine (sMovesOf _ _ room Bs _ HR2.out HB2.out (by have := HFL.out; omega)).mono ?_; rintro e w3 ⟨lv, rfl, hL3, hE3⟩; obtain ⟨ms, hms⟩ : ∃ ms, ms = movesOf room Bs := ⟨_, rfl⟩; rw [← hms] at hL3; have HMS := hid hms; have hml : ms.length ≤ 200 := (by rw [hms]; exact movesOf_len _ _); have HL3 := hid hL3; obtain ⟨A3, c3, rfl, _⟩ := hL3; have HD3 := hid (HD2.out.ext hE3); have Z3 := hid (hE3.obj Z2.out); have HE3 := hid hE3; have HR3 := hid (RI.ext HR2.out hE3); have HB3 := hid (RB.ext HB2.out hE3); clear hE3 hms))
  · have i0 : (0 : Int) < (ms.length : Int) := by omega
    refine WG.start (fun w' => True) [11] (by kernel_rfl) (by trivial) (fun hHeld => ?_)
    (refine WG.take (i := 0) (v := ?_) rfl (by kernel_rfl) (by kernel_rfl) (by kernel_rfl) (by kernel_rfl) (fun _ _ _ h => h) (Or.inl ⟨by rfl, ?_⟩) (by assumption) ?_; rotate_left; (intro w hSw; (try dsimp only at hSw); go_split_ands; go_simp; (try with_reducible rfl)); (try simp only [Act.put, List.setIfInBounds_toArray, List.set_cons_zero, List.set_cons_succ]))
    (refine WG.take (i := 1) (v := ?_) rfl (by kernel_rfl) (by kernel_rfl) (by kernel_rfl) (by kernel_rfl) (fun _ _ _ h => h) (Or.inl ⟨by rfl, ?_⟩) (by assumption) ?_; rotate_left; (intro w hSw; (try dsimp only at hSw); go_split_ands; go_simp; (try with_reducible rfl)); (try simp only [Act.put, List.setIfInBounds_toArray, List.set_cons_zero, List.set_cons_succ]))
    (refine WG.take (i := 2) (v := ?_) rfl (by kernel_rfl) (by kernel_rfl) (by kernel_rfl) (by kernel_rfl) (fun _ _ _ h => h) (Or.inl ⟨by rfl, ?_⟩) (by assumption) ?_; rotate_left; (intro w hSw; (try dsimp only at hSw); go_split_ands; go_simp; (try with_reducible rfl)); (try simp only [Act.put, List.setIfInBounds_toArray, List.set_cons_zero, List.set_cons_succ]))
    (refine WG.take (i := 3) (v := ?_) rfl (by kernel_rfl) (by kernel_rfl) (by kernel_rfl) (by kernel_rfl) (fun _ _ _ h => h) (Or.inl ⟨by rfl, ?_⟩) (by assumption) ?_; rotate_left; (intro w hSw; (try dsimp only at hSw); go_split_ands; go_simp; (try with_reducible rfl)); (try simp only [Act.put, List.setIfInBounds_toArray, List.set_cons_zero, List.set_cons_succ]))
    (refine WG.take (i := 4) (v := ?_) rfl (by kernel_rfl) (by kernel_rfl) (by kernel_rfl) (by kernel_rfl) (fun _ _ _ h => h) (Or.inl ⟨by rfl, ?_⟩) (by assumption) ?_; rotate_left; (intro w hSw; (try dsimp only at hSw); go_split_ands; go_simp; (try with_reducible rfl)); (try simp only [Act.put, List.setIfInBounds_toArray, List.set_cons_zero, List.set_cons_succ]))
    refine WG.one (i := 5) rfl (by kernel_rfl) (fun K hK => ?_)
    go_simp
    refine hK.out _ _ (by trivial) (fun hHeld => ?_)
    clear hK K
    (try simp only [Act.put, List.setIfInBounds_toArray, List.set_cons_zero, List.set_cons_succ])
    refine WG.one (i := 6) rfl (by kernel_rfl) (fun K hK => ?_)
    go_simp; have HDX := hid (HD4.out.ext (Below.drew (Ext.refl w4))); obtain ⟨hg, pp, hpp, hr⟩ := HDX.out; refine (dPick b bv bs' pp _ _ hr (by omega) (by omega)).mono ?_; rintro e5 w5 ⟨x5, rfl, hx, hg5, hr5⟩; have hx5 := pick_lt hx (by omega); have HD5 := hid (DrawR.more HDX.out hg5 hr5 hpp); have HL5 := hid (RM.same (RM.ext HL4.out (Below.drew (Ext.refl w4))) (hg5.same hr _ notMoveRd)); have Z5 := hid (hg5.obj (Ext.obj (Below.drew (Ext.refl w4)) Z4.out) (by omega)); have HR5 := hid (RI.same (RI.ext HR4.out (Below.drew (Ext.refl w4))) (hg5.same hr _ (by rintro t rfl; decide))); have HB5 := hid (RB.same (RB.ext HB4.out (Below.drew (Ext.refl w4))) (hg5.same hr _ notBTI)); clear hg hpp hr hx hg5 hr5; (try dsimp only)
    refine hK.out _ _ (by trivial) (fun hHeld => ?_)
    clear hK K
    (try simp only [Act.put, List.setIfInBounds_toArray, List.set_cons_zero, List.set_cons_succ])
    have hx5l : x5 < ms.length := by omega
    obtain ⟨A', c', hv', _, _, hgm⟩ := RM.get HL5.out
    injection hv' with e1 _ e3
    subst e1 e3
    obtain ⟨lb, lo, m, rfl, em, cm0, cm1⟩ := hgm x5 hx5l
    have HMM := hid (movesOf_mem (room := room) (bs := Bs) (m := m) (by rw [← HMS.out]; exact List.mem_of_getElem? em.out))
    obtain ⟨id5, tt5⟩ := m
    have i5 : (x5 : Int) < (ms.length : Int) := by omega
    have KS : Hid (w5.cell? ⟨lb, lo + x5 * 2, none⟩ = some (.int .i64 id5) ∧ w5.cell? ⟨lb, lo + x5 * 2 + 1, none⟩ = some (.int .i64 tt5)) := hid ⟨cm0, cm1⟩
    obtain ⟨y0, y1, y0f, y1f, k1, k1f, hkk, hsm⟩ := box2 Z5.out (.int .i64 id5) (.int .i64 tt5)
    have r0 := obj_cell hkk (i := 0) rfl
    have r1 := obj_cell hkk (i := 1) rfl
    have HSM := hid hsm
    have HI5 : Hid (IdR id5) := hid (by obtain ⟨⟨y, hy, hyi⟩, _⟩ := HMM.out; have h3 := (HG2.out y hy).2.2; rw [← hyi] at h3; exact h3)
    have ht5 : -1 ≤ tt5 ∧ tt5 ≤ 100 := by obtain ⟨_, h3, h4⟩ := HMM.out; simp only at h3 h4; omega
    clear hkk hsm hgm cm0 cm1
    refine WG.strong (fun w' => w'.cell? ⟨lb, lo + x5 * 2, none⟩ = some (.int .i64 id5) ∧ w'.cell? ⟨lb, lo + x5 * 2 + 1, none⟩ = some (.int .i64 tt5)) (fun _ _ => trivial) KS.out (fun hHeld => ?_)
    (refine WG.take (i := 7) (v := ?_) rfl (by kernel_rfl) (by kernel_rfl) (by kernel_rfl) (by kernel_rfl) (fun _ _ _ h => h) (Or.inl ⟨by rfl, ?_⟩) (by assumption) ?_; rotate_left; (intro w hSw; (try dsimp only at hSw); go_split_ands; go_simp; (try with_reducible rfl)); (try simp only [Act.put, List.setIfInBounds_toArray, List.set_cons_zero, List.set_cons_succ]))
    (refine WG.take (i := 8) (v := ?_) rfl (by kernel_rfl) (by kernel_rfl) (by kernel_rfl) (by kernel_rfl) (fun _ _ _ h => h) (Or.inl ⟨by rfl, ?_⟩) (by assumption) ?_; rotate_left; (intro w hSw; (try dsimp only at hSw); go_split_ands; go_simp; (try with_reducible rfl)); (try simp only [Act.put, List.setIfInBounds_toArray, List.set_cons_zero, List.set_cons_succ]))
    refine WG.one (i := 9) rfl (by kernel_rfl) (fun K hK => ?_)
    go_simp
    refine hK.out _ _ (by exact KS.out) (fun hHeld => ?_)
    clear hK K
    (try simp only [Act.put, List.setIfInBounds_toArray, List.set_cons_zero, List.set_cons_succ])
    refine WG.one (i := 10) rfl (by kernel_rfl) (fun K hK => ?_)
    go_simp
    refine hK.out _ _ (by exact KS.out) (fun hHeld => ?_)
    clear hK K
    (try simp only [Act.put, List.setIfInBounds_toArray, List.set_cons_zero, List.set_cons_succ])
    refine WG.last (i := 11) rfl (by kernel_rfl) (by kernel_rfl) (fun K hK => ?_)
    go_simp
    refine hK.out _ _ ?_
    clear hK K
    (try simp only [Act.put, List.setIfInBounds_toArray, List.set_cons_zero, List.set_cons_succ])
    refine WG.done (by kernel_rfl) ?_
    go_wp2
    refine bodyPost_ret (v := .tuple #[.slice Ar room.length cr, .slice A2 Bs.length c2, .agg #[.int .i64 id5, .int .i64 tt5]]) (by simp [results, Tryd.results22, go_sem, r0, r1]) rfl ?_
    exact ⟨_, _, room, Bs, id5, tt5, rfl, RI.same HR5.out (HSM.out _ (by rintro t rfl; decide)), RB.same HB5.out (HSM.out _ notMove), HBL.out, HFL.out, HG2.out, HI5.out, ht5, Below.setCell (Below.setCell (Below.trans HE1.out (HD5.out.1.below (H := w.heap.size) (by omega) HE1.out.size)) (Nat.le_refl _) _) (Nat.le_refl _) _⟩
  · refine bodyPost_ret (v := .tuple #[.slice Ar room.length cr, .slice A2 Bs.length c2, .agg #[.int .i64 id5, .int .i64 tt5]]) (by simp [results, Tryd.results22, go_sem, r0, r1]) rfl ?_
    exact ⟨_, _, room, Bs, id5, tt5, rfl, RI.same HR5.out (HSM.out _ (by rintro t rfl; decide)), RB.same HB5.out (HSM.out _ notMove), HBL.out, HFL.out, HG2.out, HI5.out, ht5, Below.setCell (Below.setCell (Below.trans HE1.out (HD5.out.1.below (H := w.heap.size) (by omega) HE1.out.size)) (Nat.le_refl _) _) (Nat.le_refl _) _⟩
  · refine bodyPost_ret (v := .tuple #[.slice Ar room.length cr, .slice A2 Bs.length c2, .agg #[.int .i64 id5, .int .i64 tt5]]) (by simp [results, Tryd.results22, go_sem, r0, r1]) rfl ?_
    exact ⟨_, _, room, Bs, id5, tt5, rfl, RI.same HR5.out (HSM.out _ (by rintro t rfl; decide)), RB.same HB5.out (HSM.out _ notMove), HBL.out, HFL.out, HG2.out, HI5.out, ht5, Below.setCell (Below.setCell (Below.trans HE1.out (HD5.out.1.below (H := w.heap.size) (by omega) HE1.out.size)) (Nat.le_refl _) _) (Nat.le_refl _) _⟩

end Go.Proofs.YtibpijjigopdjaaDoor

/- A plan's arguments are drawn. -/
namespace Go.Proofs.YtibpijjigopdjaaDoor
open Go.RowKit
set_option maxRecDepth 4000

def DrawnG (w : World) (e : Ending) (w' : World) : Prop := ∃ (rv nv : Value) (room : List Int) (Bs : List (List TaskD)) (most : Int), e = .returned (.tuple #[rv, nv, .int .i64 most]) ∧ RI w' rv room ∧ RB w' nv Bs ∧ Bs.length ≤ 10 ∧ Bs.flatten.length ≤ 30 ∧ (∀ t ∈ Bs.flatten, GoodT t) ∧ (-1 ≤ most ∧ most ≤ 21) ∧ Ext w w'

set_option maxHeartbeats 8000000 in
theorem dDrawGatherPlan (v : Value) (bs : List Int) (w : World) (h : XBy w v bs) (hl : bs.length ≤ 4000000) :
    Calls Tryd.prog 16 #[v] w (DrawnG w) := by
  go_enter Tryd.func16, Tryd.ntmps16
  go_wp2_with (first
    | (go_at_call 51; obtain ⟨hg, pp, hpp, hr⟩ := HD3.out; refine (dPick b bv bs' pp _ _ hr (by omega) (by omega)).mono ?_; rintro e w4 ⟨x4, rfl, hx, hg3, hr3⟩; have hx4 := pick_lt hx (by decide); have HD4 := hid (DrawR.more HD3.out hg3 hr3 hpp); have HR4 := hid (RI.same HR3.out (hg3.same hr _ (by rintro t rfl; decide))); have HB4 := hid (RB.same HB3.out (hg3.same hr _ notBTI)); clear hg hpp hr hx hg3 hr3)
    | (go_at_call 51; obtain ⟨hg, pp, hpp, hr⟩ := HD2.out; refine (dPick b bv bs' pp _ _ hr (by omega) (by omega)).mono ?_; rintro e w3 ⟨x3, rfl, hx, hg3, hr3⟩; have hx3 := pick_lt hx (by decide); have HD3 := hid (DrawR.more HD2.out hg3 hr3 hpp); have HR3 := hid (RI.same HR2.out (hg3.same hr _ (by rintro t rfl; decide))); have HB3 := hid (RB.same HB2.out (hg3.same hr _ notBTI)); clear hg hpp hr hx hg3 hr3)
    | (go_at_call 50; refine (dBins b bv bs' 0 _ HR1.out (by omega)).mono ?_; rintro e w2 ⟨rv, nv, room, Bs, rfl, hR2, hB2, hl2, hf2, hg2, hd2⟩; have HR2 := hid hR2; have HB2 := hid hB2; obtain ⟨Ar, cr, rfl, _⟩ := hR2; obtain ⟨A2, c2, rfl, _⟩ := hB2; have HBL := hid hl2; have HFL := hid hf2; have HG2 := hid hg2; have HD2 := hid hd2; clear hf2 hg2 hd2 hl2)
    | (go_at_call 49; refine (dOpen _ bs _ h hl).mono ?_; rintro e w1 ⟨rfl, ⟨bv, bs', hr1⟩, hE1⟩; have HR1 := hid hr1; have HE1 := hid hE1; obtain ⟨b, hb⟩ : ∃ b, b = w.heap.size := ⟨_, rfl⟩; rw [← hb] at HR1 ⊢; have hbw : w.heap.size ≤ b := (by rw [hb]; exact Nat.le_refl _); have hb1 : b < w1.heap.size := HR1.out.low.1; clear hb hr1 hE1))
  · refine WG.start (fun w' => True) [9] (by kernel_rfl) (by trivial) (fun hHeld => ?_)
    (refine WG.take (i := 0) (v := ?_) rfl (by kernel_rfl) (by kernel_rfl) (by kernel_rfl) (by kernel_rfl) (fun _ _ _ h => h) (Or.inl ⟨by rfl, ?_⟩) (by assumption) ?_; rotate_left; (intro w hSw; (try dsimp only at hSw); go_split_ands; go_simp; (try with_reducible rfl)); (try simp only [Act.put, List.setIfInBounds_toArray, List.set_cons_zero, List.set_cons_succ]))
    (refine WG.take (i := 1) (v := ?_) rfl (by kernel_rfl) (by kernel_rfl) (by kernel_rfl) (by kernel_rfl) (fun _ _ _ h => h) (Or.inl ⟨by rfl, ?_⟩) (by assumption) ?_; rotate_left; (intro w hSw; (try dsimp only at hSw); go_split_ands; go_simp; (try with_reducible rfl)); (try simp only [Act.put, List.setIfInBounds_toArray, List.set_cons_zero, List.set_cons_succ]))
    (refine WG.take (i := 3) (v := ?_) rfl (by kernel_rfl) (by kernel_rfl) (by kernel_rfl) (by kernel_rfl) (fun _ _ _ h => h) (Or.inl ⟨by rfl, ?_⟩) (by assumption) ?_; rotate_left; (intro w hSw; (try dsimp only at hSw); go_split_ands; go_simp; (try with_reducible rfl)); (try simp only [Act.put, List.setIfInBounds_toArray, List.set_cons_zero, List.set_cons_succ]))
    refine WG.two (i := 2) (j := 4) rfl rfl (by kernel_rfl) (fun K hK => ?_) (fun K hK => ?_)
    · go_simp
      refine hK.out _ _ trivial (fun hHeld => ?_)
      clear hK K
      (try simp only [Act.put, List.setIfInBounds_toArray, List.set_cons_zero, List.set_cons_succ])
      obtain ⟨w4, hw4⟩ : ∃ x, x = (w3.alloc (.cells #[.int .i64 (-1), .int .i64 20, .int .i64 21] 3)).drew := ⟨_, rfl⟩
      have hE4 : Ext w3 w4 := by rw [hw4]; exact Below.drew (Ext.alloc _ _)
      have HL4 : Hid (OI w4 w3.heap.size (.slice (some ⟨w3.heap.size, 0, none⟩) 3 3) [-1, 20, 21]) := hid (by rw [hw4]; exact (OI.lit w3 [-1, 20, 21] (by simp) w3.heap.size (Nat.le_refl _)).ext EI.ok (Below.drew (Ext.refl _)))
      rw [← hw4]
      clear hw4 hHeld
      have HD4 := hid (HD3.out.ext hE4)
      have HR4 := hid (RI.ext HR3.out hE4)
      have HB4 := hid (RB.ext HB3.out hE4)
      obtain ⟨LB, hLB⟩ : ∃ x, x = w3.heap.size := ⟨_, rfl⟩
      rw [← hLB] at HL4 ⊢
      clear hLB hE4
      have hHeld : True := trivial
      refine WG.one (i := 4) rfl (by kernel_rfl) (fun K hK => ?_)
      go_simp; obtain ⟨hg, pp, hpp, hr⟩ := HD4.out; refine (dPick b bv bs' pp _ _ hr (by omega) (by omega)).mono ?_; rintro e5 w5 ⟨x5, rfl, hx, hg5, hr5⟩; have hx5 := pick_lt hx (by decide); have HD5 := hid (DrawR.more HD4.out hg5 hr5 hpp); have HL5 := hid (Own.same EI.ok HL4.out (hg5.same hr _ notRd)); have HR5 := hid (RI.same HR4.out (hg5.same hr _ (by rintro t rfl; decide))); have HB5 := hid (RB.same HB4.out (hg5.same hr _ notBTI)); clear hg hpp hr hx hg5 hr5; (try dsimp only)
      refine hK.out _ _ (by trivial) (fun hHeld => ?_)
      clear hK K
      (try simp only [Act.put, List.setIfInBounds_toArray, List.set_cons_zero, List.set_cons_succ])
      obtain ⟨y5, hy5, hyb⟩ := three_at (x := x5) (by omega)
      obtain ⟨cl5, _, _⟩ := OI.at_ HL5.out hy5
      have KS := hid cl5
      clear cl5
      refine WG.strong (fun w' => w'.cell? ⟨LB, x5, none⟩ = some (.int .i64 y5)) (fun _ _ => trivial) KS.out (fun hHeld => ?_)
      (refine WG.take (i := 5) (v := ?_) rfl (by kernel_rfl) (by kernel_rfl) (by kernel_rfl) (by kernel_rfl) (fun _ _ _ h => h) (Or.inl ⟨by rfl, ?_⟩) (by assumption) ?_; rotate_left; (intro w hSw; (try dsimp only at hSw); go_split_ands; go_simp; (try with_reducible rfl)); (try simp only [Act.put, List.setIfInBounds_toArray, List.set_cons_zero, List.set_cons_succ]))
      (refine WG.take (i := 6) (v := ?_) rfl (by kernel_rfl) (by kernel_rfl) (by kernel_rfl) (by kernel_rfl) (fun _ _ _ h => h) (Or.inl ⟨by rfl, ?_⟩) (by assumption) ?_; rotate_left; (intro w hSw; (try dsimp only at hSw); go_split_ands; go_simp; (try with_reducible rfl)); (try simp only [Act.put, List.setIfInBounds_toArray, List.set_cons_zero, List.set_cons_succ]))
      refine WG.one (i := 7) rfl (by kernel_rfl) (fun K hK => ?_)
      go_simp
      refine hK.out _ _ (by exact KS.out) (fun hHeld => ?_)
      clear hK K
      (try simp only [Act.put, List.setIfInBounds_toArray, List.set_cons_zero, List.set_cons_succ])
      refine WG.one (i := 8) rfl (by kernel_rfl) (fun K hK => ?_)
      go_simp
      refine hK.out _ _ (by exact KS.out) (fun hHeld => ?_)
      clear hK K
      (try simp only [Act.put, List.setIfInBounds_toArray, List.set_cons_zero, List.set_cons_succ])
      refine WG.last (i := 9) rfl (by kernel_rfl) (by kernel_rfl) (fun K hK => ?_)
      go_simp
      refine hK.out _ _ ?_
      clear hK K
      (try simp only [Act.put, List.setIfInBounds_toArray, List.set_cons_zero, List.set_cons_succ])
      refine WG.done (by kernel_rfl) ?_
      go_wp2
      refine bodyPost_ret (results_tmp3 rfl _ _ _) rfl ?_
      exact ⟨_, _, room, Bs, y5, rfl, HR5.out, HB5.out, HBL.out, HFL.out, HG2.out, by omega, Below.trans HE1.out (HD5.out.1.below (H := w.heap.size) hbw HE1.out.size)⟩
    · go_simp
      have HDX := hid (HD3.out.ext (Below.drew (Ext.refl w3)))
      obtain ⟨hg, pp, hpp, hr⟩ := HDX.out
      refine (dPick b bv bs' pp _ _ hr (by omega) (by omega)).mono ?_
      rintro e4 w4 ⟨x5, rfl, hx, hg5, hr5⟩
      have hx5 := pick_lt hx (by decide)
      have HD4 := hid (DrawR.more HDX.out hg5 hr5 hpp)
      have HR4 := hid (RI.same (RI.ext HR3.out (Below.drew (Ext.refl w3))) (hg5.same hr _ (by rintro t rfl; decide)))
      have HB4 := hid (RB.same (RB.ext HB3.out (Below.drew (Ext.refl w3))) (hg5.same hr _ notBTI))
      clear hg hpp hr hx hg5 hr5
      (try dsimp only)
      refine hK.out _ _ trivial (fun hHeld => ?_)
      clear hK K
      (try simp only [Act.put, List.setIfInBounds_toArray, List.set_cons_zero, List.set_cons_succ])
      (refine WG.take (i := 7) (v := ?_) rfl (by kernel_rfl) (by kernel_rfl) (by kernel_rfl) (by kernel_rfl) (fun _ _ _ h => h) (Or.inl ⟨by rfl, ?_⟩) (by assumption) ?_; rotate_left; (intro w hSw; (try dsimp only at hSw); go_split_ands; go_simp; (try with_reducible rfl)); (try simp only [Act.put, List.setIfInBounds_toArray, List.set_cons_zero, List.set_cons_succ]))
      (refine WG.take (i := 8) (v := ?_) rfl (by kernel_rfl) (by kernel_rfl) (by kernel_rfl) (by kernel_rfl) (fun _ _ _ h => h) (Or.inl ⟨by rfl, ?_⟩) (by assumption) ?_; rotate_left; (intro w hSw; (try dsimp only at hSw); go_split_ands; go_simp; (try with_reducible rfl)); (try simp only [Act.put, List.setIfInBounds_toArray, List.set_cons_zero, List.set_cons_succ]))
      refine WG.one (i := 2) rfl (by kernel_rfl) (fun K hK => ?_)
      go_simp
      refine hK.out _ _ (by trivial) (fun hHeld => ?_)
      clear hK K
      (try simp only [Act.put, List.setIfInBounds_toArray, List.set_cons_zero, List.set_cons_succ])
      obtain ⟨y5, hy5, hyb⟩ := three_at (x := x5) (by omega)
      obtain ⟨w5, hw5⟩ : ∃ x, x = w4.alloc (.cells #[.int .i64 (-1), .int .i64 20, .int .i64 21] 3) := ⟨_, rfl⟩
      have hE5 : Ext w4 w5 := by rw [hw5]; exact Ext.alloc _ _
      have HL5 : Hid (OI w5 w4.heap.size (.slice (some ⟨w4.heap.size, 0, none⟩) 3 3) [-1, 20, 21]) := hid (by rw [hw5]; exact OI.lit w4 [-1, 20, 21] (by simp) w4.heap.size (Nat.le_refl _))
      rw [← hw5]
      clear hw5 hHeld
      have HD5 := hid (HD4.out.ext hE5)
      have HR5 := hid (RI.ext HR4.out hE5)
      have HB5 := hid (RB.ext HB4.out hE5)
      obtain ⟨LB, hLB⟩ : ∃ x, x = w4.heap.size := ⟨_, rfl⟩
      rw [← hLB] at HL5 ⊢
      clear hLB hE5
      have hHeld : True := trivial
      obtain ⟨cl5, _, _⟩ := OI.at_ HL5.out hy5
      have KS := hid cl5
      clear cl5
      refine WG.strong (fun w' => w'.cell? ⟨LB, x5, none⟩ = some (.int .i64 y5)) (fun _ _ => trivial) KS.out (fun hHeld => ?_)
      (refine WG.take (i := 5) (v := ?_) rfl (by kernel_rfl) (by kernel_rfl) (by kernel_rfl) (by kernel_rfl) (fun _ _ _ h => h) (Or.inl ⟨by rfl, ?_⟩) (by assumption) ?_; rotate_left; (intro w hSw; (try dsimp only at hSw); go_split_ands; go_simp; (try with_reducible rfl)); (try simp only [Act.put, List.setIfInBounds_toArray, List.set_cons_zero, List.set_cons_succ]))
      (refine WG.take (i := 6) (v := ?_) rfl (by kernel_rfl) (by kernel_rfl) (by kernel_rfl) (by kernel_rfl) (fun _ _ _ h => h) (Or.inl ⟨by rfl, ?_⟩) (by assumption) ?_; rotate_left; (intro w hSw; (try dsimp only at hSw); go_split_ands; go_simp; (try with_reducible rfl)); (try simp only [Act.put, List.setIfInBounds_toArray, List.set_cons_zero, List.set_cons_succ]))
      refine WG.last (i := 9) rfl (by kernel_rfl) (by kernel_rfl) (fun K hK => ?_)
      go_simp
      refine hK.out _ _ ?_
      clear hK K
      (try simp only [Act.put, List.setIfInBounds_toArray, List.set_cons_zero, List.set_cons_succ])
      refine WG.done (by kernel_rfl) ?_
      go_wp2
      refine bodyPost_ret (results_tmp3 rfl _ _ _) rfl ?_
      exact ⟨_, _, room, Bs, y5, rfl, HR5.out, HB5.out, HBL.out, HFL.out, HG2.out, by omega, Below.trans HE1.out (HD5.out.1.below (H := w.heap.size) hbw HE1.out.size)⟩
  · refine bodyPost_ret (results_tmp3 rfl _ _ _) rfl ?_
    exact ⟨_, _, room, Bs, (x4 : Int), rfl, HR4.out, HB4.out, HBL.out, HFL.out, HG2.out, by omega, Below.trans HE1.out (HD4.out.1.below (H := w.heap.size) hbw HE1.out.size)⟩

end Go.Proofs.YtibpijjigopdjaaDoor

/- Moves one after the other are drawn. -/
namespace Go.Proofs.YtibpijjigopdjaaDoor
open Go.RowKit
set_option maxRecDepth 4000

theorem notMvRd : ∀ t, (t = 32 ∨ False) → t ≠ 101 := by rintro t (rfl | h) <;> first | decide | exact h.elim
/-- nodes that are small, their tasks in reach -/
def SmallN (Bs : List (List TaskD)) : Prop := Bs.length ≤ 10 ∧ Bs.flatten.length ≤ 30 ∧ ∀ t ∈ Bs.flatten, GoodT t
theorem moveDo_small {room : List Int} {cur : List (List TaskD)} {m : MoveD} {R : List (List TaskD) × Bool} (hR : R = moveDo room cur m) (h : SmallN cur) (hk : R.2 = true) : SmallN R.1 := by
  unfold moveDo at hR
  split at hR
  · rename_i hc
    subst hR
    simp only [Bool.and_eq_true] at hc
    obtain ⟨f, t, k, b, c, x, hp⟩ := can_parts (bins_once hc.1) hc.2
    exact ⟨by show (doMove cur m).length ≤ 10; rw [hp.len]; exact h.1, by show (doMove cur m).flatten.length ≤ 30; rw [hp.perm.length_eq]; exact h.2.1, fun t ht => h.2.2 t (hp.perm.mem_iff.1 ht)⟩
  · subst hR
    cases hk
def DrawnMs (w : World) (e : Ending) (w' : World) : Prop := ∃ (rv nv lv : Value) (room : List Int) (Bs : List (List TaskD)) (ms : List MoveD), e = .returned (.tuple #[rv, nv, lv]) ∧ RI w' rv room ∧ RB w' nv Bs ∧ SmallN Bs ∧ RM w' lv ms ∧ ms.length ≤ 21 ∧ (∀ m ∈ ms, IdR m.id ∧ -1 ≤ m.to ∧ m.to ≤ 100) ∧ Ext w w'

set_option maxHeartbeats 16000000 in
theorem dDrawMovesDo (v : Value) (bs : List Int) (w : World) (h : XBy w v bs) (hl : bs.length ≤ 4000000) :
    Calls Tryd.prog 42 #[v] w (DrawnMs w) := by
  obtain ⟨i0_move, hi0_move, hz0_move, hz1_move, hz2_move⟩ := info_parts info_move
  go_enter Tryd.func42, Tryd.ntmps42
  go_wp2_with (first
    | (go_at_call 51; have _t := HD4; obtain ⟨hg, pp, hpp, hr⟩ := HD4.out; refine (dPick b bv bs' pp _ _ hr (by omega) (by omega)).mono ?_; rintro e w5 ⟨x5, rfl, hx, hg3, hr3⟩; have hx5 := pick_lt hx (by decide); have HD5 := hid (DrawR.more HD4.out hg3 hr3 hpp); have HR5 := hid (RI.same HR4.out (hg3.same hr _ (by rintro t rfl; decide))); have HB5 := hid (RB.same HB4.out (hg3.same hr _ notBTI)); have HM5 := hid (Own.same EM.ok HM4.out (hg3.same hr _ notMvRd)); clear hg hpp hr hx hg3 hr3)
    | (go_at_call 51; obtain ⟨hg, pp, hpp, hr⟩ := HD3.out; refine (dPick b bv bs' pp _ _ hr (by omega) (by omega)).mono ?_; rintro e w4 ⟨x4, rfl, hx, hg3, hr3⟩; have hx4 := pick_lt hx (by decide); have HD4 := hid (DrawR.more HD3.out hg3 hr3 hpp); have HR4 := hid (RI.same HR3.out (hg3.same hr _ (by rintro t rfl; decide))); have HB4 := hid (RB.same HB3.out (hg3.same hr _ notBTI)); have HM4 := hid (Own.same EM.ok HM3.out (hg3.same hr _ notMvRd)); clear hg hpp hr hx hg3 hr3)
    | (go_at_call 51; obtain ⟨hg, pp, hpp, hr⟩ := HD2.out; refine (dPick b bv bs' pp _ _ hr (by omega) (by omega)).mono ?_; rintro e w3 ⟨x3, rfl, hx, hg3, hr3⟩; have hx3 := pick_lt hx (by decide); have HD3 := hid (DrawR.more HD2.out hg3 hr3 hpp); have HR3 := hid (RI.same HR2.out (hg3.same hr _ (by rintro t rfl; decide))); have HB3 := hid (RB.same HB2.out (hg3.same hr _ notBTI)); have HM3 := hid (Own.same EM.ok HM2.out (hg3.same hr _ notMvRd)); clear hg hpp hr hx hg3 hr3)
    | (go_at_call 50; refine (dBins b bv bs' 0 _ HR1.out (by omega)).mono ?_; rintro e w2 ⟨rv, nv, room, Bs, rfl, hR2, hB2, hl2, hf2, hg2, hd2⟩; have HR2 := hid hR2; have HB2 := hid hB2; obtain ⟨Ar, cr, rfl, _⟩ := hR2; obtain ⟨A2, c2, rfl, _⟩ := hB2; have HBL := hid hl2; have HFL := hid hf2; have HG2 := hid hg2; have HD2 := hid (hd2.ext (Ext.alloc w2 (.cells #[] 32))); have HR2 := hid (RI.ext HR2.out (Ext.alloc w2 (.cells #[] 32))); have HB2 := hid (RB.ext HB2.out (Ext.alloc w2 (.cells #[] 32))); have HM2 : Hid (OM (w2.alloc (.cells #[] 32)) w1.heap.size (.slice (some ⟨w2.heap.size, 0, none⟩) 0 0) []) := hid (Own.made #[] 0 hd2.1.size (by omega) rfl); clear hf2 hg2 hd2 hl2)
    | (go_at_call 49; refine (dOpen _ bs _ h hl).mono ?_; rintro e w1 ⟨rfl, ⟨bv, bs', hr1⟩, hE1⟩; have HR1 := hid hr1; have HE1 := hid hE1; obtain ⟨b, hb⟩ : ∃ b, b = w.heap.size := ⟨_, rfl⟩; rw [← hb] at HR1 ⊢; have hbw : w.heap.size ≤ b := (by rw [hb]; exact Nat.le_refl _); have hb1 : b < w1.heap.size := HR1.out.low.1; clear hb hr1 hE1))
  · obtain ⟨N, hN⟩ : ∃ N : Nat, N = 20 + x5 := ⟨_, rfl⟩
    have hN2 : (20 : Int) + (x5 : Int) = (N : Int) := by omega
    have hN21 : N ≤ 21 := by omega
    rw [hN2]
    clear hN hN2
    have HR0 := HR5
    have HB0 := HB5
    have HLO := hid HR1.out.low
    have HS0 : Hid (SmallN Bs) := hid ⟨HBL.out, HFL.out, HG2.out⟩
    go_loopw [8, 9, 11] (fun o nw i wr => ∃ (u nv : Value) (k : Nat) (ms : List MoveD) (cur : List (List TaskD)), u = o ∧ nv = nw ∧ k ≤ N ∧ i = .int .i64 k ∧ Hid (OM wr w1.heap.size u ms ∧ ms.length = k ∧ (∀ m ∈ ms, IdR m.id ∧ -1 ≤ m.to ∧ m.to ≤ 100) ∧ RB wr nv cur ∧ SmallN cur ∧ SameT (fun t => t = 41 ∨ t = 44 ∨ t = 3) w5 wr ∧ DrawR w1 b bv bs' 0 (400 + 10 * k) wr)) (fun _ _ i _ => N - (intOf i).toNat)
    case atStart => exact ⟨_, _, 0, [], Bs, rfl, rfl, Nat.zero_le _, rfl, hid ⟨HM5.out, rfl, fun m hm => by simp at hm, HB5.out, HS0.out, SameT.refl _ _, HD5.out.mono (by omega)⟩⟩
    case round =>
      obtain ⟨u, nv, k, ms, cur, rfl, rfl, hk, rfl, H⟩ := hrel
      have HOc := hid H.out.1
      have HML := hid H.out.2.1
      have HMS := hid H.out.2.2.1
      have HBc := hid H.out.2.2.2.1
      have HCS := hid H.out.2.2.2.2.1
      have HSc := hid H.out.2.2.2.2.2.1
      have HDc := hid H.out.2.2.2.2.2.2
      have HOL : Hid (∀ q, u.ownBlock = some q → q < wr.heap.size) := hid (fun q hq => (Own.lt H.out.1 q hq).2)
      have HW1 : Hid (w1.heap.size ≤ wr.heap.size) := hid HDc.out.1.size
      have HMB : Hid (ms.length ≤ 100) := hid (by have := HML.out; omega)
      clear H
      obtain ⟨Au, cu, hu, _, _⟩ := HOc.out.form
      subst hu
      obtain ⟨Ab, cb, hb, _⟩ := HBc.out
      subst hb
      by_cases hlt : k < N
      · have i1 : (k : Int) < (N : Int) := by omega
        have hw1 : w1.heap.size ≤ wr.heap.size := HW1.out
        go_wp2_with (first
          | (at_builtin; refine wpList_append_sl _ (by rfl) _ _ 27 (by rfl) EM.ok EM.flat (w1.heap.size) 32 EM.ne i0_move _ 2 16 Tryd.underlying27 hi0_move hz0_move hz1_move hz2_move rfl (by omega) _ (by rfl) _ (HOc.out) _ (by rfl) _ (RSl.laid (cs := [.int .i64 cid, .int .i64 ctt]) (heap_alloc_new _ _) rfl (EM.mk _ cid ctt)) (by have := HMB.out; simp; omega) (by have := HMB.out; simp; omega) ?_ ?_; (focus (first | exact Nat.le_refl _ | (simp; done) | (simp; omega) | omega)); intro v16 w16 hO hg hat hs; have HO6 := hid hO; have HG6 := hid hg; have HS6 := hid hs; clear hO hg hat hs)
          | (go_at_call 24; refine (sMoveDo _ _ room cur cid ctt _ (RI.same HR0.out (HSc.out.mono (fun t ht => .inr (.inr ht)))) HBc.out (by have := HCS.out.2.1; omega)).mono ?_; obtain ⟨R, hR⟩ : ∃ R, R = moveDo room cur ⟨cid, ctt⟩ := ⟨_, rfl⟩; rw [← hR]; have HRR := hid hR; rintro e w15 ⟨xv, rfl, hX, hE⟩; have HXc := hid hX; have HZc := hid (hE.obj HZc.out); have hx := hE.trans (Ext.alloc w15 (.cells #[.int .i64 cid, .int .i64 ctt] 32)); have HDc := hid (HDc.out.ext hx); have HSc := hid (HSc.out.trans (hx.same (fun t => t = 41 ∨ t = 44 ∨ t = 3))); have HBc := hid (RB.ext HBc.out hx); have HOc := hid (Own.ext EM.ok HOc.out hx); have HXc := hid (RB.ext HXc.out (Ext.alloc w15 (.cells #[.int .i64 cid, .int .i64 ctt] 32))); have c0 := obj_cell HZc.out (i := 0) rfl; have c1 := obj_cell HZc.out (i := 1) rfl; have hsz15 : w1.heap.size ≤ w15.heap.size := Nat.le_trans HW1.out (Nat.le_trans HWR.out (Nat.le_trans (by have := obj_lt HZc.out; omega) (Nat.le_refl _))); clear hX hE hx hR)
          | (go_at_call 51; have _t := TOK8; obtain ⟨hg, pp, hpp, hr⟩ := HDc.out; refine (dPick b bv bs' pp _ _ hr (by omega) (by omega)).mono ?_; rintro e w14 ⟨x14, rfl, hx, hg3, hr3⟩; have hx14 := pick_lt hx (by omega); have HDc := hid (DrawR.more HDc.out hg3 hr3 hpp); have HZc := hid (hg3.obj HZc.out (by have := HWR.out; omega)); have HSc := hid (HSc.out.trans (hg3.same hr _ notBTI)); have HBc := hid (RB.same HBc.out (hg3.same hr _ notBTI)); have HOc := hid (Own.same EM.ok HOc.out (hg3.same hr _ notMvRd)); have HLc := hid (RM.same HLc.out (hg3.same hr _ notMoveRd)); have c0 := obj_cell HZc.out (i := 0) rfl; have c1 := obj_cell HZc.out (i := 1) rfl; have hx14l : x14 < ls.length := (by omega); obtain ⟨A', c', hv', _, _, hgm⟩ := RM.get HLc.out; injection hv' with e1 _ e3; subst e1 e3; obtain ⟨lb, lo, m, rfl, em, cm0, cm1⟩ := hgm x14 hx14l; have HMM := hid (movesOf_mem (room := room) (bs := cur) (m := m) (by rw [← HLS.out]; exact List.mem_of_getElem? em.out)); obtain ⟨cid, ctt⟩ := m; have i14 : (x14 : Int) < (ls.length : Int) := (by omega); obtain ⟨y0, y1, y0f, y1f, k1, k1f, hkk, hsm⟩ := box2 HZc.out (.int .i64 cid) (.int .i64 ctt); have HCI : Hid (IdR cid ∧ -1 ≤ ctt ∧ ctt ≤ 100) := hid (by obtain ⟨⟨y, hy, hyi⟩, h3, h4⟩ := HMM.out; have h5 := (HCS.out.2.2 y hy).2.2; rw [← hyi] at h5; have h6 := HCS.out.1; simp only at h3 h4; exact ⟨h5, by omega, by omega⟩); have HDc := hid ((HDc.out.stored (g := w11.heap.size) (i := 0) (by have := HWR.out; omega) HLO.out.1 HLO.out.2 (.int .i64 cid)).stored (g := w11.heap.size) (i := 1) (by have := HWR.out; omega) HLO.out.1 HLO.out.2 (.int .i64 ctt)); have HOc := hid (Own.far (w' := (w14.setCell ⟨w11.heap.size, 0, none⟩ (.int .i64 cid)).setCell ⟨w11.heap.size, 1, none⟩ (.int .i64 ctt)) HOc.out (fun q hq => by have h5 : q ≠ w11.heap.size := (by have := HOL.out q hq; have := HWR.out; omega); exact (Below.heap_setCell (w14.setCell ⟨w11.heap.size, 0, none⟩ (.int .i64 cid)) ⟨w11.heap.size, 1, none⟩ (.int .i64 ctt) q h5).trans (Below.heap_setCell w14 ⟨w11.heap.size, 0, none⟩ (.int .i64 cid) q h5)) (fun _ _ _ he => he)); have HSc := hid (HSc.out.trans (hsm _ notMove)); have HBc := hid (RB.same HBc.out (hsm _ notMove)); have HZc := hid hkk; have c0 := obj_cell hkk (i := 0) rfl; have c1 := obj_cell hkk (i := 1) rfl; clear hkk hsm hgm; clear hg hpp hr hx hg3 hr3)
          | (go_at_call 51; obtain ⟨hg, pp, hpp, hr⟩ := HDc.out; refine (dPick b bv bs' pp _ _ hr (by omega) (by omega)).mono ?_; rintro e w13 ⟨x13, rfl, hx, hg3, hr3⟩; have hx13 := pick_lt hx (by omega); have HDc := hid (DrawR.more HDc.out hg3 hr3 hpp); have HZc := hid (hg3.obj HZc.out (by have := HWR.out; omega)); have HSc := hid (HSc.out.trans (hg3.same hr _ notBTI)); have HBc := hid (RB.same HBc.out (hg3.same hr _ notBTI)); have HOc := hid (Own.same EM.ok HOc.out (hg3.same hr _ notMvRd)); have HLc := hid (RM.same HLc.out (hg3.same hr _ notMoveRd)); have c0 := obj_cell HZc.out (i := 0) rfl; have c1 := obj_cell HZc.out (i := 1) rfl; have TOK8 : Hid True := hid trivial; clear hg hpp hr hx hg3 hr3)
          | (go_at_call 63; refine (sMovesOf _ _ room cur _ (RI.same HR0.out (HSc.out.mono (fun t ht => .inr (.inr ht)))) HBc.out (by have := HCS.out.2.1; omega)).mono ?_; rintro e w12 ⟨lv, rfl, hL, hE⟩; obtain ⟨ls, hls⟩ : ∃ ls, ls = movesOf room cur := ⟨_, rfl⟩; rw [← hls] at hL; have HLS := hid hls; have hll : ls.length ≤ 200 := (by rw [hls]; exact movesOf_len _ _); have HLc := hid hL; obtain ⟨Al, cl, rfl, _⟩ := hL; have HZc := hid (hE.obj HZc.out); have HDc := hid (HDc.out.ext hE); have HSc := hid (HSc.out.trans (hE.same (fun t => t = 41 ∨ t = 44 ∨ t = 3))); have HBc := hid (RB.ext HBc.out hE); have HOc := hid (Own.ext EM.ok HOc.out hE); have c0 := obj_cell HZc.out (i := 0) rfl; have c1 := obj_cell HZc.out (i := 1) rfl; clear hE hls)
          | (go_at_call 64; obtain ⟨hg, pp, hpp, hr⟩ := HDc.out; refine (dMove b bv bs' pp _ cur _ hr (by omega) HBc.out (by have := HCS.out.1; omega) (by have := HCS.out.2.1; omega) HCS.out.2.2).mono ?_; rintro e w11 ⟨cid, ctt, rfl, hci, hct, hd⟩; have hx := Ext.alloc w11 (.cells #[.int .i64 cid, .int .i64 ctt] 32); have HCI : Hid (IdR cid ∧ -1 ≤ ctt ∧ ctt ≤ 100) := hid ⟨hci, hct⟩; have HWR : Hid (wr.heap.size ≤ w11.heap.size) := hid hd.1.size; have HZc := hid (heap_alloc_new w11 (.cells #[.int .i64 cid, .int .i64 ctt] 32)); have HDc := hid ((DrawR.then hg hpp hd).ext hx); have HSc := hid ((HSc.out.trans (hd.1.same hr _ notBTI)).trans (hx.same (fun t => t = 41 ∨ t = 44 ∨ t = 3))); have HBc := hid (RB.ext (RB.same HBc.out (hd.1.same hr _ notBTI)) hx); have HOc := hid (Own.ext EM.ok (Own.same EM.ok HOc.out (hd.1.same hr _ notMvRd)) hx); have c0 := obj_cell HZc.out (i := 0) rfl; have c1 := obj_cell HZc.out (i := 1) rfl; clear hg hpp hr hd hci hct hx))
        all_goals (go_ways; go_roundw)
        all_goals first
          | (simp only [intOf]; omega)
          | (exact ⟨_, _, k + 1, ms ++ [⟨cid, ctt⟩], R.1, rfl, rfl, by omega, by go_num, hid ⟨HO6.out, by rw [List.length_append, HML.out]; rfl, fun m hm => by rcases List.mem_append.1 hm with hm | hm; exact HMS.out m hm; rw [List.mem_singleton.1 hm]; exact HCI.out, RB.same HXc.out (HS6.out.mono notMove), moveDo_small HRR.out HCS.out (by assumption), HSc.out.trans (HS6.out.mono notMove), (DrawR.low2 HDc.out HLO.out.1 HLO.out.2 HG6.out (fun q hq => by have h3 := Own.lt HOc.out q hq; exact h3)).mono (by omega)⟩⟩)
          | (exact ⟨_, _, k + 1, ms ++ [⟨cid, ctt⟩], cur, rfl, rfl, by omega, by go_num, hid ⟨HO6.out, by rw [List.length_append, HML.out]; rfl, fun m hm => by rcases List.mem_append.1 hm with hm | hm; exact HMS.out m hm; rw [List.mem_singleton.1 hm]; exact HCI.out, RB.same HBc.out (HS6.out.mono notMove), HCS.out, HSc.out.trans (HS6.out.mono notMove), (DrawR.low2 HDc.out HLO.out.1 HLO.out.2 HG6.out (fun q hq => by have h3 := Own.lt HOc.out q hq; exact h3)).mono (by omega)⟩⟩)
      · go_wp2
        refine bodyPost_ret (results_tmp3 rfl _ _ _) rfl ?_
        exact ⟨_, _, _, room, Bs, ms, rfl, RI.same HR0.out (HSc.out.mono (fun t ht => .inr (.inr ht))), RB.same HB0.out HSc.out, HS0.out, HOc.out.read, by have := HML.out; omega, HMS.out, Below.trans HE1.out (HDc.out.1.below (H := w.heap.size) hbw HE1.out.size)⟩
  · have hN21 : x3 ≤ 21 := by omega
    have hf4 : ((x4 : Int) == 0) = false := by first | assumption | (have h3 : ¬ ((x4 : Int) == 0) = true := (by assumption); simpa using h3) | (have h3 : ¬ (x4 : Int) = 0 := (by assumption); simpa using h3) | (have h3 : ¬ x4 = 0 := (by assumption); simpa using h3)
    rw [hf4]
    clear hf4
    have HR0 := HR4
    have HB0 := HB4
    have HLO := hid HR1.out.low
    have HS0 : Hid (SmallN Bs) := hid ⟨HBL.out, HFL.out, HG2.out⟩
    go_loopw [8, 9, 11] (fun o nw i wr => ∃ (u nv : Value) (k : Nat) (ms : List MoveD) (cur : List (List TaskD)), u = o ∧ nv = nw ∧ k ≤ x3 ∧ i = .int .i64 k ∧ Hid (OM wr w1.heap.size u ms ∧ ms.length = k ∧ (∀ m ∈ ms, IdR m.id ∧ -1 ≤ m.to ∧ m.to ≤ 100) ∧ RB wr nv cur ∧ SmallN cur ∧ SameT (fun t => t = 41 ∨ t = 44 ∨ t = 3) w4 wr ∧ DrawR w1 b bv bs' 0 (400 + 10 * k) wr)) (fun _ _ i _ => x3 - (intOf i).toNat)
    case atStart => exact ⟨_, _, 0, [], Bs, rfl, rfl, Nat.zero_le _, rfl, hid ⟨HM4.out, rfl, fun m hm => by simp at hm, HB4.out, HS0.out, SameT.refl _ _, HD4.out.mono (by omega)⟩⟩
    case round =>
      obtain ⟨u, nv, k, ms, cur, rfl, rfl, hk, rfl, H⟩ := hrel
      have HOc := hid H.out.1
      have HML := hid H.out.2.1
      have HMS := hid H.out.2.2.1
      have HBc := hid H.out.2.2.2.1
      have HCS := hid H.out.2.2.2.2.1
      have HSc := hid H.out.2.2.2.2.2.1
      have HDc := hid H.out.2.2.2.2.2.2
      have HOL : Hid (∀ q, u.ownBlock = some q → q < wr.heap.size) := hid (fun q hq => (Own.lt H.out.1 q hq).2)
      have HW1 : Hid (w1.heap.size ≤ wr.heap.size) := hid HDc.out.1.size
      have HMB : Hid (ms.length ≤ 100) := hid (by have := HML.out; omega)
      clear H
      obtain ⟨Au, cu, hu, _, _⟩ := HOc.out.form
      subst hu
      obtain ⟨Ab, cb, hb, _⟩ := HBc.out
      subst hb
      by_cases hlt : k < x3
      · have i1 : (k : Int) < (x3 : Int) := by omega
        have hw1 : w1.heap.size ≤ wr.heap.size := HW1.out
        go_wp2_with (first
          | (at_builtin; refine wpList_append_sl _ (by rfl) _ _ 27 (by rfl) EM.ok EM.flat (w1.heap.size) 32 EM.ne i0_move _ 2 16 Tryd.underlying27 hi0_move hz0_move hz1_move hz2_move rfl (by omega) _ (by rfl) _ (HOc.out) _ (by rfl) _ (RSl.laid (cs := [.int .i64 cid, .int .i64 ctt]) (heap_alloc_new _ _) rfl (EM.mk _ cid ctt)) (by have := HMB.out; simp; omega) (by have := HMB.out; simp; omega) ?_ ?_; (focus (first | exact Nat.le_refl _ | (simp; done) | (simp; omega) | omega)); intro v16 w16 hO hg hat hs; have HO6 := hid hO; have HG6 := hid hg; have HS6 := hid hs; clear hO hg hat hs)
          | (go_at_call 24; refine (sMoveDo _ _ room cur cid ctt _ (RI.same HR0.out (HSc.out.mono (fun t ht => .inr (.inr ht)))) HBc.out (by have := HCS.out.2.1; omega)).mono ?_; obtain ⟨R, hR⟩ : ∃ R, R = moveDo room cur ⟨cid, ctt⟩ := ⟨_, rfl⟩; rw [← hR]; have HRR := hid hR; rintro e w15 ⟨xv, rfl, hX, hE⟩; have HXc := hid hX; have HZc := hid (hE.obj HZc.out); have hx := hE.trans (Ext.alloc w15 (.cells #[.int .i64 cid, .int .i64 ctt] 32)); have HDc := hid (HDc.out.ext hx); have HSc := hid (HSc.out.trans (hx.same (fun t => t = 41 ∨ t = 44 ∨ t = 3))); have HBc := hid (RB.ext HBc.out hx); have HOc := hid (Own.ext EM.ok HOc.out hx); have HXc := hid (RB.ext HXc.out (Ext.alloc w15 (.cells #[.int .i64 cid, .int .i64 ctt] 32))); have c0 := obj_cell HZc.out (i := 0) rfl; have c1 := obj_cell HZc.out (i := 1) rfl; have hsz15 : w1.heap.size ≤ w15.heap.size := Nat.le_trans HW1.out (Nat.le_trans HWR.out (Nat.le_trans (by have := obj_lt HZc.out; omega) (Nat.le_refl _))); clear hX hE hx hR)
          | (go_at_call 51; have _t := TOK8; obtain ⟨hg, pp, hpp, hr⟩ := HDc.out; refine (dPick b bv bs' pp _ _ hr (by omega) (by omega)).mono ?_; rintro e w14 ⟨x14, rfl, hx, hg3, hr3⟩; have hx14 := pick_lt hx (by omega); have HDc := hid (DrawR.more HDc.out hg3 hr3 hpp); have HZc := hid (hg3.obj HZc.out (by have := HWR.out; omega)); have HSc := hid (HSc.out.trans (hg3.same hr _ notBTI)); have HBc := hid (RB.same HBc.out (hg3.same hr _ notBTI)); have HOc := hid (Own.same EM.ok HOc.out (hg3.same hr _ notMvRd)); have HLc := hid (RM.same HLc.out (hg3.same hr _ notMoveRd)); have c0 := obj_cell HZc.out (i := 0) rfl; have c1 := obj_cell HZc.out (i := 1) rfl; have hx14l : x14 < ls.length := (by omega); obtain ⟨A', c', hv', _, _, hgm⟩ := RM.get HLc.out; injection hv' with e1 _ e3; subst e1 e3; obtain ⟨lb, lo, m, rfl, em, cm0, cm1⟩ := hgm x14 hx14l; have HMM := hid (movesOf_mem (room := room) (bs := cur) (m := m) (by rw [← HLS.out]; exact List.mem_of_getElem? em.out)); obtain ⟨cid, ctt⟩ := m; have i14 : (x14 : Int) < (ls.length : Int) := (by omega); obtain ⟨y0, y1, y0f, y1f, k1, k1f, hkk, hsm⟩ := box2 HZc.out (.int .i64 cid) (.int .i64 ctt); have HCI : Hid (IdR cid ∧ -1 ≤ ctt ∧ ctt ≤ 100) := hid (by obtain ⟨⟨y, hy, hyi⟩, h3, h4⟩ := HMM.out; have h5 := (HCS.out.2.2 y hy).2.2; rw [← hyi] at h5; have h6 := HCS.out.1; simp only at h3 h4; exact ⟨h5, by omega, by omega⟩); have HDc := hid ((HDc.out.stored (g := w11.heap.size) (i := 0) (by have := HWR.out; omega) HLO.out.1 HLO.out.2 (.int .i64 cid)).stored (g := w11.heap.size) (i := 1) (by have := HWR.out; omega) HLO.out.1 HLO.out.2 (.int .i64 ctt)); have HOc := hid (Own.far (w' := (w14.setCell ⟨w11.heap.size, 0, none⟩ (.int .i64 cid)).setCell ⟨w11.heap.size, 1, none⟩ (.int .i64 ctt)) HOc.out (fun q hq => by have h5 : q ≠ w11.heap.size := (by have := HOL.out q hq; have := HWR.out; omega); exact (Below.heap_setCell (w14.setCell ⟨w11.heap.size, 0, none⟩ (.int .i64 cid)) ⟨w11.heap.size, 1, none⟩ (.int .i64 ctt) q h5).trans (Below.heap_setCell w14 ⟨w11.heap.size, 0, none⟩ (.int .i64 cid) q h5)) (fun _ _ _ he => he)); have HSc := hid (HSc.out.trans (hsm _ notMove)); have HBc := hid (RB.same HBc.out (hsm _ notMove)); have HZc := hid hkk; have c0 := obj_cell hkk (i := 0) rfl; have c1 := obj_cell hkk (i := 1) rfl; clear hkk hsm hgm; clear hg hpp hr hx hg3 hr3)
          | (go_at_call 51; obtain ⟨hg, pp, hpp, hr⟩ := HDc.out; refine (dPick b bv bs' pp _ _ hr (by omega) (by omega)).mono ?_; rintro e w13 ⟨x13, rfl, hx, hg3, hr3⟩; have hx13 := pick_lt hx (by omega); have HDc := hid (DrawR.more HDc.out hg3 hr3 hpp); have HZc := hid (hg3.obj HZc.out (by have := HWR.out; omega)); have HSc := hid (HSc.out.trans (hg3.same hr _ notBTI)); have HBc := hid (RB.same HBc.out (hg3.same hr _ notBTI)); have HOc := hid (Own.same EM.ok HOc.out (hg3.same hr _ notMvRd)); have HLc := hid (RM.same HLc.out (hg3.same hr _ notMoveRd)); have c0 := obj_cell HZc.out (i := 0) rfl; have c1 := obj_cell HZc.out (i := 1) rfl; have TOK8 : Hid True := hid trivial; clear hg hpp hr hx hg3 hr3)
          | (go_at_call 63; refine (sMovesOf _ _ room cur _ (RI.same HR0.out (HSc.out.mono (fun t ht => .inr (.inr ht)))) HBc.out (by have := HCS.out.2.1; omega)).mono ?_; rintro e w12 ⟨lv, rfl, hL, hE⟩; obtain ⟨ls, hls⟩ : ∃ ls, ls = movesOf room cur := ⟨_, rfl⟩; rw [← hls] at hL; have HLS := hid hls; have hll : ls.length ≤ 200 := (by rw [hls]; exact movesOf_len _ _); have HLc := hid hL; obtain ⟨Al, cl, rfl, _⟩ := hL; have HZc := hid (hE.obj HZc.out); have HDc := hid (HDc.out.ext hE); have HSc := hid (HSc.out.trans (hE.same (fun t => t = 41 ∨ t = 44 ∨ t = 3))); have HBc := hid (RB.ext HBc.out hE); have HOc := hid (Own.ext EM.ok HOc.out hE); have c0 := obj_cell HZc.out (i := 0) rfl; have c1 := obj_cell HZc.out (i := 1) rfl; clear hE hls)
          | (go_at_call 64; obtain ⟨hg, pp, hpp, hr⟩ := HDc.out; refine (dMove b bv bs' pp _ cur _ hr (by omega) HBc.out (by have := HCS.out.1; omega) (by have := HCS.out.2.1; omega) HCS.out.2.2).mono ?_; rintro e w11 ⟨cid, ctt, rfl, hci, hct, hd⟩; have hx := Ext.alloc w11 (.cells #[.int .i64 cid, .int .i64 ctt] 32); have HCI : Hid (IdR cid ∧ -1 ≤ ctt ∧ ctt ≤ 100) := hid ⟨hci, hct⟩; have HWR : Hid (wr.heap.size ≤ w11.heap.size) := hid hd.1.size; have HZc := hid (heap_alloc_new w11 (.cells #[.int .i64 cid, .int .i64 ctt] 32)); have HDc := hid ((DrawR.then hg hpp hd).ext hx); have HSc := hid ((HSc.out.trans (hd.1.same hr _ notBTI)).trans (hx.same (fun t => t = 41 ∨ t = 44 ∨ t = 3))); have HBc := hid (RB.ext (RB.same HBc.out (hd.1.same hr _ notBTI)) hx); have HOc := hid (Own.ext EM.ok (Own.same EM.ok HOc.out (hd.1.same hr _ notMvRd)) hx); have c0 := obj_cell HZc.out (i := 0) rfl; have c1 := obj_cell HZc.out (i := 1) rfl; clear hg hpp hr hd hci hct hx))
        all_goals (go_ways; go_roundw)
        all_goals first
          | (simp only [intOf]; omega)
          | (exact ⟨_, _, k + 1, ms ++ [⟨cid, ctt⟩], R.1, rfl, rfl, by omega, by go_num, hid ⟨HO6.out, by rw [List.length_append, HML.out]; rfl, fun m hm => by rcases List.mem_append.1 hm with hm | hm; exact HMS.out m hm; rw [List.mem_singleton.1 hm]; exact HCI.out, RB.same HXc.out (HS6.out.mono notMove), moveDo_small HRR.out HCS.out (by assumption), HSc.out.trans (HS6.out.mono notMove), (DrawR.low2 HDc.out HLO.out.1 HLO.out.2 HG6.out (fun q hq => by have h3 := Own.lt HOc.out q hq; exact h3)).mono (by omega)⟩⟩)
          | (exact ⟨_, _, k + 1, ms ++ [⟨cid, ctt⟩], cur, rfl, rfl, by omega, by go_num, hid ⟨HO6.out, by rw [List.length_append, HML.out]; rfl, fun m hm => by rcases List.mem_append.1 hm with hm | hm; exact HMS.out m hm; rw [List.mem_singleton.1 hm]; exact HCI.out, RB.same HBc.out (HS6.out.mono notMove), HCS.out, HSc.out.trans (HS6.out.mono notMove), (DrawR.low2 HDc.out HLO.out.1 HLO.out.2 HG6.out (fun q hq => by have h3 := Own.lt HOc.out q hq; exact h3)).mono (by omega)⟩⟩)
      · go_wp2
        refine bodyPost_ret (results_tmp3 rfl _ _ _) rfl ?_
        exact ⟨_, _, _, room, Bs, ms, rfl, RI.same HR0.out (HSc.out.mono (fun t ht => .inr (.inr ht))), RB.same HB0.out HSc.out, HS0.out, HOc.out.read, by have := HML.out; omega, HMS.out, Below.trans HE1.out (HDc.out.1.below (H := w.heap.size) hbw HE1.out.size)⟩

end Go.Proofs.YtibpijjigopdjaaDoor

/- What the laws on moves need of nodes. -/
namespace Go.Proofs.YtibpijjigopdjaaDoor
open Go.RowKit
set_option maxRecDepth 4000

theorem bins_id {room : List Int} {bs : List (List TaskD)} (h : binsOk room bs = true) : ∀ t ∈ bs.flatten, IdR t.id := by
  obtain ⟨_, _, h3, _⟩ := (tasksOk_iff _ _).1 (binsOk_tk h)
  intro t ht
  have h4 := (h3 t ht).1
  simp only [inB, Bool.and_eq_true, decide_eq_true_eq] at h4
  exact ⟨by omega, by omega⟩
theorem bins_fl {room : List Int} {bs : List (List TaskD)} (h : binsOk room bs = true) : bs.flatten.length ≤ 4000000 := (bins_rows h).2.1
theorem movesDo_neg {room : List Int} {bs : List (List TaskD)} {ms : List MoveD} {R : List (List TaskD) × Int} (hR : R = movesDo room bs ms) (h : ¬ R.2 < 0) : binsOk room bs = true ∧ ms.length ≤ 20 ∧ R = ((movesRun room bs ms).1, ((movesRun room bs ms).2 : Int)) := by
  unfold movesDo at hR
  split at hR
  · rename_i hc
    simp only [Bool.and_eq_true, decide_eq_true_eq] at hc
    exact ⟨hc.1, hc.2, hR⟩
  · subst hR
    exact absurd (by decide) h
theorem moveDo_ok {room : List Int} {bs : List (List TaskD)} {m : MoveD} {R : List (List TaskD) × Bool} (hR : R = moveDo room bs m) (h : R.2 = true) : binsOk room bs = true ∧ canMove room bs m = true ∧ R.1 = doMove bs m := by
  unfold moveDo at hR
  split at hR
  · rename_i hc
    simp only [Bool.and_eq_true] at hc
    subst hR
    exact ⟨hc.1, hc.2, rfl⟩
  · subst hR
    cases h

end Go.Proofs.YtibpijjigopdjaaDoor
