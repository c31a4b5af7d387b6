/- The law FnExactMoveDo. -/
import Derived.Test.YtibpijjigopdjaaDoorK20
import Derived.Test.YtibpijjigopdjaaDoorK14
namespace Go.Proofs.YtibpijjigopdjaaDoor
open Go.RowKit
set_option maxRecDepth 4000

theorem DB.far_ {w w' : World} {base : Nat} {v : Value} {bs : List (List TaskD)} (h : DB w base v bs) (hq : ∀ q, base ≤ q → q < w.heap.size → w'.heap[q]? = w.heap[q]?) : DB w' base v bs := by
  obtain ⟨us, h1, h2⟩ := h
  exact ⟨us, ODB.far h1 (fun q hb => hq q (Own.lt h1 q hb).1 (Own.lt h1 q hb).2) (fun q hb => hq q (ODB.tlt h1 q hb).1 (ODB.tlt h1 q hb).2) (fun q hb => hq q (ODB.ilt h1 q hb).1 (ODB.ilt h1 q hb).2), h2⟩
theorem valid_w {room : List Int} {bs : List (List TaskD)} (h : binsOk room bs = true) : wTaskSS bs ≤ 1000000 := by
  obtain ⟨_, h1, _, h2⟩ := bins_small h
  have key : ∀ ts : List TaskD, (∀ t ∈ ts, t.need.length = 3) → wTasks ts = 4 * ts.length := by
    intro ts
    induction ts with
    | nil => intro _; rfl
    | cons t ts ih =>
      intro hh
      rw [wTasks_cons, ih (fun x hx => hh x (by simp [hx])), hh t (by simp), List.length_cons]
      omega
  have key2 : ∀ xs : List (List TaskD), (∀ b ∈ xs, wTasks b ≤ 3600) → sumN wTasks xs ≤ 3600 * xs.length := by
    intro xs
    induction xs with
    | nil => intro _; simp [sumN]
    | cons x xs ih =>
      intro hh
      have h3 := ih (fun b hb => hh b (by simp [hb]))
      have h4 := hh x (by simp)
      simp only [sumN, List.map_cons, List.sum_cons, List.length_cons] at h3 ⊢
      omega
  have h5 := key2 bs (fun b hb => by
    have h6 := h2 b hb
    rw [key b (fun t ht => (h6.2.2 t ht).1)]
    have := h6.2.1
    omega)
  unfold wTaskSS
  omega
theorem moveDo_w {room : List Int} {bs : List (List TaskD)} {m : MoveD} {R : List (List TaskD) × Bool} (hR : R = moveDo room bs m) : wTaskSS R.1 ≤ 1000000 := by
  unfold moveDo at hR
  split at hR
  · rename_i hc
    simp only [Bool.and_eq_true] at hc
    subst hR
    exact valid_w (move_valid hc.1 hc.2)
  · subst hR
    show wTaskSS [] ≤ _
    simp [wTaskSS, sumN]

set_option maxHeartbeats 2000000 in
theorem lawExactMoveDo (rv bv : Value) (room : List Int) (Bs : List (List TaskD)) (mid mto : Int) (w : World) (hr : XI w rv room) (hb : XTT w bv Bs) (hids : ∀ t ∈ Bs.flatten, IdR t.id) (a : Addr) (hga : w.cell? ⟨0, 0, none⟩ = some (errV a)) :
    Calls Tryd.prog 9 #[rv, bv, .agg #[.int .i64 mid, .int .i64 mto]] w (RetB w true) := by
  have hr0 := hr
  have hb0' := hb
  obtain ⟨Ar, cr, rfl, _⟩ := hr
  obtain ⟨Ab, cb, rfl, _⟩ := hb
  obtain ⟨W, hW⟩ : ∃ W, W = w.alloc (.cells #[.int .i64 mid, .int .i64 mto] 49) := ⟨_, rfl⟩
  have hEW : Ext w W := by rw [hW]; exact Ext.alloc _ _
  have hbx : W.heap[w.heap.size]? = some (.cells #[.int .i64 mid, .int .i64 mto] 49 (0, 0)) := by rw [hW]; exact heap_alloc_new _ _
  have KB : Hid (∀ w', Ext W w' → w'.cell? ⟨w.heap.size, 0, none⟩ = some (.int .i64 mid) ∧ w'.cell? ⟨w.heap.size, 1, none⟩ = some (.int .i64 mto)) := hid fun w' hw => ⟨obj_cell (hw.obj hbx) (i := 0) rfl, obj_cell (hw.obj hbx) (i := 1) rfl⟩
  have HR := hid (XI.ext hr0 hEW)
  have HB := hid (XTT.ext hb0' hEW)
  have HGA := hid (hEW.cell hga)
  have HEW := hid hEW
  have HBI := hid hids
  have TK0 : Hid True := hid trivial
  obtain ⟨R, hR⟩ : ∃ R, R = moveDo room Bs ⟨mid, mto⟩ := ⟨_, rfl⟩
  have HRR := hid hR
  have HWR := hid (moveDo_w hR)
  clear hr0 hb0' hEW hbx hga hids hR
  by_cases h1 : room.length ≤ 1048576
  · have i1 : ¬ (1048576 : Int) < (room.length : Int) := by omega
    go_enter Tryd.func9, Tryd.ntmps9
    go_wp2_with (first
      | (go_at_call 31; clear TK0; rw [← hW]; refine (lSzTaskSS _ Bs 1048576 _ HB.out (by omega) (by omega)).mono ?_; rintro e w1 ⟨r, rfl, hE1, hr1, hr2, hr3⟩; obtain ⟨hb0, hb1⟩ := KB.out _ hE1; have HE1 := hid hE1; have HR3 := hid hr3; clear hE1 hr3 hW; have TK1 : Hid True := hid trivial))
    · go_ret
      exact ⟨rfl, HEW.out.trans HE1.out⟩
    · have HWB : Hid (wTaskSS Bs ≤ 1048576) := hid (by have := HR3.out (by omega); omega)
      have hwt := wTaskSS_bd (M := 1048576) (show wTaskSS Bs ≤ 1048576 by have := HR3.out (by omega); omega)
      have HBF : Hid (Bs.flatten.length ≤ 4000000) := hid (Nat.le_trans hwt.2.1 (by omega))
      have HBD : Hid (Bs.length ≤ 4000000 ∧ ∀ b ∈ Bs, b.length ≤ 4000000 ∧ ∀ t ∈ b, t.need.length ≤ 4000000) := hid ⟨Nat.le_trans hwt.1 (by omega), fun b hb => ⟨Nat.le_trans (hwt.2.2 b hb).1 (by omega), fun t ht => Nat.le_trans ((hwt.2.2 b hb).2 t ht) (by omega)⟩⟩
      clear hwt
      have HD : Hid (Ext w1 w1.drew) := hid (Below.drew (Below.refl _ _))
      have HX1 := hid (HE1.out.trans HD.out)
      obtain ⟨pz, hpz⟩ : ∃ x, x = w1.drew := ⟨_, rfl⟩
      refine WG.start (fun w' => w'.cell? ⟨w.heap.size, 0, none⟩ = some (.int .i64 mid) ∧ w'.cell? ⟨w.heap.size, 1, none⟩ = some (.int .i64 mto)) [5,6,7,8,9,10,11] (by kernel_rfl) (by exact KB.out _ HX1.out) (fun hHeld => ?_)
      rw [← hpz] at hHeld HD HX1 ⊢
      clear hpz
      (refine WG.take (i := 0) (v := ?_) rfl (by kernel_rfl) (by kernel_rfl) (by kernel_rfl) (by kernel_rfl) (fun _ _ _ h => h) (Or.inl ⟨by rfl, ?_⟩) (by assumption) ?_; rotate_left; (intro w hSw; (try dsimp only at hSw); go_split_ands; go_simp; (try with_reducible rfl)); (try simp only [Act.put, List.setIfInBounds_toArray, List.set_cons_zero, List.set_cons_succ]))
      (refine WG.take (i := 2) (v := ?_) rfl (by kernel_rfl) (by kernel_rfl) (by kernel_rfl) (by kernel_rfl) (fun _ _ _ h => h) (Or.inl ⟨by rfl, ?_⟩) (by assumption) ?_; rotate_left; (intro w hSw; (try dsimp only at hSw); go_split_ands; go_simp; (try with_reducible rfl)); (try simp only [Act.put, List.setIfInBounds_toArray, List.set_cons_zero, List.set_cons_succ]))
      (refine WG.take (i := 4) (v := ?_) rfl (by kernel_rfl) (by kernel_rfl) (by kernel_rfl) (by kernel_rfl) (fun _ _ _ h => h) (Or.inl ⟨by rfl, ?_⟩) (by assumption) ?_; rotate_left; (intro w hSw; (try dsimp only at hSw); go_split_ands; go_simp; (try with_reducible rfl)); (try simp only [Act.put, List.setIfInBounds_toArray, List.set_cons_zero, List.set_cons_succ]))
      refine WG.one (i := 1) rfl (by kernel_rfl) (fun K hK => ?_)
      go_simp; refine (lToInts _ room _ (XI.ext HR.out HX1.out) (by omega)).mono ?_; rintro e2 wa ⟨va, rfl, hOa, hEa⟩; have HOa := hid hOa.read; have HEa := hid (HX1.out.trans hEa); clear hOa hEa; (try dsimp only)
      refine hK.out _ _ (by exact KB.out _ HEa.out) (fun hHeld => ?_)
      clear hK K
      (try simp only [Act.put, List.setIfInBounds_toArray, List.set_cons_zero, List.set_cons_succ])
      refine WG.one (i := 3) rfl (by kernel_rfl) (fun K hK => ?_)
      go_simp; refine (lToTaskSSD _ Bs _ (XTT.ext HB.out HEa.out) HBD.out.1 HBD.out.2).mono ?_; rintro e3 wb ⟨vb, rfl, hOb, hEb⟩; have HOb := hid hOb.read; have HEab := hid hEb; have HEb := hid (HEa.out.trans hEb); clear hOb hEb; (try dsimp only)
      refine hK.out _ _ (by exact KB.out _ HEb.out) (fun hHeld => ?_)
      clear hK K
      (try simp only [Act.put, List.setIfInBounds_toArray, List.set_cons_zero, List.set_cons_succ])
      refine WG.last (i := 5) rfl (by kernel_rfl) (by kernel_rfl) (fun K hK => ?_)
      go_simp; refine (lToMove mid mto _).mono ?_; rintro e4 wc ⟨rfl, hEc⟩; have HEc := hid hEc; clear hEc; (try dsimp only)
      refine hK.out _ _ ?_
      clear hK K
      (try simp only [Act.put, List.setIfInBounds_toArray, List.set_cons_zero, List.set_cons_succ])
      refine WG.last (i := 6) rfl (by kernel_rfl) (by kernel_rfl) (fun K hK => ?_)
      go_simp; refine (sMoveDo _ _ room Bs mid mto _ (RI.ext HOa.out (HEab.out.trans HEc.out)) (RB.ext HOb.out HEc.out) HBF.out).mono ?_; rw [← HRR.out]; rintro e5 w2 ⟨v2, rfl, hX2, hE2⟩; have HX2 := hid hX2; have HE2 := hid (HEb.out.trans (HEc.out.trans hE2)); clear hX2 hE2; (try dsimp only)
      refine hK.out _ _ ?_
      clear hK K
      (try simp only [Act.put, List.setIfInBounds_toArray, List.set_cons_zero, List.set_cons_succ])
      refine WG.last (i := 7) rfl (by kernel_rfl) (by kernel_rfl) (fun K hK => ?_)
      go_simp
      refine hK.out _ _ ?_
      clear hK K
      (try simp only [Act.put, List.setIfInBounds_toArray, List.set_cons_zero, List.set_cons_succ])
      (refine WG.takeP (i := 8) (v := ?_) rfl (by kernel_rfl) (by kernel_rfl) (by kernel_rfl) (by kernel_rfl) (fun _ _ _ h => h) (Or.inl ⟨by rfl, ?_⟩) ?_; rotate_left; (intro w hSw; clear hSw; go_simp; (try with_reducible rfl)); (try simp only [Act.put, List.setIfInBounds_toArray, List.set_cons_zero, List.set_cons_succ]))
      (refine WG.takeP (i := 9) (v := ?_) rfl (by kernel_rfl) (by kernel_rfl) (by kernel_rfl) (by kernel_rfl) (fun _ _ _ h => h) (Or.inl ⟨by rfl, ?_⟩) ?_; rotate_left; (intro w hSw; clear hSw; go_simp; (try with_reducible rfl)); (try simp only [Act.put, List.setIfInBounds_toArray, List.set_cons_zero, List.set_cons_succ]))
      refine WG.last (i := 10) rfl (by kernel_rfl) (by kernel_rfl) (fun K hK => ?_)
      go_simp
      refine hK.out _ _ ?_
      clear hK K
      (try simp only [Act.put, List.setIfInBounds_toArray, List.set_cons_zero, List.set_cons_succ])
      refine WG.last (i := 11) rfl (by kernel_rfl) (by kernel_rfl) (fun K hK => ?_)
      go_simp
      refine hK.out _ _ ?_
      clear hK K
      (try simp only [Act.put, List.setIfInBounds_toArray, List.set_cons_zero, List.set_cons_succ])
      refine WG.done (by kernel_rfl) ?_
      go_wp2_with (first
        | (go_at_call 32; clear TK1; refine (lToInts _ room _ (XI.ext HR.out HE2.out) (by omega)).mono ?_; rintro e w3 ⟨v3, rfl, hO3, hE3⟩; have HO3 := hid hO3; have HE3 := hid hE3; clear hO3 hE3; have TK2 : Hid True := hid trivial)
        | (go_at_call 33; clear TK2; refine (lToTaskSSD _ Bs _ (XTT.ext HB.out (HE2.out.trans HE3.out)) HBD.out.1 HBD.out.2).mono ?_; rintro e w4 ⟨v4, rfl, hO4, hE4⟩; have HO4 := hid hO4; have HE4 := hid hE4; obtain ⟨hb0, hb1⟩ := KB.out _ (HE2.out.trans (HE3.out.trans hE4)); clear hO4 hE4; have TK3 : Hid True := hid trivial)
        | (go_at_call 34; clear TK3; refine (lToMove mid mto _).mono ?_; rintro e w5 ⟨rfl, hE5⟩; have HE5 := hid hE5; clear hE5; have TK4 : Hid True := hid trivial)
        | (go_at_call 23; clear TK4; refine (iMoveDo _ _ room Bs mid mto a _ (RI.ext HO3.out.read (HE4.out.trans HE5.out)) (RB.ext HO4.out.read HE5.out) HBF.out HBI.out ((HE2.out.trans (HE3.out.trans (HE4.out.trans HE5.out))).cell HGA.out)).mono ?_; rw [← HRR.out]; rintro e w6 ⟨v6, rfl, hO6, hE6⟩; have HO6 := hid hO6; have HE6 := hid hE6; clear hO6 hE6; have TK5 : Hid True := hid trivial)
        | (go_at_call 35; clear TK5; refine (lEqTaskSS _ _ R.1 _ HO6.out.read (RB.ext HX2.out (HE3.out.trans (HE4.out.trans (HE5.out.trans HE6.out))))).mono ?_; rintro e w7 ⟨rfl, hE7⟩; have HE7 := hid hE7; clear hE7; have TK6 : Hid True := hid trivial)
        | (go_at_call 32; clear TK6; refine (lToInts _ room _ (XI.ext HR.out (HE2.out.trans (HE3.out.trans (HE4.out.trans (HE5.out.trans (HE6.out.trans HE7.out)))))) (by omega)).mono ?_; rintro e w8 ⟨v8, rfl, hO8, hE8⟩; have HO8 := hid hO8; have HE8 := hid hE8; clear hO8 hE8; have TK7 : Hid True := hid trivial)
        | (go_at_call 36; clear TK7; refine (lEqInts _ _ room _ (RI.ext HO3.out.read (HE4.out.trans (HE5.out.trans (HE6.out.trans (HE7.out.trans HE8.out))))) HO8.out.read).mono ?_; rintro e w9 ⟨rfl, hE9⟩; have HE9 := hid (HE8.out.trans hE9); clear hE9; have TK8 : Hid True := hid trivial)
        | (go_at_call 33; clear TK8; refine (lToTaskSSD _ Bs _ (XTT.ext HB.out ((HE2.out.trans (HE3.out.trans (HE4.out.trans (HE5.out.trans (HE6.out.trans HE7.out))))).trans HE9.out)) HBD.out.1 HBD.out.2).mono ?_; rintro e w10 ⟨v10, rfl, hO10, hE10⟩; have HO10 := hid hO10; have HE10 := hid (HE9.out.trans hE10); clear hO10 hE10; have TK9 : Hid True := hid trivial)
        | (go_at_call 35; clear TK9; refine (lEqTaskSS _ _ Bs _ (RB.ext HO4.out.read (HE5.out.trans (HE6.out.trans (HE7.out.trans HE10.out)))) HO10.out.read).mono ?_; rintro e w11 ⟨rfl, hE11⟩; have HE11 := hid (HE10.out.trans hE11); clear hE11; have TK10 : Hid True := hid trivial)
        | (go_at_call 37; clear TK10; have hx0 := Own.ext EI.ok HO3.out (HE4.out.trans (HE5.out.trans (HE6.out.trans (HE7.out.trans HE11.out)))); obtain ⟨A3, c3, hv3, _⟩ := hx0.form; subst hv3; refine (lMarkInts A3 room.length c3 c3 room 1 _ _ hx0 (by omega) (by omega) (by omega)).mono ?_; rintro e w12 ⟨rfl, _, hT12⟩; have HL12 : Hid (∀ q ∈ (Value.slice A3 room.length c3).ownBlock.toList, w2.heap.size ≤ q ∧ q < w3.heap.size) := hid (fun q hq => Own.lt HO3.out q (by simpa using hq)); have HT12 := hid hT12; clear hx0 hT12; have TK11 : Hid True := hid trivial)
        | (go_at_call 38; clear TK11; have H411 := hid (HE5.out.trans (HE6.out.trans (HE7.out.trans HE11.out))); obtain ⟨us4, ho4, hd4, ht4, hn4⟩ := HO4.out; have hx1 : ODB w12 w3.heap.size v4 us4 := ODB.far (Own.ext (EDB.ok _) ho4 H411.out) (fun q hq => HT12.out.block q (Nat.lt_of_lt_of_le (Own.lt ho4 q hq).2 H411.out.size) (fun hm => absurd (HL12.out q hm).2 (Nat.not_lt.2 (Own.lt ho4 q hq).1))) (fun q hq => HT12.out.block q (Nat.lt_of_lt_of_le (ODB.tlt ho4 q hq).2 H411.out.size) (fun hm => absurd (HL12.out q hm).2 (Nat.not_lt.2 (ODB.tlt ho4 q hq).1))) (fun q hq => HT12.out.block q (Nat.lt_of_lt_of_le (ODB.ilt ho4 q hq).2 H411.out.size) (fun hm => absurd (HL12.out q hm).2 (Nat.not_lt.2 (ODB.ilt ho4 q hq).1))); have hc4 : cntB us4 ≤ 4000000 := (by have h3 := cntB_le us4; rw [hd4] at h3; have := HWB.out; omega); obtain ⟨A4, c4, hv4, _⟩ := ho4.form; subst hv4; refine (lMarkTaskSS A4 us4.length c4 us4 (1 + (room.length : Int)) _ _ hx1 ht4 hn4 hc4 (by omega) (by omega)).mono ?_; rintro e w13 ⟨rfl, _, hT13⟩; have HL13 : Hid (∀ q ∈ ((Value.slice A4 us4.length c4).ownBlock.toList ++ (rowBs us4 ++ binNs us4)), w3.heap.size ≤ q ∧ q < w4.heap.size) := hid (fun q hq => by rcases List.mem_append.1 hq with hq | hq; exact Own.lt ho4 q (by simpa using hq); rcases List.mem_append.1 hq with hq | hq; exact ODB.tlt ho4 q hq; exact ODB.ilt ho4 q hq); have HT13 := hid hT13; obtain ⟨n4, hn4'⟩ : ∃ n4, n4 = cntB us4 := ⟨_, rfl⟩; rw [← hn4']; have hk4 : ¬ 1 + (room.length : Int) + (n4 : Int) < 0 := (by omega); clear hx1 hT13 hn4' ho4 hd4 ht4 hn4 hc4; have TK12 : Hid True := hid trivial)
        | (go_at_call 35; clear TK12; have HG13 : Hid (DB w13 w5.heap.size v6 R.1) := hid (DB.far_ (DB.ext HO6.out (HE7.out.trans HE11.out)) (fun q h1 h2 => ((HT13.out.block q (Nat.lt_of_lt_of_le h2 HT12.out.size) (fun hm => absurd (HL13.out q hm).2 (Nat.not_lt.2 (Nat.le_trans HE5.out.size h1)))).trans (HT12.out.block q h2 (fun hm => absurd (HL12.out q hm).2 (Nat.not_lt.2 (Nat.le_trans HE4.out.size (Nat.le_trans HE5.out.size h1)))))))); have HB213 : Hid (Ext w2 w13) := hid (Below.trans (HE3.out.trans (HE4.out.trans (HE5.out.trans (HE6.out.trans (HE7.out.trans HE11.out))))) (Below.trans (HT12.out.below (fun q hq => (HL12.out q hq).1) (HE3.out.trans (HE4.out.trans (HE5.out.trans (HE6.out.trans (HE7.out.trans HE11.out))))).size) (HT13.out.below (fun q hq => Nat.le_trans HE3.out.size (HL13.out q hq).1) (Nat.le_trans (HE3.out.trans (HE4.out.trans (HE5.out.trans (HE6.out.trans (HE7.out.trans HE11.out))))).size HT12.out.size)))); refine (lEqTaskSS _ _ R.1 _ HG13.out.read (RB.ext HX2.out HB213.out)).mono ?_; rintro e w14 ⟨rfl, hE14⟩; have HE14 := hid hE14; clear hE14; have TK13 : Hid True := hid trivial)
        | (go_at_call 38; clear TK13; obtain ⟨us6, ho6, hd6, ht6, hn6⟩ := HG13.out; have hx6 := Own.ext (EDB.ok _) ho6 HE14.out; have hc6 : cntB us6 ≤ 1000000 := (by have h3 := cntB_le us6; rw [hd6] at h3; have := HWR.out; omega); obtain ⟨A6, c6, hv6, _⟩ := ho6.form; subst hv6; refine (lMarkTaskSS A6 us6.length c6 us6 1 _ _ hx6 ht6 hn6 (by omega) (by omega) (by omega)).mono ?_; rintro e w15 ⟨rfl, hM15, hT15⟩; have HM15 := hid hM15; have HC6 := hid hc6; have HB15 : Hid (Below w5.heap.size w14 w15) := hid (hT15.below (fun q hq => by rcases List.mem_append.1 hq with hq | hq; exact (Own.lt hx6 q (by simpa using hq)).1; rcases List.mem_append.1 hq with hq | hq; exact (ODB.tlt hx6 q hq).1; exact (ODB.ilt hx6 q hq).1) (Nat.le_trans HE6.out.size (Nat.le_trans (HE7.out.trans HE11.out).size (Nat.le_trans HT12.out.size (Nat.le_trans HT13.out.size HE14.out.size))))); obtain ⟨n6, hn6'⟩ : ∃ n6, n6 = cntB us6 := ⟨_, rfl⟩; have HN6 := hid hn6'; rw [← hn6']; have hk6 : ¬ 1 + (n6 : Int) < 0 := (by omega); clear hx6 hM15 hT15 ho6 hd6 ht6 hn6 hc6 hn6'; have TK14 : Hid True := hid trivial)
        | (go_at_call 39; clear TK14; refine (lHeldTaskSS _ us6 1 _ HM15.out.read (Nat.le_trans HC6.out (by omega)) (by omega) (by omega)).mono ?_; rw [← HN6.out]; rintro e w16 ⟨rfl, hE16⟩; have HE16 := hid hE16; have HX16 : Hid (Ext W w16) := hid (HE2.out.trans (Below.trans (HB213.out.trans HE14.out) (Below.trans (HB15.out.mono (Nat.le_trans (HE3.out.trans (HE4.out.trans HE5.out)).size (Nat.le_refl _))) (hE16.mono (Nat.le_trans (HB213.out.trans HE14.out).size HB15.out.size))))); clear hE16; have TK15 : Hid True := hid trivial))
      have HD16 : Hid (Ext w16 w16.drew) := hid (Below.drew (Below.refl _ _))
      have HX17 := hid (HX16.out.trans HD16.out)
      have HB216 : Hid (Ext w2 w16) := hid (Below.trans (HB213.out.trans HE14.out) (Below.trans (HB15.out.mono (HE3.out.trans (HE4.out.trans HE5.out)).size) (HE16.out.mono (Nat.le_trans (HB213.out.trans HE14.out).size HB15.out.size))))
      obtain ⟨py, hpy⟩ : ∃ x, x = w16.drew := ⟨_, rfl⟩
      refine WG.start (fun w' => w'.cell? ⟨w.heap.size, 0, none⟩ = some (.int .i64 mid) ∧ w'.cell? ⟨w.heap.size, 1, none⟩ = some (.int .i64 mto)) [5,6,7,8,9,10,11] (by kernel_rfl) (by exact KB.out _ HX17.out) (fun hHeld => ?_)
      rw [← hpy] at hHeld HD16 HX17 ⊢
      clear hpy
      (refine WG.take (i := 0) (v := ?_) rfl (by kernel_rfl) (by kernel_rfl) (by kernel_rfl) (by kernel_rfl) (fun _ _ _ h => h) (Or.inl ⟨by rfl, ?_⟩) (by assumption) ?_; rotate_left; (intro w hSw; (try dsimp only at hSw); go_split_ands; go_simp; (try with_reducible rfl)); (try simp only [Act.put, List.setIfInBounds_toArray, List.set_cons_zero, List.set_cons_succ]))
      (refine WG.take (i := 2) (v := ?_) rfl (by kernel_rfl) (by kernel_rfl) (by kernel_rfl) (by kernel_rfl) (fun _ _ _ h => h) (Or.inl ⟨by rfl, ?_⟩) (by assumption) ?_; rotate_left; (intro w hSw; (try dsimp only at hSw); go_split_ands; go_simp; (try with_reducible rfl)); (try simp only [Act.put, List.setIfInBounds_toArray, List.set_cons_zero, List.set_cons_succ]))
      (refine WG.take (i := 4) (v := ?_) rfl (by kernel_rfl) (by kernel_rfl) (by kernel_rfl) (by kernel_rfl) (fun _ _ _ h => h) (Or.inl ⟨by rfl, ?_⟩) (by assumption) ?_; rotate_left; (intro w hSw; (try dsimp only at hSw); go_split_ands; go_simp; (try with_reducible rfl)); (try simp only [Act.put, List.setIfInBounds_toArray, List.set_cons_zero, List.set_cons_succ]))
      refine WG.one (i := 1) rfl (by kernel_rfl) (fun K hK => ?_)
      go_simp; refine (lToInts _ room _ (XI.ext HR.out HX17.out) (by omega)).mono ?_; rintro e2 wd ⟨vd, rfl, hOd, hEd⟩; have HOd := hid hOd.read; have HEd := hid (HX17.out.trans hEd); have HEDD := hid (HD16.out.trans hEd); clear hOd hEd; (try dsimp only)
      refine hK.out _ _ (by exact KB.out _ HEd.out) (fun hHeld => ?_)
      clear hK K
      (try simp only [Act.put, List.setIfInBounds_toArray, List.set_cons_zero, List.set_cons_succ])
      refine WG.one (i := 3) rfl (by kernel_rfl) (fun K hK => ?_)
      go_simp; refine (lToTaskSSD _ Bs _ (XTT.ext HB.out HEd.out) HBD.out.1 HBD.out.2).mono ?_; rintro e3 we ⟨ve, rfl, hOe, hEe⟩; have HOe := hid hOe.read; have HEde := hid hEe; have HEe := hid (HEd.out.trans hEe); have HEEE := hid (HEDD.out.trans hEe); clear hOe hEe; (try dsimp only)
      refine hK.out _ _ (by exact KB.out _ HEe.out) (fun hHeld => ?_)
      clear hK K
      (try simp only [Act.put, List.setIfInBounds_toArray, List.set_cons_zero, List.set_cons_succ])
      refine WG.last (i := 5) rfl (by kernel_rfl) (by kernel_rfl) (fun K hK => ?_)
      go_simp; refine (lToMove mid mto _).mono ?_; rintro e4 wf ⟨rfl, hEf⟩; have HEf := hid hEf; clear hEf; (try dsimp only)
      refine hK.out _ _ ?_
      clear hK K
      (try simp only [Act.put, List.setIfInBounds_toArray, List.set_cons_zero, List.set_cons_succ])
      refine WG.last (i := 6) rfl (by kernel_rfl) (by kernel_rfl) (fun K hK => ?_)
      go_simp; refine (iMoveDo _ _ room Bs mid mto a _ (RI.ext HOd.out (HEde.out.trans HEf.out)) (RB.ext HOe.out HEf.out) HBF.out HBI.out ((HEe.out.trans HEf.out).cell HGA.out)).mono ?_; rw [← HRR.out]; rintro e5 w17 ⟨v17, rfl, hX17, hE17⟩; have HZ17 := hid hX17.read; have HE17 := hid (HEEE.out.trans (HEf.out.trans hE17)); clear hX17 hE17; (try dsimp only)
      refine hK.out _ _ ?_
      clear hK K
      (try simp only [Act.put, List.setIfInBounds_toArray, List.set_cons_zero, List.set_cons_succ])
      refine WG.last (i := 7) rfl (by kernel_rfl) (by kernel_rfl) (fun K hK => ?_)
      go_simp
      refine hK.out _ _ ?_
      clear hK K
      (try simp only [Act.put, List.setIfInBounds_toArray, List.set_cons_zero, List.set_cons_succ])
      (refine WG.takeP (i := 8) (v := ?_) rfl (by kernel_rfl) (by kernel_rfl) (by kernel_rfl) (by kernel_rfl) (fun _ _ _ h => h) (Or.inl ⟨by rfl, ?_⟩) ?_; rotate_left; (intro w hSw; clear hSw; go_simp; (try with_reducible rfl)); (try simp only [Act.put, List.setIfInBounds_toArray, List.set_cons_zero, List.set_cons_succ]))
      (refine WG.takeP (i := 9) (v := ?_) rfl (by kernel_rfl) (by kernel_rfl) (by kernel_rfl) (by kernel_rfl) (fun _ _ _ h => h) (Or.inl ⟨by rfl, ?_⟩) ?_; rotate_left; (intro w hSw; clear hSw; go_simp; (try with_reducible rfl)); (try simp only [Act.put, List.setIfInBounds_toArray, List.set_cons_zero, List.set_cons_succ]))
      refine WG.last (i := 10) rfl (by kernel_rfl) (by kernel_rfl) (fun K hK => ?_)
      go_simp
      refine hK.out _ _ ?_
      clear hK K
      (try simp only [Act.put, List.setIfInBounds_toArray, List.set_cons_zero, List.set_cons_succ])
      refine WG.last (i := 11) rfl (by kernel_rfl) (by kernel_rfl) (fun K hK => ?_)
      go_simp
      refine hK.out _ _ ?_
      clear hK K
      (try simp only [Act.put, List.setIfInBounds_toArray, List.set_cons_zero, List.set_cons_succ])
      refine WG.done (by kernel_rfl) ?_
      go_wp2_with (first
        | (go_at_call 35; refine (lEqTaskSS _ _ R.1 _ HZ17.out (RB.ext HX2.out (HB216.out.trans HE17.out))).mono ?_; rintro e w18 ⟨rfl, hE18⟩; have HE18 := hid (HE17.out.trans hE18); clear hE18)
        | (go_at_call 39; refine (lHeldTaskSS _ us6 1 _ (RB.ext HM15.out.read (HE16.out.trans HE18.out)) (Nat.le_trans HC6.out (by omega)) (by omega) (by omega)).mono ?_; rw [← HN6.out]; rintro e w19 ⟨rfl, hE19⟩; have HE19 := hid (HE18.out.trans hE19); clear hE19))
      go_ret
      exact ⟨rfl, HEW.out.trans (HX16.out.trans HE19.out)⟩
  · have i1 : (1048576 : Int) < (room.length : Int) := by omega
    go_enter Tryd.func9, Tryd.ntmps9
    go_wp2
    go_ret
    exact ⟨rfl, by rw [← hW]; exact HEW.out⟩

end Go.Proofs.YtibpijjigopdjaaDoor
