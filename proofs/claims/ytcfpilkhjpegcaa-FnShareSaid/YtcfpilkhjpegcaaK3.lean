/- The reference's vectors and tasks: what each call returns. -/
import Derived.Test.YtcfpilkhjpegcaaK2
import Derived.Test.YtcfpilkhjpegcaaK1
namespace Go.Proofs.Ytcfpilkhjpegcaa
open Go.RowKit
set_option maxRecDepth 4000

theorem sIn (a l h : Int) (w : World) :
    Calls Try.prog 38 #[.int .i64 a, .int .i64 l, .int .i64 h] w fun e w' => e = .returned (.bool (inB a l h)) ∧ ∃ n, w' = w.drewN n := by
  go_enter Try.func38, Try.ntmps38
  by_cases h1 : l ≤ a <;> by_cases h2 : a ≤ h
  all_goals
    go_wp2
    go_ret
    exact ⟨by simp [inB, h1, h2], 0, rfl⟩

theorem sVecValid (v : Value) (xs : List Int) (w : World) (h : RI w v xs) :
    Calls Try.prog 117 #[v] w fun e w' => e = .returned (.bool (vecOk xs)) ∧ ∃ n, w' = w.drewN n := by
  obtain ⟨A, c, rfl, hc, hc', hr⟩ := h.get
  clear h
  go_enter Try.func117, Try.ntmps117
  go_wp2
  go_loopw [3] (fun i wr => ∃ k : Nat, k ≤ xs.length ∧ i = .int .i64 k ∧ Hid (vecTo xs k = true) ∧ ∃ n, wr = w.drewN n) (fun i _ => xs.length - (intOf i).toNat)
  case atStart => exact ⟨0, Nat.zero_le _, rfl, rfl, 0, rfl⟩
  case round =>
    obtain ⟨k, hk, rfl, H, n, rfl⟩ := hrel
    by_cases hlt : k < xs.length
    · obtain ⟨b, o, x, rfl, e, hcell⟩ := hr k hlt
      go_wp2_with (go_at_call 38; refine (sIn _ _ _ _).mono ?_; rintro e w' ⟨rfl, n1, rfl⟩)
      · have hx : inB x 0 20 = false := by simpa using (by assumption : (!inB x 0 20) = true)
        go_ret
        exact ⟨by unfold vecOk; rw [all_false_of e.out hx]; rfl, _, rfl⟩
      · have hx : inB x 0 20 = true := by simpa using (by assumption : (!inB x 0 20) = false)
        go_roundw
        case rel => exact ⟨k + 1, by omega, by go_num, by show vecTo xs (k + 1) = true; rw [vecTo_succ e.out, H.out, hx]; rfl, _, rfl⟩
        case measure => simp [intOf]; omega
    · go_wp2
      go_ret
      have hk' : k = xs.length := by omega
      subst hk'
      have H1 := H.out
      rw [vecTo_all] at H1
      exact ⟨by unfold vecOk; rw [H1, len_beq3]; rfl, _, rfl⟩

theorem sFits (va vb : Value) (a b : List Int) (w : World) (ha : RI w va a) (hb : RI w vb b) (la : a.length = 3) (lb : b.length = 3) :
    Calls Try.prog 110 #[va, vb] w fun e w' => e = .returned (.bool (fitsL a b)) ∧ ∃ n, w' = w.drewN n := by
  obtain ⟨A, c, rfl, h1, h2, h3⟩ := ha.get
  obtain ⟨A', c', rfl, h1', h2', h3'⟩ := hb.get
  have La : 3 ≤ a.length := by omega
  have Lb : 3 ≤ b.length := by omega
  clear la lb ha hb
  go_enter Try.func110, Try.ntmps110
  go_wp2
  go_loopw [5] (fun i wr => ∃ k : Nat, k ≤ 3 ∧ i = .int .i64 k ∧ Hid (fitsTo a b k = true) ∧ ∃ n, wr = w.drewN n) (fun i _ => 3 - (intOf i).toNat)
  case atStart => exact ⟨0, by omega, rfl, rfl, 0, rfl⟩
  case round =>
    obtain ⟨k, hk, rfl, H, n, rfl⟩ := hrel
    by_cases hlt : k < 3
    · obtain ⟨b1, o1, x1, rfl, e1, c1⟩ := h3 k (by omega)
      obtain ⟨b2, o2, x2, rfl, e2, c2⟩ := h3' k (by omega)
      have i1 : (k : Int) < (a.length : Int) := by omega
      have i2 : (k : Int) < (b.length : Int) := by omega
      go_wp2
      go_quiet (fail)
      go_wp2
      · go_ret
        exact ⟨ret_b (fitsL_false hlt e1.out e2.out (by assumption)).symm, _, World.drewN_drewN _ _ _⟩
      · have hx : x1 ≤ x2 := by assumption
        go_roundw
        case rel => exact ⟨k + 1, by omega, by go_num, by show fitsTo a b (k + 1) = true; rw [fitsTo_succ e1.out e2.out, H.out]; simpa using hx, _, rfl⟩
        case measure => simp [intOf]; omega
    · go_wp2
      go_ret
      have hk' : k = 3 := by omega
      subst hk'
      exact ⟨ret_b (by unfold fitsL; rw [H.out]), _, rfl⟩

theorem sVecFits (va vb : Value) (a b : List Int) (w : World) (ha : RI w va a) (hb : RI w vb b) :
    Calls Try.prog 120 #[va, vb] w fun e w' => e = .returned (.bool (vecFits a b)) ∧ ∃ n, w' = w.drewN n := by
  by_cases h1 : vecOk a = true
  · by_cases h2 : vecOk b = true
    · have H1 := vecOk_len h1
      have H2 := vecOk_len h2
      have G1 := hid H1
      have G2 := hid H2
      clear H1 H2
      go_enter Try.func120, Try.ntmps120
      go_wp2_with fail
      refine (sVecValid _ a _ (by exact ha)).mono ?_
      rintro e w' ⟨rfl, n1, rfl⟩
      go_wp2_with fail
      refine (sVecValid _ b _ (by exact hb.ext (Ext.drewN _ _))).mono ?_
      rintro e w' ⟨rfl, n2, rfl⟩
      go_wp2_with fail
      refine (sFits _ _ a b _ (by exact ha.ext (Ext.drewN _ _)) (by exact hb.ext (Ext.drewN _ _)) G1.out G2.out).mono ?_
      rintro e w' ⟨rfl, n3, rfl⟩
      go_wp2
      go_ret
      exact ⟨by simp [vecFits, h1, h2], _, rfl⟩
    · have h2 : vecOk b = false := by simpa using h2
      go_enter Try.func120, Try.ntmps120
      go_wp2_with fail
      refine (sVecValid _ a _ (by exact ha)).mono ?_
      rintro e w' ⟨rfl, n1, rfl⟩
      go_wp2_with fail
      refine (sVecValid _ b _ (by exact hb.ext (Ext.drewN _ _))).mono ?_
      rintro e w' ⟨rfl, n2, rfl⟩
      go_wp2
      go_ret
      exact ⟨by simp [vecFits, h1, h2], _, rfl⟩
  · have h1 : vecOk a = false := by simpa using h1
    go_enter Try.func120, Try.ntmps120
    go_wp2_with fail
    refine (sVecValid _ a _ (by exact ha)).mono ?_
    rintro e w' ⟨rfl, n1, rfl⟩
    go_wp2
    go_ret
    exact ⟨by simp [vecFits, h1], _, rfl⟩

set_option maxHeartbeats 400000 in
theorem sAdd (va vb : Value) (a b : List Int) (t : Int) (w : World) (ha : RI w va a) (hb : RI w vb b) (la : a.length = 3) (lb : b.length = 3)
    (ba : Bd 1000000 a) (bb : Bd 1000000 b) (bt : t = 1 ∨ t = -1) :
    Calls Try.prog 72 #[va, vb, .int .i64 t] w (RetRI w (addL a b t)) := by
  obtain ⟨A, c, rfl, h1, h2, h3⟩ := ha.get
  obtain ⟨A', c', rfl, h1', h2', h3'⟩ := hb.get
  have La : 3 ≤ a.length := by omega
  have Lb : 3 ≤ b.length := by omega
  clear la lb ha hb
  obtain ⟨i0_int, hi0_int, hz0_int, hz1_int, hz2_int⟩ := info_parts info_int
  go_enter Try.func72, Try.ntmps72
  go_wp2
  go_loopw [7, 8] (fun v i wr => ∃ k : Nat, k ≤ 3 ∧ i = .int .i64 k ∧ OI wr w.heap.size v (addTo a b t k) ∧ Ext w wr) (fun _ i _ => 3 - (intOf i).toNat)
  case atStart => exact ⟨0, by omega, rfl, Own.made _ _ (Nat.le_refl _) (by omega) rfl, Below.alloc (Below.refl _ _) (Nat.le_refl _) _⟩
  case round =>
    obtain ⟨k, hk, rfl, hO, hB⟩ := hrel
    by_cases hlt : k < 3
    · obtain ⟨b1, o1, x1, rfl, e1, c1⟩ := h3 k (by omega)
      obtain ⟨b2, o2, x2, rfl, e2, c2⟩ := h3' k (by omega)
      have i1 : (k : Int) < (a.length : Int) := by omega
      have i2 : (k : Int) < (b.length : Int) := by omega
      have c1r := hB.cell c1
      have c2r := hB.cell c2
      have HO := hid hO
      have d1 := ba.at_ e1
      have d2 := bb.at_ e2
      have w1 : IntKind.i64.wrap (t * x2) = t * x2 := by rcases bt with h | h <;> subst h <;> exact IntWalk.i64_in _ (by omega)
      have w2 : IntKind.i64.wrap (x1 + t * x2) = x1 + t * x2 := by rcases bt with h | h <;> subst h <;> exact IntWalk.i64_in _ (by omega)
      have KH : Hid (∀ w', Ext w w' → w'.cell? ⟨b1, o1 + k, none⟩ = some (.int .i64 x1) ∧ w'.cell? ⟨b2, o2 + k, none⟩ = some (.int .i64 x2) ∧ Below w.heap.size w w') := hid fun w' hw => ⟨hw.cell c1, hw.cell c2, hw⟩
      have HL := hid (addTo_len a b t k)
      have hsz : w.heap.size ≤ wr.heap.size := hB.size
      clear d1 d2 c1 c2 hO
      go_wp2
      go_region_held3 (fun w' => w'.cell? ⟨b1, o1 + k, none⟩ = some (.int .i64 x1) ∧ w'.cell? ⟨b2, o2 + k, none⟩ = some (.int .i64 x2) ∧ Below w.heap.size w w')
        (first | exact KH.out _ (by assumption) | exact KH.out _ (Below.drew (by assumption)) | exact KH.out _ (Below.alloc (by assumption) hsz _) | exact KH.out _ (Below.alloc (Below.drew (by assumption)) hsz _) | exact KH.out _ (Below.drew (Below.alloc (by assumption) hsz _)))
        ((refine step_append_sl _ (by rfl) _ _ 23 (by rfl) EI.ok EI.flat (w.heap.size) 3 EI.ne i0_int _ 1 8 Try.underlying23 hi0_int hz0_int hz1_int hz2_int rfl (by omega) _ (by rfl) _ (HO.out.ext EI.ok (Below.drew (Ext.alloc _ _))) _ (by rfl) _ (RSl.laid (cs := [.int .i64 (x1 + t * x2)]) (heap_alloc_new _ _) rfl rfl) (by rw [HL.out]; simp; omega) (by rw [HL.out]; simp; omega) ?_ ?_; (focus (first | exact Nat.le_refl _ | (simp; done) | (simp; omega) | omega)); intro v1 w1 hO1 hg1 hat1 hs1; have hb1 : Below w.heap.size w w1 := Ext.grown (Below.drew (Below.alloc hB hsz _)) hg1 (fun q hq => ((HO.out.ext EI.ok (Below.drew (Ext.alloc _ _))).lt q hq))))
      go_wp2
      go_roundw
      case rel => exact ⟨k + 1, by omega, by go_num, by rw [addTo_succ t e1.out e2.out]; exact hO1, hb1⟩
      case measure => simp [intOf]; omega
    · go_wp2
      go_ret
      have hk' : k = 3 := by omega
      subst hk'
      exact ⟨_, rfl, hO.read, hB⟩

theorem sRoom (v : Value) (xs : List Int) (w : World) (h : RI w v xs) :
    Calls Try.prog 83 #[v] w fun e w' => e = .returned (.bool (roomOk xs)) ∧ ∃ n, w' = w.drewN n := by
  have h0 := h
  obtain ⟨A, c, rfl, hc, hc', hr⟩ := h.get
  clear h
  go_enter Try.func83, Try.ntmps83
  go_wp2
  go_loopw [3] (fun i wr => ∃ k : Nat, k ≤ xs.length ∧ i = .int .i64 k ∧ Hid (roomTo xs k = true) ∧ ∃ n, wr = w.drewN n) (fun i _ => xs.length - (intOf i).toNat)
  case atStart => exact ⟨0, Nat.zero_le _, rfl, rfl, 0, rfl⟩
  case round =>
    obtain ⟨k, hk, rfl, H, n, rfl⟩ := hrel
    by_cases hlt : k < xs.length
    · obtain ⟨b, o, x, rfl, e, hcell⟩ := hr k hlt
      go_wp2
      · have hx : x < 1 := by assumption
        go_ret
        exact ⟨by unfold roomOk; rw [all_false_of e.out (by simp; omega)]; rfl, _, rfl⟩
      · have hx : 1 ≤ x := by assumption
        go_roundw
        case rel => exact ⟨k + 1, by omega, by go_num, by show roomTo xs (k + 1) = true; rw [roomTo_succ e.out, H.out]; simpa using hx, _, rfl⟩
        case measure => simp [intOf]; omega
    · go_wp2_with (go_at_call 117; refine (sVecValid _ xs _ (by exact h0.ext (Ext.drewN _ _))).mono ?_; rintro e w' ⟨rfl, n1, rfl⟩)
      go_ret
      have hk' : k = xs.length := by omega
      subst hk'
      have H1 := H.out
      unfold roomTo at H1
      rw [List.take_length] at H1
      exact ⟨by unfold roomOk; rw [H1]; rfl, _, rfl⟩

end Go.Proofs.Ytcfpilkhjpegcaa

/- The reference's tasks and nodes. -/
namespace Go.Proofs.Ytcfpilkhjpegcaa
open Go.RowKit
set_option maxRecDepth 4000

theorem sHas (v : Value) (ts : List TaskD) (m : Nat) (id : Int) (w : World) (h : RT w v ts) (hm : m ≤ ts.length) :
    Calls Try.prog 119 #[v, .int .i64 m, .int .i64 id] w fun e w' => e = .returned (.bool (hasId (ts.take m) id)) ∧ ∃ n, w' = w.drewN n := by
  obtain ⟨A, c, rfl, hc, hc', hr⟩ := h.get
  clear h
  go_enter Try.func119, Try.ntmps119
  go_wp2
  go_loopw [7] (fun i wr => ∃ k : Nat, k ≤ m ∧ i = .int .i64 k ∧ Hid (hasId (ts.take k) id = false) ∧ ∃ n, wr = w.drewN n) (fun i _ => m - (intOf i).toNat)
  case atStart => exact ⟨0, Nat.zero_le _, rfl, rfl, 0, rfl⟩
  case round =>
    obtain ⟨k, hk, rfl, H, n, rfl⟩ := hrel
    by_cases hlt : k < m
    · obtain ⟨b, o, t, An, cn, rfl, e, c1, c2, hn⟩ := hr k (by omega)
      have i1 : k < ts.length := by omega
      by_cases he : t.id = id
      · have he' : (t.id == id) = true := by simpa using he
        have HE := hid he
        clear he
        go_wp2
        go_ret
        exact ⟨ret_b (hasId_hit e.out hlt HE.out).symm, _, rfl⟩
      · have he' : (t.id == id) = false := by simpa using he
        go_wp2
        go_roundw
        case rel => exact ⟨k + 1, by omega, by go_num, by show hasId (ts.take (k + 1)) id = false; rw [hasId_take_succ e.out, H.out, he']; rfl, _, rfl⟩
        case measure => simp [intOf]; omega
    · go_wp2
      go_ret
      have hk' : k = m := by omega
      subst hk'
      exact ⟨ret_b H.out.symm, _, rfl⟩

set_option maxHeartbeats 400000 in
theorem sLoad (v : Value) (ts : List TaskD) (w : World) (h : RT w v ts) (hg : GoodTs ts) :
    Calls Try.prog 40 #[v] w (RetRI w (loadL ts)) := by
  obtain ⟨A, c, rfl, hc, hc', hr⟩ := h.get
  clear h
  go_enter Try.func40, Try.ntmps40
  go_wp2
  go_loopw [3, 4] (fun v i wr => ∃ k : Nat, k ≤ ts.length ∧ i = .int .i64 k ∧ RI wr v (loadL (ts.take k)) ∧ Ext w wr) (fun _ i _ => ts.length - (intOf i).toNat)
  case atStart => exact ⟨0, Nat.zero_le _, rfl, RI.lit w [0, 0, 0] (by simp), Ext.alloc _ _⟩
  case round =>
    obtain ⟨k, hk, rfl, hv, hE⟩ := hrel
    by_cases hlt : k < ts.length
    · obtain ⟨b, o, t, An, cn, rfl, e, c1, c2, hn⟩ := hr k hlt
      have c2r := hE.cell c2
      have hgt := hg.2 t (List.mem_of_getElem? e.out)
      have HB := hid (load_bd (hg.take k))
      have HG := hid hgt
      have HL := hid (loadL_len (ts.take k))
      clear hgt c2 c1
      go_wp2_with (go_at_call 72; refine (sAdd _ _ (loadL (ts.take k)) t.need 1 wr hv (hn.ext hE) HL.out HG.out.1 HB.out (HG.out.2.mono (by omega)) (.inl rfl)).mono ?_; rintro e1 w' ⟨v', rfl, hv', hE'⟩)
      go_roundw
      case rel => exact ⟨k + 1, by omega, by go_num, by rw [loadL_take_succ e.out]; exact hv', hE.trans hE'⟩
      case measure => simp [intOf]; omega
    · go_wp2
      go_ret
      have hk' : k = ts.length := by omega
      subst hk'
      rw [List.take_length] at hv
      exact ⟨_, rfl, hv, hE⟩

set_option maxHeartbeats 1000000 in
theorem sTasksValid (rv v : Value) (room : List Int) (ts : List TaskD) (w : World) (hR : RI w rv room) (h : RT w v ts) :
    Calls Try.prog 87 #[rv, v] w fun e w' => e = .returned (.bool (tasksOk room ts)) ∧ ∃ n, w' = w.drewN n := by
  have h0 := h
  obtain ⟨A, c, rfl, hc, hc', hr⟩ := h.get
  clear h
  by_cases hroom : roomOk room = true
  · go_enter Try.func87, Try.ntmps87
    go_wp2_with fail
    refine (sRoom _ room _ hR).mono ?_
    rintro e w' ⟨rfl, n0, rfl⟩
    go_wp2
    go_loopw [5] (fun i wr => ∃ k : Nat, k ≤ ts.length ∧ i = .int .i64 k ∧ Hid (tasksTo room ts k = true) ∧ ∃ n, wr = w.drewN n) (fun i _ => ts.length - (intOf i).toNat)
    case atStart => exact ⟨0, Nat.zero_le _, rfl, rfl, n0, rfl⟩
    case round =>
      obtain ⟨k, hk, rfl, H, n, rfl⟩ := hrel
      by_cases hlt : k < ts.length
      · obtain ⟨b, o, t, An, cn, rfl, e, c1, c2, hn⟩ := hr k hlt
        by_cases h1 : inB t.id 1 40 = true
        · by_cases h2 : hasId (ts.take k) t.id = true
          · go_wp2_with fail
            refine (sIn _ _ _ _).mono ?_
            rintro e1 w' ⟨rfl, n1, rfl⟩
            go_wp2_with fail
            refine (sHas _ ts k t.id _ (by exact h0.ext (Ext.drewN _ _)) (by omega)).mono ?_
            rintro e1 w' ⟨rfl, n2, rfl⟩
            go_wp2
            go_ret
            exact ⟨ret_b (tasksOk_bad e.out (by simp [taskFine, h2])).symm, _, rfl⟩
          · have h2 : hasId (ts.take k) t.id = false := by simpa using h2
            by_cases h3 : vecFits t.need room = true
            · go_wp2_with fail
              refine (sIn _ _ _ _).mono ?_
              rintro e1 w' ⟨rfl, n1, rfl⟩
              go_wp2_with fail
              refine (sHas _ ts k t.id _ (by exact h0.ext (Ext.drewN _ _)) (by omega)).mono ?_
              rintro e1 w' ⟨rfl, n2, rfl⟩
              go_wp2_with fail
              refine (sVecFits _ _ t.need room _ (by exact hn.ext (Ext.drewN _ _)) (by exact hR.ext (Ext.drewN _ _))).mono ?_
              rintro e1 w' ⟨rfl, n3, rfl⟩
              go_wp2
              go_roundw
              case rel => exact ⟨k + 1, by omega, by go_num, by show tasksTo room ts (k + 1) = true; rw [tasksTo_succ room e.out, H.out]; simp [taskFine, h1, h2, h3], _, rfl⟩
              case measure => simp [intOf]; omega
            · have h3 : vecFits t.need room = false := by simpa using h3
              go_wp2_with fail
              refine (sIn _ _ _ _).mono ?_
              rintro e1 w' ⟨rfl, n1, rfl⟩
              go_wp2_with fail
              refine (sHas _ ts k t.id _ (by exact h0.ext (Ext.drewN _ _)) (by omega)).mono ?_
              rintro e1 w' ⟨rfl, n2, rfl⟩
              go_wp2_with fail
              refine (sVecFits _ _ t.need room _ (by exact hn.ext (Ext.drewN _ _)) (by exact hR.ext (Ext.drewN _ _))).mono ?_
              rintro e1 w' ⟨rfl, n3, rfl⟩
              go_wp2
              go_ret
              exact ⟨ret_b (tasksOk_bad e.out (by simp [taskFine, h3])).symm, _, rfl⟩
        · have h1 : inB t.id 1 40 = false := by simpa using h1
          go_wp2_with fail
          refine (sIn _ _ _ _).mono ?_
          rintro e1 w' ⟨rfl, n1, rfl⟩
          go_wp2
          go_ret
          exact ⟨ret_b (tasksOk_bad e.out (by simp [taskFine, h1])).symm, _, rfl⟩
      · go_wp2
        go_ret
        have hk' : k = ts.length := by omega
        subst hk'
        exact ⟨ret_b (by unfold tasksOk; rw [hroom, H.out, Bool.eq_iff_iff]; simp; omega), _, rfl⟩
  · have hroom : roomOk room = false := by simpa using hroom
    go_enter Try.func87, Try.ntmps87
    go_wp2_with fail
    refine (sRoom _ room _ hR).mono ?_
    rintro e w' ⟨rfl, n0, rfl⟩
    go_wp2
    go_ret
    exact ⟨by simp [tasksOk, hroom], _, rfl⟩

set_option maxHeartbeats 400000 in
theorem sAll (v : Value) (bs : List (List TaskD)) (w : World) (h : RB w v bs) (hlen : bs.flatten.length ≤ 4000000) :
    Calls Try.prog 41 #[v] w fun e w' => ∃ v', e = .returned v' ∧ OT w' w.heap.size v' bs.flatten ∧ Ext w w' := by
  obtain ⟨A, c, rfl, hc, hc', hr⟩ := h.get
  clear h
  obtain ⟨i0_task, hi0_task, hz0_task, hz1_task, hz2_task⟩ := info_parts info_task
  go_enter Try.func41, Try.ntmps41
  go_wp2
  go_loopw [3, 4] (fun v i wr => ∃ k : Nat, k ≤ bs.length ∧ i = .int .i64 k ∧ OT wr w.heap.size v (bs.take k).flatten ∧ Ext w wr) (fun _ i _ => bs.length - (intOf i).toNat)
  case atStart => exact ⟨0, Nat.zero_le _, rfl, Own.made _ _ (Nat.le_refl _) (by omega) rfl, Ext.alloc _ _⟩
  case round =>
    obtain ⟨k, hk, rfl, hv, hE⟩ := hrel
    by_cases hlt : k < bs.length
    · obtain ⟨b, o, x, An, cn, rfl, e, c1, hn⟩ := hr k hlt
      have c1r := hE.cell c1
      have hl1 := flatten_take_le bs (k + 1)
      rw [flatten_take_succ e.out, List.length_append] at hl1
      have HL := hid hl1
      have hsz := hE.size
      have HV := hid hv
      have HN := hid (hn.ext hE)
      clear c1 hl1 hv
      go_wp2_with (at_builtin; refine wpList_append_sl _ (by rfl) _ _ 42 (by rfl) ET.ok ET.flat (w.heap.size) 80 ET.ne i0_task _ 2 32 Try.underlying42 hi0_task hz0_task hz1_task hz2_task rfl (by omega) _ (by rfl) _ (HV.out) _ (by rfl) _ (HN.out) (by have := HL.out; omega) (by have := HL.out; omega) ?_ ?_; (focus (first | exact Nat.le_refl _ | (simp; done) | (simp; omega) | omega)); intro v1 w1 hO1 hg1 hat1 hs1; have hE1 := Ext.grown hE hg1 HV.out.lt)
      go_roundw
      case rel => exact ⟨k + 1, by omega, by go_num, by rw [flatten_take_succ e.out]; exact hO1, hE1⟩
      case measure => simp [intOf]; omega
    · go_wp2
      go_ret
      have hk' : k = bs.length := by omega
      subst hk'
      rw [List.take_length] at hv
      exact ⟨_, rfl, hv, hE⟩

end Go.Proofs.Ytcfpilkhjpegcaa

/- The reference's nodes. -/
namespace Go.Proofs.Ytcfpilkhjpegcaa
open Go.RowKit
set_option maxRecDepth 4000

set_option maxHeartbeats 1000000 in
theorem sBinsValid (rv v : Value) (room : List Int) (bs : List (List TaskD)) (w : World) (hR : RI w rv room) (h : RB w v bs) (hlen : bs.flatten.length ≤ 4000000) :
    Calls Try.prog 71 #[rv, v] w (RetB w (binsOk room bs)) := by
  have h0 := h
  obtain ⟨A, c, rfl, hc, hc', hr⟩ := h.get
  clear h
  by_cases htk : tasksOk room bs.flatten = true
  · by_cases hl14 : bs.length ≤ 14
    · go_enter Try.func71, Try.ntmps71
      go_wp2_with fail
      refine (sAll _ bs _ h0 hlen).mono ?_
      rintro e w1 ⟨av, rfl, ha, hE1⟩
      go_wp2_with fail
      refine (sTasksValid _ _ room bs.flatten _ (by exact hR.ext hE1) (by exact ha.read)).mono ?_
      rintro e w' ⟨rfl, n1, rfl⟩
      go_wp2
      go_loopw [5] (fun i wr => ∃ k : Nat, k ≤ bs.length ∧ i = .int .i64 k ∧ Hid (binsTo room bs k = true) ∧ Ext w wr) (fun i _ => bs.length - (intOf i).toNat)
      case atStart => exact ⟨0, Nat.zero_le _, rfl, rfl, hE1.trans (Ext.drewN _ _)⟩
      case round =>
        obtain ⟨k, hk, rfl, H, hE⟩ := hrel
        by_cases hlt : k < bs.length
        · obtain ⟨b, o, x, An, cn, rfl, e, c1, hn⟩ := hr k hlt
          have c1r := hE.cell c1
          have hgx := binsOk_tasks htk (List.mem_of_getElem? e.out)
          have HG := hid hgx
          have HL := hid (loadL_len x)
          have HLR := hid (vecOk_len (roomOk_vec (tasksOk_room htk)))
          clear hgx c1
          go_wp2_with fail
          refine (sLoad _ x _ (by exact hn.ext hE) HG.out).mono ?_
          rintro e1 w2 ⟨lv, rfl, hlv, hE2⟩
          go_wp2_with fail
          refine (sFits _ _ (loadL x) room _ (by exact hlv) (by exact hR.ext (hE.trans hE2)) HL.out HLR.out).mono ?_
          rintro e1 w3 ⟨rfl, n2, rfl⟩
          by_cases hf : fitsL (loadL x) room = true
          · go_wp2
            go_roundw
            case rel => exact ⟨k + 1, by omega, by go_num, by show binsTo room bs (k + 1) = true; rw [binsTo_succ room e.out, H.out, hf]; rfl, (hE.trans hE2).trans (Ext.drewN _ _)⟩
            case measure => simp [intOf]; omega
          · have hf : fitsL (loadL x) room = false := by simpa using hf
            go_wp2
            go_ret
            exact ⟨ret_b (by unfold binsOk; rw [all_false_of e.out hf]; simp), (hE.trans hE2).trans (Ext.drewN _ _)⟩
        · go_wp2
          go_ret
          have hk' : k = bs.length := by omega
          subst hk'
          have H1 := H.out
          unfold binsTo at H1
          rw [List.take_length] at H1
          exact ⟨ret_b (by unfold binsOk; rw [htk, H1]; simp; omega), hE⟩
    · go_enter Try.func71, Try.ntmps71
      go_wp2_with fail
      refine (sAll _ bs _ h0 hlen).mono ?_
      rintro e w1 ⟨av, rfl, ha, hE1⟩
      go_wp2_with fail
      refine (sTasksValid _ _ room bs.flatten _ (by exact hR.ext hE1) (by exact ha.read)).mono ?_
      rintro e w' ⟨rfl, n1, rfl⟩
      go_wp2
      go_ret
      exact ⟨ret_b (by unfold binsOk; simp [hl14]), hE1.trans (Ext.drewN _ _)⟩
  · have htk : tasksOk room bs.flatten = false := by simpa using htk
    go_enter Try.func71, Try.ntmps71
    go_wp2_with fail
    refine (sAll _ bs _ h0 hlen).mono ?_
    rintro e w1 ⟨av, rfl, ha, hE1⟩
    go_wp2_with fail
    refine (sTasksValid _ _ room bs.flatten _ (by exact hR.ext hE1) (by exact ha.read)).mono ?_
    rintro e w' ⟨rfl, n1, rfl⟩
    go_wp2
    go_ret
    exact ⟨ret_b (by unfold binsOk; simp [htk]), hE1.trans (Ext.drewN _ _)⟩

set_option maxHeartbeats 400000 in
theorem sWhere (v : Value) (bs : List (List TaskD)) (id : Int) (w : World) (h : RB w v bs) :
    Calls Try.prog 85 #[v, .int .i64 id] w fun e w' => e = .returned (.int .i64 (whereL bs id)) ∧ ∃ n, w' = w.drewN n := by
  obtain ⟨A, c, rfl, hc, hc', hr⟩ := h.get
  clear h
  go_enter Try.func85, Try.ntmps85
  go_wp2
  go_loopw [5] (fun i wr => ∃ k : Nat, k ≤ bs.length ∧ i = .int .i64 k ∧ Hid (∀ (j : Nat) c, j < k → bs[j]? = some c → hasId c id = false) ∧ ∃ n, wr = w.drewN n) (fun i _ => bs.length - (intOf i).toNat)
  case atStart => exact ⟨0, Nat.zero_le _, rfl, fun j c hj => absurd hj (by omega), 0, rfl⟩
  case round =>
    obtain ⟨k, hk, rfl, H, n, hwr⟩ := hrel
    have hE : Ext w wr := by rw [hwr]; exact Ext.drewN _ _
    have HW := hid hwr
    clear hwr
    by_cases hlt : k < bs.length
    · obtain ⟨b, o, x, An, cn, rfl, e, c1, hn⟩ := hr k hlt
      have hn0 := hn.ext hE
      have c1r := hE.cell c1
      have i1 : (k : Int) < (bs.length : Int) := by omega
      have HX := hid (List.take_length (l := x))
      have hq : ∀ m, Calls Try.prog 119 #[.slice An x.length cn, .int .i64 x.length, .int .i64 id] (wr.drewN m) fun e w' => e = .returned (.bool (hasId x id)) ∧ ∃ n, w' = (wr.drewN m).drewN n := by
        intro m
        have := sHas (.slice An x.length cn) x x.length id (wr.drewN m) (hn0.ext (Ext.drewN _ _)) (Nat.le_refl _)
        rwa [HX.out] at this
      have HQ := hid hq
      clear hq hE
      go_wp2
      go_quiet ((go_at_call 119; exact Calls.quiet_of (HQ.out _)))
      go_wp2
      · have hx : hasId x id = true := by assumption
        go_ret
        exact ⟨ret_i (whereL_hit e.out hx H.out).symm, _, by rw [HW.out]; exact World.drewN_drewN _ _ _⟩
      · have hx : hasId x id = false := by assumption
        go_roundw
        case rel =>
          refine ⟨k + 1, by omega, by go_num, ?_, _, by rw [HW.out]; exact World.drewN_drewN _ _ _⟩
          intro j c' hj hj'
          by_cases hjk : j = k
          · subst hjk
            rw [e.out] at hj'
            injection hj' with hj'
            rw [← hj']; exact hx
          · exact H.out j c' (by omega) hj'
        case measure => simp [intOf]; omega
    · go_wp2
      go_ret
      have hk' : k = bs.length := by omega
      subst hk'
      exact ⟨ret_i (whereL_miss fun j c hj => H.out j c (List.getElem?_eq_some_iff.1 hj).1 hj).symm, _, HW.out⟩

/-- a task as a value -/
def TaskV (w : World) (v : Value) (t : TaskD) : Prop := ∃ nv, v = .agg #[.int .i64 t.id, nv] ∧ RI w nv t.need
theorem TaskV.ext {w w' : World} {v : Value} {t : TaskD} (h : TaskV w v t) (ha : Ext w w') : TaskV w' v t := let ⟨nv, h1, h2⟩ := h; ⟨nv, h1, h2.ext ha⟩

set_option maxHeartbeats 1000000 in
theorem sL11Fits (rv v xv : Value) (room : List Int) (b : List TaskD) (t : TaskD) (w : World) (hR : RI w rv room) (h : RT w v b) (hx : TaskV w xv t)
    (hlr : room.length = 3) (hg : GoodTs b) (hn : t.need.length = 3 ∧ Bd 1000 t.need) :
    Calls Try.prog 132 #[rv, v, xv] w (RetB w (l11fits room b t)) := by
  obtain ⟨nv, rfl, hnv⟩ := hx
  have hE0 := Ext.alloc w (.cells #[.int .i64 t.id, nv] 80)
  have HX := hid (hE0)
  have H1 := hid (h.ext hE0)
  have H2 := hid (hnv.ext hE0)
  have H3 := hid (hR.ext hE0)
  have HG := hid hg
  have HN := hid hn
  have HLR := hid hlr
  have HL := hid (loadL_len b)
  have HB := hid (load_bd hg)
  clear h hR hnv hg hn hlr hE0
  have KH : Hid (∀ w', Ext (w.alloc (.cells #[.int .i64 t.id, nv] 80)) w' → w'.cell? ⟨w.heap.size, 1, none⟩ = some nv ∧ Ext (w.alloc (.cells #[.int .i64 t.id, nv] 80)) w') :=
    hid fun w' hw => ⟨hw.cell (cell_new _ _ _ _), hw⟩
  go_enter Try.func132, Try.ntmps132
  go_wp2
  go_region_held3 (fun w' => w'.cell? ⟨w.heap.size, 1, none⟩ = some nv ∧ Ext (w.alloc (.cells #[.int .i64 t.id, nv] 80)) w')
    (first | exact KH.out _ (by assumption) | exact KH.out _ (Below.drew (Below.refl _ _)))
    (first
      | (go_at_call 40; refine (sLoad _ b _ (H1.out.ext (by first | assumption | exact Below.drew (Below.refl _ _))) HG.out).mono ?_; rintro e w1 ⟨v1, rfl, hv1, hE1⟩; have h01 : Ext (w.alloc (.cells #[.int .i64 t.id, nv] 80)) w1 := Ext.trans (by first | assumption | exact Below.drew (Below.refl _ _)) hE1)
      | (go_at_call 72; refine (sAdd _ _ (loadL b) t.need 1 _ (by assumption) (H2.out.ext (by assumption)) HL.out HN.out.1 HB.out (HN.out.2.mono (by omega)) (.inl rfl)).mono ?_; rintro e w2 ⟨v2, rfl, hv2, hE2⟩; have h02 : Ext (w.alloc (.cells #[.int .i64 t.id, nv] 80)) w2 := Ext.trans (by assumption) hE2)
      | (go_at_call 110; refine (sFits _ _ (addL (loadL b) t.need 1) room _ (by assumption) (H3.out.ext (by assumption)) (addL_len _ _ _) HLR.out).mono ?_; rintro e w3 ⟨rfl, n3, rfl⟩; have h03 : Ext (w.alloc (.cells #[.int .i64 t.id, nv] 80)) (w2.drewN n3) := Ext.trans (by assumption) (Ext.drewN _ _)))
  go_wp2
  go_ret
  exact ⟨rfl, HX.out.trans (by assumption)⟩

theorem sL4Sum (v : Value) (xs : List Int) (w : World) (h : RI w v xs) (hb : Bd 100000 xs) (hl : xs.length ≤ 1000) :
    Calls Try.prog 80 #[v] w fun e w' => e = .returned (.int .i64 (sumL xs)) ∧ ∃ n, w' = w.drewN n := by
  obtain ⟨A, c, rfl, hc, hc', hr⟩ := h.get
  clear h
  go_enter Try.func80, Try.ntmps80
  go_wp2
  go_loopw [3, 4] (fun s i wr => ∃ (k : Nat) (t : Int), k ≤ xs.length ∧ i = .int .i64 k ∧ s = .int .i64 t ∧ Hid (t = sumL (xs.take k)) ∧ -100000 * (k : Int) ≤ t ∧ t ≤ 100000 * (k : Int) ∧ ∃ n, wr = w.drewN n) (fun _ i _ => xs.length - (intOf i).toNat)
  case atStart => exact ⟨0, 0, Nat.zero_le _, rfl, rfl, rfl, by omega, by omega, 0, rfl⟩
  case round =>
    obtain ⟨k, t, hk, rfl, rfl, H, ht1, ht2, n, rfl⟩ := hrel
    by_cases hlt : k < xs.length
    · obtain ⟨b, o, x, rfl, e, hcell⟩ := hr k hlt
      have hx := hb.at_ e
      go_wp2
      go_roundw
      case rel =>
        refine ⟨k + 1, t + x, by omega, by go_num, by first | rfl | go_num, ?_, by omega, by omega, _, rfl⟩
        have := H.out
        subst this
        show sumL (xs.take k) + x = sumL (xs.take (k + 1))
        rw [take_snoc e.out]; simp [sumL]
      case measure => simp [intOf]; omega
    · go_wp2
      go_ret
      have hk' : k = xs.length := by omega
      subst hk'
      have H1 := H.out
      rw [List.take_length] at H1
      exact ⟨ret_i H1, _, rfl⟩

end Go.Proofs.Ytcfpilkhjpegcaa

/- The reference's clusters, read. -/
namespace Go.Proofs.Ytcfpilkhjpegcaa
open Go.RowKit
set_option maxRecDepth 4000

set_option maxHeartbeats 1000000 in
theorem sBins21 (cv : Value) (C : ClusD) (w : World) (h : ClusV w cv C) (hl : C.units.length ≤ 4000000) :
    Calls Try.prog 42 #[cv] w fun e w' => ∃ v, e = .returned v ∧ OB w' w.heap.size v (C.units.map (·.tasks)) ∧ Ext w w' := by
  obtain ⟨rv, uv, rfl, hr, hu⟩ := h
  obtain ⟨A, c, rfl, hc, hc', hg⟩ := hu.get
  have hE0 := Ext.alloc w (.cells #[rv, .slice A C.units.length c] 26)
  have hbx := cell_new w #[rv, .slice A C.units.length c] 26 1
  simp only [List.getElem?_toArray, List.getElem?_cons_succ, List.getElem?_cons_zero] at hbx
  clear hu hr
  obtain ⟨i0_bin, hi0_bin, hz0_bin, hz1_bin, hz2_bin⟩ := info_parts info_bin
  go_enter Try.func42, Try.ntmps42
  go_wp2
  go_loopw [3, 4] (fun v i wr => ∃ k : Nat, k ≤ C.units.length ∧ i = .int .i64 k ∧ OB wr w.heap.size v ((C.units.take k).map (·.tasks)) ∧ Ext w wr ∧ wr.cell? ⟨w.heap.size, 1, none⟩ = some (.slice A C.units.length c) ∧ w.heap.size < wr.heap.size ∧ wr.heap[w.heap.size]? = some (.cells #[rv, .slice A C.units.length c] 26 (0, 0))) (fun _ i _ => C.units.length - (intOf i).toNat)
  case atStart =>
    refine ⟨0, Nat.zero_le _, rfl, Own.madeAt #[] 0 _ (by simp) (by omega) (by omega) rfl, hE0.trans (Ext.alloc _ _), ?_, by simp; omega, ?_⟩
    · exact (Ext.alloc _ _).cell hbx
    · exact (Ext.alloc _ _).obj (heap_alloc_new _ _)
  case round =>
    obtain ⟨k, hk, rfl, hv, hE, hbr, hsz, hobj⟩ := hrel
    by_cases hlt : k < C.units.length
    · obtain ⟨b, o, x, An, cn, rfl, e, c1, c2, hn⟩ := hg k hlt
      have c2r := hE.cell c2
      have HV := hid (hv.ext EB.ok (Ext.alloc wr (.cells #[.slice An x.tasks.length cn] 42)))
      have HN := hid (hn.ext (hE.trans (Ext.alloc wr (.cells #[.slice An x.tasks.length cn] 42))))
      have HO := hid hobj
      have HK := hid (List.length_take_le k C.units)
      clear c1 c2 hv hn hobj hbx
      go_wp2_with (at_builtin; refine wpList_append_sl _ (by rfl) _ _ 61 (by rfl) EB.ok EB.flat (w.heap.size) 42 EB.ne i0_bin _ 1 24 Try.underlying61 hi0_bin hz0_bin hz1_bin hz2_bin rfl (by omega) _ (by rfl) _ (HV.out) _ (by rfl) _ (RSl.laid (cs := [.slice An x.tasks.length cn]) (heap_alloc_new _ _) rfl ⟨_, rfl, HN.out⟩) (by have := HK.out; simp; omega) (by have := HK.out; simp; omega) ?_ ?_; (focus (first | exact Nat.le_refl _ | (simp; done) | (simp; omega) | omega)); intro v1 w1 hO1 hg1 hat1 hs1; have hE1 : Ext w w1 := Ext.grown (Below.alloc hE hE.size _) hg1 HV.out.lt; have hob1 := hs1 _ _ _ _ (by decide) ((Ext.alloc wr (.cells #[.slice An x.tasks.length cn] 42)).obj HO.out); have hsz1 := hg1.size)
      go_roundw
      case rel => exact ⟨k + 1, by omega, by go_num, by rw [tasks_take_succ e.out]; exact hO1, hE1, cell_of_row _ _ _ _ _ _ hob1, by simp at hsz1; omega, hob1⟩
      case measure => simp [intOf]; omega
    · go_wp2
      go_ret
      have hk' : k = C.units.length := by omega
      subst hk'
      rw [List.take_length] at hv
      exact ⟨_, rfl, hv, hE⟩

set_option maxHeartbeats 1000000 in
theorem sClusterValid (cv : Value) (C : ClusD) (w : World) (h : ClusV w cv C) (hl : C.units.length ≤ 4000000) (hfl : (C.units.map (·.tasks)).flatten.length ≤ 4000000) :
    Calls Try.prog 37 #[cv] w (RetB w (clusOk C)) := by
  have h00 := h
  obtain ⟨rv, uv, rfl, hr, hu⟩ := h
  obtain ⟨A, c, rfl, hc, hc', hg⟩ := hu.get
  have hE0 := Ext.alloc w (.cells #[rv, .slice A C.units.length c] 26)
  have hb0 := cell_new w #[rv, .slice A C.units.length c] 26 0
  have hb1 := cell_new w #[rv, .slice A C.units.length c] 26 1
  simp only [List.getElem?_toArray, List.getElem?_cons_succ, List.getElem?_cons_zero] at hb0 hb1
  have hr0 := hr
  obtain ⟨Ar, cr, rfl, _⟩ := hr
  have hr := hr0
  clear hr0
  obtain ⟨W, hW⟩ : ∃ W, W = w.alloc (.cells #[.slice Ar C.room.length cr, .slice A C.units.length c] 26) := ⟨_, rfl⟩
  have HW := hid hW
  have HH := hid h00
  have KH : Hid (∀ w', Ext W w' → w'.cell? ⟨w.heap.size, 0, none⟩ = some (.slice Ar C.room.length cr) ∧ w'.cell? ⟨w.heap.size, 1, none⟩ = some (.slice A C.units.length c) ∧ Ext W w') :=
    hid fun w' hw => ⟨hw.cell (by rw [hW]; exact hb0), hw.cell (by rw [hW]; exact hb1), hw⟩
  have hEW : Ext w W := by rw [hW]; exact hE0
  rw [← hW] at hb0 hb1
  have HR := hid (hr.ext hEW)
  clear hu hr hE0
  go_enter Try.func37, Try.ntmps37
  go_wp2
  rw [← hW]
  clear hW
  go_loop [3] (fun i => ∃ k : Nat, k ≤ C.units.length ∧ i = .int .i64 k ∧ Hid (clusTo C.units k = true)) (fun i => C.units.length - (intOf i).toNat)
  case atStart => exact ⟨0, Nat.zero_le _, rfl, rfl⟩
  case round =>
    obtain ⟨k, hk, rfl, H⟩ := hrel
    by_cases hlt : k < C.units.length
    · obtain ⟨b, o, x, An, cn, rfl, e, c1, c2, hn⟩ := hg k hlt
      have c1r := hEW.cell c1
      have c2r := hEW.cell c2
      clear c1 c2
      by_cases ho : x.opened = true
      · go_wp2
        go_round
        case rel => exact ⟨k + 1, by omega, by go_num, by show clusTo C.units (k + 1) = true; rw [clusTo_succ e.out, H.out, ho]; rfl⟩
        case measure => simp [intOf]; omega
      · have ho : x.opened = false := by simpa using ho
        by_cases ht : 0 < x.tasks.length
        · have ht' : (0 : Int) < (x.tasks.length : Int) := by omega
          go_wp2
          go_ret
          exact ⟨ret_b (clusOk_bad e.out ho ht).symm, hEW⟩
        · have ht' : ¬ (0 : Int) < (x.tasks.length : Int) := by omega
          go_wp2
          go_round
          case rel =>
            refine ⟨k + 1, by omega, by go_num, ?_⟩
            show clusTo C.units (k + 1) = true
            rw [clusTo_succ e.out, H.out, List.eq_nil_of_length_eq_zero (l := x.tasks) (by omega)]
            simp
          case measure => simp [intOf]; omega
    · have hk' : k = C.units.length := by omega
      subst hk'
      have H1 := H.out
      unfold clusTo at H1
      rw [List.take_length] at H1
      have H1 := hid H1
      by_cases hin : inB C.units.length 1 10 = true
      · go_wp2
        go_region_held3 (fun w' => w'.cell? ⟨w.heap.size, 0, none⟩ = some (.slice Ar C.room.length cr) ∧ w'.cell? ⟨w.heap.size, 1, none⟩ = some (.slice A C.units.length c) ∧ Ext W w')
          (first | exact KH.out _ (by assumption) | exact KH.out _ (Below.drew (Below.refl _ _)))
          (first
            | (go_at_call 38; refine (sIn _ _ _ _).mono ?_; rintro e w1 ⟨rfl, n1, rfl⟩; have h01 : Ext W (W.drew.drewN n1) := Ext.trans (Below.drew (Below.refl _ _)) (Ext.drewN _ _); have h02 : Ext W (W.drewN (1 + n1)) := Ext.drewN _ _)
            | (go_at_call 42; refine (sBins21 _ C _ (HH.out.ext (hEW.trans (by assumption))) hl).mono ?_; rintro e w2 ⟨v2, rfl, hv2, hE2⟩; have h03 : Ext W w2 := Ext.trans (by assumption) hE2)
            | (go_at_call 71; refine (sBinsValid _ _ C.room (C.units.map (·.tasks)) _ (HR.out.ext (by assumption)) hv2.read hfl).mono ?_; rintro e w3 ⟨rfl, hE3⟩; have h04 : Ext W w3 := Ext.trans (by assumption) hE3))
        go_wp2
        go_ret
        exact ⟨ret_b (by unfold clusOk; rw [H1.out, hin]; rfl), hEW.trans (by assumption)⟩
      · have hin : inB C.units.length 1 10 = false := by simpa using hin
        go_wp2
        go_quiet ((go_at_call 38; exact Calls.quiet_of (sIn _ _ _ _)))
        go_wp2
        go_ret
        exact ⟨ret_b (by unfold clusOk; rw [H1.out, hin]; rfl), hEW.trans (Ext.drewN _ _)⟩

end Go.Proofs.Ytcfpilkhjpegcaa

/- The reference's copies. -/
namespace Go.Proofs.Ytcfpilkhjpegcaa
open Go.RowKit
set_option maxRecDepth 4000

set_option maxHeartbeats 1000000 in
theorem sCopy (v : Value) (ts : List TaskD) (w : World) (h : RT w v ts) (hl : ts.length ≤ 4000000) (hn : ∀ t ∈ ts, t.need.length ≤ 4000000) :
    Calls Try.prog 118 #[v] w fun e w' => ∃ v', e = .returned v' ∧ OT w' w.heap.size v' ts ∧ Ext w w' := by
  obtain ⟨A, c, rfl, hc, hc', hg⟩ := h.get
  clear h
  obtain ⟨i0_task, hi0_task, hz0_task, hz1_task, hz2_task⟩ := info_parts info_task
  obtain ⟨i0_int, hi0_int, hz0_int, hz1_int, hz2_int⟩ := info_parts info_int
  go_enter Try.func118, Try.ntmps118
  go_wp2
  go_loopw [3, 4] (fun v i wr => ∃ k : Nat, k ≤ ts.length ∧ i = .int .i64 k ∧ OT wr w.heap.size v (ts.take k) ∧ Ext w wr) (fun _ i _ => ts.length - (intOf i).toNat)
  case atStart => exact ⟨0, Nat.zero_le _, rfl, Own.made _ _ (Nat.le_refl _) (by omega) rfl, Ext.alloc _ _⟩
  case round =>
    obtain ⟨k, hk, rfl, hv, hE⟩ := hrel
    by_cases hlt : k < ts.length
    · obtain ⟨b, o, x, An, cn, rfl, e, c1, c2, hnx⟩ := hg k hlt
      have KH : Hid (∀ w', Ext w w' → w'.cell? ⟨b, o + k * 2, none⟩ = some (.int .i64 x.id) ∧ w'.cell? ⟨b, o + k * 2 + 1, none⟩ = some (.slice An x.need.length cn) ∧ Ext w w') := hid fun w' hw => ⟨hw.cell c1, hw.cell c2, hw⟩
      have i1 : (k : Int) < (ts.length : Int) := by omega
      have i0 : (0 : Int) ≤ (k : Int) := by omega
      have HV := hid hv
      have HN := hid hnx
      have HL := hid (hn x (List.mem_of_getElem? e.out))
      have HM := hid ((Own.made (E := EI) (w := wr) (base := wr.heap.size) (e := 3) (size := 1) #[] 0 (Nat.le_refl _) (by omega) rfl).ext EI.ok (Below.drew (Below.refl _ _)))
      clear c1 c2 hnx hv
      go_wp2
      refine WG.start (fun w' => w'.cell? ⟨b, o + k * 2, none⟩ = some (.int .i64 x.id) ∧ w'.cell? ⟨b, o + k * 2 + 1, none⟩ = some (.slice An x.need.length cn) ∧ Ext w w') [15,16] (by kernel_rfl) (by exact KH.out _ (Below.drew hE)) (fun hHeld => ?_)
      (refine WG.take (i := 0) (v := ?_) rfl (by kernel_rfl) (by kernel_rfl) (by kernel_rfl) (by kernel_rfl) (fun _ _ _ h => h) (Or.inl ⟨by rfl, ?_⟩) (by assumption) ?_; rotate_left; (intro w hSw; (try dsimp only at hSw); go_split_ands; go_simp; (try with_reducible rfl)); (try simp only [Act.put, List.setIfInBounds_toArray, List.set_cons_zero, List.set_cons_succ]))
      (refine WG.take (i := 1) (v := ?_) rfl (by kernel_rfl) (by kernel_rfl) (by kernel_rfl) (by kernel_rfl) (fun _ _ _ h => h) (Or.inl ⟨by rfl, ?_⟩) (by assumption) ?_; rotate_left; (intro w hSw; (try dsimp only at hSw); go_split_ands; go_simp; (try with_reducible rfl)); (try simp only [Act.put, List.setIfInBounds_toArray, List.set_cons_zero, List.set_cons_succ]))
      (refine WG.take (i := 2) (v := ?_) rfl (by kernel_rfl) (by kernel_rfl) (by kernel_rfl) (by kernel_rfl) (fun _ _ _ h => h) (Or.inl ⟨by rfl, ?_⟩) (by assumption) ?_; rotate_left; (intro w hSw; (try dsimp only at hSw); go_split_ands; go_simp; (try with_reducible rfl)); (try simp only [Act.put, List.setIfInBounds_toArray, List.set_cons_zero, List.set_cons_succ]))
      (refine WG.take (i := 3) (v := ?_) rfl (by kernel_rfl) (by kernel_rfl) (by kernel_rfl) (by kernel_rfl) (fun _ _ _ h => h) (Or.inl ⟨by rfl, ?_⟩) (by assumption) ?_; rotate_left; (intro w hSw; (try dsimp only at hSw); go_split_ands; go_simp; (try with_reducible rfl)); (try simp only [Act.put, List.setIfInBounds_toArray, List.set_cons_zero, List.set_cons_succ]))
      (refine WG.take (i := 4) (v := ?_) rfl (by kernel_rfl) (by kernel_rfl) (by kernel_rfl) (by kernel_rfl) (fun _ _ _ h => h) (Or.inl ⟨by rfl, ?_⟩) (by assumption) ?_; rotate_left; (intro w hSw; (try dsimp only at hSw); go_split_ands; go_simp; (try with_reducible rfl)); (try simp only [Act.put, List.setIfInBounds_toArray, List.set_cons_zero, List.set_cons_succ]))
      (refine WG.take (i := 5) (v := ?_) rfl (by kernel_rfl) (by kernel_rfl) (by kernel_rfl) (by kernel_rfl) (fun _ _ _ h => h) (Or.inl ⟨by rfl, ?_⟩) (by assumption) ?_; rotate_left; (intro w hSw; (try dsimp only at hSw); go_split_ands; go_simp; (try with_reducible rfl)); (try simp only [Act.put, List.setIfInBounds_toArray, List.set_cons_zero, List.set_cons_succ]))
      (refine WG.take (i := 7) (v := ?_) rfl (by kernel_rfl) (by kernel_rfl) (by kernel_rfl) (by kernel_rfl) (fun _ _ _ h => h) (Or.inl ⟨by rfl, ?_⟩) (by assumption) ?_; rotate_left; (intro w hSw; (try dsimp only at hSw); go_split_ands; go_simp; (try with_reducible rfl)); (try simp only [Act.put, List.setIfInBounds_toArray, List.set_cons_zero, List.set_cons_succ]))
      (refine WG.take (i := 8) (v := ?_) rfl (by kernel_rfl) (by kernel_rfl) (by kernel_rfl) (by kernel_rfl) (fun _ _ _ h => h) (Or.inl ⟨by rfl, ?_⟩) (by assumption) ?_; rotate_left; (intro w hSw; (try dsimp only at hSw); go_split_ands; go_simp; (try with_reducible rfl)); (try simp only [Act.put, List.setIfInBounds_toArray, List.set_cons_zero, List.set_cons_succ]))
      (refine WG.take (i := 9) (v := ?_) rfl (by kernel_rfl) (by kernel_rfl) (by kernel_rfl) (by kernel_rfl) (fun _ _ _ h => h) (Or.inl ⟨by rfl, ?_⟩) (by assumption) ?_; rotate_left; (intro w hSw; (try dsimp only at hSw); go_split_ands; go_simp; (try with_reducible rfl)); (try simp only [Act.put, List.setIfInBounds_toArray, List.set_cons_zero, List.set_cons_succ]))
      (refine WG.take (i := 10) (v := ?_) rfl (by kernel_rfl) (by kernel_rfl) (by kernel_rfl) (by kernel_rfl) (fun _ _ _ h => h) (Or.inl ⟨by rfl, ?_⟩) (by assumption) ?_; rotate_left; (intro w hSw; (try dsimp only at hSw); go_split_ands; go_simp; (try with_reducible rfl)); (try simp only [Act.put, List.setIfInBounds_toArray, List.set_cons_zero, List.set_cons_succ]))
      (refine WG.take (i := 11) (v := ?_) rfl (by kernel_rfl) (by kernel_rfl) (by kernel_rfl) (by kernel_rfl) (fun _ _ _ h => h) (Or.inl ⟨by rfl, ?_⟩) (by assumption) ?_; rotate_left; (intro w hSw; (try dsimp only at hSw); go_split_ands; go_simp; (try with_reducible rfl)); (try simp only [Act.put, List.setIfInBounds_toArray, List.set_cons_zero, List.set_cons_succ]))
      refine WG.one (i := 6) rfl (by kernel_rfl) (fun K hK => ?_)
      go_simp
      refine hK.out _ _ (by exact KH.out _ (Below.drew (Below.alloc hE hE.size _))) (fun hHeld => ?_)
      clear hK K
      (try simp only [Act.put, List.setIfInBounds_toArray, List.set_cons_zero, List.set_cons_succ])
      refine WG.one (i := 12) rfl (by kernel_rfl) (fun K hK => ?_)
      refine step_append_sl _ (by rfl) _ _ 23 (by rfl) EI.ok EI.flat (wr.heap.size) 3 EI.ne i0_int _ 1 8 Try.underlying23 hi0_int hz0_int hz1_int hz2_int rfl (by omega) _ (by rfl) _ (HM.out) _ (by rfl) _ (HN.out.ext (Below.drew (Below.alloc hE hE.size _))) (by have := HL.out; simp; omega) (by have := HL.out; simp; omega) ?_ ?_; (focus (first | exact Nat.le_refl _ | (simp; done) | (simp; omega) | omega)); intro v1 w1 hO1 hg1 hat1 hs1; rw [List.nil_append] at hO1; obtain ⟨A1, c1x, rfl, hb1, hb1'⟩ := hO1.form; have hE1 : Ext wr w1 := Ext.grown (Below.drew (Ext.alloc wr _)) hg1 HM.out.lt; have hsz1 := (hE.trans hE1).size
      refine hK.out _ _ (by exact KH.out _ (hE.trans hE1)) (fun hHeld => ?_)
      clear hK K
      (try simp only [Act.put, List.setIfInBounds_toArray, List.set_cons_zero, List.set_cons_succ])
      (refine WG.take (i := 13) (v := ?_) rfl (by kernel_rfl) (by kernel_rfl) (by kernel_rfl) (by kernel_rfl) (fun _ _ _ h => h) (Or.inl ⟨by rfl, ?_⟩) (by assumption) ?_; rotate_left; (intro w hSw; (try dsimp only at hSw); go_split_ands; go_simp; (try with_reducible rfl)); (try simp only [Act.put, List.setIfInBounds_toArray, List.set_cons_zero, List.set_cons_succ]))
      refine WG.one (i := 14) rfl (by kernel_rfl) (fun K hK => ?_)
      go_simp
      refine hK.out _ _ (by exact KH.out _ ((hE.trans hE1).trans (Ext.alloc _ _))) (fun hHeld => ?_)
      clear hK K
      (try simp only [Act.put, List.setIfInBounds_toArray, List.set_cons_zero, List.set_cons_succ])
      have HV1 := hid (HV.out.ext ET.ok (hE1.trans (Ext.alloc w1 (.cells #[.int .i64 x.id, .slice A1 x.need.length c1x] 80))))
      refine WG.last (i := 15) rfl (by kernel_rfl) (by kernel_rfl) (fun K hK => ?_)
      refine step_append_sl _ (by rfl) _ _ 42 (by rfl) ET.ok ET.flat (w.heap.size) 80 ET.ne i0_task _ 2 32 Try.underlying42 hi0_task hz0_task hz1_task hz2_task rfl (by omega) _ (by rfl) _ (HV1.out) _ (by rfl) _ (RSl.laid (cs := [.int .i64 x.id, .slice A1 x.need.length c1x]) (heap_alloc_new _ _) rfl ⟨_, rfl, RI.ext hO1.read (Ext.alloc _ _)⟩) (by have := List.length_take_le k ts; simp; omega) (by have := List.length_take_le k ts; simp; omega) ?_ ?_; (focus (first | exact Nat.le_refl _ | (simp; done) | (simp; omega) | omega)); intro v2 w2 hO2 hg2 hat2 hs2; have hE2 : Ext w w2 := Ext.grown ((hE.trans hE1).trans (Ext.alloc _ _)) hg2 HV1.out.lt
      refine hK.out _ _ ?_
      clear hK K
      (try simp only [Act.put, List.setIfInBounds_toArray, List.set_cons_zero, List.set_cons_succ])
      refine WG.last (i := 16) rfl (by kernel_rfl) (by kernel_rfl) (fun K hK => ?_)
      go_simp
      refine hK.out _ _ ?_
      clear hK K
      (try simp only [Act.put, List.setIfInBounds_toArray, List.set_cons_zero, List.set_cons_succ])
      refine WG.done (by kernel_rfl) ?_
      go_wp2
      go_roundw
      case rel => exact ⟨k + 1, by omega, by go_num, by rw [take_snoc e.out]; exact hO2, hE2⟩
      case measure => simp [intOf]; omega
    · go_wp2
      go_ret
      have hk' : k = ts.length := by omega
      subst hk'
      rw [List.take_length] at hv
      exact ⟨_, rfl, hv, hE⟩

end Go.Proofs.Ytcfpilkhjpegcaa

/- The reference's copy of a cluster. -/
namespace Go.Proofs.Ytcfpilkhjpegcaa
open Go.RowKit
set_option maxRecDepth 4000

theorem blocksOf_app (ps qs : List (UnitD × Value)) : blocksOf (ps ++ qs) = blocksOf ps ++ blocksOf qs := by simp [blocksOf]
/-- a unit more, its tasks in a block that is new -/
theorem nodup_more {w : World} {base : Nat} {u tv : Value} {ps : List (UnitD × Value)} {x : UnitD} (h : OUV w base u ps) (hn : (blocksOf ps).Nodup) (hv : ∀ g, tv.ownBlock = some g → w.heap.size ≤ g) : (blocksOf (ps ++ [(x, tv)])).Nodup := by
  rw [blocksOf_app]
  refine List.nodup_append.2 ⟨hn, ?_, ?_⟩
  · simp only [blocksOf, List.filterMap_cons, List.filterMap_nil]
    cases tv.ownBlock <;> simp
  · intro a ha b hb hab
    subst hab
    have h1 := (OUV.lt h a ha).2
    simp only [blocksOf, List.filterMap_cons, List.filterMap_nil] at hb
    cases ht : tv.ownBlock with
    | none => simp [ht] at hb
    | some g =>
      have := hv g ht
      simp [ht] at hb
      omega

set_option maxHeartbeats 2000000 in
theorem sCopy21 (cv : Value) (C : ClusD) (w : World) (h : ClusV w cv C) (hl : C.units.length ≤ 4000000) (hlr : C.room.length ≤ 4000000) (hlt : ∀ u ∈ C.units, u.tasks.length ≤ 4000000 ∧ ∀ t ∈ u.tasks, t.need.length ≤ 4000000) :
    Calls Try.prog 84 #[cv] w fun e w' => ∃ v', e = .returned v' ∧ OCl w' w.heap.size v' C ∧ Ext w w' := by
  obtain ⟨rv, uv, rfl, hr, hu⟩ := h
  obtain ⟨A, c, rfl, hc, hc', hg⟩ := hu.get
  have hr0 := hr
  obtain ⟨Ar, cr, rfl, _⟩ := hr
  clear hu
  obtain ⟨O1, hO1⟩ : ∃ O1 : Obj, O1 = .cells #[.slice Ar C.room.length cr, .slice A C.units.length c] 26 := ⟨_, rfl⟩
  obtain ⟨O2, hO2⟩ : ∃ O2 : Obj, O2 = .cells #[.slice none 0 0, .slice none 0 0] 26 := ⟨_, rfl⟩
  have hE3 : Ext w (((w.alloc O1).alloc O2).alloc (.cells #[] 3)) := ((Ext.alloc _ _).trans (Ext.alloc _ _)).trans (Ext.alloc _ _)
  have HM : Hid (OI (((w.alloc O1).alloc O2).alloc (.cells #[] 3)) w.heap.size (.slice (some ⟨w.heap.size + 1 + 1, 0, none⟩) 0 0) []) := hid (Own.madeAt #[] 0 _ (by simp) (by omega) (by omega) rfl)
  have hb1 : (((w.alloc O1).alloc O2).alloc (.cells #[] 3)).heap[w.heap.size]? = some O1 := (Ext.alloc _ _).obj ((Ext.alloc _ _).obj (heap_alloc_new _ _))
  have hb2 : (((w.alloc O1).alloc O2).alloc (.cells #[] 3)).heap[w.heap.size + 1]? = some O2 := (Ext.alloc _ _).obj (heap_new (by simp))
  have HR := hid (RI.ext hr0 hE3)
  have HE3 := hid hE3
  subst hO1 hO2
  have HB1 := hid hb1
  have HB2 := hid hb2
  clear hb1 hb2 hr0 hE3
  obtain ⟨i0_int, hi0_int, hz0_int, hz1_int, hz2_int⟩ := info_parts info_int
  obtain ⟨i0_unit, hi0_unit, hz0_unit, hz1_unit, hz2_unit⟩ := info_parts info_unit
  go_enter Try.func84, Try.ntmps84
  go_wp2_with (at_builtin; refine wpList_append_sl _ (by rfl) _ _ 23 (by rfl) EI.ok EI.flat (w.heap.size) 3 EI.ne i0_int _ 1 8 Try.underlying23 hi0_int hz0_int hz1_int hz2_int rfl (by omega) _ (by rfl) _ (HM.out) _ (by rfl) _ (HR.out) (by simp; omega) (by simp; omega) ?_ ?_; (focus (first | exact Nat.le_refl _ | (simp; done) | (simp; omega) | omega)); intro v1 w1 hO1 hg1 hat1 hs1; rw [List.nil_append] at hO1; obtain ⟨A1, c1x, rfl, hf1, hf2⟩ := hO1.form; have hE1 := Ext.grown HE3.out hg1 HM.out.lt; have hb1 := hs1 _ _ _ _ (by decide) HB1.out; have hb2 := hs1 _ _ _ _ (by decide) HB2.out; have HO1 := hid hO1; have HHB1 := hid hb1; have HHB2 := hid hb2; have HHE1 := hid hE1; clear hO1 hg1 hat1 hs1 hb1 hb2 hE1)
  go_loopw [4] (fun i wr => ∃ (k : Nat) (u : Value) (ps : List (UnitD × Value)), k ≤ C.units.length ∧ i = .int .i64 k ∧ Hid (OUV wr w.heap.size u ps ∧ ps.map (·.1) = C.units.take k ∧ (blocksOf ps).Nodup ∧ Ext w wr ∧ RI wr (.slice A1 C.room.length c1x) C.room ∧
      wr.heap[w.heap.size]? = some (.cells #[.slice Ar C.room.length cr, .slice A C.units.length c] 26 (0, 0)) ∧ wr.heap[w.heap.size + 1]? = some (.cells #[.slice none 0 0, .slice none 0 0] 26 (0, 0)) ∧ wr.heap[w1.heap.size + 1]? = some (.cells #[.slice A1 C.room.length c1x, u] 26 (0, 0)) ∧ w.heap.size + 1 < w1.heap.size)) (fun i _ => C.units.length - (intOf i).toNat)
  case atStart =>
    have hx : Ext w1 ((w1.alloc (.cells #[] 44)).alloc (.cells #[.slice A1 C.room.length c1x, .slice (some ⟨w1.heap.size, 0, none⟩) 0 0] 26)) := (Ext.alloc _ _).trans (Ext.alloc _ _)
    refine ⟨0, _, [], Nat.zero_le _, rfl, hid ⟨?_, by simp, by simp [blocksOf], HHE1.out.trans hx, RI.ext HO1.out.read hx, hx.obj HHB1.out, hx.obj HHB2.out, heap_new (by simp), ?_⟩⟩
    · exact (Own.madeAt (w := w1) #[] 0 _ rfl HHE1.out.size (by omega) rfl).ext (EUV.ok _) (Ext.alloc _ _)
    · have := (Array.getElem?_eq_some_iff.1 HHB2.out).1
      omega
  case round =>
    obtain ⟨k, u, ps, hk, rfl, H⟩ := hrel
    obtain ⟨hO, hps, hnd, hE, hRo, hob1, hob2, hob3, hlt1⟩ := H.out
    obtain ⟨Au, cu, rfl, hcu, hcu'⟩ := hO.form
    have hbc := cell_of_row wr w.heap.size 1 _ _ _ hob1
    simp only [List.getElem?_toArray, List.getElem?_cons_succ, List.getElem?_cons_zero] at hbc
    have hlps : ps.length = k := by
      have := congrArg List.length hps
      rw [List.length_map, List.length_take] at this
      omega
    by_cases hltk : k < C.units.length
    · obtain ⟨b, o, x, An, cn, rfl, e, c1, c2, hnx⟩ := hg k hltk
      have hbo := cell_of_row wr (w1.heap.size + 1) 1 _ _ _ hob3
      simp only [List.getElem?_toArray, List.getElem?_cons_succ, List.getElem?_cons_zero] at hbo
      have KS : Hid (∀ w', Ext w w' → w'.heap[w.heap.size]? = wr.heap[w.heap.size]? → w'.heap[w1.heap.size + 1]? = wr.heap[w1.heap.size + 1]? →
          w'.cell? ⟨w.heap.size, 1, none⟩ = some (.slice (some ⟨b, o, none⟩) C.units.length c) ∧ w'.cell? ⟨w1.heap.size + 1, 1, none⟩ = some (.slice Au ps.length cu) ∧ w'.cell? ⟨b, o + k * 2, none⟩ = some (.bool x.opened) ∧ w'.cell? ⟨b, o + k * 2 + 1, none⟩ = some (.slice An x.tasks.length cn)) :=
        hid fun w' hw h1 h3 => ⟨(World.cell?_of_block (w := wr) (a := ⟨w.heap.size, 1, none⟩) h1).trans hbc, (World.cell?_of_block (w := wr) (a := ⟨w1.heap.size + 1, 1, none⟩) h3).trans hbo, hw.cell c1, hw.cell c2⟩
      have i1 : (k : Int) < (C.units.length : Int) := by omega
      have i0 : (0 : Int) ≤ (k : Int) := by omega
      have HN := hid hnx
      have HLT := hid (hlt x (List.mem_of_getElem? e.out))
      have HP := hid hlps
      have HPS := hid hps
      have hsz1 := hE.size
      have Hob1 := hid hob1
      have Hob2 := hid hob2
      have Hob3 := hid hob3
      have HO := hid hO
      clear c1 c2 hnx hbo hlps hps hob1 hob2 hob3 hO
      have hE2 : Ext w wr := hE
      go_wp2
      refine WG.start (fun w' => w'.cell? ⟨w.heap.size, 1, none⟩ = some (.slice (some ⟨b, o, none⟩) C.units.length c) ∧ w'.cell? ⟨w1.heap.size + 1, 1, none⟩ = some (.slice Au ps.length cu) ∧ w'.cell? ⟨b, o + k * 2, none⟩ = some (.bool x.opened) ∧ w'.cell? ⟨b, o + k * 2 + 1, none⟩ = some (.slice An x.tasks.length cn)) [17,18,19] (by kernel_rfl) (by exact KS.out _ (Below.drew hE) rfl rfl) (fun hHeld => ?_)
      (refine WG.take (i := 0) (v := ?_) rfl (by kernel_rfl) (by kernel_rfl) (by kernel_rfl) (by kernel_rfl) (fun _ _ _ h => h) (Or.inl ⟨by rfl, ?_⟩) (by assumption) ?_; rotate_left; (intro w hSw; (try dsimp only at hSw); go_split_ands; go_simp; (try with_reducible rfl)); (try simp only [Act.put, List.setIfInBounds_toArray, List.set_cons_zero, List.set_cons_succ]))
      (refine WG.take (i := 1) (v := ?_) rfl (by kernel_rfl) (by kernel_rfl) (by kernel_rfl) (by kernel_rfl) (fun _ _ _ h => h) (Or.inl ⟨by rfl, ?_⟩) (by assumption) ?_; rotate_left; (intro w hSw; (try dsimp only at hSw); go_split_ands; go_simp; (try with_reducible rfl)); (try simp only [Act.put, List.setIfInBounds_toArray, List.set_cons_zero, List.set_cons_succ]))
      (refine WG.take (i := 2) (v := ?_) rfl (by kernel_rfl) (by kernel_rfl) (by kernel_rfl) (by kernel_rfl) (fun _ _ _ h => h) (Or.inl ⟨by rfl, ?_⟩) (by assumption) ?_; rotate_left; (intro w hSw; (try dsimp only at hSw); go_split_ands; go_simp; (try with_reducible rfl)); (try simp only [Act.put, List.setIfInBounds_toArray, List.set_cons_zero, List.set_cons_succ]))
      (refine WG.take (i := 3) (v := ?_) rfl (by kernel_rfl) (by kernel_rfl) (by kernel_rfl) (by kernel_rfl) (fun _ _ _ h => h) (Or.inl ⟨by rfl, ?_⟩) (by assumption) ?_; rotate_left; (intro w hSw; (try dsimp only at hSw); go_split_ands; go_simp; (try with_reducible rfl)); (try simp only [Act.put, List.setIfInBounds_toArray, List.set_cons_zero, List.set_cons_succ]))
      (refine WG.take (i := 4) (v := ?_) rfl (by kernel_rfl) (by kernel_rfl) (by kernel_rfl) (by kernel_rfl) (fun _ _ _ h => h) (Or.inl ⟨by rfl, ?_⟩) (by assumption) ?_; rotate_left; (intro w hSw; (try dsimp only at hSw); go_split_ands; go_simp; (try with_reducible rfl)); (try simp only [Act.put, List.setIfInBounds_toArray, List.set_cons_zero, List.set_cons_succ]))
      (refine WG.take (i := 5) (v := ?_) rfl (by kernel_rfl) (by kernel_rfl) (by kernel_rfl) (by kernel_rfl) (fun _ _ _ h => h) (Or.inl ⟨by rfl, ?_⟩) (by assumption) ?_; rotate_left; (intro w hSw; (try dsimp only at hSw); go_split_ands; go_simp; (try with_reducible rfl)); (try simp only [Act.put, List.setIfInBounds_toArray, List.set_cons_zero, List.set_cons_succ]))
      (refine WG.take (i := 6) (v := ?_) rfl (by kernel_rfl) (by kernel_rfl) (by kernel_rfl) (by kernel_rfl) (fun _ _ _ h => h) (Or.inl ⟨by rfl, ?_⟩) (by assumption) ?_; rotate_left; (intro w hSw; (try dsimp only at hSw); go_split_ands; go_simp; (try with_reducible rfl)); (try simp only [Act.put, List.setIfInBounds_toArray, List.set_cons_zero, List.set_cons_succ]))
      (refine WG.take (i := 7) (v := ?_) rfl (by kernel_rfl) (by kernel_rfl) (by kernel_rfl) (by kernel_rfl) (fun _ _ _ h => h) (Or.inl ⟨by rfl, ?_⟩) (by assumption) ?_; rotate_left; (intro w hSw; (try dsimp only at hSw); go_split_ands; go_simp; (try with_reducible rfl)); (try simp only [Act.put, List.setIfInBounds_toArray, List.set_cons_zero, List.set_cons_succ]))
      (refine WG.take (i := 8) (v := ?_) rfl (by kernel_rfl) (by kernel_rfl) (by kernel_rfl) (by kernel_rfl) (fun _ _ _ h => h) (Or.inl ⟨by rfl, ?_⟩) (by assumption) ?_; rotate_left; (intro w hSw; (try dsimp only at hSw); go_split_ands; go_simp; (try with_reducible rfl)); (try simp only [Act.put, List.setIfInBounds_toArray, List.set_cons_zero, List.set_cons_succ]))
      (refine WG.take (i := 9) (v := ?_) rfl (by kernel_rfl) (by kernel_rfl) (by kernel_rfl) (by kernel_rfl) (fun _ _ _ h => h) (Or.inl ⟨by rfl, ?_⟩) (by assumption) ?_; rotate_left; (intro w hSw; (try dsimp only at hSw); go_split_ands; go_simp; (try with_reducible rfl)); (try simp only [Act.put, List.setIfInBounds_toArray, List.set_cons_zero, List.set_cons_succ]))
      (refine WG.take (i := 10) (v := ?_) rfl (by kernel_rfl) (by kernel_rfl) (by kernel_rfl) (by kernel_rfl) (fun _ _ _ h => h) (Or.inl ⟨by rfl, ?_⟩) (by assumption) ?_; rotate_left; (intro w hSw; (try dsimp only at hSw); go_split_ands; go_simp; (try with_reducible rfl)); (try simp only [Act.put, List.setIfInBounds_toArray, List.set_cons_zero, List.set_cons_succ]))
      (refine WG.take (i := 11) (v := ?_) rfl (by kernel_rfl) (by kernel_rfl) (by kernel_rfl) (by kernel_rfl) (fun _ _ _ h => h) (Or.inl ⟨by rfl, ?_⟩) (by assumption) ?_; rotate_left; (intro w hSw; (try dsimp only at hSw); go_split_ands; go_simp; (try with_reducible rfl)); (try simp only [Act.put, List.setIfInBounds_toArray, List.set_cons_zero, List.set_cons_succ]))
      (refine WG.take (i := 12) (v := ?_) rfl (by kernel_rfl) (by kernel_rfl) (by kernel_rfl) (by kernel_rfl) (fun _ _ _ h => h) (Or.inl ⟨by rfl, ?_⟩) (by assumption) ?_; rotate_left; (intro w hSw; (try dsimp only at hSw); go_split_ands; go_simp; (try with_reducible rfl)); (try simp only [Act.put, List.setIfInBounds_toArray, List.set_cons_zero, List.set_cons_succ]))
      (refine WG.take (i := 13) (v := ?_) rfl (by kernel_rfl) (by kernel_rfl) (by kernel_rfl) (by kernel_rfl) (fun _ _ _ h => h) (Or.inl ⟨by rfl, ?_⟩) (by assumption) ?_; rotate_left; (intro w hSw; (try dsimp only at hSw); go_split_ands; go_simp; (try with_reducible rfl)); (try simp only [Act.put, List.setIfInBounds_toArray, List.set_cons_zero, List.set_cons_succ]))
      refine WG.one (i := 14) rfl (by kernel_rfl) (fun K hK => ?_)
      go_simp; refine (sCopy _ x.tasks _ (HN.out.ext (Below.drew hE)) HLT.out.1 HLT.out.2).mono ?_; rintro e1 w2 ⟨tv, rfl, htv, hEt⟩; have hEr : Ext wr w2 := Ext.trans (Below.drew (Below.refl _ _)) hEt; obtain ⟨At, ct, rfl, hct, hct'⟩ := htv.form; (try dsimp only)
      refine hK.out _ _ (by exact KS.out _ (hE.trans hEr) (hEr.block _ (Array.getElem?_eq_some_iff.1 Hob1.out).1) (hEr.block _ (Array.getElem?_eq_some_iff.1 Hob3.out).1)) (fun hHeld => ?_)
      clear hK K
      (try simp only [Act.put, List.setIfInBounds_toArray, List.set_cons_zero, List.set_cons_succ])
      (refine WG.take (i := 15) (v := ?_) rfl (by kernel_rfl) (by kernel_rfl) (by kernel_rfl) (by kernel_rfl) (fun _ _ _ h => h) (Or.inl ⟨by rfl, ?_⟩) (by assumption) ?_; rotate_left; (intro w hSw; (try dsimp only at hSw); go_split_ands; go_simp; (try with_reducible rfl)); (try simp only [Act.put, List.setIfInBounds_toArray, List.set_cons_zero, List.set_cons_succ]))
      refine WG.one (i := 16) rfl (by kernel_rfl) (fun K hK => ?_)
      go_simp
      refine hK.out _ _ (by exact KS.out _ ((hE.trans hEr).trans (Ext.alloc _ _)) ((hEr.trans (Ext.alloc _ _)).block _ (Array.getElem?_eq_some_iff.1 Hob1.out).1) ((hEr.trans (Ext.alloc _ _)).block _ (Array.getElem?_eq_some_iff.1 Hob3.out).1)) (fun hHeld => ?_)
      clear hK K
      (try simp only [Act.put, List.setIfInBounds_toArray, List.set_cons_zero, List.set_cons_succ])
      have hEa := hEr.trans (Ext.alloc w2 (.cells #[.bool x.opened, .slice At x.tasks.length ct] 44))
      have hsza : w.heap.size ≤ w2.heap.size := (hE.trans hEr).size
      have HV1 := hid (HO.out.ext (EUV.ok _) hEa)
      have HT1 := hid (Own.low (htv.ext ET.ok (Ext.alloc w2 (.cells #[.bool x.opened, .slice At x.tasks.length ct] 44))) hE.size)
      refine WG.last (i := 17) rfl (by kernel_rfl) (by kernel_rfl) (fun K hK => ?_)
      refine step_append_sl _ (by rfl) _ _ 24 (by rfl) (EUV.ok _) (EUV.flat _) (w.heap.size) 44 EUV.ne i0_unit _ 2 32 Try.underlying24 hi0_unit hz0_unit hz1_unit hz2_unit rfl (by omega) _ (by rfl) _ (HV1.out) _ (by rfl) _ (RSl.laid (cs := [.bool x.opened, .slice At x.tasks.length ct]) (x := (x, .slice At x.tasks.length ct)) (heap_alloc_new _ _) rfl ⟨rfl, HT1.out⟩) (by have := HP.out; simp; omega) (by have := HP.out; simp; omega) ?_ ?_; (focus (first | exact Nat.le_refl _ | (simp; done) | (simp; omega) | omega)); intro v3 w3 hO3 hg3 hat3 hs3; obtain ⟨A3, c3, rfl, hc3, hc3'⟩ := hO3.form_app; have hE3 : Ext w w3 := Ext.grown (hE.trans hEa) hg3 HV1.out.lt; have ho1 := hs3 _ _ _ _ (by decide) (hEa.obj Hob1.out); have ho2 := hs3 _ _ _ _ (by decide) (hEa.obj Hob2.out); have ho3 := hs3 _ _ _ _ (by decide) (hEa.obj Hob3.out)
      refine hK.out _ _ ?_
      clear hK K
      (try simp only [Act.put, List.setIfInBounds_toArray, List.set_cons_zero, List.set_cons_succ])
      have co3 := obj_cell ho3 (i := 1) rfl
      have fo3 := obj_frozen ho3 1
      refine WG.last (i := 18) rfl (by kernel_rfl) (by kernel_rfl) (fun K hK => ?_)
      go_simp
      refine hK.out _ _ ?_
      clear hK K
      (try simp only [Act.put, List.setIfInBounds_toArray, List.set_cons_zero, List.set_cons_succ])
      refine WG.last (i := 19) rfl (by kernel_rfl) (by kernel_rfl) (fun K hK => ?_)
      go_simp
      refine hK.out _ _ ?_
      clear hK K
      (try simp only [Act.put, List.setIfInBounds_toArray, List.set_cons_zero, List.set_cons_succ])
      refine WG.done (by kernel_rfl) ?_
      go_wp2
      go_roundw
      case rel =>
        have hsx : SameT (fun t => t ≠ 26) w3 (w3.setCell ⟨w1.heap.size + 1, 1, none⟩ (Value.slice A3 (ps.length + 1) c3)) := SameT.setCell (p := ⟨w1.heap.size + 1, 1, none⟩) ho3 _ (fun t ht => ht)
        have hsT : SameT (fun t => t = 44 ∨ t = 80 ∨ t = 3) w3 (w3.setCell ⟨w1.heap.size + 1, 1, none⟩ (Value.slice A3 (ps.length + 1) c3)) := hsx.mono (by rintro t (rfl | rfl | rfl) <;> decide)
        have hsI : SameT (fun t => t = 3) w3 (w3.setCell ⟨w1.heap.size + 1, 1, none⟩ (Value.slice A3 (ps.length + 1) c3)) := hsx.mono (by rintro t rfl; decide)
        refine ⟨k + 1, Value.slice A3 (ps.length + 1) c3, ps ++ [(x, Value.slice At x.tasks.length ct)], by omega, by go_num, hid ⟨?_, ?_, ?_, ?_, ?_, ?_, ?_, ?_, hlt1⟩⟩
        · exact Own.same (EUV.ok _) hO3 hsT
        · rw [List.map_append, HPS.out, take_snoc e.out]; rfl
        · exact nodup_more HO.out hnd (fun g hg => by have := htv.lt g hg; have h5 : wr.heap.size ≤ wr.drew.heap.size := Nat.le_refl _; omega)
        · exact Below.setCell hE3 (by show w.heap.size ≤ w1.heap.size + 1; omega) _
        · exact RI.same (RI.ext hRo hEa) ((hs3.mono (by rintro t rfl; decide)).trans hsI)
        · exact obj_far ho1 (by show w.heap.size ≠ w1.heap.size + 1; omega) _
        · exact obj_far ho2 (by show w.heap.size + 1 ≠ w1.heap.size + 1; omega) _
        · exact obj_set ho3 1 _
      case measure => simp [intOf]; omega
    · have hk' : k = C.units.length := by omega
      have cx0 := obj_cell hob3 (i := 0) rfl
      have cx1 := obj_cell hob3 (i := 1) rfl
      have cy0 := obj_cell hob2 (i := 0) rfl
      have cy1 := obj_cell hob2 (i := 1) rfl
      have fy0 := obj_frozen hob2 0
      have fy1 := obj_frozen hob2 1
      have Hob2 := hid hob2
      have HO := hid hO
      have HP := hid hps
      have HRo := hid hRo
      have HK := hid hk'
      clear hob1 hob2 hob3 hO hps hRo hk' hlps
      go_wp2
      have hz := obj_set2 Hob2.out (.slice A1 C.room.length c1x) (.slice Au ps.length cu)
      have z0 := obj_cell hz (i := 0) rfl
      have z1 := obj_cell hz (i := 1) rfl
      have hsx := (SameT.setCell (T := fun t => t ≠ 26) (p := ⟨w.heap.size + 1, 0, none⟩) Hob2.out (.slice A1 C.room.length c1x) (fun t ht => ht)).trans (SameT.setCell (p := ⟨w.heap.size + 1, 1, none⟩) (obj_set Hob2.out 0 _) (.slice Au ps.length cu) (fun t ht => ht))
      have hsT : SameT (fun t => t = 44 ∨ t = 80 ∨ t = 3) wr ((wr.setCell ⟨w.heap.size + 1, 0, none⟩ (.slice A1 C.room.length c1x)).setCell ⟨w.heap.size + 1, 1, none⟩ (.slice Au ps.length cu)) := hsx.mono (by rintro t (rfl | rfl | rfl) <;> decide)
      refine bodyPost_ret (v := .agg #[.slice A1 C.room.length c1x, .slice Au ps.length cu]) (by simp [results, Try.results84, go_sem, z0, z1]) rfl ⟨_, rfl, ⟨_, _, ps, rfl, ?_, ?_, ?_, hnd⟩, ?_⟩
      · exact RI.same HRo.out (hsT.mono (fun t h => .inr (.inr h)))
      · exact Own.same (EUV.ok _) HO.out hsT
      · rw [HP.out, HK.out, List.take_length]
      · exact Below.setCell (Below.setCell hE (Nat.le_succ _) _) (Nat.le_succ _) _
end Go.Proofs.Ytcfpilkhjpegcaa

/- The reference's scaling. -/
namespace Go.Proofs.Ytcfpilkhjpegcaa
open Go.RowKit
set_option maxRecDepth 4000

theorem Nn.at_ {M : Int} {xs : List Int} (h : Nn M xs) {j : Nat} {x : Int} (hx : Hid (xs[j]? = some x)) : 0 ≤ x ∧ x ≤ M := h x (List.mem_of_getElem? hx)

theorem min_if (t x : Int) : (if x < t then x else t) = min t x := by simp only [Int.min_def]; split <;> split <;> omega

end Go.Proofs.Ytcfpilkhjpegcaa
