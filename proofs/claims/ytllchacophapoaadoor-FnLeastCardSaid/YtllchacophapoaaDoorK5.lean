/- The reference's vectors and tasks: what each call returns. -/
import Derived.Test.YtllchacophapoaaDoorK2
import Derived.Test.YtllchacophapoaaDoorK1
import Derived.Test.YtllchacophapoaaDoorK4
namespace Go.Proofs.YtllchacophapoaaDoor
open Go.RowKit
set_option maxRecDepth 4000

theorem sIn (a l h : Int) (w : World) :
    Calls Tryd.prog 43 #[.int .i64 a, .int .i64 l, .int .i64 h] w fun e w' => e = .returned (.bool (inB a l h)) ∧ ∃ n, w' = w.drewN n := by
  go_enter Tryd.func43, Tryd.ntmps43
  by_cases h1 : l ≤ a <;> by_cases h2 : a ≤ h
  all_goals
    go_wp2
    go_ret
    exact ⟨by simp [inB, h1, h2], 0, rfl⟩

theorem sVecValid (v : Value) (xs : List Int) (w : World) (h : RI w v xs) :
    Calls Tryd.prog 68 #[v] w fun e w' => e = .returned (.bool (vecOk xs)) ∧ ∃ n, w' = w.drewN n := by
  obtain ⟨A, c, rfl, hc, hc', hr⟩ := h.get
  clear h
  go_enter Tryd.func68, Tryd.ntmps68
  go_wp2
  go_loopw [3] (fun i wr => ∃ k : Nat, k ≤ xs.length ∧ i = .int .i64 k ∧ Hid (vecTo xs k = true) ∧ ∃ n, wr = w.drewN n) (fun i _ => xs.length - (intOf i).toNat)
  case atStart => exact ⟨0, Nat.zero_le _, rfl, rfl, 0, rfl⟩
  case round =>
    obtain ⟨k, hk, rfl, H, n, rfl⟩ := hrel
    by_cases hlt : k < xs.length
    · obtain ⟨b, o, x, rfl, e, hcell⟩ := hr k hlt
      go_wp2_with (go_at_call 43; refine (sIn _ _ _ _).mono ?_; rintro e w' ⟨rfl, n1, rfl⟩)
      · have hx : inB x 0 20 = false := by simpa using (by assumption : (!inB x 0 20) = true)
        go_ret
        exact ⟨by unfold vecOk; rw [all_false_of e.out hx]; rfl, _, rfl⟩
      · have hx : inB x 0 20 = true := by simpa using (by assumption : (!inB x 0 20) = false)
        go_roundw
        case rel => exact ⟨k + 1, by omega, by go_num, by show vecTo xs (k + 1) = true; rw [vecTo_succ e.out, H.out, hx]; rfl, _, rfl⟩
        case measure => simp [intOf]; omega
    · go_wp2
      go_ret
      have hk' : k = xs.length := by omega
      subst hk'
      have H1 := H.out
      rw [vecTo_all] at H1
      exact ⟨by unfold vecOk; rw [H1, len_beq3]; rfl, _, rfl⟩

theorem sFits (va vb : Value) (a b : List Int) (w : World) (ha : RI w va a) (hb : RI w vb b) (la : a.length = 3) (lb : b.length = 3) :
    Calls Tryd.prog 69 #[va, vb] w fun e w' => e = .returned (.bool (fitsL a b)) ∧ ∃ n, w' = w.drewN n := by
  obtain ⟨A, c, rfl, h1, h2, h3⟩ := ha.get
  obtain ⟨A', c', rfl, h1', h2', h3'⟩ := hb.get
  have La : 3 ≤ a.length := by omega
  have Lb : 3 ≤ b.length := by omega
  clear la lb ha hb
  go_enter Tryd.func69, Tryd.ntmps69
  go_wp2
  go_loopw [5] (fun i wr => ∃ k : Nat, k ≤ 3 ∧ i = .int .i64 k ∧ Hid (fitsTo a b k = true) ∧ ∃ n, wr = w.drewN n) (fun i _ => 3 - (intOf i).toNat)
  case atStart => exact ⟨0, by omega, rfl, rfl, 0, rfl⟩
  case round =>
    obtain ⟨k, hk, rfl, H, n, rfl⟩ := hrel
    by_cases hlt : k < 3
    · obtain ⟨b1, o1, x1, rfl, e1, c1⟩ := h3 k (by omega)
      obtain ⟨b2, o2, x2, rfl, e2, c2⟩ := h3' k (by omega)
      have i1 : (k : Int) < (a.length : Int) := by omega
      have i2 : (k : Int) < (b.length : Int) := by omega
      go_wp2
      go_quiet (fail)
      go_wp2
      · go_ret
        exact ⟨ret_b (fitsL_false hlt e1.out e2.out (by assumption)).symm, _, World.drewN_drewN _ _ _⟩
      · have hx : x1 ≤ x2 := by assumption
        go_roundw
        case rel => exact ⟨k + 1, by omega, by go_num, by show fitsTo a b (k + 1) = true; rw [fitsTo_succ e1.out e2.out, H.out]; simpa using hx, _, rfl⟩
        case measure => simp [intOf]; omega
    · go_wp2
      go_ret
      have hk' : k = 3 := by omega
      subst hk'
      exact ⟨ret_b (by unfold fitsL; rw [H.out]), _, rfl⟩

theorem sVecFits (va vb : Value) (a b : List Int) (w : World) (ha : RI w va a) (hb : RI w vb b) :
    Calls Tryd.prog 45 #[va, vb] w fun e w' => e = .returned (.bool (vecFits a b)) ∧ ∃ n, w' = w.drewN n := by
  by_cases h1 : vecOk a = true
  · by_cases h2 : vecOk b = true
    · have H1 := vecOk_len h1
      have H2 := vecOk_len h2
      have G1 := hid H1
      have G2 := hid H2
      clear H1 H2
      go_enter Tryd.func45, Tryd.ntmps45
      go_wp2_with fail
      refine (sVecValid _ a _ (by exact ha)).mono ?_
      rintro e w' ⟨rfl, n1, rfl⟩
      go_wp2_with fail
      refine (sVecValid _ b _ (by exact hb.ext (Ext.drewN _ _))).mono ?_
      rintro e w' ⟨rfl, n2, rfl⟩
      go_wp2_with fail
      refine (sFits _ _ a b _ (by exact ha.ext (Ext.drewN _ _)) (by exact hb.ext (Ext.drewN _ _)) G1.out G2.out).mono ?_
      rintro e w' ⟨rfl, n3, rfl⟩
      go_wp2
      go_ret
      exact ⟨by simp [vecFits, h1, h2], _, rfl⟩
    · have h2 : vecOk b = false := by simpa using h2
      go_enter Tryd.func45, Tryd.ntmps45
      go_wp2_with fail
      refine (sVecValid _ a _ (by exact ha)).mono ?_
      rintro e w' ⟨rfl, n1, rfl⟩
      go_wp2_with fail
      refine (sVecValid _ b _ (by exact hb.ext (Ext.drewN _ _))).mono ?_
      rintro e w' ⟨rfl, n2, rfl⟩
      go_wp2
      go_ret
      exact ⟨by simp [vecFits, h1, h2], _, rfl⟩
  · have h1 : vecOk a = false := by simpa using h1
    go_enter Tryd.func45, Tryd.ntmps45
    go_wp2_with fail
    refine (sVecValid _ a _ (by exact ha)).mono ?_
    rintro e w' ⟨rfl, n1, rfl⟩
    go_wp2
    go_ret
    exact ⟨by simp [vecFits, h1], _, rfl⟩

set_option maxHeartbeats 400000 in
theorem sAdd (va vb : Value) (a b : List Int) (t : Int) (w : World) (ha : RI w va a) (hb : RI w vb b) (la : a.length = 3) (lb : b.length = 3)
    (ba : Bd 1000000 a) (bb : Bd 1000000 b) (bt : t = 1 ∨ t = -1) :
    Calls Tryd.prog 83 #[va, vb, .int .i64 t] w (RetRI w (addL a b t)) := by
  obtain ⟨A, c, rfl, h1, h2, h3⟩ := ha.get
  obtain ⟨A', c', rfl, h1', h2', h3'⟩ := hb.get
  have La : 3 ≤ a.length := by omega
  have Lb : 3 ≤ b.length := by omega
  clear la lb ha hb
  obtain ⟨i0_int, hi0_int, hz0_int, hz1_int, hz2_int⟩ := info_parts info_int
  go_enter Tryd.func83, Tryd.ntmps83
  go_wp2
  go_loopw [7, 8] (fun v i wr => ∃ k : Nat, k ≤ 3 ∧ i = .int .i64 k ∧ OI wr w.heap.size v (addTo a b t k) ∧ Ext w wr) (fun _ i _ => 3 - (intOf i).toNat)
  case atStart => exact ⟨0, by omega, rfl, Own.made _ _ (Nat.le_refl _) (by omega) rfl, Below.alloc (Below.refl _ _) (Nat.le_refl _) _⟩
  case round =>
    obtain ⟨k, hk, rfl, hO, hB⟩ := hrel
    by_cases hlt : k < 3
    · obtain ⟨b1, o1, x1, rfl, e1, c1⟩ := h3 k (by omega)
      obtain ⟨b2, o2, x2, rfl, e2, c2⟩ := h3' k (by omega)
      have i1 : (k : Int) < (a.length : Int) := by omega
      have i2 : (k : Int) < (b.length : Int) := by omega
      have c1r := hB.cell c1
      have c2r := hB.cell c2
      have HO := hid hO
      have d1 := ba.at_ e1
      have d2 := bb.at_ e2
      have w1 : IntKind.i64.wrap (t * x2) = t * x2 := by rcases bt with h | h <;> subst h <;> exact IntWalk.i64_in _ (by omega)
      have w2 : IntKind.i64.wrap (x1 + t * x2) = x1 + t * x2 := by rcases bt with h | h <;> subst h <;> exact IntWalk.i64_in _ (by omega)
      have KH : Hid (∀ w', Ext w w' → w'.cell? ⟨b1, o1 + k, none⟩ = some (.int .i64 x1) ∧ w'.cell? ⟨b2, o2 + k, none⟩ = some (.int .i64 x2) ∧ Below w.heap.size w w') := hid fun w' hw => ⟨hw.cell c1, hw.cell c2, hw⟩
      have HL := hid (addTo_len a b t k)
      have hsz : w.heap.size ≤ wr.heap.size := hB.size
      clear d1 d2 c1 c2 hO
      go_wp2
      go_region_held3 (fun w' => w'.cell? ⟨b1, o1 + k, none⟩ = some (.int .i64 x1) ∧ w'.cell? ⟨b2, o2 + k, none⟩ = some (.int .i64 x2) ∧ Below w.heap.size w w')
        (first | exact KH.out _ (by assumption) | exact KH.out _ (Below.drew (by assumption)) | exact KH.out _ (Below.alloc (by assumption) hsz _) | exact KH.out _ (Below.alloc (Below.drew (by assumption)) hsz _) | exact KH.out _ (Below.drew (Below.alloc (by assumption) hsz _)))
        ((refine step_append_sl _ (by rfl) _ _ 22 (by rfl) EI.ok EI.flat (w.heap.size) 3 EI.ne i0_int _ 1 8 Tryd.underlying22 hi0_int hz0_int hz1_int hz2_int rfl (by omega) _ (by rfl) _ (HO.out.ext EI.ok (Below.drew (Ext.alloc _ _))) _ (by rfl) _ (RSl.laid (cs := [.int .i64 (x1 + t * x2)]) (heap_alloc_new _ _) rfl rfl) (by rw [HL.out]; simp; omega) (by rw [HL.out]; simp; omega) ?_ ?_; (focus (first | exact Nat.le_refl _ | (simp; done) | (simp; omega) | omega)); intro v1 w1 hO1 hg1 hat1 hs1; have hb1 : Below w.heap.size w w1 := Ext.grown (Below.drew (Below.alloc hB hsz _)) hg1 (fun q hq => ((HO.out.ext EI.ok (Below.drew (Ext.alloc _ _))).lt q hq))))
      go_wp2
      go_roundw
      case rel => exact ⟨k + 1, by omega, by go_num, by rw [addTo_succ t e1.out e2.out]; exact hO1, hb1⟩
      case measure => simp [intOf]; omega
    · go_wp2
      go_ret
      have hk' : k = 3 := by omega
      subst hk'
      exact ⟨_, rfl, hO.read, hB⟩

theorem sRoom (v : Value) (xs : List Int) (w : World) (h : RI w v xs) :
    Calls Tryd.prog 42 #[v] w fun e w' => e = .returned (.bool (roomOk xs)) ∧ ∃ n, w' = w.drewN n := by
  have h0 := h
  obtain ⟨A, c, rfl, hc, hc', hr⟩ := h.get
  clear h
  go_enter Tryd.func42, Tryd.ntmps42
  go_wp2
  go_loopw [3] (fun i wr => ∃ k : Nat, k ≤ xs.length ∧ i = .int .i64 k ∧ Hid (roomTo xs k = true) ∧ ∃ n, wr = w.drewN n) (fun i _ => xs.length - (intOf i).toNat)
  case atStart => exact ⟨0, Nat.zero_le _, rfl, rfl, 0, rfl⟩
  case round =>
    obtain ⟨k, hk, rfl, H, n, rfl⟩ := hrel
    by_cases hlt : k < xs.length
    · obtain ⟨b, o, x, rfl, e, hcell⟩ := hr k hlt
      go_wp2
      · have hx : x < 1 := by assumption
        go_ret
        exact ⟨by unfold roomOk; rw [all_false_of e.out (by simp; omega)]; rfl, _, rfl⟩
      · have hx : 1 ≤ x := by assumption
        go_roundw
        case rel => exact ⟨k + 1, by omega, by go_num, by show roomTo xs (k + 1) = true; rw [roomTo_succ e.out, H.out]; simpa using hx, _, rfl⟩
        case measure => simp [intOf]; omega
    · go_wp2_with (go_at_call 68; refine (sVecValid _ xs _ (by exact h0.ext (Ext.drewN _ _))).mono ?_; rintro e w' ⟨rfl, n1, rfl⟩)
      go_ret
      have hk' : k = xs.length := by omega
      subst hk'
      have H1 := H.out
      unfold roomTo at H1
      rw [List.take_length] at H1
      exact ⟨by unfold roomOk; rw [H1]; rfl, _, rfl⟩

end Go.Proofs.YtllchacophapoaaDoor

/- The reference's tasks and nodes. -/
namespace Go.Proofs.YtllchacophapoaaDoor
open Go.RowKit
set_option maxRecDepth 4000

theorem sHas (v : Value) (ts : List TaskD) (m : Nat) (id : Int) (w : World) (h : RT w v ts) (hm : m ≤ ts.length) :
    Calls Tryd.prog 44 #[v, .int .i64 m, .int .i64 id] w fun e w' => e = .returned (.bool (hasId (ts.take m) id)) ∧ ∃ n, w' = w.drewN n := by
  obtain ⟨A, c, rfl, hc, hc', hr⟩ := h.get
  clear h
  go_enter Tryd.func44, Tryd.ntmps44
  go_wp2
  go_loopw [7] (fun i wr => ∃ k : Nat, k ≤ m ∧ i = .int .i64 k ∧ Hid (hasId (ts.take k) id = false) ∧ ∃ n, wr = w.drewN n) (fun i _ => m - (intOf i).toNat)
  case atStart => exact ⟨0, Nat.zero_le _, rfl, rfl, 0, rfl⟩
  case round =>
    obtain ⟨k, hk, rfl, H, n, rfl⟩ := hrel
    by_cases hlt : k < m
    · obtain ⟨b, o, t, An, cn, rfl, e, c1, c2, hn⟩ := hr k (by omega)
      have i1 : k < ts.length := by omega
      by_cases he : t.id = id
      · have he' : (t.id == id) = true := by simpa using he
        have HE := hid he
        clear he
        go_wp2
        go_ret
        exact ⟨ret_b (hasId_hit e.out hlt HE.out).symm, _, rfl⟩
      · have he' : (t.id == id) = false := by simpa using he
        go_wp2
        go_roundw
        case rel => exact ⟨k + 1, by omega, by go_num, by show hasId (ts.take (k + 1)) id = false; rw [hasId_take_succ e.out, H.out, he']; rfl, _, rfl⟩
        case measure => simp [intOf]; omega
    · go_wp2
      go_ret
      have hk' : k = m := by omega
      subst hk'
      exact ⟨ret_b H.out.symm, _, rfl⟩

set_option maxHeartbeats 400000 in
theorem sLoad (v : Value) (ts : List TaskD) (w : World) (h : RT w v ts) (hg : GoodTs ts) :
    Calls Tryd.prog 84 #[v] w (RetRI w (loadL ts)) := by
  obtain ⟨A, c, rfl, hc, hc', hr⟩ := h.get
  clear h
  go_enter Tryd.func84, Tryd.ntmps84
  go_wp2
  go_loopw [3, 4] (fun v i wr => ∃ k : Nat, k ≤ ts.length ∧ i = .int .i64 k ∧ RI wr v (loadL (ts.take k)) ∧ Ext w wr) (fun _ i _ => ts.length - (intOf i).toNat)
  case atStart => exact ⟨0, Nat.zero_le _, rfl, RI.lit w [0, 0, 0] (by simp), Ext.alloc _ _⟩
  case round =>
    obtain ⟨k, hk, rfl, hv, hE⟩ := hrel
    by_cases hlt : k < ts.length
    · obtain ⟨b, o, t, An, cn, rfl, e, c1, c2, hn⟩ := hr k hlt
      have c2r := hE.cell c2
      have hgt := hg.2 t (List.mem_of_getElem? e.out)
      have HB := hid (load_bd (hg.take k))
      have HG := hid hgt
      have HL := hid (loadL_len (ts.take k))
      clear hgt c2 c1
      go_wp2_with (go_at_call 83; refine (sAdd _ _ (loadL (ts.take k)) t.need 1 wr hv (hn.ext hE) HL.out HG.out.1 HB.out (HG.out.2.mono (by omega)) (.inl rfl)).mono ?_; rintro e1 w' ⟨v', rfl, hv', hE'⟩)
      go_roundw
      case rel => exact ⟨k + 1, by omega, by go_num, by rw [loadL_take_succ e.out]; exact hv', hE.trans hE'⟩
      case measure => simp [intOf]; omega
    · go_wp2
      go_ret
      have hk' : k = ts.length := by omega
      subst hk'
      rw [List.take_length] at hv
      exact ⟨_, rfl, hv, hE⟩

set_option maxHeartbeats 1000000 in
theorem sTasksValid (rv v : Value) (room : List Int) (ts : List TaskD) (w : World) (hR : RI w rv room) (h : RT w v ts) :
    Calls Tryd.prog 20 #[rv, v] w fun e w' => e = .returned (.bool (tasksOk room ts)) ∧ ∃ n, w' = w.drewN n := by
  have h0 := h
  obtain ⟨A, c, rfl, hc, hc', hr⟩ := h.get
  clear h
  by_cases hroom : roomOk room = true
  · go_enter Tryd.func20, Tryd.ntmps20
    go_wp2_with fail
    refine (sRoom _ room _ hR).mono ?_
    rintro e w' ⟨rfl, n0, rfl⟩
    go_wp2
    go_loopw [5] (fun i wr => ∃ k : Nat, k ≤ ts.length ∧ i = .int .i64 k ∧ Hid (tasksTo room ts k = true) ∧ ∃ n, wr = w.drewN n) (fun i _ => ts.length - (intOf i).toNat)
    case atStart => exact ⟨0, Nat.zero_le _, rfl, rfl, n0, rfl⟩
    case round =>
      obtain ⟨k, hk, rfl, H, n, rfl⟩ := hrel
      by_cases hlt : k < ts.length
      · obtain ⟨b, o, t, An, cn, rfl, e, c1, c2, hn⟩ := hr k hlt
        by_cases h1 : inB t.id 1 40 = true
        · by_cases h2 : hasId (ts.take k) t.id = true
          · go_wp2_with fail
            refine (sIn _ _ _ _).mono ?_
            rintro e1 w' ⟨rfl, n1, rfl⟩
            go_wp2_with fail
            refine (sHas _ ts k t.id _ (by exact h0.ext (Ext.drewN _ _)) (by omega)).mono ?_
            rintro e1 w' ⟨rfl, n2, rfl⟩
            go_wp2
            go_ret
            exact ⟨ret_b (tasksOk_bad e.out (by simp [taskFine, h2])).symm, _, rfl⟩
          · have h2 : hasId (ts.take k) t.id = false := by simpa using h2
            by_cases h3 : vecFits t.need room = true
            · go_wp2_with fail
              refine (sIn _ _ _ _).mono ?_
              rintro e1 w' ⟨rfl, n1, rfl⟩
              go_wp2_with fail
              refine (sHas _ ts k t.id _ (by exact h0.ext (Ext.drewN _ _)) (by omega)).mono ?_
              rintro e1 w' ⟨rfl, n2, rfl⟩
              go_wp2_with fail
              refine (sVecFits _ _ t.need room _ (by exact hn.ext (Ext.drewN _ _)) (by exact hR.ext (Ext.drewN _ _))).mono ?_
              rintro e1 w' ⟨rfl, n3, rfl⟩
              go_wp2
              go_roundw
              case rel => exact ⟨k + 1, by omega, by go_num, by show tasksTo room ts (k + 1) = true; rw [tasksTo_succ room e.out, H.out]; simp [taskFine, h1, h2, h3], _, rfl⟩
              case measure => simp [intOf]; omega
            · have h3 : vecFits t.need room = false := by simpa using h3
              go_wp2_with fail
              refine (sIn _ _ _ _).mono ?_
              rintro e1 w' ⟨rfl, n1, rfl⟩
              go_wp2_with fail
              refine (sHas _ ts k t.id _ (by exact h0.ext (Ext.drewN _ _)) (by omega)).mono ?_
              rintro e1 w' ⟨rfl, n2, rfl⟩
              go_wp2_with fail
              refine (sVecFits _ _ t.need room _ (by exact hn.ext (Ext.drewN _ _)) (by exact hR.ext (Ext.drewN _ _))).mono ?_
              rintro e1 w' ⟨rfl, n3, rfl⟩
              go_wp2
              go_ret
              exact ⟨ret_b (tasksOk_bad e.out (by simp [taskFine, h3])).symm, _, rfl⟩
        · have h1 : inB t.id 1 40 = false := by simpa using h1
          go_wp2_with fail
          refine (sIn _ _ _ _).mono ?_
          rintro e1 w' ⟨rfl, n1, rfl⟩
          go_wp2
          go_ret
          exact ⟨ret_b (tasksOk_bad e.out (by simp [taskFine, h1])).symm, _, rfl⟩
      · go_wp2
        go_ret
        have hk' : k = ts.length := by omega
        subst hk'
        exact ⟨ret_b (by unfold tasksOk; rw [hroom, H.out, Bool.eq_iff_iff]; simp; omega), _, rfl⟩
  · have hroom : roomOk room = false := by simpa using hroom
    go_enter Tryd.func20, Tryd.ntmps20
    go_wp2_with fail
    refine (sRoom _ room _ hR).mono ?_
    rintro e w' ⟨rfl, n0, rfl⟩
    go_wp2
    go_ret
    exact ⟨by simp [tasksOk, hroom], _, rfl⟩

end Go.Proofs.YtllchacophapoaaDoor

/- The reference's nodes. -/
namespace Go.Proofs.YtllchacophapoaaDoor
open Go.RowKit
set_option maxRecDepth 4000

/-- a task as a value -/
def TaskV (w : World) (v : Value) (t : TaskD) : Prop := ∃ nv, v = .agg #[.int .i64 t.id, nv] ∧ RI w nv t.need
theorem TaskV.ext {w w' : World} {v : Value} {t : TaskD} (h : TaskV w v t) (ha : Ext w w') : TaskV w' v t := let ⟨nv, h1, h2⟩ := h; ⟨nv, h1, h2.ext ha⟩

set_option maxHeartbeats 1000000 in
theorem sL11Fits (rv v xv : Value) (room : List Int) (b : List TaskD) (t : TaskD) (w : World) (hR : RI w rv room) (h : RT w v b) (hx : TaskV w xv t)
    (hlr : room.length = 3) (hg : GoodTs b) (hn : t.need.length = 3 ∧ Bd 1000 t.need) :
    Calls Tryd.prog 59 #[rv, v, xv] w (RetB w (l11fits room b t)) := by
  obtain ⟨nv, rfl, hnv⟩ := hx
  have hE0 := Ext.alloc w (.cells #[.int .i64 t.id, nv] 44)
  have HX := hid (hE0)
  have H1 := hid (h.ext hE0)
  have H2 := hid (hnv.ext hE0)
  have H3 := hid (hR.ext hE0)
  have HG := hid hg
  have HN := hid hn
  have HLR := hid hlr
  have HL := hid (loadL_len b)
  have HB := hid (load_bd hg)
  clear h hR hnv hg hn hlr hE0
  have KH : Hid (∀ w', Ext (w.alloc (.cells #[.int .i64 t.id, nv] 44)) w' → w'.cell? ⟨w.heap.size, 1, none⟩ = some nv ∧ Ext (w.alloc (.cells #[.int .i64 t.id, nv] 44)) w') :=
    hid fun w' hw => ⟨hw.cell (cell_new _ _ _ _), hw⟩
  go_enter Tryd.func59, Tryd.ntmps59
  go_wp2
  go_region_held3 (fun w' => w'.cell? ⟨w.heap.size, 1, none⟩ = some nv ∧ Ext (w.alloc (.cells #[.int .i64 t.id, nv] 44)) w')
    (first | exact KH.out _ (by assumption) | exact KH.out _ (Below.drew (Below.refl _ _)))
    (first
      | (go_at_call 84; refine (sLoad _ b _ (H1.out.ext (by first | assumption | exact Below.drew (Below.refl _ _))) HG.out).mono ?_; rintro e w1 ⟨v1, rfl, hv1, hE1⟩; have h01 : Ext (w.alloc (.cells #[.int .i64 t.id, nv] 44)) w1 := Ext.trans (by first | assumption | exact Below.drew (Below.refl _ _)) hE1)
      | (go_at_call 83; refine (sAdd _ _ (loadL b) t.need 1 _ (by assumption) (H2.out.ext (by assumption)) HL.out HN.out.1 HB.out (HN.out.2.mono (by omega)) (.inl rfl)).mono ?_; rintro e w2 ⟨v2, rfl, hv2, hE2⟩; have h02 : Ext (w.alloc (.cells #[.int .i64 t.id, nv] 44)) w2 := Ext.trans (by assumption) hE2)
      | (go_at_call 69; refine (sFits _ _ (addL (loadL b) t.need 1) room _ (by assumption) (H3.out.ext (by assumption)) (addL_len _ _ _) HLR.out).mono ?_; rintro e w3 ⟨rfl, n3, rfl⟩; have h03 : Ext (w.alloc (.cells #[.int .i64 t.id, nv] 44)) (w2.drewN n3) := Ext.trans (by assumption) (Ext.drewN _ _)))
  go_wp2
  go_ret
  exact ⟨rfl, HX.out.trans (by assumption)⟩

end Go.Proofs.YtllchacophapoaaDoor

/- The reference's clusters, read. -/
namespace Go.Proofs.YtllchacophapoaaDoor
open Go.RowKit
set_option maxRecDepth 4000

end Go.Proofs.YtllchacophapoaaDoor

/- The reference's copies. -/
namespace Go.Proofs.YtllchacophapoaaDoor
open Go.RowKit
set_option maxRecDepth 4000

set_option maxHeartbeats 1000000 in
theorem sCopy (v : Value) (ts : List TaskD) (w : World) (h : RT w v ts) (hl : ts.length ≤ 4000000) (hn : ∀ t ∈ ts, t.need.length ≤ 4000000) :
    Calls Tryd.prog 99 #[v] w fun e w' => ∃ v', e = .returned v' ∧ OT w' w.heap.size v' ts ∧ Ext w w' := by
  obtain ⟨A, c, rfl, hc, hc', hg⟩ := h.get
  clear h
  obtain ⟨i0_task, hi0_task, hz0_task, hz1_task, hz2_task⟩ := info_parts info_task
  obtain ⟨i0_int, hi0_int, hz0_int, hz1_int, hz2_int⟩ := info_parts info_int
  go_enter Tryd.func99, Tryd.ntmps99
  go_wp2
  go_loopw [3, 4] (fun v i wr => ∃ k : Nat, k ≤ ts.length ∧ i = .int .i64 k ∧ OT wr w.heap.size v (ts.take k) ∧ Ext w wr) (fun _ i _ => ts.length - (intOf i).toNat)
  case atStart => exact ⟨0, Nat.zero_le _, rfl, Own.made _ _ (Nat.le_refl _) (by omega) rfl, Ext.alloc _ _⟩
  case round =>
    obtain ⟨k, hk, rfl, hv, hE⟩ := hrel
    by_cases hlt : k < ts.length
    · obtain ⟨b, o, x, An, cn, rfl, e, c1, c2, hnx⟩ := hg k hlt
      have KH : Hid (∀ w', Ext w w' → w'.cell? ⟨b, o + k * 2, none⟩ = some (.int .i64 x.id) ∧ w'.cell? ⟨b, o + k * 2 + 1, none⟩ = some (.slice An x.need.length cn) ∧ Ext w w') := hid fun w' hw => ⟨hw.cell c1, hw.cell c2, hw⟩
      have i1 : (k : Int) < (ts.length : Int) := by omega
      have i0 : (0 : Int) ≤ (k : Int) := by omega
      have HV := hid hv
      have HN := hid hnx
      have HL := hid (hn x (List.mem_of_getElem? e.out))
      have HM := hid ((Own.made (E := EI) (w := wr) (base := wr.heap.size) (e := 3) (size := 1) #[] 0 (Nat.le_refl _) (by omega) rfl).ext EI.ok (Below.drew (Below.refl _ _)))
      clear c1 c2 hnx hv
      go_wp2
      refine WG.start (fun w' => w'.cell? ⟨b, o + k * 2, none⟩ = some (.int .i64 x.id) ∧ w'.cell? ⟨b, o + k * 2 + 1, none⟩ = some (.slice An x.need.length cn) ∧ Ext w w') [15,16] (by kernel_rfl) (by exact KH.out _ (Below.drew hE)) (fun hHeld => ?_)
      (refine WG.take (i := 0) (v := ?_) rfl (by kernel_rfl) (by kernel_rfl) (by kernel_rfl) (by kernel_rfl) (fun _ _ _ h => h) (Or.inl ⟨by rfl, ?_⟩) (by assumption) ?_; rotate_left; (intro w hSw; (try dsimp only at hSw); go_split_ands; go_simp; (try with_reducible rfl)); (try simp only [Act.put, List.setIfInBounds_toArray, List.set_cons_zero, List.set_cons_succ]))
      (refine WG.take (i := 1) (v := ?_) rfl (by kernel_rfl) (by kernel_rfl) (by kernel_rfl) (by kernel_rfl) (fun _ _ _ h => h) (Or.inl ⟨by rfl, ?_⟩) (by assumption) ?_; rotate_left; (intro w hSw; (try dsimp only at hSw); go_split_ands; go_simp; (try with_reducible rfl)); (try simp only [Act.put, List.setIfInBounds_toArray, List.set_cons_zero, List.set_cons_succ]))
      (refine WG.take (i := 2) (v := ?_) rfl (by kernel_rfl) (by kernel_rfl) (by kernel_rfl) (by kernel_rfl) (fun _ _ _ h => h) (Or.inl ⟨by rfl, ?_⟩) (by assumption) ?_; rotate_left; (intro w hSw; (try dsimp only at hSw); go_split_ands; go_simp; (try with_reducible rfl)); (try simp only [Act.put, List.setIfInBounds_toArray, List.set_cons_zero, List.set_cons_succ]))
      (refine WG.take (i := 3) (v := ?_) rfl (by kernel_rfl) (by kernel_rfl) (by kernel_rfl) (by kernel_rfl) (fun _ _ _ h => h) (Or.inl ⟨by rfl, ?_⟩) (by assumption) ?_; rotate_left; (intro w hSw; (try dsimp only at hSw); go_split_ands; go_simp; (try with_reducible rfl)); (try simp only [Act.put, List.setIfInBounds_toArray, List.set_cons_zero, List.set_cons_succ]))
      (refine WG.take (i := 4) (v := ?_) rfl (by kernel_rfl) (by kernel_rfl) (by kernel_rfl) (by kernel_rfl) (fun _ _ _ h => h) (Or.inl ⟨by rfl, ?_⟩) (by assumption) ?_; rotate_left; (intro w hSw; (try dsimp only at hSw); go_split_ands; go_simp; (try with_reducible rfl)); (try simp only [Act.put, List.setIfInBounds_toArray, List.set_cons_zero, List.set_cons_succ]))
      (refine WG.take (i := 5) (v := ?_) rfl (by kernel_rfl) (by kernel_rfl) (by kernel_rfl) (by kernel_rfl) (fun _ _ _ h => h) (Or.inl ⟨by rfl, ?_⟩) (by assumption) ?_; rotate_left; (intro w hSw; (try dsimp only at hSw); go_split_ands; go_simp; (try with_reducible rfl)); (try simp only [Act.put, List.setIfInBounds_toArray, List.set_cons_zero, List.set_cons_succ]))
      (refine WG.take (i := 7) (v := ?_) rfl (by kernel_rfl) (by kernel_rfl) (by kernel_rfl) (by kernel_rfl) (fun _ _ _ h => h) (Or.inl ⟨by rfl, ?_⟩) (by assumption) ?_; rotate_left; (intro w hSw; (try dsimp only at hSw); go_split_ands; go_simp; (try with_reducible rfl)); (try simp only [Act.put, List.setIfInBounds_toArray, List.set_cons_zero, List.set_cons_succ]))
      (refine WG.take (i := 8) (v := ?_) rfl (by kernel_rfl) (by kernel_rfl) (by kernel_rfl) (by kernel_rfl) (fun _ _ _ h => h) (Or.inl ⟨by rfl, ?_⟩) (by assumption) ?_; rotate_left; (intro w hSw; (try dsimp only at hSw); go_split_ands; go_simp; (try with_reducible rfl)); (try simp only [Act.put, List.setIfInBounds_toArray, List.set_cons_zero, List.set_cons_succ]))
      (refine WG.take (i := 9) (v := ?_) rfl (by kernel_rfl) (by kernel_rfl) (by kernel_rfl) (by kernel_rfl) (fun _ _ _ h => h) (Or.inl ⟨by rfl, ?_⟩) (by assumption) ?_; rotate_left; (intro w hSw; (try dsimp only at hSw); go_split_ands; go_simp; (try with_reducible rfl)); (try simp only [Act.put, List.setIfInBounds_toArray, List.set_cons_zero, List.set_cons_succ]))
      (refine WG.take (i := 10) (v := ?_) rfl (by kernel_rfl) (by kernel_rfl) (by kernel_rfl) (by kernel_rfl) (fun _ _ _ h => h) (Or.inl ⟨by rfl, ?_⟩) (by assumption) ?_; rotate_left; (intro w hSw; (try dsimp only at hSw); go_split_ands; go_simp; (try with_reducible rfl)); (try simp only [Act.put, List.setIfInBounds_toArray, List.set_cons_zero, List.set_cons_succ]))
      (refine WG.take (i := 11) (v := ?_) rfl (by kernel_rfl) (by kernel_rfl) (by kernel_rfl) (by kernel_rfl) (fun _ _ _ h => h) (Or.inl ⟨by rfl, ?_⟩) (by assumption) ?_; rotate_left; (intro w hSw; (try dsimp only at hSw); go_split_ands; go_simp; (try with_reducible rfl)); (try simp only [Act.put, List.setIfInBounds_toArray, List.set_cons_zero, List.set_cons_succ]))
      refine WG.one (i := 6) rfl (by kernel_rfl) (fun K hK => ?_)
      go_simp
      refine hK.out _ _ (by exact KH.out _ (Below.drew (Below.alloc hE hE.size _))) (fun hHeld => ?_)
      clear hK K
      (try simp only [Act.put, List.setIfInBounds_toArray, List.set_cons_zero, List.set_cons_succ])
      refine WG.one (i := 12) rfl (by kernel_rfl) (fun K hK => ?_)
      refine step_append_sl _ (by rfl) _ _ 22 (by rfl) EI.ok EI.flat (wr.heap.size) 3 EI.ne i0_int _ 1 8 Tryd.underlying22 hi0_int hz0_int hz1_int hz2_int rfl (by omega) _ (by rfl) _ (HM.out) _ (by rfl) _ (HN.out.ext (Below.drew (Below.alloc hE hE.size _))) (by have := HL.out; simp; omega) (by have := HL.out; simp; omega) ?_ ?_; (focus (first | exact Nat.le_refl _ | (simp; done) | (simp; omega) | omega)); intro v1 w1 hO1 hg1 hat1 hs1; rw [List.nil_append] at hO1; obtain ⟨A1, c1x, rfl, hb1, hb1'⟩ := hO1.form; have hE1 : Ext wr w1 := Ext.grown (Below.drew (Ext.alloc wr _)) hg1 HM.out.lt; have hsz1 := (hE.trans hE1).size
      refine hK.out _ _ (by exact KH.out _ (hE.trans hE1)) (fun hHeld => ?_)
      clear hK K
      (try simp only [Act.put, List.setIfInBounds_toArray, List.set_cons_zero, List.set_cons_succ])
      (refine WG.take (i := 13) (v := ?_) rfl (by kernel_rfl) (by kernel_rfl) (by kernel_rfl) (by kernel_rfl) (fun _ _ _ h => h) (Or.inl ⟨by rfl, ?_⟩) (by assumption) ?_; rotate_left; (intro w hSw; (try dsimp only at hSw); go_split_ands; go_simp; (try with_reducible rfl)); (try simp only [Act.put, List.setIfInBounds_toArray, List.set_cons_zero, List.set_cons_succ]))
      refine WG.one (i := 14) rfl (by kernel_rfl) (fun K hK => ?_)
      go_simp
      refine hK.out _ _ (by exact KH.out _ ((hE.trans hE1).trans (Ext.alloc _ _))) (fun hHeld => ?_)
      clear hK K
      (try simp only [Act.put, List.setIfInBounds_toArray, List.set_cons_zero, List.set_cons_succ])
      have HV1 := hid (HV.out.ext ET.ok (hE1.trans (Ext.alloc w1 (.cells #[.int .i64 x.id, .slice A1 x.need.length c1x] 44))))
      refine WG.last (i := 15) rfl (by kernel_rfl) (by kernel_rfl) (fun K hK => ?_)
      refine step_append_sl _ (by rfl) _ _ 28 (by rfl) ET.ok ET.flat (w.heap.size) 44 ET.ne i0_task _ 2 32 Tryd.underlying28 hi0_task hz0_task hz1_task hz2_task rfl (by omega) _ (by rfl) _ (HV1.out) _ (by rfl) _ (RSl.laid (cs := [.int .i64 x.id, .slice A1 x.need.length c1x]) (heap_alloc_new _ _) rfl ⟨_, rfl, RI.ext hO1.read (Ext.alloc _ _)⟩) (by have := List.length_take_le k ts; simp; omega) (by have := List.length_take_le k ts; simp; omega) ?_ ?_; (focus (first | exact Nat.le_refl _ | (simp; done) | (simp; omega) | omega)); intro v2 w2 hO2 hg2 hat2 hs2; have hE2 : Ext w w2 := Ext.grown ((hE.trans hE1).trans (Ext.alloc _ _)) hg2 HV1.out.lt
      refine hK.out _ _ ?_
      clear hK K
      (try simp only [Act.put, List.setIfInBounds_toArray, List.set_cons_zero, List.set_cons_succ])
      refine WG.last (i := 16) rfl (by kernel_rfl) (by kernel_rfl) (fun K hK => ?_)
      go_simp
      refine hK.out _ _ ?_
      clear hK K
      (try simp only [Act.put, List.setIfInBounds_toArray, List.set_cons_zero, List.set_cons_succ])
      refine WG.done (by kernel_rfl) ?_
      go_wp2
      go_roundw
      case rel => exact ⟨k + 1, by omega, by go_num, by rw [take_snoc e.out]; exact hO2, hE2⟩
      case measure => simp [intOf]; omega
    · go_wp2
      go_ret
      have hk' : k = ts.length := by omega
      subst hk'
      rw [List.take_length] at hv
      exact ⟨_, rfl, hv, hE⟩

end Go.Proofs.YtllchacophapoaaDoor

/- Rows of the call's own while another block is written. -/
namespace Go.Proofs.YtllchacophapoaaDoor
open Go.RowKit
set_option maxRecDepth 4000

theorem Own.far {α : Type} {e : TypeId} {size : Nat} {E : Enc α} {w w' : World} {base : Nat} {v : Value} {xs : List α} (h : Own e size E w base v xs) (hb : ∀ k, v.ownBlock = some k → w'.heap[k]? = w.heap[k]?) (hE : ∀ cs x, x ∈ xs → E w cs x → E w' cs x) : Own e size E w' base v xs := by
  obtain ⟨cells, ho, hc⟩ := h
  refine ⟨cells, ⟨ho.1, ?_⟩, hc.1, fun j x hx => ?_⟩
  · rcases ho.2 with h0 | ⟨g, cap, cur, hv, hg, hh, r⟩
    · exact .inl h0
    · exact .inr ⟨g, cap, cur, hv, hg, (hb g (by rw [hv]; rfl)).trans hh, r⟩
  · obtain ⟨cs, hl, he, hu⟩ := hc.2 j x hx
    exact ⟨cs, hl, hE cs x (List.mem_of_getElem? hx) he, hu⟩
theorem OT.far {w w' : World} {base : Nat} {v : Value} {ts : List TaskD} (h : OT w base v ts) (hb : ∀ k, v.ownBlock = some k → w'.heap[k]? = w.heap[k]?) (hs : SameT (fun t => t = 3) w w') : OT w' base v ts :=
  Own.far h hb (fun cs x _ he => ET.ok w w' cs x he (hs.mono (fun _ ht => ht)))
end Go.Proofs.YtllchacophapoaaDoor

/- A unit's row of tasks grows. -/
namespace Go.Proofs.YtllchacophapoaaDoor
open Go.RowKit
set_option maxRecDepth 4000

theorem Own.block_ne {α β : Type} {e e' : TypeId} (hne : e ≠ e') {size size' : Nat} {E : Enc α} {E' : Enc β} {w : World} {base base' : Nat} {v v' : Value} {xs : List α} {ys : List β} (h : Own e size E w base v xs) (h' : Own e' size' E' w base' v' ys) {a : Nat} (ha : v.ownBlock = some a) : v'.ownBlock ≠ some a := by
  intro ha'
  obtain ⟨c, ho, _⟩ := h
  obtain ⟨c', ho', _⟩ := h'
  rcases ho.2 with ⟨rfl, _⟩ | ⟨g, cap, cur, rfl, _, hh, _⟩
  · simp [Value.ownBlock] at ha
  rcases ho'.2 with ⟨rfl, _⟩ | ⟨g', cap', cur', rfl, _, hh', _⟩
  · simp [Value.ownBlock] at ha'
  have e1 : g = a := by simpa [Value.ownBlock] using ha
  have e2 : g' = a := by simpa [Value.ownBlock] using ha'
  rw [e1] at hh
  rw [e2, hh] at hh'
  injection hh' with hh'
  injection hh' with _ h2 _
  exact hne h2
theorem Own.obj {α : Type} {e : TypeId} {size : Nat} {E : Enc α} {w : World} {base g n c : Nat} {xs : List α} (h : Own e size E w base (.slice (some ⟨g, 0, none⟩) n c) xs) : ∃ cur, w.heap[g]? = some (.cells cur e (0, 0)) := by
  obtain ⟨cells, ho, _⟩ := h
  rcases ho.2 with ⟨h1, _⟩ | ⟨g', cap, cur, h1, _, hh, _⟩
  · cases h1
  · injection h1 with h1 _ _
    injection h1 with h1
    injection h1 with h1 _ _
    subst h1
    exact ⟨cur, hh⟩
theorem Cells.setx {α : Type} {size : Nat} {E : Enc α} {w w' : World} {cells : List Value} {xs : List α} (h : Cells size E w cells xs) {j i : Nat} {u : Value} {x x' : α} (hj : xs[j]? = some x) (hi : i < size)
    (ho : ∀ (k : Nat) y cs, k ≠ j → xs[k]? = some y → E w cs y → E w' cs y) (hx : ∀ cs : List Value, cs.length = size → E w cs x → E w' (cs.set i u) x') : Cells size E w' (cells.set (j * size + i) u) (xs.set j x') := by
  refine ⟨by simpa using h.1, fun k y hy => ?_⟩
  by_cases hkj : k = j
  · subst hkj
    have hlt : k < xs.length := (List.getElem?_eq_some_iff.1 hj).1
    rw [List.getElem?_set_self hlt] at hy
    injection hy with hy
    subst hy
    obtain ⟨cs, hl, he, hc⟩ := h.2 k x hj
    refine ⟨cs.set i u, by simpa using hl, hx cs hl he, fun i' u' hu' => ?_⟩
    by_cases hii : i' = i
    · subst hii
      rw [List.getElem?_set_self (by omega)] at hu'
      injection hu' with hu'
      subst hu'
      have : k * size + i' < cells.length := by
        rw [h.1]
        have : (k + 1) * size ≤ xs.length * size := Nat.mul_le_mul_right _ hlt
        rw [Nat.add_mul] at this
        omega
      rw [List.getElem?_set_self this]
    · rw [List.getElem?_set_ne (Ne.symm hii)] at hu'
      rw [List.getElem?_set_ne (by omega)]
      exact hc i' u' hu'
  · rw [List.getElem?_set_ne (Ne.symm hkj)] at hy
    obtain ⟨cs, hl, he, hc⟩ := h.2 k y hy
    refine ⟨cs, hl, ho k y cs hkj hy he, fun i' u' hu' => ?_⟩
    have hi' : i' < size := by rw [← hl]; exact (List.getElem?_eq_some_iff.1 hu').1
    rw [List.getElem?_set_ne (Ne.symm (mul_add_ne hi hi' hkj))]
    exact hc i' u' hu'
end Go.Proofs.YtllchacophapoaaDoor

/- The reference takes a task out of nodes. -/
namespace Go.Proofs.YtllchacophapoaaDoor
open Go.RowKit
set_option maxRecDepth 4000

/-- a node's tasks and their value, a row of the call's own -/
def EBV (base : Nat) : Enc (List TaskD × Value) := fun w cs p => cs = [p.2] ∧ OT w base p.2 p.1
theorem EBV.ok (base : Nat) : (EBV base).Ok (fun t => t = 44 ∨ t = 3) := fun _ _ _ _ ⟨h, hr⟩ ha => ⟨h, hr.same ET.ok ha⟩
theorem EBV.flat (base : Nat) : (EBV base).Flat := fun _ _ _ ⟨h, hr⟩ u hu => by
  obtain ⟨A, c, hv, _⟩ := hr.form
  rw [h] at hu; simp at hu; subst hu
  rw [hv]; rfl
theorem EBV.ne : ∀ t, (fun t => t = 44 ∨ t = 3) t → t ≠ 28 := EB.ne
def blocksOfB (ps : List (List TaskD × Value)) : List Nat := ps.filterMap fun p => p.2.ownBlock
abbrev OBV (w : World) (base : Nat) (v : Value) (ps : List (List TaskD × Value)) : Prop := Own 28 1 (EBV base) w base v ps
theorem OBV.lt {w : World} {base : Nat} {v : Value} {ps : List (List TaskD × Value)} (h : OBV w base v ps) : ∀ g ∈ blocksOfB ps, base ≤ g ∧ g < w.heap.size := by
  intro g hg
  obtain ⟨p, hp, hb⟩ := List.mem_filterMap.1 hg
  obtain ⟨cells, _, hc⟩ := h
  obtain ⟨k, hk⟩ := List.getElem?_of_mem hp
  obtain ⟨cs, _, he, _⟩ := hc.2 k p hk
  exact he.2.lt g hb
theorem OBV.far {w w' : World} {base : Nat} {v : Value} {ps : List (List TaskD × Value)} (h : OBV w base v ps) (hb : ∀ k, v.ownBlock = some k → w'.heap[k]? = w.heap[k]?) (hg : ∀ g ∈ blocksOfB ps, w'.heap[g]? = w.heap[g]?) (hs : SameT (fun t => t = 3) w w') : OBV w' base v ps :=
  Own.far h hb (fun _ p hp ⟨he, ht⟩ => ⟨he, OT.far ht (fun k hk => hg k (List.mem_filterMap.2 ⟨p, hp, hk⟩)) hs⟩)
theorem OBV.read {w : World} {base : Nat} {v : Value} {ps : List (List TaskD × Value)} (h : OBV w base v ps) : RB w v (ps.map (·.1)) :=
  (Own.read h).map fun _ p ⟨h1, h2⟩ => ⟨p.2, h1, h2.read⟩

/-- what the walk over nodes keeps -/
structure TS (id : Int) (w wr : World) (v : Value) (ps : List (List TaskD × Value)) (bl : List (List TaskD)) (x : TaskD) (An : Option Addr) (cn : Nat) : Prop where
  own : OBV wr (w.heap.size + 1) v ps
  map : ps.map (·.1) = bl.map (takeL id)
  nd : (blocksOfB ps).Nodup
  hi : ∀ g ∈ blocksOfB ps, w.heap.size + 2 < g
  row : ∀ g, v.ownBlock = some g → g ≠ w.heap.size + 2
  box : wr.heap[w.heap.size + 2]? = some (.cells #[.int .i64 x.id, .slice An x.need.length cn] 44 (0, 0))
  rd : RI wr (.slice An x.need.length cn) x.need
  zero : wr.heap[w.heap.size]? = some (.cells #[.int .i64 0, .slice none 0 0] 44 (0, 0))
  ext : Ext w wr
/-- the row of the node under way -/
structure TB (id : Int) (w wr : World) (v9 : Value) (ts : List TaskD) (ps : List (List TaskD × Value)) : Prop where
  own : OT wr (w.heap.size + 1) v9 (takeL id ts)
  hi : ∀ g, v9.ownBlock = some g → w.heap.size + 2 < g ∧ g ∉ blocksOfB ps

theorem TS.size {id : Int} {w wr : World} {v : Value} {ps : List (List TaskD × Value)} {bl : List (List TaskD)} {x : TaskD} {An : Option Addr} {cn : Nat} (h : TS id w wr v ps bl x An cn) : w.heap.size + 2 < wr.heap.size := obj_lt h.box
theorem TS.ext_ {id : Int} {w wr w' : World} {v : Value} {ps : List (List TaskD × Value)} {bl : List (List TaskD)} {x : TaskD} {An : Option Addr} {cn : Nat} (h : TS id w wr v ps bl x An cn) (ha : Ext wr w') : TS id w w' v ps bl x An cn :=
  ⟨h.own.ext (EBV.ok _) ha, h.map, h.nd, h.hi, h.row, ha.obj h.box, h.rd.ext ha, ha.obj h.zero, h.ext.trans ha⟩
theorem TB.ext_ {id : Int} {w wr w' : World} {v9 : Value} {ts : List TaskD} {ps : List (List TaskD × Value)} (h : TB id w wr v9 ts ps) (ha : Ext wr w') : TB id w w' v9 ts ps := ⟨h.own.ext ET.ok ha, h.hi⟩
/-- the variable takes a task -/
theorem TS.store {id : Int} {w wr : World} {v : Value} {ps : List (List TaskD × Value)} {bl : List (List TaskD)} {x y : TaskD} {An Am : Option Addr} {cn cm : Nat} (h : TS id w wr v ps bl x An cn) (hy : RI wr (.slice Am y.need.length cm) y.need) :
    TS id w ((wr.setCell ⟨w.heap.size + 2, 0, none⟩ (.int .i64 y.id)).setCell ⟨w.heap.size + 2, 1, none⟩ (.slice Am y.need.length cm)) v ps bl y Am cm := by
  have hb : ∀ k, k ≠ w.heap.size + 2 → ((wr.setCell ⟨w.heap.size + 2, 0, none⟩ (.int .i64 y.id)).setCell ⟨w.heap.size + 2, 1, none⟩ (.slice Am y.need.length cm)).heap[k]? = wr.heap[k]? := fun k hk => (Below.heap_setCell _ _ _ _ hk).trans (Below.heap_setCell _ _ _ _ hk)
  have hs : SameT (fun t => t = 3) wr ((wr.setCell ⟨w.heap.size + 2, 0, none⟩ (.int .i64 y.id)).setCell ⟨w.heap.size + 2, 1, none⟩ (.slice Am y.need.length cm)) :=
    (SameT.setCell (p := ⟨w.heap.size + 2, 0, none⟩) h.box _ (by rintro t rfl; decide)).trans (SameT.setCell (p := ⟨w.heap.size + 2, 1, none⟩) (obj_set h.box 0 _) _ (by rintro t rfl; decide))
  exact ⟨OBV.far h.own (fun k hk => hb k (h.row k hk)) (fun g hg => hb g (by have := h.hi g hg; omega)) hs, h.map, h.nd, h.hi, h.row, obj_set2 h.box _ _, RI.same hy hs, (hb _ (by omega)).trans h.zero, Below.setCell (Below.setCell h.ext (by show w.heap.size ≤ w.heap.size + 2; omega) _) (by show w.heap.size ≤ w.heap.size + 2; omega) _⟩
theorem TB.store {id : Int} {w wr : World} {v : Value} {ps : List (List TaskD × Value)} {bl : List (List TaskD)} {x y : TaskD} {An Am : Option Addr} {cn cm : Nat} (h : TS id w wr v ps bl x An cn) {v9 : Value} {ts : List TaskD} (hb : TB id w wr v9 ts ps) :
    TB id w ((wr.setCell ⟨w.heap.size + 2, 0, none⟩ (.int .i64 y.id)).setCell ⟨w.heap.size + 2, 1, none⟩ (.slice Am y.need.length cm)) v9 ts ps :=
  ⟨OT.far hb.own (fun k hk => have hne : k ≠ w.heap.size + 2 := by have := (hb.hi k hk).1; omega
    (Below.heap_setCell _ _ _ _ hne).trans (Below.heap_setCell _ _ _ _ hne))
    ((SameT.setCell (p := ⟨w.heap.size + 2, 0, none⟩) h.box _ (by rintro t rfl; decide)).trans (SameT.setCell (p := ⟨w.heap.size + 2, 1, none⟩) (obj_set h.box 0 _) _ (by rintro t rfl; decide))), hb.hi⟩
/-- the node's row grows -/
theorem TS.grown {id : Int} {w wr w2 : World} {v : Value} {ps : List (List TaskD × Value)} {bl : List (List TaskD)} {x : TaskD} {An : Option Addr} {cn : Nat} (h : TS id w wr v ps bl x An cn) {v9 : Value} {ts : List TaskD} (hb : TB id w wr v9 ts ps) (hg : wr.grownBy w2 v9.ownBlock) (hs : SameT (fun t => t ≠ 44) wr w2) : TS id w w2 v ps bl x An cn := by
  have hk : ∀ k, k < wr.heap.size → v9.ownBlock ≠ some k → w2.heap[k]? = wr.heap[k]? := fun k hk hne => hg.block k hk (fun he => hne he.symm)
  have hz := h.size
  refine ⟨OBV.far h.own (fun k hk' => ?_) (fun g hg' => hk g (OBV.lt h.own g hg').2 (fun he => (hb.hi g he).2 hg')) (hs.mono (by rintro t rfl; decide)), h.map, h.nd, h.hi, h.row, (hk _ hz (fun he => by have := (hb.hi _ he).1; omega)).trans h.box, RI.same h.rd (hs.mono (by rintro t rfl; decide)), (hk _ (by omega) (fun he => by have := (hb.hi _ he).1; omega)).trans h.zero, ?_⟩
  · obtain ⟨cells, ho, _⟩ := h.own
    rcases ho.2 with ⟨h1, _⟩ | ⟨g, cap, cur, hv, _, hh, _⟩
    · rw [h1] at hk'; simp [Value.ownBlock] at hk'
    · have hgk : g = k := by rw [hv] at hk'; simpa [Value.ownBlock] using hk'
      subst hgk
      rw [hs g cur _ _ (by decide) hh, hh]
  · exact Below.grown h.ext hg h.ext.size (fun k hk' => by have := (hb.hi k hk').1; omega)
end Go.Proofs.YtllchacophapoaaDoor

/- The reference takes a task out of nodes: the walk. -/
namespace Go.Proofs.YtllchacophapoaaDoor
open Go.RowKit
set_option maxRecDepth 4000

end Go.Proofs.YtllchacophapoaaDoor
