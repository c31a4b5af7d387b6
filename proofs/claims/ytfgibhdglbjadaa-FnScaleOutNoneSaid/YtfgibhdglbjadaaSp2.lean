/- The reference's tasks and nodes. -/
import Derived.Test.YtfgibhdglbjadaaSp1
namespace Go.Proofs.Ytfgibhdglbjadaa
open Go.RowKit
set_option maxRecDepth 4000

theorem sHas (v : Value) (ts : List TaskD) (m : Nat) (id : Int) (w : World) (h : RT w v ts) (hm : m ≤ ts.length) :
    Calls Try.prog 130 #[v, .int .i64 m, .int .i64 id] w fun e w' => e = .returned (.bool (hasId (ts.take m) id)) ∧ ∃ n, w' = w.drewN n := by
  obtain ⟨A, c, rfl, hc, hc', hr⟩ := h.get
  clear h
  go_enter Try.func130, Try.ntmps130
  go_wp2
  go_loopw [7] (fun i wr => ∃ k : Nat, k ≤ m ∧ i = .int .i64 k ∧ Hid (hasId (ts.take k) id = false) ∧ ∃ n, wr = w.drewN n) (fun i _ => m - (intOf i).toNat)
  case atStart => exact ⟨0, Nat.zero_le _, rfl, rfl, 0, rfl⟩
  case round =>
    obtain ⟨k, hk, rfl, H, n, rfl⟩ := hrel
    by_cases hlt : k < m
    · obtain ⟨b, o, t, An, cn, rfl, e, c1, c2, hn⟩ := hr k (by omega)
      have i1 : k < ts.length := by omega
      by_cases he : t.id = id
      · have he' : (t.id == id) = true := by simpa using he
        have HE := hid he
        clear he
        go_wp2
        go_ret
        exact ⟨ret_b (hasId_hit e.out hlt HE.out).symm, _, rfl⟩
      · have he' : (t.id == id) = false := by simpa using he
        go_wp2
        go_roundw
        case rel => exact ⟨k + 1, by omega, by go_num, by show hasId (ts.take (k + 1)) id = false; rw [hasId_take_succ e.out, H.out, he']; rfl, _, rfl⟩
        case measure => simp [intOf]; omega
    · go_wp2
      go_ret
      have hk' : k = m := by omega
      subst hk'
      exact ⟨ret_b H.out.symm, _, rfl⟩

set_option maxHeartbeats 400000 in
theorem sLoad (v : Value) (ts : List TaskD) (w : World) (h : RT w v ts) (hg : GoodTs ts) :
    Calls Try.prog 107 #[v] w (RetRI w (loadL ts)) := by
  obtain ⟨A, c, rfl, hc, hc', hr⟩ := h.get
  clear h
  go_enter Try.func107, Try.ntmps107
  go_wp2
  go_loopw [3, 4] (fun v i wr => ∃ k : Nat, k ≤ ts.length ∧ i = .int .i64 k ∧ RI wr v (loadL (ts.take k)) ∧ Ext w wr) (fun _ i _ => ts.length - (intOf i).toNat)
  case atStart => exact ⟨0, Nat.zero_le _, rfl, RI.lit w [0, 0, 0] (by simp), Ext.alloc _ _⟩
  case round =>
    obtain ⟨k, hk, rfl, hv, hE⟩ := hrel
    by_cases hlt : k < ts.length
    · obtain ⟨b, o, t, An, cn, rfl, e, c1, c2, hn⟩ := hr k hlt
      have c2r := hE.cell c2
      have hgt := hg.2 t (List.mem_of_getElem? e.out)
      have HB := hid (load_bd (hg.take k))
      have HG := hid hgt
      have HL := hid (loadL_len (ts.take k))
      clear hgt c2 c1
      go_wp2_with (go_at_call 106; refine (sAdd _ _ (loadL (ts.take k)) t.need 1 wr hv (hn.ext hE) HL.out HG.out.1 HB.out (HG.out.2.mono (by omega)) (.inl rfl)).mono ?_; rintro e1 w' ⟨v', rfl, hv', hE'⟩)
      go_roundw
      case rel => exact ⟨k + 1, by omega, by go_num, by rw [loadL_take_succ e.out]; exact hv', hE.trans hE'⟩
      case measure => simp [intOf]; omega
    · go_wp2
      go_ret
      have hk' : k = ts.length := by omega
      subst hk'
      rw [List.take_length] at hv
      exact ⟨_, rfl, hv, hE⟩

set_option maxHeartbeats 1000000 in
theorem sTasksValid (rv v : Value) (room : List Int) (ts : List TaskD) (w : World) (hR : RI w rv room) (h : RT w v ts) :
    Calls Try.prog 88 #[rv, v] w fun e w' => e = .returned (.bool (tasksOk room ts)) ∧ ∃ n, w' = w.drewN n := by
  have h0 := h
  obtain ⟨A, c, rfl, hc, hc', hr⟩ := h.get
  clear h
  by_cases hroom : roomOk room = true
  · go_enter Try.func88, Try.ntmps88
    go_wp2_with fail
    refine (sRoom _ room _ hR).mono ?_
    rintro e w' ⟨rfl, n0, rfl⟩
    go_wp2
    go_loopw [5] (fun i wr => ∃ k : Nat, k ≤ ts.length ∧ i = .int .i64 k ∧ Hid (tasksTo room ts k = true) ∧ ∃ n, wr = w.drewN n) (fun i _ => ts.length - (intOf i).toNat)
    case atStart => exact ⟨0, Nat.zero_le _, rfl, rfl, n0, rfl⟩
    case round =>
      obtain ⟨k, hk, rfl, H, n, rfl⟩ := hrel
      by_cases hlt : k < ts.length
      · obtain ⟨b, o, t, An, cn, rfl, e, c1, c2, hn⟩ := hr k hlt
        by_cases h1 : inB t.id 1 40 = true
        · by_cases h2 : hasId (ts.take k) t.id = true
          · go_wp2_with fail
            refine (sIn _ _ _ _).mono ?_
            rintro e1 w' ⟨rfl, n1, rfl⟩
            go_wp2_with fail
            refine (sHas _ ts k t.id _ (by exact h0.ext (Ext.drewN _ _)) (by omega)).mono ?_
            rintro e1 w' ⟨rfl, n2, rfl⟩
            go_wp2
            go_ret
            exact ⟨ret_b (tasksOk_bad e.out (by simp [taskFine, h2])).symm, _, rfl⟩
          · have h2 : hasId (ts.take k) t.id = false := by simpa using h2
            by_cases h3 : vecFits t.need room = true
            · go_wp2_with fail
              refine (sIn _ _ _ _).mono ?_
              rintro e1 w' ⟨rfl, n1, rfl⟩
              go_wp2_with fail
              refine (sHas _ ts k t.id _ (by exact h0.ext (Ext.drewN _ _)) (by omega)).mono ?_
              rintro e1 w' ⟨rfl, n2, rfl⟩
              go_wp2_with fail
              refine (sVecFits _ _ t.need room _ (by exact hn.ext (Ext.drewN _ _)) (by exact hR.ext (Ext.drewN _ _))).mono ?_
              rintro e1 w' ⟨rfl, n3, rfl⟩
              go_wp2
              go_roundw
              case rel => exact ⟨k + 1, by omega, by go_num, by show tasksTo room ts (k + 1) = true; rw [tasksTo_succ room e.out, H.out]; simp [taskFine, h1, h2, h3], _, rfl⟩
              case measure => simp [intOf]; omega
            · have h3 : vecFits t.need room = false := by simpa using h3
              go_wp2_with fail
              refine (sIn _ _ _ _).mono ?_
              rintro e1 w' ⟨rfl, n1, rfl⟩
              go_wp2_with fail
              refine (sHas _ ts k t.id _ (by exact h0.ext (Ext.drewN _ _)) (by omega)).mono ?_
              rintro e1 w' ⟨rfl, n2, rfl⟩
              go_wp2_with fail
              refine (sVecFits _ _ t.need room _ (by exact hn.ext (Ext.drewN _ _)) (by exact hR.ext (Ext.drewN _ _))).mono ?_
              rintro e1 w' ⟨rfl, n3, rfl⟩
              go_wp2
              go_ret
              exact ⟨ret_b (tasksOk_bad e.out (by simp [taskFine, h3])).symm, _, rfl⟩
        · have h1 : inB t.id 1 40 = false := by simpa using h1
          go_wp2_with fail
          refine (sIn _ _ _ _).mono ?_
          rintro e1 w' ⟨rfl, n1, rfl⟩
          go_wp2
          go_ret
          exact ⟨ret_b (tasksOk_bad e.out (by simp [taskFine, h1])).symm, _, rfl⟩
      · go_wp2
        go_ret
        have hk' : k = ts.length := by omega
        subst hk'
        exact ⟨ret_b (by unfold tasksOk; rw [hroom, H.out, Bool.eq_iff_iff]; simp; omega), _, rfl⟩
  · have hroom : roomOk room = false := by simpa using hroom
    go_enter Try.func88, Try.ntmps88
    go_wp2_with fail
    refine (sRoom _ room _ hR).mono ?_
    rintro e w' ⟨rfl, n0, rfl⟩
    go_wp2
    go_ret
    exact ⟨by simp [tasksOk, hroom], _, rfl⟩

set_option maxHeartbeats 400000 in
theorem sAll (v : Value) (bs : List (List TaskD)) (w : World) (h : RB w v bs) (hlen : bs.flatten.length ≤ 4000000) :
    Calls Try.prog 120 #[v] w fun e w' => ∃ v', e = .returned v' ∧ OT w' w.heap.size v' bs.flatten ∧ Ext w w' := by
  obtain ⟨A, c, rfl, hc, hc', hr⟩ := h.get
  clear h
  obtain ⟨i0_task, hi0_task, hz0_task, hz1_task, hz2_task⟩ := info_parts info_task
  go_enter Try.func120, Try.ntmps120
  go_wp2
  go_loopw [3, 4] (fun v i wr => ∃ k : Nat, k ≤ bs.length ∧ i = .int .i64 k ∧ OT wr w.heap.size v (bs.take k).flatten ∧ Ext w wr) (fun _ i _ => bs.length - (intOf i).toNat)
  case atStart => exact ⟨0, Nat.zero_le _, rfl, Own.made _ _ (Nat.le_refl _) (by omega) rfl, Ext.alloc _ _⟩
  case round =>
    obtain ⟨k, hk, rfl, hv, hE⟩ := hrel
    by_cases hlt : k < bs.length
    · obtain ⟨b, o, x, An, cn, rfl, e, c1, hn⟩ := hr k hlt
      have c1r := hE.cell c1
      have hl1 := flatten_take_le bs (k + 1)
      rw [flatten_take_succ e.out, List.length_append] at hl1
      have HL := hid hl1
      have hsz := hE.size
      have HV := hid hv
      have HN := hid (hn.ext hE)
      clear c1 hl1 hv
      go_wp2_with (at_builtin; refine wpList_append_sl _ (by rfl) _ _ 54 (by rfl) ET.ok ET.flat (w.heap.size) 64 ET.ne i0_task _ 2 32 Try.underlying54 hi0_task hz0_task hz1_task hz2_task rfl (by omega) _ (by rfl) _ (HV.out) _ (by rfl) _ (HN.out) (by have := HL.out; omega) (by have := HL.out; omega) ?_ ?_; (focus (first | exact Nat.le_refl _ | (simp; done) | (simp; omega) | omega)); intro v1 w1 hO1 hg1 hat1 hs1; have hE1 := Ext.grown hE hg1 HV.out.lt)
      go_roundw
      case rel => exact ⟨k + 1, by omega, by go_num, by rw [flatten_take_succ e.out]; exact hO1, hE1⟩
      case measure => simp [intOf]; omega
    · go_wp2
      go_ret
      have hk' : k = bs.length := by omega
      subst hk'
      rw [List.take_length] at hv
      exact ⟨_, rfl, hv, hE⟩

end Go.Proofs.Ytfgibhdglbjadaa
