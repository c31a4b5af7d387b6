/- The program's rooms, needs and loads. -/
import Derived.Test.YtfgibhdglbjadaaIm2
namespace Go.Proofs.Ytfgibhdglbjadaa
open Go.RowKit
set_option maxRecDepth 4000

theorem iMin_if (t m x : Int) : decide (t ≤ if x < m then x else m) = (decide (t ≤ m) && [x].all fun x => decide (t ≤ x)) := by
  rw [Bool.eq_iff_iff]; simp; split <;> omega
theorem iMax_if (t m x : Int) : decide (t < if m < x then x else m) = (decide (t < m) || [x].any fun x => decide (t < x)) := by
  rw [Bool.eq_iff_iff]; simp; split <;> omega

theorem iMin (v : Value) (xs : List Int) (w : World) (h : RI w v xs) (h0 : 0 < xs.length) :
    Calls Try.prog 151 #[v] w fun e w' => ∃ m, e = .returned (.int .i64 m) ∧ (∀ t : Int, decide (t ≤ m) = xs.all fun x => decide (t ≤ x)) ∧ ∃ n, w' = w.drewN n := by
  obtain ⟨A, c, rfl, hc, hc', hr⟩ := h.get
  clear h
  obtain ⟨b, o, x0, rfl, e0, c0⟩ := hr 0 h0
  have i0 : (0 : Int) < (xs.length : Int) := by omega
  have c0 : w.cell? ⟨b, o, none⟩ = some (.int .i64 x0) := c0
  go_enter Try.func151, Try.ntmps151
  go_wp2
  go_loopw [3, 4] (fun s i wr => ∃ (k : Nat) (m : Int), k ≤ xs.length ∧ i = .int .i64 k ∧ s = .int .i64 m ∧ Hid (∀ t : Int, decide (t ≤ m) = (xs.take k).all fun x => decide (t ≤ x)) ∧ ∃ n, wr = w.drewN n) (fun _ i _ => xs.length - (intOf i).toNat)
  case atStart => exact ⟨1, x0, h0, rfl, rfl, hid fun t => by rw [take_snoc (k := 0) e0.out]; simp, 0, rfl⟩
  case round =>
    obtain ⟨k, m, hk, rfl, rfl, H, n, rfl⟩ := hrel
    by_cases hlt : k < xs.length
    · obtain ⟨b', o', x, hA, e, hcell⟩ := hr k hlt
      injection hA with hA
      injection hA with hA1 hA2 _
      subst hA1 hA2
      have i1 : (k : Int) < (xs.length : Int) := by omega
      go_wp2
      go_roundw
      case rel => exact ⟨k + 1, _, by omega, by go_num, rfl, hid fun t => by rw [take_snoc e.out, List.all_append, ← H.out t]; exact iMin_if t m x, _, rfl⟩
      case measure => simp [intOf]; omega
    · go_wp2
      go_ret
      have hk' : k = xs.length := by omega
      subst hk'
      exact ⟨m, rfl, fun t => by have := H.out t; rwa [List.take_length] at this, _, rfl⟩

theorem iMax (v : Value) (xs : List Int) (w : World) (h : RI w v xs) (h0 : 0 < xs.length) :
    Calls Try.prog 103 #[v] w fun e w' => ∃ m, e = .returned (.int .i64 m) ∧ (∀ t : Int, decide (t < m) = xs.any fun x => decide (t < x)) ∧ ∃ n, w' = w.drewN n := by
  obtain ⟨A, c, rfl, hc, hc', hr⟩ := h.get
  clear h
  obtain ⟨b, o, x0, rfl, e0, c0⟩ := hr 0 h0
  have i0 : (0 : Int) < (xs.length : Int) := by omega
  have c0 : w.cell? ⟨b, o, none⟩ = some (.int .i64 x0) := c0
  go_enter Try.func103, Try.ntmps103
  go_wp2
  go_loopw [3, 4] (fun s i wr => ∃ (k : Nat) (m : Int), k ≤ xs.length ∧ i = .int .i64 k ∧ s = .int .i64 m ∧ Hid (∀ t : Int, decide (t < m) = (xs.take k).any fun x => decide (t < x)) ∧ ∃ n, wr = w.drewN n) (fun _ i _ => xs.length - (intOf i).toNat)
  case atStart => exact ⟨1, x0, h0, rfl, rfl, hid fun t => by rw [take_snoc (k := 0) e0.out]; simp, 0, rfl⟩
  case round =>
    obtain ⟨k, m, hk, rfl, rfl, H, n, rfl⟩ := hrel
    by_cases hlt : k < xs.length
    · obtain ⟨b', o', x, hA, e, hcell⟩ := hr k hlt
      injection hA with hA
      injection hA with hA1 hA2 _
      subst hA1 hA2
      have i1 : (k : Int) < (xs.length : Int) := by omega
      go_wp2
      go_roundw
      case rel => exact ⟨k + 1, _, by omega, by go_num, rfl, hid fun t => by rw [take_snoc e.out, List.any_append, ← H.out t]; exact iMax_if t m x, _, rfl⟩
      case measure => simp [intOf]; omega
    · go_wp2
      go_ret
      have hk' : k = xs.length := by omega
      subst hk'
      exact ⟨m, rfl, fun t => by have := H.out t; rwa [List.take_length] at this, _, rfl⟩

theorem sum_pos {xs : List Int} (h : vecOk xs = true) : (xs.any fun x => decide (0 < x)) = decide (0 < sumL xs) := by
  have hl := vecOk_len h
  have hm := vecOk_mem h
  match xs, hl, hm with
  | [a, b, c], _, hm =>
    have h1 := hm a (by simp)
    have h2 := hm b (by simp)
    have h3 := hm c (by simp)
    rw [Bool.eq_iff_iff]
    simp [sumL]
    omega

theorem iRoomValid (v : Value) (xs : List Int) (w : World) (h : RI w v xs) :
    Calls Try.prog 133 #[v] w fun e w' => e = .returned (.bool (roomOk xs)) ∧ ∃ n, w' = w.drewN n := by
  by_cases h1 : vecOk xs = true
  · have hlen : 0 < xs.length := by have := vecOk_len h1; omega
    go_enter Try.func133, Try.ntmps133
    go_wp2_with fail
    refine (iVecValid _ xs _ h).mono ?_
    rintro e w' ⟨rfl, n1, rfl⟩
    go_wp2_with fail
    refine (iMin _ xs _ (h.ext (Ext.drewN _ _)) hlen).mono ?_
    rintro e w' ⟨m, rfl, hm, n2, rfl⟩
    go_wp2
    go_ret
    exact ⟨ret_b (by simp [roomOk, h1, hm]), _, by first | rfl | exact World.drewN_drewN _ _ _⟩
  · have h1 : vecOk xs = false := by simpa using h1
    go_enter Try.func133, Try.ntmps133
    go_wp2_with fail
    refine (iVecValid _ xs _ h).mono ?_
    rintro e w' ⟨rfl, n1, rfl⟩
    go_wp2
    go_ret
    exact ⟨ret_b (by simp [roomOk, h1]), n1, rfl⟩

theorem iNeedValid (v : Value) (xs : List Int) (w : World) (h : RI w v xs) :
    Calls Try.prog 56 #[v] w fun e w' => e = .returned (.bool (needOk xs)) ∧ ∃ n, w' = w.drewN n := by
  by_cases h1 : vecOk xs = true
  · have hlen : 0 < xs.length := by have := vecOk_len h1; omega
    go_enter Try.func56, Try.ntmps56
    go_wp2_with fail
    refine (iVecValid _ xs _ h).mono ?_
    rintro e w' ⟨rfl, n1, rfl⟩
    go_wp2_with fail
    refine (iMax _ xs _ (h.ext (Ext.drewN _ _)) hlen).mono ?_
    rintro e w' ⟨m, rfl, hm, n2, rfl⟩
    go_wp2
    go_ret
    exact ⟨ret_b (by rw [needOk, h1, ← sum_pos h1]; simp [hm]), _, by first | rfl | exact World.drewN_drewN _ _ _⟩
  · have h1 : vecOk xs = false := by simpa using h1
    go_enter Try.func56, Try.ntmps56
    go_wp2_with fail
    refine (iVecValid _ xs _ h).mono ?_
    rintro e w' ⟨rfl, n1, rfl⟩
    go_wp2
    go_ret
    exact ⟨ret_b (by simp [needOk, h1]), n1, rfl⟩

set_option maxHeartbeats 1000000 in
theorem iLoad (v : Value) (ts : List TaskD) (w : World) (h : RT w v ts) (hg : GoodTs ts) :
    Calls Try.prog 95 #[v] w fun e w' => ∃ v, e = .returned v ∧ OI w' w.heap.size v (loadL ts) ∧ Ext w w' := by
  obtain ⟨A, c, rfl, hc, hc', hr⟩ := h.get
  clear h
  have HG := hid hg
  clear hg
  go_enter Try.func95, Try.ntmps95
  go_wp2_with fail
  refine (iZeros _).mono ?_
  rintro e w1 ⟨v1, rfl, hv1, hE1⟩
  have HV1 := hid hv1
  have HE1 := hid hE1
  clear hv1 hE1
  go_wp2
  go_loopw [3, 9] (fun s i wr => ∃ k : Nat, k ≤ ts.length ∧ i = .int .i64 k ∧ OI wr w.heap.size s (loadL (ts.take k)) ∧ Ext w wr) (fun _ i _ => ts.length - (intOf i).toNat)
  case atStart => exact ⟨0, Nat.zero_le _, rfl, by rw [List.take_zero]; exact HV1.out, HE1.out⟩
  case round =>
    obtain ⟨k, hk, rfl, hO, hE⟩ := hrel
    by_cases hlt : k < ts.length
    · obtain ⟨b, o, x, An, cn, rfl, e, c1, c2, hnx⟩ := hr k hlt
      have i1 : (k : Int) < (ts.length : Int) := by omega
      have c1r := hE.cell c1
      have c2r := hE.cell c2
      have HN := hid (hnx.ext hE)
      have HO := hid hO
      have HGx := hid (HG.out.2 x (List.mem_of_getElem? e.out))
      have hbx := cell_new wr #[.int .i64 x.id, .slice An x.need.length cn] 64 1
      simp only [List.getElem?_toArray, List.getElem?_cons_succ, List.getElem?_cons_zero] at hbx
      obtain ⟨B, hB⟩ : ∃ B, B = Obj.cells #[.int .i64 x.id, .slice An x.need.length cn] 64 := ⟨_, rfl⟩
      clear c1 c2 hnx hO
      go_wp2_with fail
      rw [← hB] at *
      refine (iPlus _ _ (loadL (ts.take k)) x.need _ ((HO.out.ext EI.ok (Ext.alloc wr B)).read) (HN.out.ext (Ext.alloc wr B)) (loadL_len _) HGx.out.1 (load_bd (HG.out.take k)) (HGx.out.2.mono (by omega))).mono ?_
      rintro e2 w2 ⟨v2, rfl, hv2, hE2⟩
      have hE3 := hE.trans ((Ext.alloc wr B).trans hE2)
      go_wp2
      go_roundw
      case rel => exact ⟨k + 1, by omega, by go_num, by rw [loadL_take_succ e.out]; exact Own.low hv2 (by have := hE.size; have := (Ext.alloc wr B).size; omega), hE3⟩
      case measure => simp [intOf]; omega
    · go_wp2
      go_ret
      have hk' : k = ts.length := by omega
      subst hk'
      rw [List.take_length] at hO
      exact ⟨_, rfl, hO, hE⟩

end Go.Proofs.Ytfgibhdglbjadaa
