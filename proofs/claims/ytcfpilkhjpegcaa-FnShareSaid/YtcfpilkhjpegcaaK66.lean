/- Slices of vectors; their sum; where a number stands; a vector's total. -/
import Derived.Test.YtcfpilkhjpegcaaK4
import Derived.Test.YtcfpilkhjpegcaaK64
import Derived.Test.YtcfpilkhjpegcaaK62
namespace Go.Proofs.Ytcfpilkhjpegcaa
open Go.RowKit
set_option maxRecDepth 4000

/-- a vector as an element -/
def EVv : Enc (List Int) := fun w cs xs => ∃ v, cs = [v] ∧ RI w v xs
theorem EVv.ok : EVv.Ok (fun t => t = 3) := fun _ _ _ _ ⟨v, h, hr⟩ ha => ⟨v, h, hr.same ha⟩
abbrev RVs := RSl 55 1 EVv
theorem RVs.ext {w w' : World} {v : Value} {xs : List (List Int)} (h : RVs w v xs) (ha : Ext w w') : RVs w' v xs := RSl.same_ EVv.ok h (ha.same _)
theorem RVs.get {w : World} {v : Value} {xs : List (List Int)} (h : RVs w v xs) : ∃ A c, v = .slice A xs.length c ∧ xs.length ≤ c ∧ c ≤ 9223372036854775807 ∧
    ∀ (j : Nat), j < xs.length → ∃ b o x An cn, A = some ⟨b, o, none⟩ ∧ Hid (xs[j]? = some x) ∧ w.cell? ⟨b, o + j, none⟩ = some (.slice An x.length cn) ∧ RI w (.slice An x.length cn) x := by
  obtain ⟨A, c, hv, h1, h2, h⟩ := RSl.get_ h
  refine ⟨A, c, hv, h1, h2, fun j hj => ?_⟩
  obtain ⟨b, o, x, cs, hA, hx, _, ⟨nv, he, hr⟩, hc⟩ := h j hj
  subst he
  have hr0 := hr
  obtain ⟨An, cn, rfl, _⟩ := hr
  have hr := hr0
  exact ⟨b, o, x, An, cn, hA, hx, by simpa using hc 0 _ rfl, hr⟩
/-- a row of numbers, read -/
theorem RI.row {w : World} {r : Nat} {xs : List Int} {n : Nat} (hn : xs.length = n) (hl : n ≤ 1000) (h : w.heap[r]? = some (.cells (xs.map (Value.int .i64)).toArray 3)) : RI w (.slice (some ⟨r, 0, none⟩) n n) xs := by
  subst hn
  refine ⟨some ⟨r, 0, none⟩, xs.length, rfl, Nat.le_refl _, by omega, fun hp => ⟨r, 0, _, _, rfl, h, fun j x hx => ⟨[.int .i64 x], rfl, rfl, fun i u hu => ?_⟩⟩⟩
  match i, hu with
  | 0, hu =>
    simp at hu
    subst hu
    simp [hx]
  | i + 1, hu => simp at hu
/-- what usage leaves, read -/
theorem loads_read {w : World} {C n : Nat} {cc : Array Value} {rs : Nat → Nat} {us : List UnitD} (hC : w.heap[C]? = some (.cells cc 55)) (hs : cc.size = n) (hn : us.length = n) (hl : n ≤ 1000)
    (h : ∀ i, i < n → cc[i]? = some (.slice (some ⟨rs i, 0, none⟩) 3 3) ∧ w.heap[rs i]? = some (.cells (rowU us i) 3)) : RVs w (.slice (some ⟨C, 0, none⟩) n n) (us.map fun u => loadL u.tasks) := by
  subst hn
  refine ⟨some ⟨C, 0, none⟩, us.length, by rw [List.length_map], by rw [List.length_map]; exact Nat.le_refl _, by omega, fun hp => ⟨C, 0, cc, _, rfl, hC, fun j x hx => ?_⟩⟩
  rw [List.getElem?_map] at hx
  obtain ⟨u, hu, rfl⟩ := Option.map_eq_some_iff.1 hx
  have hj := (List.getElem?_eq_some_iff.1 hu).1
  obtain ⟨h1, h2⟩ := h j hj
  refine ⟨[.slice (some ⟨rs j, 0, none⟩) 3 3], rfl, ⟨_, rfl, RI.row (loadL_len _) (by omega) ?_⟩, fun i v hv => ?_⟩
  · rw [h2]
    simp [rowU, List.getD, hu]
  · match i, hv with
    | 0, hv =>
      simp at hv
      subst hv
      simpa using h1
    | i + 1, hv => simp at hv

set_option maxHeartbeats 1000000 in
theorem iTogether (v : Value) (ls : List (List Int)) (w : World) (h : RVs w v ls) (hl : ls.length ≤ 10) (hb : ∀ a ∈ ls, a.length = 3 ∧ Bd 20 a) :
    Calls Try.prog 35 #[v] w fun e w' => ∃ v, e = .returned v ∧ OI w' w.heap.size v (togL ls) ∧ Ext w w' := by
  obtain ⟨A, c, rfl, hc, hc', hr⟩ := h.get
  clear h
  have HB := hid hb
  clear hb
  go_enter Try.func35, Try.ntmps35
  go_wp2_with fail
  refine (iZeros _).mono ?_
  rintro e w1 ⟨v1, rfl, hv1, hE1⟩
  have HV1 := hid hv1
  have HE1 := hid hE1
  clear hv1 hE1
  go_wp2
  go_loopw [3, 9] (fun s i wr => ∃ k : Nat, k ≤ ls.length ∧ i = .int .i64 k ∧ OI wr w.heap.size s (togL (ls.take k)) ∧ Ext w wr) (fun _ i _ => ls.length - (intOf i).toNat)
  case atStart => exact ⟨0, Nat.zero_le _, rfl, by rw [List.take_zero]; exact HV1.out, HE1.out⟩
  case round =>
    obtain ⟨k, hk, rfl, hO, hE⟩ := hrel
    by_cases hlt : k < ls.length
    · obtain ⟨b, o, x, An, cn, rfl, e, c1, hnx⟩ := hr k hlt
      have i1 : (k : Int) < (ls.length : Int) := by omega
      have c1r := hE.cell c1
      have HN := hid (hnx.ext hE)
      have HO := hid hO
      have HGx := hid (HB.out x (List.mem_of_getElem? e.out))
      have HT := hid ((togL_bd (fun a ha => (HB.out a ha).2) k hk).mono (by omega : (20 * (k : Int)) ≤ 1000000))
      clear c1 hnx hO
      go_wp2_with (go_at_call 66; refine (iPlus _ _ (togL (ls.take k)) x wr HO.out.read HN.out (togL_len _) HGx.out.1 HT.out (HGx.out.2.mono (by omega))).mono ?_; rintro e2 w2 ⟨v2, rfl, hv2, hE2⟩; have hE3 := hE.trans hE2)
      go_roundw
      case rel => exact ⟨k + 1, by omega, by go_num, by rw [togL_succ e.out]; exact Own.low hv2 hE.size, hE3⟩
      case measure => simp [intOf]; omega
    · go_wp2
      go_ret
      have hk' : k = ls.length := by omega
      subst hk'
      rw [List.take_length] at hO
      exact ⟨_, rfl, hO, hE⟩
end Go.Proofs.Ytcfpilkhjpegcaa

/- Where a number stands; a vector's total. -/
namespace Go.Proofs.Ytcfpilkhjpegcaa
open Go.RowKit
set_option maxRecDepth 4000

theorem iIndexI (v : Value) (xs : List Int) (m : Int) (w : World) (h : RI w v xs) :
    Calls Try.prog 53 #[v, .int .i64 m] w (RetN w (idxI (fun x => m == x) xs)) := by
  obtain ⟨A, c, rfl, hc, hc', hr⟩ := h.get
  clear h
  go_enter Try.func53, Try.ntmps53
  go_wp2
  go_loopw [8] (fun i wr => ∃ k : Nat, k ≤ xs.length ∧ i = .int .i64 k ∧ Hid (∀ (j : Nat) y, j < k → xs[j]? = some y → (m == y) = false) ∧ wr = w) (fun i _ => xs.length - (intOf i).toNat)
  case atStart => exact ⟨0, Nat.zero_le _, rfl, fun j y hj => absurd hj (by omega), rfl⟩
  case round =>
    obtain ⟨k, hk, rfl, H, rfl⟩ := hrel
    by_cases hlt : k < xs.length
    · obtain ⟨b, o, x, rfl, e, hcell⟩ := hr k hlt
      have i1 : (k : Int) < (xs.length : Int) := by omega
      by_cases hx : m = x
      · have hx' : (m == x) = true := by simpa using hx
        have HX := hid hx'
        subst hx
        go_wp2
        go_ret
        exact ⟨ret_i (idxI_hit (p := fun y => m == y) e.out HX.out H.out).symm, Ext.refl _⟩
      · have hx' : (m == x) = false := by simpa using hx
        go_wp2
        go_roundw
        case rel => exact ⟨k + 1, by omega, by go_num, idx_more (p := fun y => m == y) e.out hx' H.out, trivial⟩
        case measure => simp [intOf]; omega
    · go_wp2
      go_ret
      have hk' : k = xs.length := by omega
      subst hk'
      exact ⟨ret_i (idxI_miss (p := fun y => m == y) fun j y hj => H.out j y (List.getElem?_eq_some_iff.1 hj).1 hj).symm, Ext.refl _⟩

theorem sumU_snoc (xs : List Int) (x : Int) : sumL (xs ++ [x]) = sumL xs + x := by simp [sumL]
theorem sumU_succ {xs : List Int} {k : Nat} {x : Int} (h : xs[k]? = some x) : sumL (xs.take (k + 1)) = sumL (xs.take k) + x := by rw [take_snoc h, sumU_snoc]
theorem sumU_bd {xs : List Int} (h : vecOk xs = true) : ∀ k, 0 ≤ sumL (xs.take k) ∧ sumL (xs.take k) ≤ 20 * (k : Int)
  | 0 => by simp [sumL]
  | k + 1 => by
    have ih := sumU_bd h k
    cases hx : xs[k]? with
    | none =>
      have hl := List.getElem?_eq_none_iff.1 hx
      rw [List.take_of_length_le (by omega)]
      rw [List.take_of_length_le (by omega)] at ih
      omega
    | some x =>
      rw [sumU_succ hx]
      have := vecOk_mem h x (List.mem_of_getElem? hx)
      omega
theorem iTotalU (v : Value) (xs : List Int) (w : World) (h : RI w v xs) (hv : vecOk xs = true) : Calls Try.prog 82 #[v] w fun e w' => e = .returned (.int .i64 (sumL xs)) ∧ w' = w := by
  obtain ⟨A, c, rfl, h1, h2, h3⟩ := RI.get h
  clear h
  have hl := vecOk_len hv
  have HV := hid hv
  clear hv
  go_enter Try.func82, Try.ntmps82
  go_wp2
  go_loopw [3, 8] (fun s i wr => ∃ (k : Nat) (t : Int), k ≤ xs.length ∧ i = .int .i64 k ∧ s = .int .i64 t ∧ Hid (t = sumL (xs.take k)) ∧ wr = w) (fun _ i _ => xs.length - (intOf i).toNat)
  case atStart => exact ⟨0, 0, by omega, rfl, rfl, hid rfl, rfl⟩
  case round =>
    obtain ⟨k, t, hk, rfl, rfl, H, rfl⟩ := hrel
    by_cases hlt : k < xs.length
    · obtain ⟨b1, o1, x1, rfl, e1, c1⟩ := h3 k hlt
      have i1 : (k : Int) < (xs.length : Int) := by omega
      have d1 := vecOk_mem HV.out x1 (List.mem_of_getElem? e1.out)
      have d2 := sumU_bd HV.out k
      have d3 : 0 ≤ t ∧ t ≤ 20 * (k : Int) := by rw [H.out]; exact d2
      have w1 : IntKind.i64.wrap (t + x1) = t + x1 := IntWalk.i64_in _ (by omega)
      clear d1 d2 d3
      go_wp2
      go_roundw
      case rel => exact ⟨k + 1, t + x1, by omega, by go_num, rfl, hid (by rw [sumU_succ e1.out, H.out]), trivial⟩
      case measure => simp [intOf]; omega
    · have hk' : k = xs.length := by omega
      have hge : ¬ (k : Int) < (xs.length : Int) := by omega
      have hR : Hid (t = sumL xs) := hid (by rw [H.out, hk', List.take_length])
      clear hk'
      go_wp2
      go_ret
      exact ⟨ret_i hR.out, rfl⟩
end Go.Proofs.Ytcfpilkhjpegcaa
