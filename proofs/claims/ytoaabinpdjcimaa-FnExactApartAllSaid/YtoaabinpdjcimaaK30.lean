/- The laws' sizes, copies, tests and marks of pairs. (Printed by genpx1.py out of XE3 and XE5.) -/
import Derived.Test.YtoaabinpdjcimaaK20
import Derived.Test.YtoaabinpdjcimaaK29
import Derived.Test.YtoaabinpdjcimaaK15
namespace Go.Proofs.Ytoaabinpdjcimaa
open Go.RowKit
set_option maxRecDepth 4000

set_option maxHeartbeats 1000000 in
theorem lToPair (pa pb : Int) (w : World) :
    Calls Try.prog 62 #[.agg #[.int .i64 pa, .int .i64 pb]] w fun e w' => e = .returned (.agg #[.int .i64 pa, .int .i64 pb]) ∧ Ext w w' := by
  have g2 : (((w.alloc (.cells #[.int .i64 pa, .int .i64 pb] 84)).alloc (.cells #[.int .i64 pa, .int .i64 pb] 55)).alloc (.cells #[.int .i64 pa, .int .i64 pb] 55)).heap[w.heap.size + 1]? = some (.cells #[.int .i64 pa, .int .i64 pb] 55 (0, 0)) := (Ext.alloc _ _).obj (heap_new (by simp))
  have hE : Ext w (((w.alloc (.cells #[.int .i64 pa, .int .i64 pb] 84)).alloc (.cells #[.int .i64 pa, .int .i64 pb] 55)).alloc (.cells #[.int .i64 pa, .int .i64 pb] 55)) := ((Ext.alloc _ _).trans (Ext.alloc _ _)).trans (Ext.alloc _ _)
  have r0 := obj_cell g2 (i := 0) rfl
  have r1 := obj_cell g2 (i := 1) rfl
  have HE := hid hE
  clear g2 hE
  go_enter Try.func62, Try.ntmps62
  go_wp2
  refine bodyPost_ret (v := .agg #[.int .i64 pa, .int .i64 pb]) (by simp [results, Try.results62, go_sem, r0, r1]) rfl ⟨rfl, HE.out⟩

/-- pairs that came in -/
abbrev XPv := RXl 2 EP
theorem XPv.ext {w w' : World} {v : Value} {xs : List PairD} (h : XPv w v xs) (ha : Ext w w') : XPv w' v xs := RXl.ext_ (fun _ _ _ _ h _ => h) h ha
theorem XPv.get {w : World} {v : Value} {xs : List PairD} (h : XPv w v xs) : ∃ A c, v = .slice A xs.length c ∧ xs.length ≤ c ∧ c ≤ 9223372036854775807 ∧
    ∀ (j : Nat), j < xs.length → ∃ b o x, A = some ⟨b, o, none⟩ ∧ Hid (xs[j]? = some x) ∧ w.cell? ⟨b, o + j * 2, none⟩ = some (.int .i64 x.a) ∧ w.cell? ⟨b, o + j * 2 + 1, none⟩ = some (.int .i64 x.b) := by
  obtain ⟨A, c, hv, h1, h2, h⟩ := RXl.get_ h
  refine ⟨A, c, hv, h1, h2, fun j hj => ?_⟩
  obtain ⟨b, o, x, cs, hA, hx, _, he, hc⟩ := h j hj
  subst he
  exact ⟨b, o, x, hA, hx, by simpa using hc 0 _ rfl, by simpa [Nat.add_assoc] using hc 1 _ rfl⟩

theorem lSzPairs (v : Value) (xs : List PairD) (left : Int) (w : World) (h : XPv w v xs) (h0 : 0 ≤ left) (h1 : left ≤ 2000000) :
    Calls Try.prog 20 #[v, .int .i64 left] w (RetSz w left xs.length) := by
  obtain ⟨A, c, rfl, hc, hc', _⟩ := h
  by_cases hneg : left - (xs.length : Int) < 0
  · go_enter Try.func20, Try.ntmps20
    go_wp2
    go_ret
    exact ⟨-1, rfl, Ext.refl _, by omega, by omega, fun h => absurd h (by omega)⟩
  · have hneg' : ¬ left < (xs.length : Int) := by omega
    go_enter Try.func20, Try.ntmps20
    go_wp2
    go_ret
    exact ⟨left - (xs.length : Int), rfl, Ext.refl _, by omega, by omega, fun _ => by omega⟩

theorem lEqPair (a b : Int) (w : World) :
    Calls Try.prog 63 #[.agg #[.int .i64 a, .int .i64 b], .agg #[.int .i64 a, .int .i64 b]] w (RetB w true) := by
  go_enter Try.func63, Try.ntmps63
  go_wp2
  go_ret
  exact ⟨rfl, (Ext.alloc _ _).trans (Ext.alloc _ _)⟩

set_option maxHeartbeats 2000000 in
theorem lEqPairs (v u : Value) (xs : List PairD) (w : World) (h : RP w v xs) (h' : RP w u xs) :
    Calls Try.prog 28 #[v, u] w (RetB w true) := by
  obtain ⟨A, c, rfl, hc, hc', hr⟩ := RP.get h
  obtain ⟨A', c', rfl, _, _, hr'⟩ := RP.get h'
  clear h h'
  go_enter Try.func28, Try.ntmps28
  go_wp2
  go_loopw [5] (fun i wr => ∃ k : Nat, k ≤ xs.length ∧ i = .int .i64 k ∧ Ext w wr) (fun i _ => xs.length - (intOf i).toNat)
  case atStart => exact ⟨0, Nat.zero_le _, rfl, Ext.refl _⟩
  case round =>
    obtain ⟨k, hk, rfl, hE⟩ := hrel
    by_cases hlt : k < xs.length
    · obtain ⟨b1, o1, x1, rfl, e1, c1, c2⟩ := hr k hlt
      obtain ⟨b2, o2, x2, rfl, e2, d1, d2⟩ := hr' k hlt
      have hx : x2 = x1 := by have a := e1.out; rw [e2.out] at a; injection a
      subst hx
      have i1 : (k : Int) < (xs.length : Int) := by omega
      have i0 : (0 : Int) ≤ (k : Int) := by omega
      have KH : Hid (∀ w', Ext wr w' → w'.cell? ⟨b1, o1 + k * 2, none⟩ = some (.int .i64 x2.a) ∧ w'.cell? ⟨b1, o1 + k * 2 + 1, none⟩ = some (.int .i64 x2.b) ∧ w'.cell? ⟨b2, o2 + k * 2, none⟩ = some (.int .i64 x2.a) ∧ w'.cell? ⟨b2, o2 + k * 2 + 1, none⟩ = some (.int .i64 x2.b) ∧ Ext wr w') :=
        hid fun w' hw => ⟨hw.cell (hE.cell c1), hw.cell (hE.cell c2), hw.cell (hE.cell d1), hw.cell (hE.cell d2), hw⟩
      clear c1 c2 d1 d2
      go_wp2
      go_region_held3 (fun w' => w'.cell? ⟨b1, o1 + k * 2, none⟩ = some (.int .i64 x2.a) ∧ w'.cell? ⟨b1, o1 + k * 2 + 1, none⟩ = some (.int .i64 x2.b) ∧ w'.cell? ⟨b2, o2 + k * 2, none⟩ = some (.int .i64 x2.a) ∧ w'.cell? ⟨b2, o2 + k * 2 + 1, none⟩ = some (.int .i64 x2.b) ∧ Ext wr w')
        (first | exact KH.out _ (by assumption) | exact KH.out _ (Below.drew (Below.refl _ _)))
        ((go_at_call 63; refine (lEqPair x2.a x2.b _).mono ?_; rintro e w1 ⟨rfl, hE1⟩; have h01 : Ext wr w1 := Ext.trans (Below.drew (Below.refl _ _)) hE1))
      go_wp2
      go_roundw
      case rel => exact ⟨k + 1, by omega, by go_num, hE.trans h01⟩
      case measure => simp [intOf]; omega
    · go_wp2
      go_ret
      exact ⟨rfl, hE⟩

theorem OP.set2 {w : World} {base g n c : Nat} {ms : List PairD} (h : OP w base (.slice (some ⟨g, 0, none⟩) n c) ms) {j : Nat} {m : PairD} (hj : ms[j]? = some m) (a b : Int) :
    OP ((w.setCell ⟨g, j * 2, none⟩ (.int .i64 a)).setCell ⟨g, j * 2 + 1, none⟩ (.int .i64 b)) base (.slice (some ⟨g, 0, none⟩) n c) (ms.set j ⟨a, b⟩) := by
  have hlt : j < ms.length := (List.getElem?_eq_some_iff.1 hj).1
  obtain ⟨h1, _⟩ := Own.set EP.ok EP.ne h hj (i := 0) (u := .int .i64 a) (x' := ⟨a, m.b⟩) (by omega) (fun w' hw cs hl he => by rw [he]; rfl)
  obtain ⟨h2, _⟩ := Own.set EP.ok EP.ne h1 (j := j) (i := 1) (x := ⟨a, m.b⟩) (u := .int .i64 b) (x' := ⟨a, b⟩) (by rw [List.getElem?_set_self hlt]) (by omega) (fun w' hw cs hl he => by rw [he]; rfl)
  rw [List.set_set] at h2
  exact h2

set_option maxHeartbeats 1000000 in
theorem lToPairs (v : Value) (xs : List PairD) (w : World) (h : XPv w v xs) (hl : xs.length ≤ 4000000) :
    Calls Try.prog 24 #[v] w fun e w' => ∃ v', e = .returned v' ∧ OP w' w.heap.size v' xs ∧ Ext w w' := by
  obtain ⟨A, c, rfl, hc, hc', hr⟩ := h.get
  clear h
  obtain ⟨i0_pair, hi0_pair, hz0_pair, hz1_pair, hz2_pair⟩ := info_parts info_pair
  go_enter Try.func24, Try.ntmps24
  go_wp2_with (at_make; refine wpList_make_full _ rfl _ _ 25 rfl w.heap.size 55 i0_pair _ 2 Try.underlying25 hi0_pair hz0_pair hz1_pair _ _ _ _ xs.length rfl rfl rfl rfl (by rw [hz2_pair]; omega) (by unfold maxLen; omega) (Nat.le_refl _) ?_; intro w1 hO1 hg1; have HE1 : Hid (Ext w w1) := hid (Below.grown (Ext.refl _) hg1 (Nat.le_refl _) (fun k hk => by cases hk)); have HO1 : Hid (OP w1 w.heap.size (.slice (some ⟨w.heap.size, 0, none⟩) xs.length xs.length) (List.replicate xs.length ⟨0, 0⟩)) := hid (Own.full (E := EP) (size := 2) (z := .agg #[.int .i64 0, .int .i64 0]) ⟨0, 0⟩ (by rfl) rfl hO1); clear hO1 hg1)
  go_loopw [4] (fun i wr => ∃ k : Nat, k ≤ xs.length ∧ i = .int .i64 k ∧ Hid (OP wr w.heap.size (.slice (some ⟨w.heap.size, 0, none⟩) xs.length xs.length) (xs.take k ++ List.replicate (xs.length - k) ⟨0, 0⟩)) ∧ Ext w wr) (fun i _ => xs.length - (intOf i).toNat)
  case atStart => exact ⟨0, Nat.zero_le _, rfl, hid (by simpa using HO1.out), HE1.out⟩
  case round =>
    obtain ⟨k, hk, rfl, HO, hE⟩ := hrel
    by_cases hlt : k < xs.length
    · obtain ⟨b1, o1, x1, rfl, e1, c1, c2⟩ := hr k hlt
      have i1 : (k : Int) < (xs.length : Int) := by omega
      have i0 : (0 : Int) ≤ (k : Int) := by omega
      have c1r := hE.cell c1
      have c2r := hE.cell c2
      have HQL : Hid ((xs.take k).length = k) := hid (by rw [List.length_take]; omega)
      clear c1 c2
      go_wp2_with (go_at_call 62; refine (lToPair x1.a x1.b _).mono ?_; rintro e w2 ⟨rfl, hE2⟩; have HE2 := hid hE2; have HO2 := hid (Own.ext EP.ok HO.out hE2); obtain ⟨s0, s1, s0f, s1f⟩ := OP.at_ HO2.out (pad2_at (xs.take k) _ HQL.out hlt); clear hE2)
      go_roundw
      case rel =>
        have hs := OP.set2 HO2.out (pad2_at (xs.take k) _ HQL.out hlt) x1.a x1.b
        rw [pad2_set (xs.take k) _ _ HQL.out hlt] at hs
        exact ⟨k + 1, by omega, by go_num, hid (by rw [take_snoc e1.out]; exact hs), Below.setCell (Below.setCell (hE.trans HE2.out) (Nat.le_refl _) _) (Nat.le_refl _) _⟩
      case measure => simp [intOf]; omega
    · go_wp2
      go_ret
      have hk' : k = xs.length := by omega
      have ho := HO.out
      rw [hk', Nat.sub_self, List.replicate_zero, List.append_nil, List.take_length] at ho
      exact ⟨_, rfl, ho, hE⟩

set_option maxHeartbeats 2000000 in
theorem lMarkPairs (A : Option Addr) (n c : Nat) (ms : List PairD) (k : Int) (w : World) (base : Nat) (h : OP w base (.slice A n c) ms) (hl : n ≤ 4000000) (hk0 : 0 ≤ k) (hk1 : k ≤ 1000000000) :
    Calls Try.prog 39 #[.slice A n c, .int .i64 k] w fun e w' => e = .returned (.int .i64 (k + 2 * (n : Int))) ∧ (∃ ms', OP w' base (.slice A n c) ms' ∧ ∀ (j : Nat), j < n → ms'[j]? = some ⟨k + 2 * (j : Int), k + 2 * (j : Int) + 1⟩) ∧ Touch (Value.slice A n c).ownBlock.toList w w' := by
  have hn := Own.form_eq h
  by_cases h0 : 0 < n
  · obtain ⟨g, c1, hv, _⟩ := Own.row h (by omega)
    injection hv with e1 e2 e3
    subst e1 e3
    clear e2
    have HX := hid hn
    have HO0 := hid h
    clear h hn
    go_enter Try.func39, Try.ntmps39
    go_wp2
    go_loopw [1, 5] (fun s i wr => ∃ (j : Nat) (ms' : List PairD), j ≤ n ∧ i = .int .i64 j ∧ s = .int .i64 (k + 2 * (j : Int)) ∧ Hid (OP wr base (.slice (some ⟨g, 0, none⟩) n c) ms' ∧ ms'.length = n ∧ (∀ (i : Nat), i < j → ms'[i]? = some ⟨k + 2 * (i : Int), k + 2 * (i : Int) + 1⟩) ∧ Touch [g] w wr)) (fun _ i _ => n - (intOf i).toNat)
    case atStart => exact ⟨0, ms, Nat.zero_le _, rfl, by simp, hid ⟨HO0.out, HX.out.symm, fun i hi => absurd hi (by omega), Touch.refl _ _⟩⟩
    case round =>
      obtain ⟨j, ms', hj, rfl, rfl, H⟩ := hrel
      obtain ⟨kk, hkk⟩ : ∃ kk, kk = k + 2 * (j : Int) := ⟨_, rfl⟩
      have hkk0 : 0 ≤ kk := by omega
      have hkk1 : kk ≤ 1100000000 := by omega
      have HKK := hid hkk
      rw [← hkk]
      clear hkk
      by_cases hjl : j < n
      · have ij : (j : Int) < (n : Int) := by omega
        have i0 : (0 : Int) ≤ (j : Int) := by omega
        have HO := hid H.out.1
        have HLN := hid H.out.2.1
        have HPR := hid H.out.2.2.1
        have HT := hid H.out.2.2.2
        obtain ⟨m, hm⟩ : ∃ m, ms'[j]? = some m := ⟨_, List.getElem?_eq_getElem (by rw [HLN.out]; exact hjl)⟩
        obtain ⟨s0, s1, s0f, s1f⟩ := OP.at_ HO.out hm
        obtain ⟨curg, hcg⟩ := Own.blk HO.out
        have hcg2 := obj_set hcg (j * 2) (.int .i64 kk)
        have s1' : (wr.setCell ⟨g, j * 2, none⟩ (.int .i64 kk)).cell? ⟨g, j * 2 + 1, none⟩ = some (.int .i64 m.b) := by
          have h1 := (Own.set EP.ok EP.ne HO.out hm (i := 0) (u := .int .i64 kk) (x' := ⟨kk, m.b⟩) (by omega) (fun w' hw cs hl he => by rw [he]; rfl)).1
          exact (OP.at_ h1 (List.getElem?_set_self (List.getElem?_eq_some_iff.1 hm).1)).2.1
        have s1f' := obj_frozen hcg2 (j * 2 + 1)
        have HM := hid hm
        clear hcg hcg2 H hm
        go_wp2
        go_roundw
        case rel =>
          refine ⟨j + 1, ms'.set j ⟨kk, kk + 1⟩, by omega, by go_num, by rw [HKK.out]; congr 1; omega, hid ⟨OP.set2 HO.out HM.out kk (kk + 1), by rw [List.length_set]; exact HLN.out, fun i hi => ?_, (HT.out.setCell (p := ⟨g, j * 2, none⟩) (by simp) _).setCell (p := ⟨g, j * 2 + 1, none⟩) (by simp) _⟩⟩
          by_cases hij : i = j
          · subst hij
            rw [List.getElem?_set_self (by rw [HLN.out]; exact hjl), HKK.out]
          · rw [List.getElem?_set_ne (Ne.symm hij)]
            exact HPR.out i (by omega)
        case measure => simp [intOf]; omega
      · have ij : ¬ (j : Int) < (n : Int) := by omega
        go_wp2
        go_ret
        have hj' : j = n := by omega
        exact ⟨ret_i (by rw [HKK.out, hj']), ⟨ms', H.out.1, fun i hi => H.out.2.2.1 i (by omega)⟩, H.out.2.2.2⟩
  · have hz : n = 0 := by omega
    subst hz
    have HO0 := hid h
    clear h hn
    go_enter Try.func39, Try.ntmps39
    go_wp2
    go_loopw [1, 5] (fun s i wr => i = .int .i64 0 ∧ s = .int .i64 k ∧ wr = w) (fun _ _ _ => 0)
    case atStart => exact ⟨rfl, rfl, rfl⟩
    case round =>
      obtain ⟨rfl, rfl, rfl⟩ := hrel
      go_wp2
      go_ret
      exact ⟨by simp, ⟨ms, HO0.out, fun j hj => absurd hj (by omega)⟩, Touch.refl _ _⟩

end Go.Proofs.Ytoaabinpdjcimaa

/- Raw tasks are opened. -/
namespace Go.Proofs.Ytoaabinpdjcimaa
open Go.RowKit Go.ChangeShapes Go.WideShapes Go.Deep Go.Joins
set_option maxRecDepth 100000

section
variable {H : Type} {enc : TypeId × Value → H} {w : World} {base : Nat} {spare : Nat → Bool} {held : Bool}
theorem open_xLT {v : Value} {r : Reach} {b0 : Nat} {d : DataW H} {p : List MemPlace} (hv : Value.okWide Try.prog w r b0 59 v) (h : DataW.Trod enc Try.prog w base spare held 59 v d p) : ∃ xs, XT w v xs ∧ ∀ t ∈ xs, IdR t.id := by
  obtain ⟨a, n, c, rfl⟩ := okWide_slice Try.underlying59 hv
  obtain ⟨fuel, hf⟩ := h
  obtain ⟨u, xs, hu, hx, hq⟩ := open_xt hf
  have e1 : Value.slice a n c = u := by simpa [Value.cells] using hu
  subst e1
  exact ⟨xs, hx, hq⟩
end
end Go.Proofs.Ytoaabinpdjcimaa

/- Raw pairs are opened. -/
namespace Go.Proofs.Ytoaabinpdjcimaa
open Go.RowKit Go.ChangeShapes Go.WideShapes Go.Deep Go.Joins
set_option maxRecDepth 100000

section
variable {H : Type} {enc : TypeId × Value → H} {w : World} {base : Nat} {spare : Nat → Bool} {held : Bool}
theorem open_xpv {fuel : Nat} {cs : List Value} {x : DataW H × List MemPlace} (h : DataW.trod enc Try.prog w base spare held fuel 40 cs = some x) : ∃ v xs, cs = [v] ∧ XPv w v xs ∧ ∀ m ∈ xs, True :=
  open_rx EP (fun _ => True) (by omega) Try.underlying40 (by kernel_rfl) (fun n cs' y hy hl => by
    obtain ⟨y0, y1, m, _, _, h0, h1⟩ := trod_struct2 Try.underlying84 hy
    obtain ⟨c0, c1, rfl⟩ := len2 hl
    obtain ⟨z, hz, _, hw⟩ := DataW.trod_int Try.underlying3 h0
    obtain ⟨z', hz', _, hw'⟩ := DataW.trod_int Try.underlying3 h1
    have hc : Try.prog.cellsOf 3 = 1 := by kernel_rfl
    have e0 : c0 = .int .i64 z := by
      rw [hc] at hz
      simpa using hz
    have e1 : c1 = .int .i64 z' := by
      rw [hc] at hz'
      simpa using hz'
    subst e0 e1
    exact ⟨⟨z, z'⟩, rfl, trivial⟩) h
theorem open_xPv {v : Value} {r : Reach} {b0 : Nat} {d : DataW H} {p : List MemPlace} (hv : Value.okWide Try.prog w r b0 40 v) (h : DataW.Trod enc Try.prog w base spare held 40 v d p) : ∃ xs, XPv w v xs := by
  obtain ⟨a, n, c, rfl⟩ := okWide_slice Try.underlying40 hv
  obtain ⟨fuel, hf⟩ := h
  obtain ⟨u, xs, hu, hx, _⟩ := open_xpv hf
  have e1 : Value.slice a n c = u := by simpa [Value.cells] using hu
  subst e1
  exact ⟨xs, hx⟩
end
end Go.Proofs.Ytoaabinpdjcimaa
