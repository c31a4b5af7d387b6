/- Pairs are drawn. -/
import Derived.Test.YtoaabinpdjcimaaK23
import Derived.Test.YtoaabinpdjcimaaK12
namespace Go.Proofs.Ytoaabinpdjcimaa
open Go.RowKit
set_option maxRecDepth 4000

theorem notPair : ∀ t, (t = 55 ∨ False) → t ≠ 95 := by rintro t (rfl | h) <;> first | decide | exact h.elim
theorem OP.at_ {w : World} {base g n c : Nat} {xs : List PairD} (h : OP w base (.slice (some ⟨g, 0, none⟩) n c) xs) {j : Nat} {x : PairD} (hj : xs[j]? = some x) :
    w.cell? ⟨g, j * 2, none⟩ = some (.int .i64 x.a) ∧ w.cell? ⟨g, j * 2 + 1, none⟩ = some (.int .i64 x.b) ∧ w.frozen? ⟨g, j * 2, none⟩ = false ∧ w.frozen? ⟨g, j * 2 + 1, none⟩ = false := by
  obtain ⟨cs, _, he, hc⟩ := Own.at_ h hj
  rw [show cs = [.int .i64 x.a, .int .i64 x.b] from he] at hc
  exact ⟨by simpa using hc 0 _ rfl, by simpa using hc 1 _ rfl, h.frozen_ _, h.frozen_ _⟩
theorem OP.ext {w w' : World} {base : Nat} {v : Value} {xs : List PairD} (h : OP w base v xs) (ha : Ext w w') : OP w' base v xs := Own.ext EP.ok h ha

def DrawnP (w : World) (b : Nat) (bv : Value) (bs : List Int) (p : Nat) (e : Ending) (w' : World) : Prop := ∃ v ps, e = .returned v ∧ RP w' v ps ∧ ps.length ≤ 40 ∧ DrawR w b bv bs p 80 w'
set_option maxHeartbeats 4000000 in
theorem dPairs (b : Nat) (bv : Value) (bs : List Int) (p : Nat) (w : World) (h : Rd w b bv bs p) (hp : p ≤ 800000) :
    Calls Try.prog 47 #[.pointer (some ⟨b, 0, none⟩)] w (DrawnP w b bv bs p) := by
  have HR0 := hid (h.ext (Ext.alloc w (.cells #[] 55)))
  have HG0 := hid (Gr.of_ext (b := b) (Ext.alloc w (.cells #[] 55)))
  have HB0 := hid h.low
  have HM0 : Hid (OP (w.alloc (.cells #[] 55)) w.heap.size (.slice (some ⟨w.heap.size, 0, none⟩) 0 0) []) := hid (Own.made #[] 0 (Nat.le_refl _) (by omega) rfl)
  have TK0 : Hid True := hid trivial
  obtain ⟨i0_pair, hi0_pair, hz0_pair, hz1_pair, hz2_pair⟩ := info_parts info_pair
  clear h
  go_enter Try.func47, Try.ntmps47
  go_wp2_with (first
    | (go_at_call 58; clear TK0; refine (dPick b bv bs p _ _ HR0.out (by omega) (by omega)).mono ?_; rintro e w1 ⟨x1, rfl, hx, hg1, hr1⟩; have hx1 := pick_lt hx (by decide); have HD1 : Hid (DrawR w b bv bs p 1 w1) := hid ⟨HG0.out.trans hg1, _, Nat.le_refl _, hr1⟩; have HO1 := hid (Own.same EP.ok HM0.out (hg1.same HR0.out _ notPair)); have TK1 : Hid True := hid trivial; clear hx hg1 hr1)
    | (go_at_call 58; clear TK1; obtain ⟨hg, pp, hpp, hr⟩ := HD1.out; refine (dPick b bv bs pp _ _ hr (by omega) (by omega)).mono ?_; rintro e w2 ⟨x2, rfl, hx, hg2, hr2⟩; have hx2 := pick_lt hx (by decide); have HD2 := hid (DrawR.more HD1.out hg2 hr2 hpp); have HO2 := hid (Own.same EP.ok HO1.out (hg2.same hr _ notPair)); clear hg hpp hr hx hg2 hr2))
  · have hf4 : ((x2 : Int) == 0) = true := by first | assumption | (have h3 : (x2 : Int) = 0 := (by assumption); simpa using h3) | (have h3 : x2 = 0 := (by assumption); simpa using h3)
    rw [hf4]
    clear hf4
    obtain ⟨n, hn, hn30⟩ : ∃ n : Nat, (30 : Int) = (n : Int) ∧ n ≤ 30 := ⟨30, rfl, by omega⟩
    rw [hn]
    clear hn
    have HN := hid hn30
    go_loopw [3, 5] (fun o i wr => ∃ (u : Value) (k : Nat) (ps : List PairD), u = o ∧ k ≤ n ∧ i = .int .i64 k ∧ ps.length ≤ k ∧ Hid (OP wr w.heap.size u ps ∧ DrawR w b bv bs p (2 + 2 * k) wr)) (fun _ i _ => n - (intOf i).toNat)
    case atStart => exact ⟨_, 0, [], rfl, Nat.zero_le _, rfl, Nat.le_refl _, hid ⟨HO2.out, HD2.out⟩⟩
    case round =>
      obtain ⟨u, k, ps, rfl, hk, rfl, hpk, H⟩ := hrel
      have HO := hid H.out.1
      have HD := hid H.out.2
      clear H
      obtain ⟨Au, cu, hu, _, _⟩ := HO.out.form
      subst hu
      by_cases hlt : k < n
      · have i1 : (k : Int) < (n : Int) := by omega
        have TK2 : Hid True := hid trivial
        go_wp2_with (first
          | (go_at_call 58; clear TK2; obtain ⟨hg, pp, hpp, hr⟩ := HD.out; refine (dPick b bv bs pp _ _ hr (by omega) (by omega)).mono ?_; rintro e w3 ⟨x3, rfl, hx, hg3, hr3⟩; have HD3 := hid (DrawR.more HD.out hg3 hr3 hpp); have HO3 := hid (Own.same EP.ok HO.out (hg3.same hr _ notPair)); have TK3 : Hid True := hid trivial; clear hg hpp hr hx hg3 hr3)
          | (at_builtin; clear TK3; have hE3 := Ext.alloc w3 (.cells #[] 55); have HM3 : Hid (OP (w3.alloc (.cells #[] 55)) w3.heap.size (.slice (some ⟨w3.heap.size, 0, none⟩) 0 0) []) := hid (Own.made #[] 0 (Nat.le_refl _) (by omega) rfl); have HO3e := hid (OP.ext HO3.out hE3); have hz3 : w.heap.size ≤ w3.heap.size := HD3.out.1.size; refine wpList_append_sl _ (by rfl) _ _ 25 (by rfl) EP.ok EP.flat (w3.heap.size) 55 EP.ne i0_pair _ 2 16 Try.underlying25 hi0_pair hz0_pair hz1_pair hz2_pair rfl (by omega) _ (by rfl) _ (HM3.out) _ (by rfl) _ (Own.read HO3e.out) (by simp; omega) (by simp; omega) ?_ ?_; (focus (first | exact Nat.le_refl _ | (simp; done) | (simp; omega) | omega)); intro v4 w4 hO4 hg4 hat4 hs4; have HO4 : Hid (OP w4 w.heap.size v4 ps) := hid (Own.low (by simpa using hO4) hz3); have HX4 : Hid (OP w4 w.heap.size (.slice Au ps.length cu) ps) := hid (Own.far HO3e.out (fun q hq => hg4.block q (Own.lt HO3e.out q hq).2 (fun e => by have h1 := (Own.lt HM3.out q e.symm).1; have h2 := (Own.lt HO3.out q hq).2; omega)) (fun _ _ _ he => he)); have HD4 := hid (DrawR.low2 (HD3.out.ext hE3) HB0.out.1 HB0.out.2 hg4 (fun q hq => ⟨Nat.le_trans hz3 (Own.lt HM3.out q hq).1, (Own.lt HM3.out q hq).2⟩)); obtain ⟨A4, c4, hv4, _, _⟩ := HO4.out.form; subst hv4; have NE4 : Hid (∀ q, (Value.slice A4 ps.length c4).ownBlock = some q → (Value.slice Au ps.length cu).ownBlock ≠ some q) := hid (fun q hq hq2 => hat4.elim (fun h3 => by have h2 := (Own.lt HO3.out q hq2).2; have h4 := (Own.lt HM3.out q (by rw [← h3]; exact hq)).1; omega) (fun h3 => by have h2 := (Own.lt HO3.out q hq2).2; rw [hq] at h3; injection h3 with h3; have h5 := (Ext.alloc w3 (.cells #[] 55)).size; omega)); have TK4 : Hid True := hid trivial; clear hO4 hg4 hat4 hs4 hE3 hz3)
          | (go_at_call 58; clear TK4; obtain ⟨hg, pp, hpp, hr⟩ := HD4.out; refine (dPick b bv bs pp _ _ hr (by omega) (by omega)).mono ?_; rintro e w5 ⟨x5, rfl, hx, hg5, hr5⟩; have HD5 := hid (DrawR.more HD4.out hg5 hr5 hpp); have HO5 := hid (Own.same EP.ok HO4.out (hg5.same hr _ notPair)); have HX5 := hid (Own.same EP.ok HX4.out (hg5.same hr _ notPair)); have TK5 : Hid True := hid trivial; clear hg hpp hr hx hg5 hr5)
          | (at_builtin; clear TK5; have hz5 : w.heap.size ≤ w5.heap.size := HD5.out.1.size; refine wpList_append_sl _ (by rfl) _ _ 25 (by rfl) EP.ok EP.flat (w.heap.size) 55 EP.ne i0_pair _ 2 16 Try.underlying25 hi0_pair hz0_pair hz1_pair hz2_pair rfl (by omega) _ (by rfl) _ (OP.ext HO5.out (Ext.alloc _ _)) _ (by rfl) _ (RSl.laid (cs := [.int .i64 _, .int .i64 _]) (heap_alloc_new _ _) rfl (EP.mk _ _ _)) (by simp; omega) (by simp; omega) ?_ ?_; (focus (first | exact Nat.le_refl _ | (simp; done) | (simp; omega) | omega)); intro v6 w6 hO6 hg6 hat6 hs6; have HX6 : Hid (OP w6 w.heap.size (.slice Au ps.length cu) ps) := hid (Own.far (OP.ext HX5.out (Ext.alloc _ _)) (fun q hq => hg6.block q (Own.lt (OP.ext HX5.out (Ext.alloc _ _)) q hq).2 (fun e => by have h1 := NE4.out q e.symm; exact h1 hq)) (fun _ _ _ he => he)); have HO6 := hid hO6; obtain ⟨A6, c6, hv6, _, _⟩ := hO6.form_app; subst hv6; have HD6 := hid (DrawR.low2 (HD5.out.ext (Ext.alloc _ _)) HB0.out.1 HB0.out.2 hg6 (fun q hq => Own.lt (OP.ext HO5.out (Ext.alloc _ _)) q hq)); have TK6 : Hid True := hid trivial; clear hO6 hg6 hat6 hs6 hz5)
          | (go_at_call 33; clear TK6; refine (sPairsValid _ _ _ HO6.out.read).mono ?_; rintro e w7 ⟨rfl, hE7⟩; have HE7 := hid hE7; have HX7 := hid (OP.ext HX6.out hE7); clear hE7))
        all_goals
          (try go_ways)
          go_roundw
          case rel =>
            first
              | exact ⟨_, k + 1, ps ++ [_], rfl, by omega, by go_num, by simp; omega, hid ⟨OP.ext HO6.out HE7.out, (HD6.out.ext HE7.out).mono (by omega)⟩⟩
              | exact ⟨_, k + 1, ps, rfl, by omega, by go_num, by omega, hid ⟨HX7.out, (HD6.out.ext HE7.out).mono (by omega)⟩⟩
          case measure => simp [intOf]; omega
      · have hk' : k = n := by omega
        subst hk'
        by_cases h0 : 0 < ps.length
        · have i0 : (0 : Int) < (ps.length : Int) := by omega
          obtain ⟨g, cu', hrow, hgb⟩ := Own.row HO.out h0
          injection hrow with e1 _ e3
          subst e1 e3
          obtain ⟨q, hq⟩ : ∃ q, ps[0]? = some q := ⟨_, List.getElem?_eq_getElem h0⟩
          obtain ⟨qa, qb⟩ := q
          have HQ := hid hq
          clear hq
          go_wp2_with (first
            | (go_at_call 58; obtain ⟨hg, pp, hpp, hr⟩ := HD.out; refine (dPick b bv bs pp _ _ hr (by omega) (by omega)).mono ?_; rintro e w9 ⟨x9, rfl, hx, hg9, hr9⟩; have hx9 := pick_lt hx (by omega); have HD9 := hid (DrawR.more HD.out hg9 hr9 hpp); have HO9 := hid (Own.same EP.ok HO.out (hg9.same hr _ notPair)); obtain ⟨ca, cb, fa, fb⟩ := OP.at_ HO9.out HQ.out; have ca : w9.cell? ⟨g, 0, none⟩ = some (.int .i64 qa) := (by simpa using ca); have cb : w9.cell? ⟨g, 1, none⟩ = some (.int .i64 qb) := (by simpa using cb); have fb : w9.frozen? ⟨g, 1, none⟩ = false := (by simpa using fb); clear hg hpp hr hx hg9 hr9 fa)
            | (at_builtin; have hz9 : w.heap.size ≤ w9.heap.size := HD9.out.1.size; refine wpList_append_sl _ (by rfl) _ _ 25 (by rfl) EP.ok EP.flat (w.heap.size) 55 EP.ne i0_pair _ 2 16 Try.underlying25 hi0_pair hz0_pair hz1_pair hz2_pair rfl (by omega) _ (by rfl) _ (OP.ext HO9.out (Ext.alloc _ _)) _ (by rfl) _ (RSl.laid (cs := [.int .i64 qa, .int .i64 qb]) (heap_alloc_new _ _) rfl (EP.mk _ _ _)) (by simp; omega) (by simp; omega) ?_ ?_; (focus (first | exact Nat.le_refl _ | (simp; done) | (simp; omega) | omega)); intro v10 w10 hO10 hg10 hat10 hs10; have HO10 := hid hO10; have HD10 := hid (DrawR.low2 (HD9.out.ext (Ext.alloc _ _)) HB0.out.1 HB0.out.2 hg10 (fun q hq => Own.lt (OP.ext HO9.out (Ext.alloc _ _)) q hq)); clear hO10 hg10 hat10 hs10 hz9))
          · go_ret
            exact ⟨v10, ps ++ [⟨qa, qb⟩], rfl, HO10.out.read, by simp; omega, HD10.out.mono (by omega)⟩
          · go_ret
            have hst := (Own.set EP.ok EP.ne HO9.out (j := 0) (i := 1) (u := .int .i64 qa) (x' := ⟨qa, qa⟩) HQ.out (by omega) (fun w' _ cs hl he => by rw [show cs = [.int .i64 qa, .int .i64 qb] from he]; rfl)).1
            exact ⟨.slice (some ⟨g, 0, none⟩) ps.length cu, ps.set 0 ⟨qa, qa⟩, rfl, by simpa using hst.read, by rw [List.length_set]; omega, (HD9.out.stored hgb HB0.out.1 HB0.out.2 _).mono (by omega)⟩
          · go_ret
            exact ⟨.slice (some ⟨g, 0, none⟩) ps.length cu, ps, rfl, HO9.out.read, by omega, HD9.out.mono (by omega)⟩
        · have i0 : ¬ (0 : Int) < (ps.length : Int) := by omega
          go_wp2
          go_ret
          exact ⟨.slice Au ps.length cu, ps, rfl, HO.out.read, by omega, HD.out.mono (by omega)⟩
  · have hf4 : ((x2 : Int) == 0) = false := by first | assumption | (have h3 : ¬ ((x2 : Int) == 0) = true := (by assumption); simpa using h3) | (have h3 : ¬ (x2 : Int) = 0 := (by assumption); simpa using h3) | (have h3 : ¬ x2 = 0 := (by assumption); simpa using h3)
    rw [hf4]
    clear hf4
    obtain ⟨n, hn, hn30⟩ : ∃ n : Nat, (x1 : Int) = (n : Int) ∧ n ≤ 30 := ⟨x1, rfl, by omega⟩
    rw [hn]
    clear hn
    have HN := hid hn30
    go_loopw [3, 5] (fun o i wr => ∃ (u : Value) (k : Nat) (ps : List PairD), u = o ∧ k ≤ n ∧ i = .int .i64 k ∧ ps.length ≤ k ∧ Hid (OP wr w.heap.size u ps ∧ DrawR w b bv bs p (2 + 2 * k) wr)) (fun _ i _ => n - (intOf i).toNat)
    case atStart => exact ⟨_, 0, [], rfl, Nat.zero_le _, rfl, Nat.le_refl _, hid ⟨HO2.out, HD2.out⟩⟩
    case round =>
      obtain ⟨u, k, ps, rfl, hk, rfl, hpk, H⟩ := hrel
      have HO := hid H.out.1
      have HD := hid H.out.2
      clear H
      obtain ⟨Au, cu, hu, _, _⟩ := HO.out.form
      subst hu
      by_cases hlt : k < n
      · have i1 : (k : Int) < (n : Int) := by omega
        have TK2 : Hid True := hid trivial
        go_wp2_with (first
          | (go_at_call 58; clear TK2; obtain ⟨hg, pp, hpp, hr⟩ := HD.out; refine (dPick b bv bs pp _ _ hr (by omega) (by omega)).mono ?_; rintro e w3 ⟨x3, rfl, hx, hg3, hr3⟩; have HD3 := hid (DrawR.more HD.out hg3 hr3 hpp); have HO3 := hid (Own.same EP.ok HO.out (hg3.same hr _ notPair)); have TK3 : Hid True := hid trivial; clear hg hpp hr hx hg3 hr3)
          | (at_builtin; clear TK3; have hE3 := Ext.alloc w3 (.cells #[] 55); have HM3 : Hid (OP (w3.alloc (.cells #[] 55)) w3.heap.size (.slice (some ⟨w3.heap.size, 0, none⟩) 0 0) []) := hid (Own.made #[] 0 (Nat.le_refl _) (by omega) rfl); have HO3e := hid (OP.ext HO3.out hE3); have hz3 : w.heap.size ≤ w3.heap.size := HD3.out.1.size; refine wpList_append_sl _ (by rfl) _ _ 25 (by rfl) EP.ok EP.flat (w3.heap.size) 55 EP.ne i0_pair _ 2 16 Try.underlying25 hi0_pair hz0_pair hz1_pair hz2_pair rfl (by omega) _ (by rfl) _ (HM3.out) _ (by rfl) _ (Own.read HO3e.out) (by simp; omega) (by simp; omega) ?_ ?_; (focus (first | exact Nat.le_refl _ | (simp; done) | (simp; omega) | omega)); intro v4 w4 hO4 hg4 hat4 hs4; have HO4 : Hid (OP w4 w.heap.size v4 ps) := hid (Own.low (by simpa using hO4) hz3); have HX4 : Hid (OP w4 w.heap.size (.slice Au ps.length cu) ps) := hid (Own.far HO3e.out (fun q hq => hg4.block q (Own.lt HO3e.out q hq).2 (fun e => by have h1 := (Own.lt HM3.out q e.symm).1; have h2 := (Own.lt HO3.out q hq).2; omega)) (fun _ _ _ he => he)); have HD4 := hid (DrawR.low2 (HD3.out.ext hE3) HB0.out.1 HB0.out.2 hg4 (fun q hq => ⟨Nat.le_trans hz3 (Own.lt HM3.out q hq).1, (Own.lt HM3.out q hq).2⟩)); obtain ⟨A4, c4, hv4, _, _⟩ := HO4.out.form; subst hv4; have NE4 : Hid (∀ q, (Value.slice A4 ps.length c4).ownBlock = some q → (Value.slice Au ps.length cu).ownBlock ≠ some q) := hid (fun q hq hq2 => hat4.elim (fun h3 => by have h2 := (Own.lt HO3.out q hq2).2; have h4 := (Own.lt HM3.out q (by rw [← h3]; exact hq)).1; omega) (fun h3 => by have h2 := (Own.lt HO3.out q hq2).2; rw [hq] at h3; injection h3 with h3; have h5 := (Ext.alloc w3 (.cells #[] 55)).size; omega)); have TK4 : Hid True := hid trivial; clear hO4 hg4 hat4 hs4 hE3 hz3)
          | (go_at_call 58; clear TK4; obtain ⟨hg, pp, hpp, hr⟩ := HD4.out; refine (dPick b bv bs pp _ _ hr (by omega) (by omega)).mono ?_; rintro e w5 ⟨x5, rfl, hx, hg5, hr5⟩; have HD5 := hid (DrawR.more HD4.out hg5 hr5 hpp); have HO5 := hid (Own.same EP.ok HO4.out (hg5.same hr _ notPair)); have HX5 := hid (Own.same EP.ok HX4.out (hg5.same hr _ notPair)); have TK5 : Hid True := hid trivial; clear hg hpp hr hx hg5 hr5)
          | (at_builtin; clear TK5; have hz5 : w.heap.size ≤ w5.heap.size := HD5.out.1.size; refine wpList_append_sl _ (by rfl) _ _ 25 (by rfl) EP.ok EP.flat (w.heap.size) 55 EP.ne i0_pair _ 2 16 Try.underlying25 hi0_pair hz0_pair hz1_pair hz2_pair rfl (by omega) _ (by rfl) _ (OP.ext HO5.out (Ext.alloc _ _)) _ (by rfl) _ (RSl.laid (cs := [.int .i64 _, .int .i64 _]) (heap_alloc_new _ _) rfl (EP.mk _ _ _)) (by simp; omega) (by simp; omega) ?_ ?_; (focus (first | exact Nat.le_refl _ | (simp; done) | (simp; omega) | omega)); intro v6 w6 hO6 hg6 hat6 hs6; have HX6 : Hid (OP w6 w.heap.size (.slice Au ps.length cu) ps) := hid (Own.far (OP.ext HX5.out (Ext.alloc _ _)) (fun q hq => hg6.block q (Own.lt (OP.ext HX5.out (Ext.alloc _ _)) q hq).2 (fun e => by have h1 := NE4.out q e.symm; exact h1 hq)) (fun _ _ _ he => he)); have HO6 := hid hO6; obtain ⟨A6, c6, hv6, _, _⟩ := hO6.form_app; subst hv6; have HD6 := hid (DrawR.low2 (HD5.out.ext (Ext.alloc _ _)) HB0.out.1 HB0.out.2 hg6 (fun q hq => Own.lt (OP.ext HO5.out (Ext.alloc _ _)) q hq)); have TK6 : Hid True := hid trivial; clear hO6 hg6 hat6 hs6 hz5)
          | (go_at_call 33; clear TK6; refine (sPairsValid _ _ _ HO6.out.read).mono ?_; rintro e w7 ⟨rfl, hE7⟩; have HE7 := hid hE7; have HX7 := hid (OP.ext HX6.out hE7); clear hE7))
        all_goals
          (try go_ways)
          go_roundw
          case rel =>
            first
              | exact ⟨_, k + 1, ps ++ [_], rfl, by omega, by go_num, by simp; omega, hid ⟨OP.ext HO6.out HE7.out, (HD6.out.ext HE7.out).mono (by omega)⟩⟩
              | exact ⟨_, k + 1, ps, rfl, by omega, by go_num, by omega, hid ⟨HX7.out, (HD6.out.ext HE7.out).mono (by omega)⟩⟩
          case measure => simp [intOf]; omega
      · have hk' : k = n := by omega
        subst hk'
        by_cases h0 : 0 < ps.length
        · have i0 : (0 : Int) < (ps.length : Int) := by omega
          obtain ⟨g, cu', hrow, hgb⟩ := Own.row HO.out h0
          injection hrow with e1 _ e3
          subst e1 e3
          obtain ⟨q, hq⟩ : ∃ q, ps[0]? = some q := ⟨_, List.getElem?_eq_getElem h0⟩
          obtain ⟨qa, qb⟩ := q
          have HQ := hid hq
          clear hq
          go_wp2_with (first
            | (go_at_call 58; obtain ⟨hg, pp, hpp, hr⟩ := HD.out; refine (dPick b bv bs pp _ _ hr (by omega) (by omega)).mono ?_; rintro e w9 ⟨x9, rfl, hx, hg9, hr9⟩; have hx9 := pick_lt hx (by omega); have HD9 := hid (DrawR.more HD.out hg9 hr9 hpp); have HO9 := hid (Own.same EP.ok HO.out (hg9.same hr _ notPair)); obtain ⟨ca, cb, fa, fb⟩ := OP.at_ HO9.out HQ.out; have ca : w9.cell? ⟨g, 0, none⟩ = some (.int .i64 qa) := (by simpa using ca); have cb : w9.cell? ⟨g, 1, none⟩ = some (.int .i64 qb) := (by simpa using cb); have fb : w9.frozen? ⟨g, 1, none⟩ = false := (by simpa using fb); clear hg hpp hr hx hg9 hr9 fa)
            | (at_builtin; have hz9 : w.heap.size ≤ w9.heap.size := HD9.out.1.size; refine wpList_append_sl _ (by rfl) _ _ 25 (by rfl) EP.ok EP.flat (w.heap.size) 55 EP.ne i0_pair _ 2 16 Try.underlying25 hi0_pair hz0_pair hz1_pair hz2_pair rfl (by omega) _ (by rfl) _ (OP.ext HO9.out (Ext.alloc _ _)) _ (by rfl) _ (RSl.laid (cs := [.int .i64 qa, .int .i64 qb]) (heap_alloc_new _ _) rfl (EP.mk _ _ _)) (by simp; omega) (by simp; omega) ?_ ?_; (focus (first | exact Nat.le_refl _ | (simp; done) | (simp; omega) | omega)); intro v10 w10 hO10 hg10 hat10 hs10; have HO10 := hid hO10; have HD10 := hid (DrawR.low2 (HD9.out.ext (Ext.alloc _ _)) HB0.out.1 HB0.out.2 hg10 (fun q hq => Own.lt (OP.ext HO9.out (Ext.alloc _ _)) q hq)); clear hO10 hg10 hat10 hs10 hz9))
          · go_ret
            exact ⟨v10, ps ++ [⟨qa, qb⟩], rfl, HO10.out.read, by simp; omega, HD10.out.mono (by omega)⟩
          · go_ret
            have hst := (Own.set EP.ok EP.ne HO9.out (j := 0) (i := 1) (u := .int .i64 qa) (x' := ⟨qa, qa⟩) HQ.out (by omega) (fun w' _ cs hl he => by rw [show cs = [.int .i64 qa, .int .i64 qb] from he]; rfl)).1
            exact ⟨.slice (some ⟨g, 0, none⟩) ps.length cu, ps.set 0 ⟨qa, qa⟩, rfl, by simpa using hst.read, by rw [List.length_set]; omega, (HD9.out.stored hgb HB0.out.1 HB0.out.2 _).mono (by omega)⟩
          · go_ret
            exact ⟨.slice (some ⟨g, 0, none⟩) ps.length cu, ps, rfl, HO9.out.read, by omega, HD9.out.mono (by omega)⟩
        · have i0 : ¬ (0 : Int) < (ps.length : Int) := by omega
          go_wp2
          go_ret
          exact ⟨.slice Au ps.length cu, ps, rfl, HO.out.read, by omega, HD.out.mono (by omega)⟩

theorem dMany (b : Nat) (bv : Value) (bs : List Int) (p : Nat) (w : World) (h : Rd w b bv bs p) (hp : p ≤ 900000) :
    Calls Try.prog 46 #[.pointer (some ⟨b, 0, none⟩)] w fun e w' => ∃ n : Nat, e = .returned (.int .i64 (n : Int)) ∧ n ≤ 15 ∧ DrawR w b bv bs p 2 w' := by
  have HR0 := hid h
  have TK0 : Hid True := hid trivial
  clear h
  go_enter Try.func46, Try.ntmps46
  go_wp2_with (first
    | (go_at_call 58; clear TK0; refine (dPick b bv bs p _ _ HR0.out (by omega) (by omega)).mono ?_; rintro e w1 ⟨x1, rfl, hx, hg1, hr1⟩; have HD1 : Hid (DrawR w b bv bs p 1 w1) := hid ⟨hg1, _, Nat.le_refl _, hr1⟩; have TK1 : Hid True := hid trivial; clear hx hg1 hr1)
    | (go_at_call 58; clear TK1; obtain ⟨hg, pp, hpp, hr⟩ := HD1.out; refine (dPick b bv bs pp _ _ hr (by omega) (by omega)).mono ?_; rintro e w2 ⟨x2, rfl, hx, hg2, hr2⟩; have hx2 := pick_lt hx (by decide); have HD2 := hid (DrawR.more HD1.out hg2 hr2 hpp); have hw14 : IntKind.i64.wrap (14 + (x2 : Int)) = ((14 + x2 : Nat) : Int) := (by rw [IntWalk.i64_in _ (by omega)]; omega); clear hg hpp hr hx hg2 hr2))
  · go_ret
    refine ⟨14 + x2, ?_, by omega, HD2.out⟩
    rfl
  · go_ret
    exact ⟨x2, rfl, by omega, HD2.out⟩

end Go.Proofs.Ytoaabinpdjcimaa

/- A room, nodes and a task that is not among theirs are drawn. (Printed by genpd2.py.) -/
namespace Go.Proofs.Ytoaabinpdjcimaa
open Go.RowKit
set_option maxRecDepth 4000

theorem notTask2 : ∀ t, t = 3 → t ≠ 34 := by rintro t rfl; decide
/-- a store below them, into a block of tasks -/
theorem OBV.store {w : World} {base : Nat} {v : Value} {ps : List (List TaskD × Value)} (h : OBV w base v ps) {p : Addr} (hp : p.block < base) {cur : Array Value} (hb : w.heap[p.block]? = some (.cells cur 34 (0, 0))) (u : Value) : OBV (w.setCell p u) base v ps := by
  have hs : SameT (fun t => t = 3) w (w.setCell p u) := SameT.setCell hb u (by rintro t rfl; decide)
  refine Own.far h (fun k hk => Below.heap_setCell _ _ _ _ (fun e => by have := (Own.lt h k hk).1; omega)) (fun cs x _ ⟨he, ht⟩ => ⟨he, Own.far ht (fun k hk => Below.heap_setCell _ _ _ _ (fun e => by have := (Own.lt ht k hk).1; omega)) (fun cs' y _ ⟨nv, h1, h2⟩ => ⟨nv, h1, RI.same h2 hs⟩)⟩)
theorem OBV.store2 {w : World} {base H : Nat} {v : Value} {ps : List (List TaskD × Value)} (h : OBV w base v ps) (hp : H < base) {z0 z1 : Value} (hb : w.heap[H]? = some (.cells #[z0, z1] 34 (0, 0))) (u0 u1 : Value) : OBV ((w.setCell ⟨H, 0, none⟩ u0).setCell ⟨H, 1, none⟩ u1) base v ps :=
  OBV.store (OBV.store h (p := ⟨H, 0, none⟩) hp hb u0) (p := ⟨H, 1, none⟩) hp (obj_set hb 0 u0) u1
/-- a store into a newer block of tasks -/
theorem OBV.storeX {w w0 : World} {base i : Nat} {v : Value} {ps : List (List TaskD × Value)} (h : OBV w base v ps) (h0 : OBV w0 base v ps) {cur : Array Value} (hb : w.heap[w0.heap.size]? = some (.cells cur 34 (0, 0))) (u : Value) : OBV (w.setCell ⟨w0.heap.size, i, none⟩ u) base v ps := by
  have hs : SameT (fun t => t = 3) w (w.setCell ⟨w0.heap.size, i, none⟩ u) := SameT.setCell (p := ⟨w0.heap.size, i, none⟩) hb u (by rintro t rfl; decide)
  refine Own.far h (fun k hk => Below.heap_setCell _ _ _ _ (fun e => by have h1 := (Own.lt h0 k hk).2; have e : k = w0.heap.size := e; omega)) (fun cs x hx ⟨he, ht⟩ => ⟨he, Own.far ht (fun k hk => Below.heap_setCell _ _ _ _ (fun e => ?_)) (fun cs' y _ ⟨nv, h1, h2⟩ => ⟨nv, h1, RI.same h2 hs⟩)⟩)
  have e : k = w0.heap.size := e
  obtain ⟨cells, _, hc⟩ := h0
  obtain ⟨j, hj⟩ := List.getElem?_of_mem hx
  obtain ⟨cs0, _, he0, _⟩ := hc.2 j x hj
  have := (Own.lt he0.2 k hk).2
  omega
theorem OBV.low {w : World} {base base' : Nat} {v : Value} {ps : List (List TaskD × Value)} (h : OBV w base v ps) (hb : base' ≤ base) : OBV w base' v ps :=
  Own.low (base' := base') (Own.far2 (E' := EBV base') h rfl (fun _ _ => rfl) (fun j cs x y hx hy he => by
    rw [hx] at hy
    injection hy with hy
    subst hy
    exact ⟨he.1, Own.low he.2 hb⟩)) hb
def DrawnN (w : World) (b : Nat) (bv : Value) (bs : List Int) (p : Nat) (e : Ending) (w' : World) : Prop := ∃ rv nv room Bs ps id tv need, e = .returned (.tuple #[rv, nv, .agg #[.int .i64 id, tv]]) ∧ RI w' rv room ∧ OBV w' w.heap.size nv ps ∧ ps.map (·.1) = Bs ∧ Bs.length ≤ 10 ∧ Bs.flatten.length ≤ 30 ∧ (∀ t ∈ Bs.flatten, GoodT t) ∧ RI w' tv need ∧ GoodT ⟨id, need⟩ ∧ DrawR w b bv bs p 320 w'

set_option maxHeartbeats 4000000 in
theorem dNew (b : Nat) (bv : Value) (bs' : List Int) (p : Nat) (w : World) (h : Rd w b bv bs' p) (hp : p ≤ 600000) :
    Calls Try.prog 56 #[.pointer (some ⟨b, 0, none⟩)] w (DrawnN w b bv bs' p) := by
  have HB0 := hid h.low
  have HR0 := hid (h.ext (Ext.alloc w (.cells #[.int .i64 0, .slice none 0 0] 34)))
  have HG0 := hid (Gr.of_ext (b := b) (Ext.alloc w (.cells #[.int .i64 0, .slice none 0 0] 34)))
  have Z0 := hid (heap_alloc_new w (.cells #[.int .i64 0, .slice none 0 0] 34))
  have HS0 : Hid ((w.alloc (.cells #[.int .i64 0, .slice none 0 0] 34)).heap.size = w.heap.size + 1) := hid (by simp)
  have hbl : b < w.heap.size := h.low.1
  have TK0 : Hid True := hid trivial
  clear h
  go_enter Try.func56, Try.ntmps56
  go_wp2_with (first
    | (go_at_call 88; refine (dBinsO b bv bs' p _ HR0.out (by omega)).mono ?_; rintro e w2 ⟨rv, nv, room, Bs, ps, rfl, hR2, hO2, hm2, hl2, hf2, hg2, hd2⟩; have HR2 := hid hR2; have HO2 := hid hO2; obtain ⟨Ar, cr, rfl, _⟩ := hR2; obtain ⟨A2, c2, rfl, _⟩ := hO2.form; have HM2 := hid hm2; have HBL := hid hl2; have HFL := hid hf2; have HG2 := hid hg2; have Z2 := hid (hd2.1.obj Z0.out (by omega)); have HD2 : Hid (DrawR w b bv bs' p 300 w2) := hid ⟨HG0.out.trans hd2.1, hd2.2⟩; clear hf2 hg2 hd2 hl2 hm2 hO2)
    | (go_at_call 58; clear TK0; obtain ⟨hg, pp, hpp, hr⟩ := HD2.out; refine (dPick b bv bs' pp _ _ hr (by omega) (by omega)).mono ?_; rintro e w3 ⟨x3, rfl, hx, hg3, hr3⟩; have hx3 := pick_lt hx (by decide); have HD3 := hid (DrawR.more HD2.out hg3 hr3 hpp); have Z3 := hid (hg3.obj Z2.out (by omega)); have HR3 := hid (RI.same HR2.out (hg3.same hr _ (by rintro t rfl; decide))); have HO3 := hid (Own.same (EBV.ok _) HO2.out (hg3.same hr _ notBTI)); have TK3 : Hid True := hid trivial; clear hg hpp hr hx hg3 hr3)
    | (go_at_call 74; obtain ⟨hg, pp, hpp, hr⟩ := HD3.out; have hwx : IntKind.i64.wrap (30 + (x3 : Int)) = 30 + (x3 : Int) := IntWalk.i64_in _ (by omega); (try rw [hwx]); refine (dTask b bv bs' pp _ _ hr (by omega)).mono ?_; rintro e w4 ⟨tv, need, rfl, hN4, hl4, hb4, hd4⟩; obtain ⟨An, cn, rfl, _, _⟩ := hN4.form; have hX := Ext.alloc w4 (.cells #[.int .i64 (30 + (x3 : Int)), .slice An need.length cn] 34); have HN4 := hid (hN4.ext EI.ok hX); have HL4 := hid hl4; have HB4 := hid hb4; have HD4 := hid ((DrawR.then hg hpp hd4).ext hX); have X4 := hid (heap_alloc_new w4 (.cells #[.int .i64 (30 + (x3 : Int)), .slice An need.length cn] 34)); have Z4 := hid (hX.obj (hd4.1.obj Z3.out (by omega))); have HR4 := hid (RI.ext (RI.same HR3.out (hd4.1.same hr _ (by rintro t rfl; decide))) hX); have HOQ := hid (Own.same (EBV.ok _) HO3.out (hd4.1.same hr _ notBTI)); have HO4 := hid (Own.ext (EBV.ok _) HOQ.out hX); have HW4 : Hid (w.heap.size < w4.heap.size) := hid (by have := obj_lt (hd4.1.obj Z3.out (by omega)); omega); have TK4 : Hid True := hid trivial; clear hg hpp hr hd4 hN4 hl4 hb4 hX)
    | (go_at_call 58; clear TK4; obtain ⟨hg, pp, hpp, hr⟩ := HD4.out; refine (dPick b bv bs' pp _ _ hr (by omega) (by omega)).mono ?_; rintro e w5 ⟨x5, rfl, hx, hg3, hr3⟩; have hx5 := pick_lt hx (by decide); have HD5 := hid (DrawR.more HD4.out hg3 hr3 hpp); have X5 := hid (hg3.obj X4.out (by have := HW4.out; omega)); have Z5 := hid (hg3.obj Z4.out (by omega)); have HR5 := hid (RI.same HR4.out (hg3.same hr _ (by rintro t rfl; decide))); have HO5 := hid (Own.same (EBV.ok _) HO4.out (hg3.same hr _ notBTI)); have HN5 := hid (Own.same EI.ok HN4.out (hg3.same hr _ notRd)); have TK5 : Hid True := hid trivial; clear hg hpp hr hx hg3 hr3)
    | (go_at_call 89; obtain ⟨hg, pp, hpp, hr⟩ := HD5.out; refine (dId91 b bv bs' pp _ Bs _ hr (by omega) (by rw [← HM2.out]; exact OBV.read HO5.out) (by have := HFL.out; omega) (fun t ht => (HG2.out t ht).2.2)).mono ?_; rintro e w6 ⟨n6, rfl, hn6, hd6⟩; have HI6 := hid hn6; have X6 := hid (hd6.1.obj X5.out (by have := HW4.out; omega)); have Z6 := hid (hd6.1.obj Z5.out (by omega)); have HD6 := hid (DrawR.then hg hpp hd6); have HR6 := hid (RI.same HR5.out (hd6.1.same hr _ (by rintro t rfl; decide))); have HO6 := hid (Own.same (EBV.ok _) HO5.out (hd6.1.same hr _ notBTI)); have HN6 := hid (Own.same EI.ok HN5.out (hd6.1.same hr _ notRd)); have y0 := obj_cell X6.out (i := 0) rfl; have y1 := obj_cell X6.out (i := 1) rfl; have yf := obj_frozen X6.out 0; clear hg hpp hr hd6 hn6))
  · have X7 := hid (obj_set X6.out 0 (.int .i64 n6))
    have XB : Hid ((w6.setCell ⟨w4.heap.size, 0, none⟩ (.int .i64 n6)).heap[w4.heap.size]? = some (.cells #[.int .i64 n6, .slice An need.length cn] 34 (0, 0))) := hid (by simpa using X7.out)
    have ZB : Hid ((w6.setCell ⟨w4.heap.size, 0, none⟩ (.int .i64 n6)).heap[w.heap.size]? = some (.cells #[.int .i64 0, .slice none 0 0] 34 (0, 0))) := hid (obj_far (p := ⟨w4.heap.size, 0, none⟩) Z6.out (by show w.heap.size ≠ w4.heap.size; have := HW4.out; omega) _)
    have hsi : SameT (fun t => t = 3) w6 (w6.setCell ⟨w4.heap.size, 0, none⟩ (.int .i64 n6)) := SameT.setCell (p := ⟨w4.heap.size, 0, none⟩) X6.out _ notTask2
    have HRB := hid (RI.same HR6.out hsi)
    have HNB := hid (Own.same EI.ok HN6.out (hsi.mono (by rintro t (h | h); exact h; exact h.elim)))
    have HDB := hid (HD6.out.stored (g := w4.heap.size) (i := 0) (by have := HW4.out; omega) HB0.out.1 HB0.out.2 (.int .i64 n6))
    have HIB := hid HI6.out
    have HOB : Hid (OBV (w6.setCell ⟨w4.heap.size, 0, none⟩ (.int .i64 n6)) (w.alloc (.cells #[.int .i64 0, .slice none 0 0] 34)).heap.size (.slice A2 ps.length c2) ps) := hid (OBV.storeX HO6.out HOQ.out X6.out _)
    clear hsi y0 y1 yf
    obtain ⟨Wc, hWc⟩ : ∃ x, x = (w6.setCell ⟨w4.heap.size, 0, none⟩ (.int .i64 n6)).drew := ⟨_, rfl⟩
    have hEc : Ext (w6.setCell ⟨w4.heap.size, 0, none⟩ (.int .i64 n6)) Wc := by rw [hWc]; exact Below.drew (Below.refl _ _)
    have KS : Hid (Wc.cell? ⟨w4.heap.size, 0, none⟩ = some (.int .i64 n6) ∧ Wc.cell? ⟨w4.heap.size, 1, none⟩ = some (.slice An need.length cn)) := hid ⟨obj_cell (hEc.obj XB.out) (i := 0) rfl, obj_cell (hEc.obj XB.out) (i := 1) rfl⟩
    refine WG.start (fun w' => w'.cell? ⟨w4.heap.size, 0, none⟩ = some (.int .i64 n6) ∧ w'.cell? ⟨w4.heap.size, 1, none⟩ = some (.slice An need.length cn)) [5] (by kernel_rfl) (by rw [← hWc]; exact KS.out) (fun hHeld => ?_)
    rw [← hWc] at hHeld ⊢
    obtain ⟨y0, y1, y0f, y1f, k1, k1f, hkk, hsm⟩ := box2 (hEc.obj ZB.out) (.int .i64 n6) (.slice An need.length cn)
    have r0 := obj_cell hkk (i := 0) rfl
    have r1 := obj_cell hkk (i := 1) rfl
    have HSM := hid hsm
    have HEc := hid hEc
    clear hkk hsm hWc hEc
    (refine WG.take (i := 0) (v := ?_) rfl (by kernel_rfl) (by kernel_rfl) (by kernel_rfl) (by kernel_rfl) (fun _ _ _ h => h) (Or.inl ⟨by rfl, ?_⟩) (by assumption) ?_; rotate_left; (intro w hSw; (try dsimp only at hSw); go_split_ands; go_simp; (try with_reducible rfl)); (try simp only [Act.put, List.setIfInBounds_toArray, List.set_cons_zero, List.set_cons_succ]))
    (refine WG.take (i := 1) (v := ?_) rfl (by kernel_rfl) (by kernel_rfl) (by kernel_rfl) (by kernel_rfl) (fun _ _ _ h => h) (Or.inl ⟨by rfl, ?_⟩) (by assumption) ?_; rotate_left; (intro w hSw; (try dsimp only at hSw); go_split_ands; go_simp; (try with_reducible rfl)); (try simp only [Act.put, List.setIfInBounds_toArray, List.set_cons_zero, List.set_cons_succ]))
    (refine WG.take (i := 2) (v := ?_) rfl (by kernel_rfl) (by kernel_rfl) (by kernel_rfl) (by kernel_rfl) (fun _ _ _ h => h) (Or.inl ⟨by rfl, ?_⟩) (by assumption) ?_; rotate_left; (intro w hSw; (try dsimp only at hSw); go_split_ands; go_simp; (try with_reducible rfl)); (try simp only [Act.put, List.setIfInBounds_toArray, List.set_cons_zero, List.set_cons_succ]))
    refine WG.one (i := 3) rfl (by kernel_rfl) (fun K hK => ?_)
    go_simp
    refine hK.out _ _ (by exact KS.out) (fun hHeld => ?_)
    clear hK K
    (try simp only [Act.put, List.setIfInBounds_toArray, List.set_cons_zero, List.set_cons_succ])
    refine WG.one (i := 4) rfl (by kernel_rfl) (fun K hK => ?_)
    go_simp
    refine hK.out _ _ (by exact KS.out) (fun hHeld => ?_)
    clear hK K
    (try simp only [Act.put, List.setIfInBounds_toArray, List.set_cons_zero, List.set_cons_succ])
    refine WG.last (i := 5) rfl (by kernel_rfl) (by kernel_rfl) (fun K hK => ?_)
    go_simp
    refine hK.out _ _ ?_
    clear hK K
    (try simp only [Act.put, List.setIfInBounds_toArray, List.set_cons_zero, List.set_cons_succ])
    refine WG.done (by kernel_rfl) ?_
    go_wp2
    refine bodyPost_ret (v := .tuple #[.slice Ar room.length cr, .slice A2 ps.length c2, .agg #[.int .i64 n6, .slice An need.length cn]]) (by simp [results, Try.results56, go_sem, r0, r1]) rfl ?_
    exact ⟨_, _, room, Bs, ps, n6, _, need, rfl, RI.same (RI.ext HRB.out HEc.out) (HSM.out _ notTask2), OBV.low (OBV.store2 (Own.ext (EBV.ok _) HOB.out HEc.out) (by have := HS0.out; omega) (HEc.out.obj ZB.out) _ _) (by have := HS0.out; omega), HM2.out, HBL.out, HFL.out, HG2.out, RI.same (RI.ext HNB.out.read HEc.out) (HSM.out _ notTask2), ⟨HL4.out, fun x hx => (by have := HB4.out x hx; omega), HIB.out⟩, (((HDB.out.ext HEc.out).stored (Nat.le_refl _) HB0.out.1 HB0.out.2 _).stored (Nat.le_refl _) HB0.out.1 HB0.out.2 _).mono (by omega)⟩

  · have XB := X5
    have ZB := Z5
    have HRB := HR5
    have HNB := HN5
    have HDB := HD5
    have HOB := HO5
    have HIB : Hid (IdR (30 + (x3 : Int))) := hid (by unfold IdR; omega)
    obtain ⟨Wc, hWc⟩ : ∃ x, x = w5.drew := ⟨_, rfl⟩
    have hEc : Ext w5 Wc := by rw [hWc]; exact Below.drew (Below.refl _ _)
    have KS : Hid (Wc.cell? ⟨w4.heap.size, 0, none⟩ = some (.int .i64 (30 + (x3 : Int))) ∧ Wc.cell? ⟨w4.heap.size, 1, none⟩ = some (.slice An need.length cn)) := hid ⟨obj_cell (hEc.obj XB.out) (i := 0) rfl, obj_cell (hEc.obj XB.out) (i := 1) rfl⟩
    refine WG.start (fun w' => w'.cell? ⟨w4.heap.size, 0, none⟩ = some (.int .i64 (30 + (x3 : Int))) ∧ w'.cell? ⟨w4.heap.size, 1, none⟩ = some (.slice An need.length cn)) [5] (by kernel_rfl) (by rw [← hWc]; exact KS.out) (fun hHeld => ?_)
    rw [← hWc] at hHeld ⊢
    obtain ⟨y0, y1, y0f, y1f, k1, k1f, hkk, hsm⟩ := box2 (hEc.obj ZB.out) (.int .i64 (30 + (x3 : Int))) (.slice An need.length cn)
    have r0 := obj_cell hkk (i := 0) rfl
    have r1 := obj_cell hkk (i := 1) rfl
    have HSM := hid hsm
    have HEc := hid hEc
    clear hkk hsm hWc hEc
    (refine WG.take (i := 0) (v := ?_) rfl (by kernel_rfl) (by kernel_rfl) (by kernel_rfl) (by kernel_rfl) (fun _ _ _ h => h) (Or.inl ⟨by rfl, ?_⟩) (by assumption) ?_; rotate_left; (intro w hSw; (try dsimp only at hSw); go_split_ands; go_simp; (try with_reducible rfl)); (try simp only [Act.put, List.setIfInBounds_toArray, List.set_cons_zero, List.set_cons_succ]))
    (refine WG.take (i := 1) (v := ?_) rfl (by kernel_rfl) (by kernel_rfl) (by kernel_rfl) (by kernel_rfl) (fun _ _ _ h => h) (Or.inl ⟨by rfl, ?_⟩) (by assumption) ?_; rotate_left; (intro w hSw; (try dsimp only at hSw); go_split_ands; go_simp; (try with_reducible rfl)); (try simp only [Act.put, List.setIfInBounds_toArray, List.set_cons_zero, List.set_cons_succ]))
    (refine WG.take (i := 2) (v := ?_) rfl (by kernel_rfl) (by kernel_rfl) (by kernel_rfl) (by kernel_rfl) (fun _ _ _ h => h) (Or.inl ⟨by rfl, ?_⟩) (by assumption) ?_; rotate_left; (intro w hSw; (try dsimp only at hSw); go_split_ands; go_simp; (try with_reducible rfl)); (try simp only [Act.put, List.setIfInBounds_toArray, List.set_cons_zero, List.set_cons_succ]))
    refine WG.one (i := 3) rfl (by kernel_rfl) (fun K hK => ?_)
    go_simp
    refine hK.out _ _ (by exact KS.out) (fun hHeld => ?_)
    clear hK K
    (try simp only [Act.put, List.setIfInBounds_toArray, List.set_cons_zero, List.set_cons_succ])
    refine WG.one (i := 4) rfl (by kernel_rfl) (fun K hK => ?_)
    go_simp
    refine hK.out _ _ (by exact KS.out) (fun hHeld => ?_)
    clear hK K
    (try simp only [Act.put, List.setIfInBounds_toArray, List.set_cons_zero, List.set_cons_succ])
    refine WG.last (i := 5) rfl (by kernel_rfl) (by kernel_rfl) (fun K hK => ?_)
    go_simp
    refine hK.out _ _ ?_
    clear hK K
    (try simp only [Act.put, List.setIfInBounds_toArray, List.set_cons_zero, List.set_cons_succ])
    refine WG.done (by kernel_rfl) ?_
    go_wp2
    refine bodyPost_ret (v := .tuple #[.slice Ar room.length cr, .slice A2 ps.length c2, .agg #[.int .i64 (30 + (x3 : Int)), .slice An need.length cn]]) (by simp [results, Try.results56, go_sem, r0, r1]) rfl ?_
    exact ⟨_, _, room, Bs, ps, (30 + (x3 : Int)), _, need, rfl, RI.same (RI.ext HRB.out HEc.out) (HSM.out _ notTask2), OBV.low (OBV.store2 (Own.ext (EBV.ok _) HOB.out HEc.out) (by have := HS0.out; omega) (HEc.out.obj ZB.out) _ _) (by have := HS0.out; omega), HM2.out, HBL.out, HFL.out, HG2.out, RI.same (RI.ext HNB.out.read HEc.out) (HSM.out _ notTask2), ⟨HL4.out, fun x hx => (by have := HB4.out x hx; omega), HIB.out⟩, (((HDB.out.ext HEc.out).stored (Nat.le_refl _) HB0.out.1 HB0.out.2 _).stored (Nat.le_refl _) HB0.out.1 HB0.out.2 _).mono (by omega)⟩

end Go.Proofs.Ytoaabinpdjcimaa

/- A room, nodes, pairs and a task are drawn. (Printed by genpd4.py.) -/
namespace Go.Proofs.Ytoaabinpdjcimaa
open Go.RowKit
set_option maxRecDepth 4000

def DrawnAt (w : World) (e : Ending) (w' : World) : Prop := ∃ rv nv pv tv room Bs ps x, e = .returned (.tuple #[rv, nv, pv, .agg #[.int .i64 x.id, tv]]) ∧ RI w' rv room ∧ RB w' nv Bs ∧ RP w' pv ps ∧ RI w' tv x.need ∧ Bs.length ≤ 10 ∧ Bs.flatten.length ≤ 30 ∧ (∀ t ∈ Bs.flatten, GoodT t) ∧ ps.length ≤ 40 ∧ GoodT x ∧ Ext w w'

set_option maxHeartbeats 16000000 in
theorem dDrawApartAt (v : Value) (bs : List Int) (w : World) (h : XBy w v bs) (hl : bs.length ≤ 4000000) :
    Calls Try.prog 15 #[v] w (DrawnAt w) := by
  have HW := hid (Ext.alloc w (.cells #[.int .i64 0, .slice none 0 0] 34))
  have HB := hid (h.ext (Ext.alloc w (.cells #[.int .i64 0, .slice none 0 0] 34)))
  have Z0 := hid (heap_alloc_new w (.cells #[.int .i64 0, .slice none 0 0] 34))
  obtain ⟨i0_pair, hi0_pair, hz0_pair, hz1_pair, hz2_pair⟩ := info_parts info_pair
  clear h
  go_enter Try.func15, Try.ntmps15
  go_wp2_with (first
    | (go_at_call 43; refine (dOpen _ bs _ HB.out hl).mono ?_; rintro e w1 ⟨rfl, ⟨bv, bs', hr1⟩, hE1⟩; have HR1 := hid hr1; have HE1 := hid (HW.out.trans hE1); have Z1 := hid (hE1.obj Z0.out); obtain ⟨b, hb⟩ : ∃ b, b = (w.alloc (.cells #[.int .i64 0, .slice none 0 0] 34)).heap.size := ⟨_, rfl⟩; have hbw : w.heap.size < b := (by rw [hb]; simp); rw [← hb] at HR1 ⊢; have hb1 : b < w1.heap.size := HR1.out.low.1; clear hb hr1 hE1)
    | (go_at_call 56; refine (dNew b bv bs' 0 _ HR1.out (by omega)).mono ?_; rintro e w2 ⟨rv, nv, room, Bs, qs, xid, tv, need, rfl, hR2, hO2, hm2, hl2, hf2, hg2, hn2, hx2, hd2⟩; have hR2a := hR2; have hn2a := hn2; obtain ⟨Ar, cr, rfl, _⟩ := hR2; obtain ⟨A2, c2, rfl, _⟩ := hO2.form; obtain ⟨An, cn, rfl, _⟩ := hn2; have hE := (Ext.alloc w2 (.cells #[.int .i64 xid, .slice An need.length cn] 34)).trans (Ext.alloc (w2.alloc (.cells #[.int .i64 xid, .slice An need.length cn] 34)) (.cells #[] 55)); have HR2 := hid (RI.ext hR2a hE); have HO2 := hid (Own.ext (EBV.ok _) hO2 hE); have HM2 := hid hm2; have HBL := hid hl2; have HFL := hid hf2; have HG2 := hid hg2; have HN2 := hid (RI.ext hn2a hE); have HX2 := hid hx2; have HD2 := hid (hd2.ext hE); have Z2 := hid (hE.obj (hd2.1.obj Z1.out (by omega))); have X2 := hid ((Ext.alloc (w2.alloc (.cells #[.int .i64 xid, .slice An need.length cn] 34)) (.cells #[] 55)).obj (heap_alloc_new w2 (.cells #[.int .i64 xid, .slice An need.length cn] 34))); have HSZ : Hid (w1.heap.size ≤ w2.heap.size ∧ (w2.alloc (.cells #[.int .i64 xid, .slice An need.length cn] 34)).heap.size = w2.heap.size + 1) := hid ⟨hd2.1.size, by simp⟩; have HP2 : Hid (OP ((w2.alloc (.cells #[.int .i64 xid, .slice An need.length cn] 34)).alloc (.cells #[] 55)) w1.heap.size (.slice (some ⟨w2.heap.size + 1, 0, none⟩) 0 0) []) := hid (Own.madeAt #[] 0 (w2.heap.size + 1) (by simp) (by have := hd2.1.size; omega) (by omega) rfl); clear hR2a hO2 hm2 hl2 hf2 hg2 hn2a hx2 hd2 hE)
    | (go_at_call 57; refine (sAll _ Bs _ (by have h3 := OBV.read HO2.out; rw [HM2.out] at h3; exact h3) (by have := HFL.out; omega)).mono ?_; obtain ⟨F, hF⟩ : ∃ F, F = Bs.flatten := ⟨_, rfl⟩; rw [← hF]; have HFF := hid hF; have HFG : Hid (F.length ≤ 30) := hid (by rw [hF]; exact HFL.out); rintro e w4 ⟨v4, rfl, hO4, hE4⟩; have HT4 := hid hO4.read; obtain ⟨A4, c4, rfl, _, _⟩ := hO4.form; have HR4 := hid (RI.ext HR2.out hE4); have HO4 := hid (Own.ext (EBV.ok _) HO2.out hE4); have HN4 := hid (RI.ext HN2.out hE4); have HD4 := hid (HD2.out.ext hE4); have Z4 := hid (hE4.obj Z2.out); have X4 := hid (hE4.obj X2.out); have HP4 := hid (OP.ext HP2.out hE4); clear hO4 hE4 hF))
  obtain ⟨H9, hH9⟩ : ∃ x, x = w2.heap.size := ⟨_, rfl⟩
  rw [← hH9] at X4 HP4 HSZ ⊢
  have HNB : Hid (w.heap.size ≠ b) := hid (by omega)
  have HN9 : Hid (H9 ≠ b) := hid (by have := HSZ.out.1; omega)
  have hfl : F.length ≤ 30 := HFG.out
  obtain ⟨_, _, hv4, _, _, hg4⟩ := RT.get HT4.out
  injection hv4 with e1 _ e3
  subst e1 e3
  have HGT : Hid (∀ (j : Nat), j < F.length → ∃ tb tq y, A4 = some ⟨tb, tq, none⟩ ∧ w4.cell? ⟨tb, tq + j * 2, none⟩ = some (.int .i64 y) ∧ ∀ w', SameT (fun t => t = 24 ∨ t = 34 ∨ t = 3) w4 w' → w'.cell? ⟨tb, tq + j * 2, none⟩ = some (.int .i64 y)) := hid (fun j hj => by
    obtain ⟨tb, tq, An', cn', h1, h2⟩ := RT.keep HT4.out (List.getElem?_eq_getElem hj)
    exact ⟨tb, tq, _, h1, (h2 _ (SameT.refl _ _)).1, fun w' hw => (h2 w' (hw.mono (fun t ht => .inr ht))).1⟩)
  clear hH9 hg4
  go_loopw [10, 12] (fun o i wr => ∃ (u : Value) (k : Nat) (ps : List PairD), u = o ∧ k ≤ F.length ∧ i = .int .i64 k ∧ ps.length ≤ k ∧ Hid (OP wr w1.heap.size u ps ∧ SameT (fun t => t = 24 ∨ t = 34 ∨ t = 3) w4 wr ∧ DrawR w1 b bv bs' 0 (320 + k) wr ∧ wr.heap[w.heap.size]? = some (.cells #[.int .i64 0, .slice none 0 0] 34 (0, 0)))) (fun _ i _ => F.length - (intOf i).toNat)
  case atStart => exact ⟨_, 0, [], rfl, Nat.zero_le _, rfl, Nat.le_refl _, hid ⟨HP4.out, SameT.refl _ _, HD4.out.mono (by omega), Z4.out⟩⟩
  case round =>
    obtain ⟨u, k, ps, rfl, hk, rfl, hpk, H⟩ := hrel
    have HP := hid H.out.1
    have HS := hid H.out.2.1
    have HD := hid H.out.2.2.1
    have HZ := hid H.out.2.2.2
    have HPK : Hid (ps.length ≤ 30) := hid (by omega)
    clear H
    obtain ⟨Au, cu, hu, _, _⟩ := HP.out.form
    subst hu
    by_cases hlt : k < F.length
    · have i1 : (k : Int) < (F.length : Int) := by omega
      have i0 : (0 : Int) ≤ (k : Int) := by omega
      obtain ⟨tb, tq, yi, rfl, hcy, hcw⟩ := HGT.out k hlt
      have KS : Hid (∀ w', Ext wr w' → w'.cell? ⟨tb, tq + k * 2, none⟩ = some (.int .i64 yi) ∧ w'.cell? ⟨H9, 0, none⟩ = some (.int .i64 xid)) := hid fun w' hw => ⟨hcw _ (HS.out.trans (hw.same _)), obj_cell (HS.out.trans (hw.same _) _ _ _ _ (.inr (.inl rfl)) X4.out) (i := 0) rfl⟩
      have HWR : Hid (w1.heap.size ≤ wr.heap.size) := hid HD.out.1.size
      have HDr : Hid (Ext wr wr.drew) := hid (Below.drew (Below.refl _ _))
      clear hcy hcw
      go_wp2
      refine WG.start (fun w' => w'.cell? ⟨tb, tq + k * 2, none⟩ = some (.int .i64 yi) ∧ w'.cell? ⟨H9, 0, none⟩ = some (.int .i64 xid)) [12,13] (by kernel_rfl) (by exact KS.out _ HDr.out) (fun hHeld => ?_)
      obtain ⟨pz, hpz⟩ : ∃ x, x = wr.drew := ⟨_, rfl⟩
      rw [← hpz] at hHeld HDr ⊢
      clear hpz
      have HX := HDr
      (refine WG.take (i := 1) (v := ?_) rfl (by kernel_rfl) (by kernel_rfl) (by kernel_rfl) (by kernel_rfl) (fun _ _ _ h => h) (Or.inl ⟨by rfl, ?_⟩) (by assumption) ?_; rotate_left; (intro w hSw; (try dsimp only at hSw); go_split_ands; go_simp; (try with_reducible rfl)); (try simp only [Act.put, List.setIfInBounds_toArray, List.set_cons_zero, List.set_cons_succ]))
      (refine WG.take (i := 3) (v := ?_) rfl (by kernel_rfl) (by kernel_rfl) (by kernel_rfl) (by kernel_rfl) (fun _ _ _ h => h) (Or.inl ⟨by rfl, ?_⟩) (by assumption) ?_; rotate_left; (intro w hSw; (try dsimp only at hSw); go_split_ands; go_simp; (try with_reducible rfl)); (try simp only [Act.put, List.setIfInBounds_toArray, List.set_cons_zero, List.set_cons_succ]))
      (refine WG.take (i := 4) (v := ?_) rfl (by kernel_rfl) (by kernel_rfl) (by kernel_rfl) (by kernel_rfl) (fun _ _ _ h => h) (Or.inl ⟨by rfl, ?_⟩) (by assumption) ?_; rotate_left; (intro w hSw; (try dsimp only at hSw); go_split_ands; go_simp; (try with_reducible rfl)); (try simp only [Act.put, List.setIfInBounds_toArray, List.set_cons_zero, List.set_cons_succ]))
      (refine WG.take (i := 5) (v := ?_) rfl (by kernel_rfl) (by kernel_rfl) (by kernel_rfl) (by kernel_rfl) (fun _ _ _ h => h) (Or.inl ⟨by rfl, ?_⟩) (by assumption) ?_; rotate_left; (intro w hSw; (try dsimp only at hSw); go_split_ands; go_simp; (try with_reducible rfl)); (try simp only [Act.put, List.setIfInBounds_toArray, List.set_cons_zero, List.set_cons_succ]))
      (refine WG.take (i := 6) (v := ?_) rfl (by kernel_rfl) (by kernel_rfl) (by kernel_rfl) (by kernel_rfl) (fun _ _ _ h => h) (Or.inl ⟨by rfl, ?_⟩) (by assumption) ?_; rotate_left; (intro w hSw; (try dsimp only at hSw); go_split_ands; go_simp; (try with_reducible rfl)); (try simp only [Act.put, List.setIfInBounds_toArray, List.set_cons_zero, List.set_cons_succ]))
      (refine WG.take (i := 7) (v := ?_) rfl (by kernel_rfl) (by kernel_rfl) (by kernel_rfl) (by kernel_rfl) (fun _ _ _ h => h) (Or.inl ⟨by rfl, ?_⟩) (by assumption) ?_; rotate_left; (intro w hSw; (try dsimp only at hSw); go_split_ands; go_simp; (try with_reducible rfl)); (try simp only [Act.put, List.setIfInBounds_toArray, List.set_cons_zero, List.set_cons_succ]))
      (refine WG.take (i := 8) (v := ?_) rfl (by kernel_rfl) (by kernel_rfl) (by kernel_rfl) (by kernel_rfl) (fun _ _ _ h => h) (Or.inl ⟨by rfl, ?_⟩) (by assumption) ?_; rotate_left; (intro w hSw; (try dsimp only at hSw); go_split_ands; go_simp; (try with_reducible rfl)); (try simp only [Act.put, List.setIfInBounds_toArray, List.set_cons_zero, List.set_cons_succ]))
      (refine WG.take (i := 9) (v := ?_) rfl (by kernel_rfl) (by kernel_rfl) (by kernel_rfl) (by kernel_rfl) (fun _ _ _ h => h) (Or.inl ⟨by rfl, ?_⟩) (by assumption) ?_; rotate_left; (intro w hSw; (try dsimp only at hSw); go_split_ands; go_simp; (try with_reducible rfl)); (try simp only [Act.put, List.setIfInBounds_toArray, List.set_cons_zero, List.set_cons_succ]))
      (refine WG.take (i := 10) (v := ?_) rfl (by kernel_rfl) (by kernel_rfl) (by kernel_rfl) (by kernel_rfl) (fun _ _ _ h => h) (Or.inl ⟨by rfl, ?_⟩) (by assumption) ?_; rotate_left; (intro w hSw; (try dsimp only at hSw); go_split_ands; go_simp; (try with_reducible rfl)); (try simp only [Act.put, List.setIfInBounds_toArray, List.set_cons_zero, List.set_cons_succ]))
      refine WG.two (i := 0) (j := 11) rfl rfl (by kernel_rfl) (fun K hK => ?_) (fun K hK => ?_)
      · go_simp
        refine hK.out _ _ (by exact KS.out _ (HX.out.trans (Ext.alloc _ _))) (fun hHeld => ?_)
        clear hK K
        (try simp only [Act.put, List.setIfInBounds_toArray, List.set_cons_zero, List.set_cons_succ])
        obtain ⟨p1, hp1⟩ : ∃ x, x = pz.alloc (.cells #[] 55) := ⟨_, rfl⟩
        obtain ⟨BE, hBE⟩ : ∃ x, x = pz.heap.size := ⟨_, rfl⟩
        have hE : Ext pz p1 := by rw [hp1]; exact Ext.alloc _ _
        have HM : Hid (OP p1 BE (.slice (some ⟨BE, 0, none⟩) 0 0) []) := hid (by rw [hp1]; exact Own.madeAt #[] 0 BE hBE.symm (Nat.le_refl _) (by omega) rfl)
        have HBE : Hid (wr.heap.size ≤ BE ∧ BE ≤ p1.heap.size) := hid ⟨by rw [hBE]; exact HX.out.size, by rw [hBE]; exact hE.size⟩
        rw [← hp1] at hHeld ⊢
        rw [← hBE]
        have HX := hid (HX.out.trans hE)
        have HQZ : Hid (BE ≤ p1.heap.size) := hid (by rw [hBE]; exact hE.size)
        clear hp1 hBE hE
        refine WG.two (i := 2) (j := 11) rfl rfl (by kernel_rfl) (fun K hK => ?_) (fun K hK => ?_)
        · have HBZ : Hid (BE ≤ p1.heap.size) := hid (Nat.le_of_lt ((Own.lt HM.out BE rfl).2))
          have hbe : BE ≤ p1.heap.size := HBZ.out
          have hpk := HPK.out
          refine step_append_sl _ (by rfl) _ _ 25 (by rfl) EP.ok EP.flat (BE) 55 EP.ne i0_pair _ 2 16 Try.underlying25 hi0_pair hz0_pair hz1_pair hz2_pair rfl (by omega) _ (by rfl) _ (HM.out) _ (by rfl) _ (Own.read (OP.ext HP.out HX.out)) (by simp; omega) (by simp; omega) ?_ ?_; (focus (first | exact Nat.le_refl _ | (simp; done) | (simp; omega) | omega)); intro v33 p2 hO hg hat hs; have HV : Hid (OP p2 BE v33 ps) := hid (by simpa using hO); have HQZ := hid (Nat.le_trans HQZ.out hg.size); have HX2 : Hid (Ext wr p2) := hid (Below.grown HX.out hg HX.out.size (fun q hq => Nat.le_trans HBE.out.1 (Own.lt HM.out q hq).1)); clear hO hg hat hs hbe hpk
          refine hK.out _ _ (by exact KS.out _ HX2.out) (fun hHeld => ?_)
          clear hK K
          (try simp only [Act.put, List.setIfInBounds_toArray, List.set_cons_zero, List.set_cons_succ])
          have HX := HX2
          clear HX2
          refine WG.one (i := 11) rfl (by kernel_rfl) (fun K hK => ?_)
          go_simp
          refine hK.out _ _ (by exact KS.out _ (HX.out.trans (Ext.alloc _ _))) (fun hHeld => ?_)
          clear hK K
          (try simp only [Act.put, List.setIfInBounds_toArray, List.set_cons_zero, List.set_cons_succ])
          obtain ⟨p3, hp3⟩ : ∃ x, x = p2.alloc (.cells #[.int .i64 yi, .int .i64 xid] 55) := ⟨_, rfl⟩
          obtain ⟨BL, hBL⟩ : ∃ x, x = p2.heap.size := ⟨_, rfl⟩
          have hE : Ext p2 p3 := by rw [hp3]; exact Ext.alloc _ _
          have HL : Hid (p3.heap[BL]? = some (.cells #[.int .i64 yi, .int .i64 xid] 55 (0, 0))) := hid (by rw [hp3, hBL]; exact heap_alloc_new _ _)
          rw [← hp3] at hHeld ⊢
          rw [← hBL]
          have HX := hid (HX.out.trans hE)
          have HQZ := hid (Nat.le_trans HQZ.out hE.size)
          have HV := hid (OP.ext HV.out hE)
          clear hp3 hBL hE
          have HBZ2 : Hid (BE ≤ p3.heap.size) := hid HQZ.out
          have HVB : Hid (w1.heap.size ≤ BE) := hid (Nat.le_trans HWR.out HBE.out.1)
          have hbe : BE ≤ p3.heap.size := HBZ2.out
          have hpk := HPK.out
          refine WG.one (i := 12) rfl (by kernel_rfl) (fun K hK => ?_)
          refine step_append_sl _ (by rfl) _ _ 25 (by rfl) EP.ok EP.flat (BE) 55 EP.ne i0_pair _ 2 16 Try.underlying25 hi0_pair hz0_pair hz1_pair hz2_pair rfl (by omega) _ (by rfl) _ (HV.out) _ (by rfl) _ (RSl.laid (cs := [.int .i64 yi, .int .i64 xid]) HL.out rfl (EP.mk _ _ _)) (by simp; omega) (by simp; omega) ?_ ?_; (focus (first | exact Nat.le_refl _ | (simp; done) | (simp; omega) | omega)); intro v12 w12 hO12 hg12 hat12 hs12; have HY12 := hid (Own.low (base' := w1.heap.size) hO12 HVB.out); have HX12 : Hid (Ext wr w12) := hid (Below.grown HX.out hg12 HX.out.size (fun q hq => Nat.le_trans HBE.out.1 (Own.lt HV.out q hq).1)); clear hO12 hg12 hat12 hs12
          refine hK.out _ _ (by exact KS.out _ HX12.out) (fun hHeld => ?_)
          clear hK K
          (try simp only [Act.put, List.setIfInBounds_toArray, List.set_cons_zero, List.set_cons_succ])
          refine WG.last (i := 13) rfl (by kernel_rfl) (by kernel_rfl) (fun K hK => ?_)
          go_simp
          refine hK.out _ _ ?_
          clear hK K
          (try simp only [Act.put, List.setIfInBounds_toArray, List.set_cons_zero, List.set_cons_succ])
          refine WG.done (by kernel_rfl) ?_
          obtain ⟨A12, c12, hv12, _, _⟩ := HY12.out.form_app
          subst hv12
          have HD12 := hid (HD.out.ext HX12.out)
          have HP12 := hid (OP.ext HP.out HX12.out)
          have HS12 := hid (HS.out.trans (HX12.out.same _))
          have HZ12 := hid (HX12.out.obj HZ.out)
          go_wp2_with (first
            | (go_at_call 58; obtain ⟨hg, pp, hpp, hr⟩ := HD12.out; refine (dPick b bv bs' pp _ _ hr (by omega) (by omega)).mono ?_; rintro e w13 ⟨x13, rfl, hx, hg3, hr3⟩; have HD13 := hid (DrawR.more HD12.out hg3 hr3 hpp); have HP13 := hid (Own.same EP.ok HP12.out (hg3.same hr _ notPair)); have HY13 := hid (Own.same EP.ok HY12.out (hg3.same hr _ notPair)); have HS13 := hid (HS12.out.trans (hg3.same hr _ notBTI)); have HZ13 := hid (hg3.obj HZ12.out HNB.out); clear hg hpp hr hx hg3 hr3)
            | (go_at_call 33; refine (sPairsValid _ _ _ HY13.out.read).mono ?_; rintro e w14 ⟨rfl, hE14⟩; have HD13 := hid (HD13.out.ext hE14); have HP13 := hid (OP.ext HP13.out hE14); have HY13 := hid (OP.ext HY13.out hE14); have HS13 := hid (HS13.out.trans (hE14.same _)); have HZ13 := hid (hE14.obj HZ13.out); clear hE14))
          all_goals
            (try go_ways)
            go_roundw
            case rel =>
              first
                | exact ⟨_, k + 1, ps ++ [_], rfl, by omega, by go_num, by simp; omega, hid ⟨HY13.out, HS13.out, HD13.out.mono (by omega), HZ13.out⟩⟩
                | exact ⟨_, k + 1, ps, rfl, by omega, by go_num, by omega, hid ⟨HP13.out, HS13.out, HD13.out.mono (by omega), HZ13.out⟩⟩
            case measure => simp [intOf]; omega

        · go_simp
          refine hK.out _ _ (by exact KS.out _ (HX.out.trans (Ext.alloc _ _))) (fun hHeld => ?_)
          clear hK K
          (try simp only [Act.put, List.setIfInBounds_toArray, List.set_cons_zero, List.set_cons_succ])
          obtain ⟨p2, hp2⟩ : ∃ x, x = p1.alloc (.cells #[.int .i64 yi, .int .i64 xid] 55) := ⟨_, rfl⟩
          obtain ⟨BL, hBL⟩ : ∃ x, x = p1.heap.size := ⟨_, rfl⟩
          have hE : Ext p1 p2 := by rw [hp2]; exact Ext.alloc _ _
          have HL : Hid (p2.heap[BL]? = some (.cells #[.int .i64 yi, .int .i64 xid] 55 (0, 0))) := hid (by rw [hp2, hBL]; exact heap_alloc_new _ _)
          have NEL : Hid (BE < BL) := hid (by rw [hBL]; exact (Own.lt HM.out BE rfl).2)
          rw [← hp2] at hHeld ⊢
          rw [← hBL]
          have HX := hid (HX.out.trans hE)
          have HQZ := hid (Nat.le_trans HQZ.out hE.size)
          have HM := hid (OP.ext HM.out hE)
          clear hp2 hBL hE
          have HBZ : Hid (BE ≤ p2.heap.size) := hid (Nat.le_of_lt ((Own.lt HM.out BE rfl).2))
          have HM0B : Hid (∀ q, (Value.slice (some ⟨BE, 0, none⟩) 0 0).ownBlock = some q → q = BE) := hid (fun q hq => by simpa [Value.ownBlock] using hq.symm)
          refine WG.one (i := 2) rfl (by kernel_rfl) (fun K hK => ?_)
          have hbe : BE ≤ p2.heap.size := HBZ.out
          have hpk := HPK.out
          refine step_append_sl _ (by rfl) _ _ 25 (by rfl) EP.ok EP.flat (BE) 55 EP.ne i0_pair _ 2 16 Try.underlying25 hi0_pair hz0_pair hz1_pair hz2_pair rfl (by omega) _ (by rfl) _ (HM.out) _ (by rfl) _ (Own.read (OP.ext HP.out HX.out)) (by simp; omega) (by simp; omega) ?_ ?_; (focus (first | exact Nat.le_refl _ | (simp; done) | (simp; omega) | omega)); intro v33 p3 hO hg hat hs; have HV : Hid (OP p3 BE v33 ps) := hid (by simpa using hO); have HQZ := hid (Nat.le_trans HQZ.out hg.size); have HX2 : Hid (Ext wr p3) := hid (Below.grown HX.out hg HX.out.size (fun q hq => Nat.le_trans HBE.out.1 (Own.lt HM.out q hq).1)); have HL := hid ((hg.block BL (obj_lt HL.out) (fun e => by have h1 := NEL.out; have h2 := HM0B.out BL e.symm; omega)).trans HL.out); clear hO hg hat hs hbe hpk
          refine hK.out _ _ (by exact KS.out _ HX2.out) (fun hHeld => ?_)
          clear hK K
          (try simp only [Act.put, List.setIfInBounds_toArray, List.set_cons_zero, List.set_cons_succ])
          have HX := HX2
          clear HX2
          have HBZ2 : Hid (BE ≤ p3.heap.size) := hid HQZ.out
          have HVB : Hid (w1.heap.size ≤ BE) := hid (Nat.le_trans HWR.out HBE.out.1)
          have hbe : BE ≤ p3.heap.size := HBZ2.out
          have hpk := HPK.out
          refine WG.one (i := 12) rfl (by kernel_rfl) (fun K hK => ?_)
          refine step_append_sl _ (by rfl) _ _ 25 (by rfl) EP.ok EP.flat (BE) 55 EP.ne i0_pair _ 2 16 Try.underlying25 hi0_pair hz0_pair hz1_pair hz2_pair rfl (by omega) _ (by rfl) _ (HV.out) _ (by rfl) _ (RSl.laid (cs := [.int .i64 yi, .int .i64 xid]) HL.out rfl (EP.mk _ _ _)) (by simp; omega) (by simp; omega) ?_ ?_; (focus (first | exact Nat.le_refl _ | (simp; done) | (simp; omega) | omega)); intro v12 w12 hO12 hg12 hat12 hs12; have HY12 := hid (Own.low (base' := w1.heap.size) hO12 HVB.out); have HX12 : Hid (Ext wr w12) := hid (Below.grown HX.out hg12 HX.out.size (fun q hq => Nat.le_trans HBE.out.1 (Own.lt HV.out q hq).1)); clear hO12 hg12 hat12 hs12
          refine hK.out _ _ (by exact KS.out _ HX12.out) (fun hHeld => ?_)
          clear hK K
          (try simp only [Act.put, List.setIfInBounds_toArray, List.set_cons_zero, List.set_cons_succ])
          refine WG.last (i := 13) rfl (by kernel_rfl) (by kernel_rfl) (fun K hK => ?_)
          go_simp
          refine hK.out _ _ ?_
          clear hK K
          (try simp only [Act.put, List.setIfInBounds_toArray, List.set_cons_zero, List.set_cons_succ])
          refine WG.done (by kernel_rfl) ?_
          obtain ⟨A12, c12, hv12, _, _⟩ := HY12.out.form_app
          subst hv12
          have HD12 := hid (HD.out.ext HX12.out)
          have HP12 := hid (OP.ext HP.out HX12.out)
          have HS12 := hid (HS.out.trans (HX12.out.same _))
          have HZ12 := hid (HX12.out.obj HZ.out)
          go_wp2_with (first
            | (go_at_call 58; obtain ⟨hg, pp, hpp, hr⟩ := HD12.out; refine (dPick b bv bs' pp _ _ hr (by omega) (by omega)).mono ?_; rintro e w13 ⟨x13, rfl, hx, hg3, hr3⟩; have HD13 := hid (DrawR.more HD12.out hg3 hr3 hpp); have HP13 := hid (Own.same EP.ok HP12.out (hg3.same hr _ notPair)); have HY13 := hid (Own.same EP.ok HY12.out (hg3.same hr _ notPair)); have HS13 := hid (HS12.out.trans (hg3.same hr _ notBTI)); have HZ13 := hid (hg3.obj HZ12.out HNB.out); clear hg hpp hr hx hg3 hr3)
            | (go_at_call 33; refine (sPairsValid _ _ _ HY13.out.read).mono ?_; rintro e w14 ⟨rfl, hE14⟩; have HD13 := hid (HD13.out.ext hE14); have HP13 := hid (OP.ext HP13.out hE14); have HY13 := hid (OP.ext HY13.out hE14); have HS13 := hid (HS13.out.trans (hE14.same _)); have HZ13 := hid (hE14.obj HZ13.out); clear hE14))
          all_goals
            (try go_ways)
            go_roundw
            case rel =>
              first
                | exact ⟨_, k + 1, ps ++ [_], rfl, by omega, by go_num, by simp; omega, hid ⟨HY13.out, HS13.out, HD13.out.mono (by omega), HZ13.out⟩⟩
                | exact ⟨_, k + 1, ps, rfl, by omega, by go_num, by omega, hid ⟨HP13.out, HS13.out, HD13.out.mono (by omega), HZ13.out⟩⟩
            case measure => simp [intOf]; omega

      · go_simp
        refine hK.out _ _ (by exact KS.out _ (HX.out.trans (Ext.alloc _ _))) (fun hHeld => ?_)
        clear hK K
        (try simp only [Act.put, List.setIfInBounds_toArray, List.set_cons_zero, List.set_cons_succ])
        obtain ⟨p1, hp1⟩ : ∃ x, x = pz.alloc (.cells #[.int .i64 yi, .int .i64 xid] 55) := ⟨_, rfl⟩
        obtain ⟨BL, hBL⟩ : ∃ x, x = pz.heap.size := ⟨_, rfl⟩
        have hE : Ext pz p1 := by rw [hp1]; exact Ext.alloc _ _
        have HL : Hid (p1.heap[BL]? = some (.cells #[.int .i64 yi, .int .i64 xid] 55 (0, 0))) := hid (by rw [hp1, hBL]; exact heap_alloc_new _ _)
        rw [← hp1] at hHeld ⊢
        rw [← hBL]
        have HX := hid (HX.out.trans hE)
        clear hp1 hBL hE
        refine WG.one (i := 0) rfl (by kernel_rfl) (fun K hK => ?_)
        go_simp
        refine hK.out _ _ (by exact KS.out _ (HX.out.trans (Ext.alloc _ _))) (fun hHeld => ?_)
        clear hK K
        (try simp only [Act.put, List.setIfInBounds_toArray, List.set_cons_zero, List.set_cons_succ])
        obtain ⟨p2, hp2⟩ : ∃ x, x = p1.alloc (.cells #[] 55) := ⟨_, rfl⟩
        obtain ⟨BE, hBE⟩ : ∃ x, x = p1.heap.size := ⟨_, rfl⟩
        have hE : Ext p1 p2 := by rw [hp2]; exact Ext.alloc _ _
        have HM : Hid (OP p2 BE (.slice (some ⟨BE, 0, none⟩) 0 0) []) := hid (by rw [hp2]; exact Own.madeAt #[] 0 BE hBE.symm (Nat.le_refl _) (by omega) rfl)
        have HBE : Hid (wr.heap.size ≤ BE ∧ BE ≤ p2.heap.size) := hid ⟨by rw [hBE]; exact HX.out.size, by rw [hBE]; exact hE.size⟩
        rw [← hp2] at hHeld ⊢
        rw [← hBE]
        have HX := hid (HX.out.trans hE)
        have HQZ : Hid (BE ≤ p2.heap.size) := hid (by rw [hBE]; exact hE.size)
        have NEL : Hid (BL < BE) := hid (by rw [hBE]; exact obj_lt HL.out)
        have HL := hid (hE.obj HL.out)
        clear hp2 hBE hE
        have HBZ : Hid (BE ≤ p2.heap.size) := hid (Nat.le_of_lt ((Own.lt HM.out BE rfl).2))
        have HM0B : Hid (∀ q, (Value.slice (some ⟨BE, 0, none⟩) 0 0).ownBlock = some q → q = BE) := hid (fun q hq => by simpa [Value.ownBlock] using hq.symm)
        refine WG.one (i := 2) rfl (by kernel_rfl) (fun K hK => ?_)
        have hbe : BE ≤ p2.heap.size := HBZ.out
        have hpk := HPK.out
        refine step_append_sl _ (by rfl) _ _ 25 (by rfl) EP.ok EP.flat (BE) 55 EP.ne i0_pair _ 2 16 Try.underlying25 hi0_pair hz0_pair hz1_pair hz2_pair rfl (by omega) _ (by rfl) _ (HM.out) _ (by rfl) _ (Own.read (OP.ext HP.out HX.out)) (by simp; omega) (by simp; omega) ?_ ?_; (focus (first | exact Nat.le_refl _ | (simp; done) | (simp; omega) | omega)); intro v33 p3 hO hg hat hs; have HV : Hid (OP p3 BE v33 ps) := hid (by simpa using hO); have HQZ := hid (Nat.le_trans HQZ.out hg.size); have HX2 : Hid (Ext wr p3) := hid (Below.grown HX.out hg HX.out.size (fun q hq => Nat.le_trans HBE.out.1 (Own.lt HM.out q hq).1)); have HL := hid ((hg.block BL (obj_lt HL.out) (fun e => by have h1 := NEL.out; have h2 := HM0B.out BL e.symm; omega)).trans HL.out); clear hO hg hat hs hbe hpk
        refine hK.out _ _ (by exact KS.out _ HX2.out) (fun hHeld => ?_)
        clear hK K
        (try simp only [Act.put, List.setIfInBounds_toArray, List.set_cons_zero, List.set_cons_succ])
        have HX := HX2
        clear HX2
        have HBZ2 : Hid (BE ≤ p3.heap.size) := hid HQZ.out
        have HVB : Hid (w1.heap.size ≤ BE) := hid (Nat.le_trans HWR.out HBE.out.1)
        have hbe : BE ≤ p3.heap.size := HBZ2.out
        have hpk := HPK.out
        refine WG.one (i := 12) rfl (by kernel_rfl) (fun K hK => ?_)
        refine step_append_sl _ (by rfl) _ _ 25 (by rfl) EP.ok EP.flat (BE) 55 EP.ne i0_pair _ 2 16 Try.underlying25 hi0_pair hz0_pair hz1_pair hz2_pair rfl (by omega) _ (by rfl) _ (HV.out) _ (by rfl) _ (RSl.laid (cs := [.int .i64 yi, .int .i64 xid]) HL.out rfl (EP.mk _ _ _)) (by simp; omega) (by simp; omega) ?_ ?_; (focus (first | exact Nat.le_refl _ | (simp; done) | (simp; omega) | omega)); intro v12 w12 hO12 hg12 hat12 hs12; have HY12 := hid (Own.low (base' := w1.heap.size) hO12 HVB.out); have HX12 : Hid (Ext wr w12) := hid (Below.grown HX.out hg12 HX.out.size (fun q hq => Nat.le_trans HBE.out.1 (Own.lt HV.out q hq).1)); clear hO12 hg12 hat12 hs12
        refine hK.out _ _ (by exact KS.out _ HX12.out) (fun hHeld => ?_)
        clear hK K
        (try simp only [Act.put, List.setIfInBounds_toArray, List.set_cons_zero, List.set_cons_succ])
        refine WG.last (i := 13) rfl (by kernel_rfl) (by kernel_rfl) (fun K hK => ?_)
        go_simp
        refine hK.out _ _ ?_
        clear hK K
        (try simp only [Act.put, List.setIfInBounds_toArray, List.set_cons_zero, List.set_cons_succ])
        refine WG.done (by kernel_rfl) ?_
        obtain ⟨A12, c12, hv12, _, _⟩ := HY12.out.form_app
        subst hv12
        have HD12 := hid (HD.out.ext HX12.out)
        have HP12 := hid (OP.ext HP.out HX12.out)
        have HS12 := hid (HS.out.trans (HX12.out.same _))
        have HZ12 := hid (HX12.out.obj HZ.out)
        go_wp2_with (first
          | (go_at_call 58; obtain ⟨hg, pp, hpp, hr⟩ := HD12.out; refine (dPick b bv bs' pp _ _ hr (by omega) (by omega)).mono ?_; rintro e w13 ⟨x13, rfl, hx, hg3, hr3⟩; have HD13 := hid (DrawR.more HD12.out hg3 hr3 hpp); have HP13 := hid (Own.same EP.ok HP12.out (hg3.same hr _ notPair)); have HY13 := hid (Own.same EP.ok HY12.out (hg3.same hr _ notPair)); have HS13 := hid (HS12.out.trans (hg3.same hr _ notBTI)); have HZ13 := hid (hg3.obj HZ12.out HNB.out); clear hg hpp hr hx hg3 hr3)
          | (go_at_call 33; refine (sPairsValid _ _ _ HY13.out.read).mono ?_; rintro e w14 ⟨rfl, hE14⟩; have HD13 := hid (HD13.out.ext hE14); have HP13 := hid (OP.ext HP13.out hE14); have HY13 := hid (OP.ext HY13.out hE14); have HS13 := hid (HS13.out.trans (hE14.same _)); have HZ13 := hid (hE14.obj HZ13.out); clear hE14))
        all_goals
          (try go_ways)
          go_roundw
          case rel =>
            first
              | exact ⟨_, k + 1, ps ++ [_], rfl, by omega, by go_num, by simp; omega, hid ⟨HY13.out, HS13.out, HD13.out.mono (by omega), HZ13.out⟩⟩
              | exact ⟨_, k + 1, ps, rfl, by omega, by go_num, by omega, hid ⟨HP13.out, HS13.out, HD13.out.mono (by omega), HZ13.out⟩⟩
          case measure => simp [intOf]; omega

    · have hk' : k = F.length := by omega
      have HK := hid hk'
      have HR5 := hid (RI.same HR4.out (HS.out.mono (fun t ht => .inr (.inr ht))))
      have HO5 := hid (Own.same (EBV.ok _) HO4.out HS.out)
      have HN5 := hid (RI.same HN4.out (HS.out.mono (fun t ht => .inr (.inr ht))))
      have X5 := hid (HS.out _ _ _ _ (.inr (.inl rfl)) X4.out)
      clear hk'
      go_wp2_with (go_at_call 58; obtain ⟨hg, pp, hpp, hr⟩ := HD.out; refine (dPick b bv bs' pp _ _ hr (by omega) (by omega)).mono ?_; rintro e w6 ⟨x6, rfl, hx, hg3, hr3⟩; have HD6 := hid (DrawR.more HD.out hg3 hr3 hpp); have HP6 := hid (Own.same EP.ok HP.out (hg3.same hr _ notPair)); have HR6 := hid (RI.same HR5.out (hg3.same hr _ (by rintro t rfl; decide))); have HO6 := hid (Own.same (EBV.ok _) HO5.out (hg3.same hr _ notBTI)); have HN6 := hid (RI.same HN5.out (hg3.same hr _ (by rintro t rfl; decide))); have X6 := hid (hg3.obj X5.out HN9.out); have Z6 := hid (hg3.obj HZ.out HNB.out); clear hg hpp hr hx hg3 hr3)
      · have HDr : Hid (Ext w6 w6.drew) := hid (Below.drew (Below.refl _ _))
        have KT : Hid (∀ w' : World, w'.heap[H9]? = some (.cells #[.int .i64 xid, .slice An need.length cn] 34 (0, 0)) → w'.cell? ⟨H9, 0, none⟩ = some (.int .i64 xid) ∧ w'.cell? ⟨H9, 1, none⟩ = some (.slice An need.length cn)) := hid fun w' hw => ⟨obj_cell hw (i := 0) rfl, obj_cell hw (i := 1) rfl⟩
        refine WG.start (fun w' => w'.cell? ⟨H9, 0, none⟩ = some (.int .i64 xid) ∧ w'.cell? ⟨H9, 1, none⟩ = some (.slice An need.length cn)) [8] (by kernel_rfl) (by exact KT.out _ (HDr.out.obj X6.out)) (fun hHeld => ?_)
        obtain ⟨pz, hpz⟩ : ∃ x, x = w6.drew := ⟨_, rfl⟩
        rw [← hpz] at hHeld HDr ⊢
        clear hpz
        (refine WG.take (i := 0) (v := ?_) rfl (by kernel_rfl) (by kernel_rfl) (by kernel_rfl) (by kernel_rfl) (fun _ _ _ h => h) (Or.inl ⟨by rfl, ?_⟩) (by assumption) ?_; rotate_left; (intro w hSw; (try dsimp only at hSw); go_split_ands; go_simp; (try with_reducible rfl)); (try simp only [Act.put, List.setIfInBounds_toArray, List.set_cons_zero, List.set_cons_succ]))
        (refine WG.take (i := 1) (v := ?_) rfl (by kernel_rfl) (by kernel_rfl) (by kernel_rfl) (by kernel_rfl) (fun _ _ _ h => h) (Or.inl ⟨by rfl, ?_⟩) (by assumption) ?_; rotate_left; (intro w hSw; (try dsimp only at hSw); go_split_ands; go_simp; (try with_reducible rfl)); (try simp only [Act.put, List.setIfInBounds_toArray, List.set_cons_zero, List.set_cons_succ]))
        (refine WG.take (i := 2) (v := ?_) rfl (by kernel_rfl) (by kernel_rfl) (by kernel_rfl) (by kernel_rfl) (fun _ _ _ h => h) (Or.inl ⟨by rfl, ?_⟩) (by assumption) ?_; rotate_left; (intro w hSw; (try dsimp only at hSw); go_split_ands; go_simp; (try with_reducible rfl)); (try simp only [Act.put, List.setIfInBounds_toArray, List.set_cons_zero, List.set_cons_succ]))
        (refine WG.take (i := 4) (v := ?_) rfl (by kernel_rfl) (by kernel_rfl) (by kernel_rfl) (by kernel_rfl) (fun _ _ _ h => h) (Or.inl ⟨by rfl, ?_⟩) (by assumption) ?_; rotate_left; (intro w hSw; (try dsimp only at hSw); go_split_ands; go_simp; (try with_reducible rfl)); (try simp only [Act.put, List.setIfInBounds_toArray, List.set_cons_zero, List.set_cons_succ]))
        refine WG.one (i := 3) rfl (by kernel_rfl) (fun K hK => ?_)
        go_simp; have HDX := hid (HD6.out.ext HDr.out); obtain ⟨hg, pp, hpp, hr⟩ := HDX.out; refine (dPairs b bv bs' pp _ hr (by omega)).mono ?_; rintro e7 w7 ⟨v7, ps7, rfl, hP7, hl7, hd7⟩; have HP7 := hid hP7; obtain ⟨A7, c7, rfl, _⟩ := hP7; have HL7 := hid hl7; have HD7 := hid (DrawR.then hg hpp hd7); have HR7 := hid (RI.same (RI.ext HR6.out HDr.out) (hd7.1.same hr _ (by rintro t rfl; decide))); have HO7 := hid (Own.same (EBV.ok _) (Own.ext (EBV.ok _) HO6.out HDr.out) (hd7.1.same hr _ notBTI)); have HN7 := hid (RI.same (RI.ext HN6.out HDr.out) (hd7.1.same hr _ (by rintro t rfl; decide))); have X7 := hid (hd7.1.obj (HDr.out.obj X6.out) HN9.out); have Z7 := hid (hd7.1.obj (HDr.out.obj Z6.out) HNB.out); clear hg hpp hr hl7 hd7; (try dsimp only)
        refine hK.out _ _ (by exact KT.out _ X7.out) (fun hHeld => ?_)
        clear hK K
        (try simp only [Act.put, List.setIfInBounds_toArray, List.set_cons_zero, List.set_cons_succ])
        obtain ⟨y0, y1, y0f, y1f, k1, k1f, hkk, hsm⟩ := box2 Z7.out (.int .i64 xid) (.slice An need.length cn)
        have r0 := obj_cell hkk (i := 0) rfl
        have r1 := obj_cell hkk (i := 1) rfl
        have HSM := hid hsm
        clear hkk hsm
        refine WG.one (i := 5) rfl (by kernel_rfl) (fun K hK => ?_)
        go_simp
        refine hK.out _ _ (by exact KT.out _ X7.out) (fun hHeld => ?_)
        clear hK K
        (try simp only [Act.put, List.setIfInBounds_toArray, List.set_cons_zero, List.set_cons_succ])
        refine WG.one (i := 6) rfl (by kernel_rfl) (fun K hK => ?_)
        go_simp
        refine hK.out _ _ (by exact KT.out _ X7.out) (fun hHeld => ?_)
        clear hK K
        (try simp only [Act.put, List.setIfInBounds_toArray, List.set_cons_zero, List.set_cons_succ])
        refine WG.one (i := 7) rfl (by kernel_rfl) (fun K hK => ?_)
        go_simp
        refine hK.out _ _ (by exact KT.out _ X7.out) (fun hHeld => ?_)
        clear hK K
        (try simp only [Act.put, List.setIfInBounds_toArray, List.set_cons_zero, List.set_cons_succ])
        refine WG.last (i := 8) rfl (by kernel_rfl) (by kernel_rfl) (fun K hK => ?_)
        go_simp
        refine hK.out _ _ ?_
        clear hK K
        (try simp only [Act.put, List.setIfInBounds_toArray, List.set_cons_zero, List.set_cons_succ])
        refine WG.done (by kernel_rfl) ?_
        go_wp2
        refine bodyPost_ret (v := .tuple #[.slice Ar room.length cr, .slice A2 qs.length c2, .slice A7 ps7.length c7, .agg #[.int .i64 xid, .slice An need.length cn]]) (by simp [results, Try.results15, go_sem, r0, r1]) rfl ?_
        exact ⟨_, _, _, _, room, Bs, ps7, ⟨xid, need⟩, rfl, RI.same HR7.out (HSM.out _ notTask2), by have h3 := OBV.read (OBV.store2 HO7.out (by omega) Z7.out (.int .i64 xid) (.slice An need.length cn)); rw [HM2.out] at h3; exact h3, RP.same HP7.out (HSM.out _ (by rintro t rfl; decide)), RI.same HN7.out (HSM.out _ notTask2), HBL.out, HFL.out, HG2.out, HL7.out, HX2.out, Below.setCell (Below.setCell (Below.trans HE1.out (HD7.out.1.below (H := w.heap.size) (by omega) HE1.out.size)) (Nat.le_refl _) _) (Nat.le_refl _) _⟩
      · have HDr : Hid (Ext w6 w6.drew) := hid (Below.drew (Below.refl _ _))
        have KT : Hid (∀ w' : World, w'.heap[H9]? = some (.cells #[.int .i64 xid, .slice An need.length cn] 34 (0, 0)) → w'.cell? ⟨H9, 0, none⟩ = some (.int .i64 xid) ∧ w'.cell? ⟨H9, 1, none⟩ = some (.slice An need.length cn)) := hid fun w' hw => ⟨obj_cell hw (i := 0) rfl, obj_cell hw (i := 1) rfl⟩
        refine WG.start (fun w' => w'.cell? ⟨H9, 0, none⟩ = some (.int .i64 xid) ∧ w'.cell? ⟨H9, 1, none⟩ = some (.slice An need.length cn)) [7] (by kernel_rfl) (by exact KT.out _ (HDr.out.obj X6.out)) (fun hHeld => ?_)
        obtain ⟨pz, hpz⟩ : ∃ x, x = w6.drew := ⟨_, rfl⟩
        rw [← hpz] at hHeld HDr ⊢
        clear hpz
        (refine WG.take (i := 0) (v := ?_) rfl (by kernel_rfl) (by kernel_rfl) (by kernel_rfl) (by kernel_rfl) (fun _ _ _ h => h) (Or.inl ⟨by rfl, ?_⟩) (by assumption) ?_; rotate_left; (intro w hSw; (try dsimp only at hSw); go_split_ands; go_simp; (try with_reducible rfl)); (try simp only [Act.put, List.setIfInBounds_toArray, List.set_cons_zero, List.set_cons_succ]))
        (refine WG.take (i := 1) (v := ?_) rfl (by kernel_rfl) (by kernel_rfl) (by kernel_rfl) (by kernel_rfl) (fun _ _ _ h => h) (Or.inl ⟨by rfl, ?_⟩) (by assumption) ?_; rotate_left; (intro w hSw; (try dsimp only at hSw); go_split_ands; go_simp; (try with_reducible rfl)); (try simp only [Act.put, List.setIfInBounds_toArray, List.set_cons_zero, List.set_cons_succ]))
        (refine WG.take (i := 2) (v := ?_) rfl (by kernel_rfl) (by kernel_rfl) (by kernel_rfl) (by kernel_rfl) (fun _ _ _ h => h) (Or.inl ⟨by rfl, ?_⟩) (by assumption) ?_; rotate_left; (intro w hSw; (try dsimp only at hSw); go_split_ands; go_simp; (try with_reducible rfl)); (try simp only [Act.put, List.setIfInBounds_toArray, List.set_cons_zero, List.set_cons_succ]))
        (refine WG.take (i := 3) (v := ?_) rfl (by kernel_rfl) (by kernel_rfl) (by kernel_rfl) (by kernel_rfl) (fun _ _ _ h => h) (Or.inl ⟨by rfl, ?_⟩) (by assumption) ?_; rotate_left; (intro w hSw; (try dsimp only at hSw); go_split_ands; go_simp; (try with_reducible rfl)); (try simp only [Act.put, List.setIfInBounds_toArray, List.set_cons_zero, List.set_cons_succ]))
        have X7 := hid (HDr.out.obj X6.out)
        have Z7 := hid (HDr.out.obj Z6.out)
        obtain ⟨y0, y1, y0f, y1f, k1, k1f, hkk, hsm⟩ := box2 Z7.out (.int .i64 xid) (.slice An need.length cn)
        have r0 := obj_cell hkk (i := 0) rfl
        have r1 := obj_cell hkk (i := 1) rfl
        have HSM := hid hsm
        clear hkk hsm
        refine WG.one (i := 4) rfl (by kernel_rfl) (fun K hK => ?_)
        go_simp
        refine hK.out _ _ (by exact KT.out _ X7.out) (fun hHeld => ?_)
        clear hK K
        (try simp only [Act.put, List.setIfInBounds_toArray, List.set_cons_zero, List.set_cons_succ])
        refine WG.one (i := 5) rfl (by kernel_rfl) (fun K hK => ?_)
        go_simp
        refine hK.out _ _ (by exact KT.out _ X7.out) (fun hHeld => ?_)
        clear hK K
        (try simp only [Act.put, List.setIfInBounds_toArray, List.set_cons_zero, List.set_cons_succ])
        refine WG.one (i := 6) rfl (by kernel_rfl) (fun K hK => ?_)
        go_simp
        refine hK.out _ _ (by exact KT.out _ X7.out) (fun hHeld => ?_)
        clear hK K
        (try simp only [Act.put, List.setIfInBounds_toArray, List.set_cons_zero, List.set_cons_succ])
        refine WG.last (i := 7) rfl (by kernel_rfl) (by kernel_rfl) (fun K hK => ?_)
        go_simp
        refine hK.out _ _ ?_
        clear hK K
        (try simp only [Act.put, List.setIfInBounds_toArray, List.set_cons_zero, List.set_cons_succ])
        refine WG.done (by kernel_rfl) ?_
        go_wp2
        refine bodyPost_ret (v := .tuple #[.slice Ar room.length cr, .slice A2 qs.length c2, .slice Au ps.length cu, .agg #[.int .i64 xid, .slice An need.length cn]]) (by simp [results, Try.results15, go_sem, r0, r1]) rfl ?_
        exact ⟨_, _, _, _, room, Bs, ps, ⟨xid, need⟩, rfl, RI.same (RI.ext HR6.out HDr.out) (HSM.out _ notTask2), by have h3 := OBV.read (OBV.store2 (Own.ext (EBV.ok _) HO6.out HDr.out) (by omega) Z7.out (.int .i64 xid) (.slice An need.length cn)); rw [HM2.out] at h3; exact h3, RP.same (OP.ext HP6.out HDr.out).read (HSM.out _ (by rintro t rfl; decide)), RI.same (RI.ext HN6.out HDr.out) (HSM.out _ notTask2), HBL.out, HFL.out, HG2.out, by omega, HX2.out, Below.setCell (Below.setCell (Below.trans HE1.out (((HD6.out.ext HDr.out).1).below (H := w.heap.size) (by omega) HE1.out.size)) (Nat.le_refl _) _) (Nat.le_refl _) _⟩

end Go.Proofs.Ytoaabinpdjcimaa
