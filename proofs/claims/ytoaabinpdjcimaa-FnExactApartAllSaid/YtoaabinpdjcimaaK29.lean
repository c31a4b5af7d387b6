/- Pairs are drawn. -/
import Derived.Test.YtoaabinpdjcimaaK23
import Derived.Test.YtoaabinpdjcimaaK12
namespace Go.Proofs.Ytoaabinpdjcimaa
open Go.RowKit
set_option maxRecDepth 4000

theorem notPair : ∀ t, (t = 55 ∨ False) → t ≠ 95 := by rintro t (rfl | h) <;> first | decide | exact h.elim
theorem OP.at_ {w : World} {base g n c : Nat} {xs : List PairD} (h : OP w base (.slice (some ⟨g, 0, none⟩) n c) xs) {j : Nat} {x : PairD} (hj : xs[j]? = some x) :
    w.cell? ⟨g, j * 2, none⟩ = some (.int .i64 x.a) ∧ w.cell? ⟨g, j * 2 + 1, none⟩ = some (.int .i64 x.b) ∧ w.frozen? ⟨g, j * 2, none⟩ = false ∧ w.frozen? ⟨g, j * 2 + 1, none⟩ = false := by
  obtain ⟨cs, _, he, hc⟩ := Own.at_ h hj
  rw [show cs = [.int .i64 x.a, .int .i64 x.b] from he] at hc
  exact ⟨by simpa using hc 0 _ rfl, by simpa using hc 1 _ rfl, h.frozen_ _, h.frozen_ _⟩
theorem OP.ext {w w' : World} {base : Nat} {v : Value} {xs : List PairD} (h : OP w base v xs) (ha : Ext w w') : OP w' base v xs := Own.ext EP.ok h ha

def DrawnP (w : World) (b : Nat) (bv : Value) (bs : List Int) (p : Nat) (e : Ending) (w' : World) : Prop := ∃ v ps, e = .returned v ∧ RP w' v ps ∧ ps.length ≤ 40 ∧ DrawR w b bv bs p 80 w'
set_option maxHeartbeats 4000000 in
theorem dPairs (b : Nat) (bv : Value) (bs : List Int) (p : Nat) (w : World) (h : Rd w b bv bs p) (hp : p ≤ 800000) :
    Calls Try.prog 47 #[.pointer (some ⟨b, 0, none⟩)] w (DrawnP w b bv bs p) := by
  have HR0 := hid (h.ext (Ext.alloc w (.cells #[] 55)))
  have HG0 := hid (Gr.of_ext (b := b) (Ext.alloc w (.cells #[] 55)))
  have HB0 := hid h.low
  have HM0 : Hid (OP (w.alloc (.cells #[] 55)) w.heap.size (.slice (some ⟨w.heap.size, 0, none⟩) 0 0) []) := hid (Own.made #[] 0 (Nat.le_refl _) (by omega) rfl)
  have TK0 : Hid True := hid trivial
  obtain ⟨i0_pair, hi0_pair, hz0_pair, hz1_pair, hz2_pair⟩ := info_parts info_pair
  clear h
  go_enter Try.func47, Try.ntmps47
  go_wp2_with (first
    | (go_at_call 58; clear TK0; refine (dPick b bv bs p _ _ HR0.out (by omega) (by omega)).mono ?_; rintro e w1 ⟨x1, rfl, hx, hg1, hr1⟩; have hx1 := pick_lt hx (by decide); have HD1 : Hid (DrawR w b bv bs p 1 w1) := hid ⟨HG0.out.trans hg1, _, Nat.le_refl _, hr1⟩; have HO1 := hid (Own.same EP.ok HM0.out (hg1.same HR0.out _ notPair)); have TK1 : Hid True := hid trivial; clear hx hg1 hr1)
    | (go_at_call 58; clear TK1; obtain ⟨hg, pp, hpp, hr⟩ := HD1.out; refine (dPick b bv bs pp _ _ hr (by omega) (by omega)).mono ?_; rintro e w2 ⟨x2, rfl, hx, hg2, hr2⟩; have hx2 := pick_lt hx (by decide); have HD2 := hid (DrawR.more HD1.out hg2 hr2 hpp); have HO2 := hid (Own.same EP.ok HO1.out (hg2.same hr _ notPair)); clear hg hpp hr hx hg2 hr2))
  · have hf4 : ((x2 : Int) == 0) = true := by first | assumption | (have h3 : (x2 : Int) = 0 := (by assumption); simpa using h3) | (have h3 : x2 = 0 := (by assumption); simpa using h3)
    rw [hf4]
    clear hf4
    obtain ⟨n, hn, hn30⟩ : ∃ n : Nat, (30 : Int) = (n : Int) ∧ n ≤ 30 := ⟨30, rfl, by omega⟩
    rw [hn]
    clear hn
    have HN := hid hn30
    go_loopw [3, 5] (fun o i wr => ∃ (u : Value) (k : Nat) (ps : List PairD), u = o ∧ k ≤ n ∧ i = .int .i64 k ∧ ps.length ≤ k ∧ Hid (OP wr w.heap.size u ps ∧ DrawR w b bv bs p (2 + 2 * k) wr)) (fun _ i _ => n - (intOf i).toNat)
    case atStart => exact ⟨_, 0, [], rfl, Nat.zero_le _, rfl, Nat.le_refl _, hid ⟨HO2.out, HD2.out⟩⟩
    case round =>
      obtain ⟨u, k, ps, rfl, hk, rfl, hpk, H⟩ := hrel
      have HO := hid H.out.1
      have HD := hid H.out.2
      clear H
      obtain ⟨Au, cu, hu, _, _⟩ := HO.out.form
      subst hu
      by_cases hlt : k < n
      · have i1 : (k : Int) < (n : Int) := by omega
        have TK2 : Hid True := hid trivial
        go_wp2_with (first
          | (go_at_call 58; clear TK2; obtain ⟨hg, pp, hpp, hr⟩ := HD.out; refine (dPick b bv bs pp _ _ hr (by omega) (by omega)).mono ?_; rintro e w3 ⟨x3, rfl, hx, hg3, hr3⟩; have HD3 := hid (DrawR.more HD.out hg3 hr3 hpp); have HO3 := hid (Own.same EP.ok HO.out (hg3.same hr _ notPair)); have TK3 : Hid True := hid trivial; clear hg hpp hr hx hg3 hr3)
          | (at_builtin; clear TK3; have hE3 := Ext.alloc w3 (.cells #[] 55); have HM3 : Hid (OP (w3.alloc (.cells #[] 55)) w3.heap.size (.slice (some ⟨w3.heap.size, 0, none⟩) 0 0) []) := hid (Own.made #[] 0 (Nat.le_refl _) (by omega) rfl); have HO3e := hid (OP.ext HO3.out hE3); have hz3 : w.heap.size ≤ w3.heap.size := HD3.out.1.size; refine wpList_append_sl _ (by rfl) _ _ 25 (by rfl) EP.ok EP.flat (w3.heap.size) 55 EP.ne i0_pair _ 2 16 Try.underlying25 hi0_pair hz0_pair hz1_pair hz2_pair rfl (by omega) _ (by rfl) _ (HM3.out) _ (by rfl) _ (Own.read HO3e.out) (by simp; omega) (by simp; omega) ?_ ?_; (focus (first | exact Nat.le_refl _ | (simp; done) | (simp; omega) | omega)); intro v4 w4 hO4 hg4 hat4 hs4; have HO4 : Hid (OP w4 w.heap.size v4 ps) := hid (Own.low (by simpa using hO4) hz3); have HX4 : Hid (OP w4 w.heap.size (.slice Au ps.length cu) ps) := hid (Own.far HO3e.out (fun q hq => hg4.block q (Own.lt HO3e.out q hq).2 (fun e => by have h1 := (Own.lt HM3.out q e.symm).1; have h2 := (Own.lt HO3.out q hq).2; omega)) (fun _ _ _ he => he)); have HD4 := hid (DrawR.low2 (HD3.out.ext hE3) HB0.out.1 HB0.out.2 hg4 (fun q hq => ⟨Nat.le_trans hz3 (Own.lt HM3.out q hq).1, (Own.lt HM3.out q hq).2⟩)); obtain ⟨A4, c4, hv4, _, _⟩ := HO4.out.form; subst hv4; have NE4 : Hid (∀ q, (Value.slice A4 ps.length c4).ownBlock = some q → (Value.slice Au ps.length cu).ownBlock ≠ some q) := hid (fun q hq hq2 => hat4.elim (fun h3 => by have h2 := (Own.lt HO3.out q hq2).2; have h4 := (Own.lt HM3.out q (by rw [← h3]; exact hq)).1; omega) (fun h3 => by have h2 := (Own.lt HO3.out q hq2).2; rw [hq] at h3; injection h3 with h3; have h5 := (Ext.alloc w3 (.cells #[] 55)).size; omega)); have TK4 : Hid True := hid trivial; clear hO4 hg4 hat4 hs4 hE3 hz3)
          | (go_at_call 58; clear TK4; obtain ⟨hg, pp, hpp, hr⟩ := HD4.out; refine (dPick b bv bs pp _ _ hr (by omega) (by omega)).mono ?_; rintro e w5 ⟨x5, rfl, hx, hg5, hr5⟩; have HD5 := hid (DrawR.more HD4.out hg5 hr5 hpp); have HO5 := hid (Own.same EP.ok HO4.out (hg5.same hr _ notPair)); have HX5 := hid (Own.same EP.ok HX4.out (hg5.same hr _ notPair)); have TK5 : Hid True := hid trivial; clear hg hpp hr hx hg5 hr5)
          | (at_builtin; clear TK5; have hz5 : w.heap.size ≤ w5.heap.size := HD5.out.1.size; refine wpList_append_sl _ (by rfl) _ _ 25 (by rfl) EP.ok EP.flat (w.heap.size) 55 EP.ne i0_pair _ 2 16 Try.underlying25 hi0_pair hz0_pair hz1_pair hz2_pair rfl (by omega) _ (by rfl) _ (OP.ext HO5.out (Ext.alloc _ _)) _ (by rfl) _ (RSl.laid (cs := [.int .i64 _, .int .i64 _]) (heap_alloc_new _ _) rfl (EP.mk _ _ _)) (by simp; omega) (by simp; omega) ?_ ?_; (focus (first | exact Nat.le_refl _ | (simp; done) | (simp; omega) | omega)); intro v6 w6 hO6 hg6 hat6 hs6; have HX6 : Hid (OP w6 w.heap.size (.slice Au ps.length cu) ps) := hid (Own.far (OP.ext HX5.out (Ext.alloc _ _)) (fun q hq => hg6.block q (Own.lt (OP.ext HX5.out (Ext.alloc _ _)) q hq).2 (fun e => by have h1 := NE4.out q e.symm; exact h1 hq)) (fun _ _ _ he => he)); have HO6 := hid hO6; obtain ⟨A6, c6, hv6, _, _⟩ := hO6.form_app; subst hv6; have HD6 := hid (DrawR.low2 (HD5.out.ext (Ext.alloc _ _)) HB0.out.1 HB0.out.2 hg6 (fun q hq => Own.lt (OP.ext HO5.out (Ext.alloc _ _)) q hq)); have TK6 : Hid True := hid trivial; clear hO6 hg6 hat6 hs6 hz5)
          | (go_at_call 33; clear TK6; refine (sPairsValid _ _ _ HO6.out.read).mono ?_; rintro e w7 ⟨rfl, hE7⟩; have HE7 := hid hE7; have HX7 := hid (OP.ext HX6.out hE7); clear hE7))
        all_goals
          (try go_ways)
          go_roundw
          case rel =>
            first
              | exact ⟨_, k + 1, ps ++ [_], rfl, by omega, by go_num, by simp; omega, hid ⟨OP.ext HO6.out HE7.out, (HD6.out.ext HE7.out).mono (by omega)⟩⟩
              | exact ⟨_, k + 1, ps, rfl, by omega, by go_num, by omega, hid ⟨HX7.out, (HD6.out.ext HE7.out).mono (by omega)⟩⟩
          case measure => simp [intOf]; omega
      · have hk' : k = n := by omega
        subst hk'
        by_cases h0 : 0 < ps.length
        · have i0 : (0 : Int) < (ps.length : Int) := by omega
          obtain ⟨g, cu', hrow, hgb⟩ := Own.row HO.out h0
          injection hrow with e1 _ e3
          subst e1 e3
          obtain ⟨q, hq⟩ : ∃ q, ps[0]? = some q := ⟨_, List.getElem?_eq_getElem h0⟩
          obtain ⟨qa, qb⟩ := q
          have HQ := hid hq
          clear hq
          go_wp2_with (first
            | (go_at_call 58; obtain ⟨hg, pp, hpp, hr⟩ := HD.out; refine (dPick b bv bs pp _ _ hr (by omega) (by omega)).mono ?_; rintro e w9 ⟨x9, rfl, hx, hg9, hr9⟩; have hx9 := pick_lt hx (by omega); have HD9 := hid (DrawR.more HD.out hg9 hr9 hpp); have HO9 := hid (Own.same EP.ok HO.out (hg9.same hr _ notPair)); obtain ⟨ca, cb, fa, fb⟩ := OP.at_ HO9.out HQ.out; have ca : w9.cell? ⟨g, 0, none⟩ = some (.int .i64 qa) := (by simpa using ca); have cb : w9.cell? ⟨g, 1, none⟩ = some (.int .i64 qb) := (by simpa using cb); have fb : w9.frozen? ⟨g, 1, none⟩ = false := (by simpa using fb); clear hg hpp hr hx hg9 hr9 fa)
            | (at_builtin; have hz9 : w.heap.size ≤ w9.heap.size := HD9.out.1.size; refine wpList_append_sl _ (by rfl) _ _ 25 (by rfl) EP.ok EP.flat (w.heap.size) 55 EP.ne i0_pair _ 2 16 Try.underlying25 hi0_pair hz0_pair hz1_pair hz2_pair rfl (by omega) _ (by rfl) _ (OP.ext HO9.out (Ext.alloc _ _)) _ (by rfl) _ (RSl.laid (cs := [.int .i64 qa, .int .i64 qb]) (heap_alloc_new _ _) rfl (EP.mk _ _ _)) (by simp; omega) (by simp; omega) ?_ ?_; (focus (first | exact Nat.le_refl _ | (simp; done) | (simp; omega) | omega)); intro v10 w10 hO10 hg10 hat10 hs10; have HO10 := hid hO10; have HD10 := hid (DrawR.low2 (HD9.out.ext (Ext.alloc _ _)) HB0.out.1 HB0.out.2 hg10 (fun q hq => Own.lt (OP.ext HO9.out (Ext.alloc _ _)) q hq)); clear hO10 hg10 hat10 hs10 hz9))
          · go_ret
            exact ⟨v10, ps ++ [⟨qa, qb⟩], rfl, HO10.out.read, by simp; omega, HD10.out.mono (by omega)⟩
          · go_ret
            have hst := (Own.set EP.ok EP.ne HO9.out (j := 0) (i := 1) (u := .int .i64 qa) (x' := ⟨qa, qa⟩) HQ.out (by omega) (fun w' _ cs hl he => by rw [show cs = [.int .i64 qa, .int .i64 qb] from he]; rfl)).1
            exact ⟨.slice (some ⟨g, 0, none⟩) ps.length cu, ps.set 0 ⟨qa, qa⟩, rfl, by simpa using hst.read, by rw [List.length_set]; omega, (HD9.out.stored hgb HB0.out.1 HB0.out.2 _).mono (by omega)⟩
          · go_ret
            exact ⟨.slice (some ⟨g, 0, none⟩) ps.length cu, ps, rfl, HO9.out.read, by omega, HD9.out.mono (by omega)⟩
        · have i0 : ¬ (0 : Int) < (ps.length : Int) := by omega
          go_wp2
          go_ret
          exact ⟨.slice Au ps.length cu, ps, rfl, HO.out.read, by omega, HD.out.mono (by omega)⟩
  · have hf4 : ((x2 : Int) == 0) = false := by first | assumption | (have h3 : ¬ ((x2 : Int) == 0) = true := (by assumption); simpa using h3) | (have h3 : ¬ (x2 : Int) = 0 := (by assumption); simpa using h3) | (have h3 : ¬ x2 = 0 := (by assumption); simpa using h3)
    rw [hf4]
    clear hf4
    obtain ⟨n, hn, hn30⟩ : ∃ n : Nat, (x1 : Int) = (n : Int) ∧ n ≤ 30 := ⟨x1, rfl, by omega⟩
    rw [hn]
    clear hn
    have HN := hid hn30
    go_loopw [3, 5] (fun o i wr => ∃ (u : Value) (k : Nat) (ps : List PairD), u = o ∧ k ≤ n ∧ i = .int .i64 k ∧ ps.length ≤ k ∧ Hid (OP wr w.heap.size u ps ∧ DrawR w b bv bs p (2 + 2 * k) wr)) (fun _ i _ => n - (intOf i).toNat)
    case atStart => exact ⟨_, 0, [], rfl, Nat.zero_le _, rfl, Nat.le_refl _, hid ⟨HO2.out, HD2.out⟩⟩
    case round =>
      obtain ⟨u, k, ps, rfl, hk, rfl, hpk, H⟩ := hrel
      have HO := hid H.out.1
      have HD := hid H.out.2
      clear H
      obtain ⟨Au, cu, hu, _, _⟩ := HO.out.form
      subst hu
      by_cases hlt : k < n
      · have i1 : (k : Int) < (n : Int) := by omega
        have TK2 : Hid True := hid trivial
        go_wp2_with (first
          | (go_at_call 58; clear TK2; obtain ⟨hg, pp, hpp, hr⟩ := HD.out; refine (dPick b bv bs pp _ _ hr (by omega) (by omega)).mono ?_; rintro e w3 ⟨x3, rfl, hx, hg3, hr3⟩; have HD3 := hid (DrawR.more HD.out hg3 hr3 hpp); have HO3 := hid (Own.same EP.ok HO.out (hg3.same hr _ notPair)); have TK3 : Hid True := hid trivial; clear hg hpp hr hx hg3 hr3)
          | (at_builtin; clear TK3; have hE3 := Ext.alloc w3 (.cells #[] 55); have HM3 : Hid (OP (w3.alloc (.cells #[] 55)) w3.heap.size (.slice (some ⟨w3.heap.size, 0, none⟩) 0 0) []) := hid (Own.made #[] 0 (Nat.le_refl _) (by omega) rfl); have HO3e := hid (OP.ext HO3.out hE3); have hz3 : w.heap.size ≤ w3.heap.size := HD3.out.1.size; refine wpList_append_sl _ (by rfl) _ _ 25 (by rfl) EP.ok EP.flat (w3.heap.size) 55 EP.ne i0_pair _ 2 16 Try.underlying25 hi0_pair hz0_pair hz1_pair hz2_pair rfl (by omega) _ (by rfl) _ (HM3.out) _ (by rfl) _ (Own.read HO3e.out) (by simp; omega) (by simp; omega) ?_ ?_; (focus (first | exact Nat.le_refl _ | (simp; done) | (simp; omega) | omega)); intro v4 w4 hO4 hg4 hat4 hs4; have HO4 : Hid (OP w4 w.heap.size v4 ps) := hid (Own.low (by simpa using hO4) hz3); have HX4 : Hid (OP w4 w.heap.size (.slice Au ps.length cu) ps) := hid (Own.far HO3e.out (fun q hq => hg4.block q (Own.lt HO3e.out q hq).2 (fun e => by have h1 := (Own.lt HM3.out q e.symm).1; have h2 := (Own.lt HO3.out q hq).2; omega)) (fun _ _ _ he => he)); have HD4 := hid (DrawR.low2 (HD3.out.ext hE3) HB0.out.1 HB0.out.2 hg4 (fun q hq => ⟨Nat.le_trans hz3 (Own.lt HM3.out q hq).1, (Own.lt HM3.out q hq).2⟩)); obtain ⟨A4, c4, hv4, _, _⟩ := HO4.out.form; subst hv4; have NE4 : Hid (∀ q, (Value.slice A4 ps.length c4).ownBlock = some q → (Value.slice Au ps.length cu).ownBlock ≠ some q) := hid (fun q hq hq2 => hat4.elim (fun h3 => by have h2 := (Own.lt HO3.out q hq2).2; have h4 := (Own.lt HM3.out q (by rw [← h3]; exact hq)).1; omega) (fun h3 => by have h2 := (Own.lt HO3.out q hq2).2; rw [hq] at h3; injection h3 with h3; have h5 := (Ext.alloc w3 (.cells #[] 55)).size; omega)); have TK4 : Hid True := hid trivial; clear hO4 hg4 hat4 hs4 hE3 hz3)
          | (go_at_call 58; clear TK4; obtain ⟨hg, pp, hpp, hr⟩ := HD4.out; refine (dPick b bv bs pp _ _ hr (by omega) (by omega)).mono ?_; rintro e w5 ⟨x5, rfl, hx, hg5, hr5⟩; have HD5 := hid (DrawR.more HD4.out hg5 hr5 hpp); have HO5 := hid (Own.same EP.ok HO4.out (hg5.same hr _ notPair)); have HX5 := hid (Own.same EP.ok HX4.out (hg5.same hr _ notPair)); have TK5 : Hid True := hid trivial; clear hg hpp hr hx hg5 hr5)
          | (at_builtin; clear TK5; have hz5 : w.heap.size ≤ w5.heap.size := HD5.out.1.size; refine wpList_append_sl _ (by rfl) _ _ 25 (by rfl) EP.ok EP.flat (w.heap.size) 55 EP.ne i0_pair _ 2 16 Try.underlying25 hi0_pair hz0_pair hz1_pair hz2_pair rfl (by omega) _ (by rfl) _ (OP.ext HO5.out (Ext.alloc _ _)) _ (by rfl) _ (RSl.laid (cs := [.int .i64 _, .int .i64 _]) (heap_alloc_new _ _) rfl (EP.mk _ _ _)) (by simp; omega) (by simp; omega) ?_ ?_; (focus (first | exact Nat.le_refl _ | (simp; done) | (simp; omega) | omega)); intro v6 w6 hO6 hg6 hat6 hs6; have HX6 : Hid (OP w6 w.heap.size (.slice Au ps.length cu) ps) := hid (Own.far (OP.ext HX5.out (Ext.alloc _ _)) (fun q hq => hg6.block q (Own.lt (OP.ext HX5.out (Ext.alloc _ _)) q hq).2 (fun e => by have h1 := NE4.out q e.symm; exact h1 hq)) (fun _ _ _ he => he)); have HO6 := hid hO6; obtain ⟨A6, c6, hv6, _, _⟩ := hO6.form_app; subst hv6; have HD6 := hid (DrawR.low2 (HD5.out.ext (Ext.alloc _ _)) HB0.out.1 HB0.out.2 hg6 (fun q hq => Own.lt (OP.ext HO5.out (Ext.alloc _ _)) q hq)); have TK6 : Hid True := hid trivial; clear hO6 hg6 hat6 hs6 hz5)
          | (go_at_call 33; clear TK6; refine (sPairsValid _ _ _ HO6.out.read).mono ?_; rintro e w7 ⟨rfl, hE7⟩; have HE7 := hid hE7; have HX7 := hid (OP.ext HX6.out hE7); clear hE7))
        all_goals
          (try go_ways)
          go_roundw
          case rel =>
            first
              | exact ⟨_, k + 1, ps ++ [_], rfl, by omega, by go_num, by simp; omega, hid ⟨OP.ext HO6.out HE7.out, (HD6.out.ext HE7.out).mono (by omega)⟩⟩
              | exact ⟨_, k + 1, ps, rfl, by omega, by go_num, by omega, hid ⟨HX7.out, (HD6.out.ext HE7.out).mono (by omega)⟩⟩
          case measure => simp [intOf]; omega
      · have hk' : k = n := by omega
        subst hk'
        by_cases h0 : 0 < ps.length
        · have i0 : (0 : Int) < (ps.length : Int) := by omega
          obtain ⟨g, cu', hrow, hgb⟩ := Own.row HO.out h0
          injection hrow with e1 _ e3
          subst e1 e3
          obtain ⟨q, hq⟩ : ∃ q, ps[0]? = some q := ⟨_, List.getElem?_eq_getElem h0⟩
          obtain ⟨qa, qb⟩ := q
          have HQ := hid hq
          clear hq
          go_wp2_with (first
            | (go_at_call 58; obtain ⟨hg, pp, hpp, hr⟩ := HD.out; refine (dPick b bv bs pp _ _ hr (by omega) (by omega)).mono ?_; rintro e w9 ⟨x9, rfl, hx, hg9, hr9⟩; have hx9 := pick_lt hx (by omega); have HD9 := hid (DrawR.more HD.out hg9 hr9 hpp); have HO9 := hid (Own.same EP.ok HO.out (hg9.same hr _ notPair)); obtain ⟨ca, cb, fa, fb⟩ := OP.at_ HO9.out HQ.out; have ca : w9.cell? ⟨g, 0, none⟩ = some (.int .i64 qa) := (by simpa using ca); have cb : w9.cell? ⟨g, 1, none⟩ = some (.int .i64 qb) := (by simpa using cb); have fb : w9.frozen? ⟨g, 1, none⟩ = false := (by simpa using fb); clear hg hpp hr hx hg9 hr9 fa)
            | (at_builtin; have hz9 : w.heap.size ≤ w9.heap.size := HD9.out.1.size; refine wpList_append_sl _ (by rfl) _ _ 25 (by rfl) EP.ok EP.flat (w.heap.size) 55 EP.ne i0_pair _ 2 16 Try.underlying25 hi0_pair hz0_pair hz1_pair hz2_pair rfl (by omega) _ (by rfl) _ (OP.ext HO9.out (Ext.alloc _ _)) _ (by rfl) _ (RSl.laid (cs := [.int .i64 qa, .int .i64 qb]) (heap_alloc_new _ _) rfl (EP.mk _ _ _)) (by simp; omega) (by simp; omega) ?_ ?_; (focus (first | exact Nat.le_refl _ | (simp; done) | (simp; omega) | omega)); intro v10 w10 hO10 hg10 hat10 hs10; have HO10 := hid hO10; have HD10 := hid (DrawR.low2 (HD9.out.ext (Ext.alloc _ _)) HB0.out.1 HB0.out.2 hg10 (fun q hq => Own.lt (OP.ext HO9.out (Ext.alloc _ _)) q hq)); clear hO10 hg10 hat10 hs10 hz9))
          · go_ret
            exact ⟨v10, ps ++ [⟨qa, qb⟩], rfl, HO10.out.read, by simp; omega, HD10.out.mono (by omega)⟩
          · go_ret
            have hst := (Own.set EP.ok EP.ne HO9.out (j := 0) (i := 1) (u := .int .i64 qa) (x' := ⟨qa, qa⟩) HQ.out (by omega) (fun w' _ cs hl he => by rw [show cs = [.int .i64 qa, .int .i64 qb] from he]; rfl)).1
            exact ⟨.slice (some ⟨g, 0, none⟩) ps.length cu, ps.set 0 ⟨qa, qa⟩, rfl, by simpa using hst.read, by rw [List.length_set]; omega, (HD9.out.stored hgb HB0.out.1 HB0.out.2 _).mono (by omega)⟩
          · go_ret
            exact ⟨.slice (some ⟨g, 0, none⟩) ps.length cu, ps, rfl, HO9.out.read, by omega, HD9.out.mono (by omega)⟩
        · have i0 : ¬ (0 : Int) < (ps.length : Int) := by omega
          go_wp2
          go_ret
          exact ⟨.slice Au ps.length cu, ps, rfl, HO.out.read, by omega, HD.out.mono (by omega)⟩

theorem dMany (b : Nat) (bv : Value) (bs : List Int) (p : Nat) (w : World) (h : Rd w b bv bs p) (hp : p ≤ 900000) :
    Calls Try.prog 46 #[.pointer (some ⟨b, 0, none⟩)] w fun e w' => ∃ n : Nat, e = .returned (.int .i64 (n : Int)) ∧ n ≤ 15 ∧ DrawR w b bv bs p 2 w' := by
  have HR0 := hid h
  have TK0 : Hid True := hid trivial
  clear h
  go_enter Try.func46, Try.ntmps46
  go_wp2_with (first
    | (go_at_call 58; clear TK0; refine (dPick b bv bs p _ _ HR0.out (by omega) (by omega)).mono ?_; rintro e w1 ⟨x1, rfl, hx, hg1, hr1⟩; have HD1 : Hid (DrawR w b bv bs p 1 w1) := hid ⟨hg1, _, Nat.le_refl _, hr1⟩; have TK1 : Hid True := hid trivial; clear hx hg1 hr1)
    | (go_at_call 58; clear TK1; obtain ⟨hg, pp, hpp, hr⟩ := HD1.out; refine (dPick b bv bs pp _ _ hr (by omega) (by omega)).mono ?_; rintro e w2 ⟨x2, rfl, hx, hg2, hr2⟩; have hx2 := pick_lt hx (by decide); have HD2 := hid (DrawR.more HD1.out hg2 hr2 hpp); have hw14 : IntKind.i64.wrap (14 + (x2 : Int)) = ((14 + x2 : Nat) : Int) := (by rw [IntWalk.i64_in _ (by omega)]; omega); clear hg hpp hr hx hg2 hr2))
  · go_ret
    refine ⟨14 + x2, ?_, by omega, HD2.out⟩
    rfl
  · go_ret
    exact ⟨x2, rfl, by omega, HD2.out⟩

end Go.Proofs.Ytoaabinpdjcimaa
