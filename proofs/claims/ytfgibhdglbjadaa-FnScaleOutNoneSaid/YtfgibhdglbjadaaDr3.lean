/- Rooms, tasks and needs that are drawn. -/
import Derived.Test.YtfgibhdglbjadaaDr2
namespace Go.Proofs.Ytfgibhdglbjadaa
open Go.RowKit
set_option maxRecDepth 4000

/-- what a draw leaves: the reader is at most K places on; but for it, all that was there is as it was -/
def DrawR (w : World) (b : Nat) (bv : Value) (bs : List Int) (p K : Nat) (w' : World) : Prop := Gr b w w' ∧ ∃ p', p' ≤ p + K ∧ Rd w' b bv bs p'
theorem DrawR.start {w : World} {b : Nat} {bv : Value} {bs : List Int} {p : Nat} (h : Rd w b bv bs p) : DrawR w b bv bs p 0 w := ⟨Gr.refl _ _, p, by omega, h⟩
theorem DrawR.ext {w w1 w2 : World} {b : Nat} {bv : Value} {bs : List Int} {p K : Nat} (h : DrawR w b bv bs p K w1) (ha : Ext w1 w2) : DrawR w b bv bs p K w2 := let ⟨hg, p', hp, hr⟩ := h; ⟨hg.trans (Gr.of_ext ha), p', hp, hr.ext ha⟩
theorem DrawR.mono {w w1 : World} {b : Nat} {bv : Value} {bs : List Int} {p K K' : Nat} (h : DrawR w b bv bs p K w1) (hk : K ≤ K') : DrawR w b bv bs p K' w1 := let ⟨hg, p', hp, hr⟩ := h; ⟨hg, p', by omega, hr⟩
theorem DrawR.then {w w1 w2 : World} {b : Nat} {bv : Value} {bs : List Int} {p p1 K K' : Nat} (h : Gr b w w1) (hp : p1 ≤ p + K) (k : DrawR w1 b bv bs p1 K' w2) : DrawR w b bv bs p (K + K') w2 := let ⟨hg, p', hp', hr⟩ := k; ⟨h.trans hg, p', by omega, hr⟩
/-- a store into a block that the call has made -/
theorem DrawR.stored {w w1 : World} {b : Nat} {bv : Value} {bs : List Int} {p K : Nat} (h : DrawR w b bv bs p K w1) {g i : Nat} (hg : w.heap.size ≤ g) (hb : b < w.heap.size) (hbs : 0 < bs.length → ∀ b' o n c, bv = .slice (some ⟨b', o, none⟩) n c → b' < w.heap.size) (u : Value) : DrawR w b bv bs p K (w1.setCell ⟨g, i, none⟩ u) := by
  obtain ⟨h1, p', hp, hr⟩ := h
  have hE : Gr b w (w1.setCell ⟨g, i, none⟩ u) := ⟨by simpa [World.setCell] using h1.os, by simpa [World.setCell] using h1.tape, by simpa [World.setCell] using h1.output, by simpa [World.setCell] using h1.size, fun k hk hn => (Below.heap_setCell _ _ _ _ (by show k ≠ g; omega)).trans (h1.block k hk hn)⟩
  refine ⟨hE, p', hp, obj_far hr.1 (by show b ≠ g; omega) u, hr.2.1, ?_, hr.2.2.2⟩
  obtain ⟨A, c, hv, e1, e2, e3⟩ := hr.2.2.1
  refine ⟨A, c, hv, e1, e2, fun hpos => ?_⟩
  obtain ⟨b', o, hA, h4⟩ := e3 hpos
  have hlt := hbs hpos b' o _ _ (by rw [hv, hA])
  refine ⟨b', o, hA, fun j x hj => ?_⟩
  obtain ⟨cs, hl, he, hc⟩ := h4 j x hj
  exact ⟨cs, hl, he, fun i' u' hu => (cell_far w1 (by omega) u).trans (hc i' u' hu)⟩
/-- the bytes lie in a block that was there -/
theorem Rd.low {w : World} {b : Nat} {bv : Value} {bs : List Int} {p : Nat} (h : Rd w b bv bs p) : b < w.heap.size ∧ (0 < bs.length → ∀ b' o n c, bv = .slice (some ⟨b', o, none⟩) n c → b' < w.heap.size) := by
  refine ⟨obj_lt h.1, fun hp b' o n c hv => ?_⟩
  obtain ⟨A, c', hv', e1, e2, e3⟩ := h.2.2.1
  obtain ⟨b2, o2, hA, h4⟩ := e3 hp
  rw [hv', hA] at hv
  injection hv with e4 _ _
  injection e4 with e4
  injection e4 with e4 _ _
  subst e4
  obtain ⟨cs, hl', he, hc⟩ := h4 0 bs[0] (List.getElem?_eq_getElem hp)
  have h5 := hc 0 cs[0] (List.getElem?_eq_getElem (by omega))
  exact World.block_lt_of_cell? w _ h5

theorem DrawR.more {w w1 w2 : World} {b : Nat} {bv : Value} {bs : List Int} {p q K : Nat} (h : DrawR w b bv bs p K w1) (hg : Gr b w1 w2) (hr : Rd w2 b bv bs (q + 1)) (hq : q ≤ p + K := by omega) : DrawR w b bv bs p (K + 1) w2 := ⟨h.1.trans hg, q + 1, by omega, hr⟩
theorem notRd : ∀ t, (t = 3 ∨ False) → t ≠ 109 := by rintro t (rfl | h) <;> first | decide | exact h.elim
theorem four_at {x : Nat} (h : x < 4) : ∃ y : Int, ([0, 1, 20, 21] : List Int)[x]? = some y ∧ 0 ≤ y ∧ y ≤ 21 := by
  match x, h with
  | 0, _ => exact ⟨0, rfl, by omega, by omega⟩
  | 1, _ => exact ⟨1, rfl, by omega, by omega⟩
  | 2, _ => exact ⟨20, rfl, by omega, by omega⟩
  | 3, _ => exact ⟨21, rfl, by omega, by omega⟩
theorem pick_lt {x : Nat} {n : Int} (h : (x : Int) < n ∨ x = 0) (hn : 0 < n) : (x : Int) < n := by omega
theorem pick_more {b : Nat} {bv : Value} {bs : List Int} {p n : Nat} {w w1 w2 : World} (hg : Gr b w w1) {q K : Nat} (hq : p ≤ q + K) (k : Gr b w1 w2) (r : Rd w2 b bv bs (p + 1)) : DrawR w b bv bs q (K + 1) w2 := ⟨hg.trans k, p + 1, by omega, r⟩

set_option maxHeartbeats 2000000 in
theorem dRoom (b : Nat) (bv : Value) (bs : List Int) (p : Nat) (w : World) (h : Rd w b bv bs p) (hp : p ≤ 900000) :
    Calls Try.prog 97 #[.pointer (some ⟨b, 0, none⟩)] w fun e w' => ∃ v xs, e = .returned v ∧ OI w' w.heap.size v xs ∧ xs.length = 3 ∧ (∀ x ∈ xs, 0 ≤ x ∧ x ≤ 21) ∧ DrawR w b bv bs p 6 w' := by
  have HR0 := hid h
  have HL := hid h.low
  clear h
  go_enter Try.func97, Try.ntmps97
  go_wp2_with (first
    | (go_at_call 75; have hq := HR5.out; refine (dPick b bv bs _ _ _ hq (by omega) (by omega)).mono ?_; rintro e w6 ⟨x6, rfl, ho6, hg6, hr6⟩; have hx6 := pick_lt ho6 (by decide); clear ho6; have HO6 := hid (Own.same EI.ok HO5.out (hg6.same hq (fun t => t = 3 ∨ False) notRd)); have HB6 := hid (Own.same EI.ok HB5.out (hg6.same hq (fun t => t = 3 ∨ False) notRd)); have HT6 := hid (HT5.out.more hg6 hr6); obtain ⟨y6, hy6, hyb⟩ := four_at (x := x6) (by omega); obtain ⟨cb6, _, _⟩ := OI.at_ HB6.out hy6; obtain ⟨z6, hz6⟩ : ∃ z, ([6 + (x1 : Int), 6 + (x2 : Int), 6 + (x3 : Int)] : List Int)[x5]? = some z := ⟨_, List.getElem?_eq_getElem (by show x5 < 3; omega)⟩; obtain ⟨co6, fo6, _⟩ := OI.at_ HO6.out hz6; clear hg6 hr6 hq)
    | (go_at_call 75; have hq := HR4.out; refine (dPick b bv bs _ _ _ hq (by omega) (by omega)).mono ?_; rintro e w5 ⟨x5, rfl, ho5, hg5, hr5⟩; have hx5 := pick_lt ho5 (by decide); clear ho5; have HO5 := hid ((Own.same EI.ok HO4.out (hg5.same hq (fun t => t = 3 ∨ False) notRd)).ext EI.ok (Ext.alloc w5 (.cells #[.int .i64 0, .int .i64 1, .int .i64 20, .int .i64 21] 3))); have HB5 : Hid (OI (w5.alloc (.cells #[.int .i64 0, .int .i64 1, .int .i64 20, .int .i64 21] 3)) w5.heap.size (.slice (some ⟨w5.heap.size, 0, none⟩) 4 4) [0, 1, 20, 21]) := hid (OI.lit w5 [0, 1, 20, 21] (by simp) w5.heap.size (Nat.le_refl _)); have HT5 := hid ((HT4.out.more hg5 hr5).ext (Ext.alloc w5 (.cells #[.int .i64 0, .int .i64 1, .int .i64 20, .int .i64 21] 3))); have HR5 := hid (hr5.ext (Ext.alloc w5 (.cells #[.int .i64 0, .int .i64 1, .int .i64 20, .int .i64 21] 3))); clear hg5 hr5 hq)
    | (go_at_call 75; have hq := HR3.out; refine (dPick b bv bs _ _ _ hq (by omega) (by omega)).mono ?_; rintro e w4 ⟨x4, rfl, ho4, hg4, hr4⟩; have hx4 := pick_lt ho4 (by decide); clear ho4; have HR4 := hid hr4; have HT4 := hid (HT3.out.more hg4 hr4); have HO4 := hid (Own.same EI.ok HO3.out (hg4.same hq (fun t => t = 3 ∨ False) notRd)); clear hg4 hr4 hq)
    | (go_at_call 75; have hq := HR2.out; refine (dPick b bv bs _ _ _ hq (by omega) (by omega)).mono ?_; rintro e w3 ⟨x3, rfl, ho3, hg3, hr3⟩; have hx3 := pick_lt ho3 (by decide); clear ho3; have HT3 := hid ((HT2.out.more hg3 hr3).ext (Ext.alloc w3 (.cells #[.int .i64 (6 + (x1 : Int)), .int .i64 (6 + (x2 : Int)), .int .i64 (6 + (x3 : Int))] 3))); have HR3 := hid (hr3.ext (Ext.alloc w3 (.cells #[.int .i64 (6 + (x1 : Int)), .int .i64 (6 + (x2 : Int)), .int .i64 (6 + (x3 : Int))] 3))); have HO3 : Hid (OI (w3.alloc (.cells #[.int .i64 (6 + (x1 : Int)), .int .i64 (6 + (x2 : Int)), .int .i64 (6 + (x3 : Int))] 3)) w.heap.size (.slice (some ⟨w3.heap.size, 0, none⟩) 3 3) [6 + (x1 : Int), 6 + (x2 : Int), 6 + (x3 : Int)]) := hid (OI.lit w3 [6 + (x1 : Int), 6 + (x2 : Int), 6 + (x3 : Int)] (by simp) w.heap.size (HT2.out.1.trans hg3).size); clear hg3 hr3 hq)
    | (go_at_call 75; have hq := HR1.out; refine (dPick b bv bs _ _ _ hq (by omega) (by omega)).mono ?_; rintro e w2 ⟨x2, rfl, ho2, hg2, hr2⟩; have hx2 := pick_lt ho2 (by decide); clear ho2; have HR2 := hid hr2; have HT2 := hid (HT1.out.more hg2 hr2); clear hg2 hr2 hq)
    | (go_at_call 75; refine (dPick b bv bs _ _ _ HR0.out (by omega) (by omega)).mono ?_; rintro e w1 ⟨x1, rfl, ho1, hg1, hr1⟩; have hx1 := pick_lt ho1 (by decide); clear ho1; have HR1 := hid hr1; have HT1 : Hid (DrawR w b bv bs p 1 w1) := hid ⟨hg1, _, Nat.le_refl _, hr1⟩; clear hg1 hr1))
  · go_ret
    have hlow := (HO6.out.lt _ rfl).1
    have hs := (OI.set HO6.out (j := x5) (by show x5 < 3; omega) y6).1
    refine ⟨_, _, rfl, hs, by simp, fun x hx => ?_, (HT6.out.stored hlow HL.out.1 HL.out.2 _).mono (by omega)⟩
    rcases List.mem_or_eq_of_mem_set hx with hx | rfl
    · simp at hx; omega
    · exact hyb
  · go_ret
    exact ⟨_, _, rfl, HO4.out, rfl, fun x hx => by simp at hx; omega, HT4.out.mono (by omega)⟩

end Go.Proofs.Ytfgibhdglbjadaa
