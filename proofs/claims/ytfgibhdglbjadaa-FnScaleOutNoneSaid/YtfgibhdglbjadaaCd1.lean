/- While a cluster is drawn. -/
import Derived.Test.YtfgibhdglbjadaaCl11
import Derived.Test.YtfgibhdglbjadaaReg2
namespace Go.Proofs.Ytfgibhdglbjadaa
open Go.RowKit
set_option maxRecDepth 4000

theorem OCl.same {w w' : World} {base : Nat} {cv : Value} {C : ClusD} (h : OCl w base cv C) (hs : SameT (fun t => t = 56 ∨ t = 64 ∨ t = 3) w w') : OCl w' base cv C :=
  let ⟨rv, uv, ps, h1, h2, h3, h4, h5⟩ := h; ⟨rv, uv, ps, h1, RI.same h2 (hs.mono (fun t ht => .inr (.inr ht))), Own.same (EUV.ok _) h3 hs, h4, h5⟩
theorem OCl.form {w : World} {base : Nat} {cv : Value} {C : ClusD} (h : OCl w base cv C) : ∃ A c A2 c2, cv = .agg #[.slice A C.room.length c, .slice A2 C.units.length c2] := by
  obtain ⟨rv, uv, ps, h1, h2, h3, h4, _⟩ := h
  obtain ⟨A, c, rfl, _⟩ := h2
  obtain ⟨A2, c2, rfl, _, _⟩ := h3.form
  exact ⟨A, c, A2, c2, by rw [h1, ← h4, List.length_map]⟩
/-- blocks that the call has made have turned -/
theorem DrawR.below {w w1 w2 : World} {b : Nat} {bv : Value} {bs : List Int} {p K : Nat} (h : DrawR w b bv bs p K w1) (hb2 : Below w.heap.size w1 w2) (hb : b < w.heap.size) (hbs : 0 < bs.length → ∀ b' o n c, bv = .slice (some ⟨b', o, none⟩) n c → b' < w.heap.size) : DrawR w b bv bs p K w2 := by
  obtain ⟨h1, p', hp, hr⟩ := h
  have hE : Gr b w w2 := ⟨hb2.os.trans h1.os, hb2.tape.trans h1.tape, hb2.output.trans h1.output, Nat.le_trans h1.size hb2.size, fun k hk hn => (hb2.block k hk).trans (h1.block k hk hn)⟩
  refine ⟨hE, p', hp, (hb2.block b hb).trans hr.1, hr.2.1, ?_, hr.2.2.2⟩
  obtain ⟨A, c, hv, e1, e2, e3⟩ := hr.2.2.1
  refine ⟨A, c, hv, e1, e2, fun hpos => ?_⟩
  obtain ⟨b', o, hA, h4⟩ := e3 hpos
  have hlt := hbs hpos b' o _ _ (by rw [hv, hA])
  refine ⟨b', o, hA, fun j x hj => ?_⟩
  obtain ⟨cs, hl, he, hc⟩ := h4 j x hj
  exact ⟨cs, hl, he, fun i' u' hu' => (World.cell?_of_block (w := w1) (a := ⟨b', o + (j * 1 + i'), none⟩) (hb2.block b' hlt)).trans (hc i' u' hu')⟩
/-- while a cluster is drawn: its variable lies in block H, the result's block is still zero -/
structure LC (w : World) (b : Nat) (bv : Value) (bs : List Int) (p K H : Nat) (wr : World) (rv uv : Value) (C : ClusD) : Prop where
  low : b < w.heap.size ∧ (0 < bs.length → ∀ b' o n c, bv = .slice (some ⟨b', o, none⟩) n c → b' < w.heap.size)
  hi : w.heap.size < H
  box : wr.heap[H]? = some (.cells #[rv, uv] 26 (0, 0))
  zero : wr.heap[w.heap.size]? = some (.cells #[.slice none 0 0, .slice none 0 0] 26 (0, 0))
  own : OCl wr w.heap.size (.agg #[rv, uv]) C
  drw : DrawR w b bv bs p K wr
section
variable {w wr w2 : World} {b p K K' H : Nat} {bv rv uv : Value} {bs : List Int} {C C2 : ClusD}
theorem LC.cells (h : LC w b bv bs p K H wr rv uv C) : wr.cell? ⟨H, 0, none⟩ = some rv ∧ wr.cell? ⟨H, 1, none⟩ = some uv := ⟨obj_cell h.box (i := 0) rfl, obj_cell h.box (i := 1) rfl⟩
theorem LC.mono (h : LC w b bv bs p K H wr rv uv C) (hk : K ≤ K') : LC w b bv bs p K' H wr rv uv C := ⟨h.low, h.hi, h.box, h.zero, h.own, h.drw.mono hk⟩
theorem LC.ext (h : LC w b bv bs p K H wr rv uv C) (ha : Ext wr w2) : LC w b bv bs p K H w2 rv uv C := ⟨h.low, h.hi, ha.obj h.box, ha.obj h.zero, h.own.ext ha, h.drw.ext ha⟩
theorem LC.drew (h : LC w b bv bs p K H wr rv uv C) : LC w b bv bs p K H wr.drew rv uv C := h.ext (Below.drew (Below.refl _ _))
theorem LC.draw (h : LC w b bv bs p K H wr rv uv C) {p1 : Nat} (hp1 : p1 ≤ p + K) (hr : Rd wr b bv bs p1) (k : DrawR wr b bv bs p1 K' w2) : LC w b bv bs p (K + K') H w2 rv uv C :=
  ⟨h.low, h.hi, k.1.obj h.box (by have := h.low.1; have := h.hi; omega), k.1.obj h.zero (by have := h.low.1; omega), h.own.same (k.1.same hr _ (by rintro t (rfl | rfl | rfl) <;> decide)), DrawR.then h.drw.1 hp1 k⟩
theorem LC.pick (h : LC w b bv bs p K H wr rv uv C) (hp : p + K ≤ 1000000) (n : Int) (hn : n ≤ 1000000) :
    Calls Try.prog 75 #[.pointer (some ⟨b, 0, none⟩), .int .i64 n] wr fun e w' => ∃ x : Nat, e = .returned (.int .i64 x) ∧ ((x : Int) < n ∨ x = 0) ∧ LC w b bv bs p (K + 1) H w' rv uv C ∧ SameT (fun t => t ≠ 109) wr w' := by
  obtain ⟨hg, p', hp', hr⟩ := h.drw
  refine (dPick b bv bs p' n wr hr (by omega) hn).mono ?_
  rintro e w' ⟨x, rfl, hx, hg', hr'⟩
  exact ⟨x, rfl, hx, h.draw hp' hr ⟨hg', p' + 1, Nat.le_refl _, hr'⟩, hg'.same hr _ (fun t ht => ht)⟩
theorem LC.task (h : LC w b bv bs p K H wr rv uv C) (hp : p + K ≤ 900000) (id : Int) :
    Calls Try.prog 84 #[.pointer (some ⟨b, 0, none⟩), .int .i64 id] wr fun e w' => ∃ A c xs, e = .returned (.agg #[.int .i64 id, .slice A xs.length c]) ∧ OI w' wr.heap.size (.slice A xs.length c) xs ∧ xs.length = 3 ∧ LC w b bv bs p (K + 6) H w' rv uv C ∧ SameT (fun t => t ≠ 109) wr w' := by
  obtain ⟨hg, p', hp', hr⟩ := h.drw
  refine (dTask b bv bs p' id wr hr (by omega)).mono ?_
  rintro e w' ⟨v, xs, rfl, hO, hl, _, hd⟩
  obtain ⟨A, c, rfl, _⟩ := hO.form
  exact ⟨A, c, xs, rfl, hO, hl, h.draw hp' hr hd, hd.1.same hr _ (fun t ht => ht)⟩
theorem LC.ret (h : LC w b bv bs p K H wr rv uv C) {r : ClusD × Int} {e : Ending} (hr : RetOC wr r e w2) : ∃ A c A2 c2, e = .returned (.tuple #[.agg #[.slice A r.1.room.length c, .slice A2 r.1.units.length c2], .int .i64 r.2]) ∧ OCl w2 w.heap.size (.agg #[.slice A r.1.room.length c, .slice A2 r.1.units.length c2]) r.1 ∧ LC w b bv bs p K H w2 rv uv C := by
  obtain ⟨cv, he, hO, hE⟩ := hr
  obtain ⟨A, c, A2, c2, rfl⟩ := hO.form
  exact ⟨A, c, A2, c2, he, hO.low h.drw.1.size, h.ext hE⟩
theorem LC.retF (h : LC w b bv bs p K H wr rv uv C) {r : ClusD × Int} {e : Ending} (hr : RetOC wr r e w2) (hf : Few r.1) : ∃ (A : Option Addr) (c : Nat) (A2 : Option Addr) (c2 : Nat) (R : ClusD × Int), e = .returned (.tuple #[.agg #[.slice A R.1.room.length c, .slice A2 R.1.units.length c2], .int .i64 R.2]) ∧ OCl w2 w.heap.size (.agg #[.slice A R.1.room.length c, .slice A2 R.1.units.length c2]) R.1 ∧ LC w b bv bs p K H w2 rv uv C ∧ Few R.1 :=
  let ⟨A, c, A2, c2, h1, h2, h3⟩ := h.ret hr; ⟨A, c, A2, c2, r, h1, h2, h3, hf⟩
theorem LC.units {A A2 : Option Addr} {n c n2 c2 : Nat} (h : LC w b bv bs p K H wr (.slice A n c) (.slice A2 n2 c2) C) (hp : 0 < C.units.length) : ∃ gu ps, A2 = some ⟨gu, 0, none⟩ ∧ n2 = ps.length ∧ RI wr (.slice A n c) C.room ∧ OUV wr w.heap.size (.slice (some ⟨gu, 0, none⟩) n2 c2) ps ∧ ps.map (·.1) = C.units ∧ (blocksOf ps).Nodup ∧ w.heap.size ≤ gu := by
  obtain ⟨rv', uv', ps, he, h1, h2, h3, h4⟩ := h.own
  injection he with he
  injection he with he
  injection he with e1 he
  injection he with e2 _
  subst e1 e2
  have hl : 0 < ps.length := by rw [← h3, List.length_map] at hp; exact hp
  obtain ⟨gu, c', hv, hgu⟩ := Own.row h2 hl
  injection hv with e1 e2 e3
  subst e1 e3
  exact ⟨gu, ps, rfl, e2, h1, h2, h3, h4, hgu⟩
theorem LC.turned (h : LC w b bv bs p K H wr rv uv C) (hs : SameT (fun t => t = 26) wr w2) (hd : DrawR w b bv bs p K' w2) (ho : OCl w2 w.heap.size (.agg #[rv, uv]) C2) : LC w b bv bs p K' H w2 rv uv C2 :=
  ⟨h.low, h.hi, hs _ _ _ _ rfl h.box, hs _ _ _ _ rfl h.zero, ho, hd⟩
/-- the variable takes another cluster -/
theorem LC.set (h : LC w b bv bs p K H wr rv uv C) {r2 u2 : Value} (ho : OCl wr w.heap.size (.agg #[r2, u2]) C2) : LC w b bv bs p K H ((wr.setCell ⟨H, 0, none⟩ r2).setCell ⟨H, 1, none⟩ u2) r2 u2 C2 := by
  have hne : w.heap.size ≠ H := by have := h.hi; omega
  refine ⟨h.low, h.hi, obj_set2 h.box _ _, obj_far (p := ⟨H, 1, none⟩) (obj_far (p := ⟨H, 0, none⟩) h.zero hne _) hne _, ho.same ((box2 h.box r2 u2).2.2.2.2.2.2.2 _ notClu), (h.drw.stored (Nat.le_of_lt h.hi) h.low.1 h.low.2 _).stored (Nat.le_of_lt h.hi) h.low.1 h.low.2 _⟩
/-- its first cell takes another room -/
theorem LC.set0 (h : LC w b bv bs p K H wr rv uv C) {r2 : Value} (ho : OCl wr w.heap.size (.agg #[r2, uv]) C2) : LC w b bv bs p K H (wr.setCell ⟨H, 0, none⟩ r2) r2 uv C2 := by
  have hne : w.heap.size ≠ H := by have := h.hi; omega
  refine ⟨h.low, h.hi, by simpa using obj_set h.box 0 r2, obj_far (p := ⟨H, 0, none⟩) h.zero hne _, ho.same (SameT.setCell (p := ⟨H, 0, none⟩) h.box r2 notClu), h.drw.stored (Nat.le_of_lt h.hi) h.low.1 h.low.2 _⟩
end
theorem cluUnit : ∀ t, (t = 26 ∨ t = 56) → t ≠ 109 := by rintro t (rfl | rfl) <;> decide
theorem notRd3 : ∀ t, (t = 56 ∨ t = 64 ∨ t = 3) → t ≠ 109 := by rintro t (rfl | rfl | rfl) <;> decide
theorem cluUnit2 : ∀ t, (t = 26 ∨ t = 56) → t ≠ 64 := by rintro t (rfl | rfl) <;> decide
/-- a slice from its first element on -/
theorem RI.tail {w : World} {A : Option Addr} {n c : Nat} {xs : List Int} (h : RI w (.slice A n c) xs) {b o : Nat} (hA : A = some ⟨b, o, none⟩) (hn : 1 ≤ xs.length) : RI w (.slice (some ⟨b, o + 1, none⟩) (n - 1) (c - 1)) (xs.drop 1) := by
  obtain ⟨A', c', hv, hc, hc', h⟩ := h
  injection hv with h1 h2 h3
  subst h1 h2 h3
  refine ⟨_, c - 1, by rw [List.length_drop], by rw [List.length_drop]; omega, by omega, fun hp => ?_⟩
  obtain ⟨b', o', cur, fr, hA', hb, h⟩ := h (by omega)
  rw [hA] at hA'
  injection hA' with hA'
  injection hA' with e1 e2 _
  subst e1 e2
  refine ⟨b, o + 1, cur, fr, rfl, hb, fun j x hx => ?_⟩
  rw [List.getElem?_drop] at hx
  obtain ⟨cs, hl, he, hcc⟩ := h (1 + j) x hx
  refine ⟨cs, hl, he, fun i u hu => ?_⟩
  have := hcc i u hu
  rwa [show o + 1 + (j * 1 + i) = o + ((1 + j) * 1 + i) by omega]

end Go.Proofs.Ytfgibhdglbjadaa
