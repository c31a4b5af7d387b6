/- While a cluster is drawn. -/
import Derived.Test.YtcfpilkhjpegcaaK8
import Derived.Test.YtcfpilkhjpegcaaK2
namespace Go.Proofs.Ytcfpilkhjpegcaa
open Go.RowKit
set_option maxRecDepth 4000

theorem OCl.same {w w' : World} {base : Nat} {cv : Value} {C : ClusD} (h : OCl w base cv C) (hs : SameT (fun t => t = 44 ∨ t = 80 ∨ t = 3) w w') : OCl w' base cv C :=
  let ⟨rv, uv, ps, h1, h2, h3, h4, h5⟩ := h; ⟨rv, uv, ps, h1, RI.same h2 (hs.mono (fun _ ht => .inr (.inr ht))), Own.same (EUV.ok _) h3 hs, h4, h5⟩
theorem OCl.form {w : World} {base : Nat} {cv : Value} {C : ClusD} (h : OCl w base cv C) : ∃ A c A2 c2, cv = .agg #[.slice A C.room.length c, .slice A2 C.units.length c2] := by
  obtain ⟨rv, uv, ps, h1, h2, h3, h4, _⟩ := h
  obtain ⟨A, c, rfl, _⟩ := h2
  obtain ⟨A2, c2, rfl, _, _⟩ := h3.form
  exact ⟨A, c, A2, c2, by rw [h1, ← h4, List.length_map]⟩
/-- blocks that the call has made have turned -/
theorem DrawR.below {w w1 w2 : World} {b : Nat} {bv : Value} {bs : List Int} {p K : Nat} (h : DrawR w b bv bs p K w1) (hb2 : Below w.heap.size w1 w2) (hb : b < w.heap.size) (hbs : 0 < bs.length → ∀ b' o n c, bv = .slice (some ⟨b', o, none⟩) n c → b' < w.heap.size) : DrawR w b bv bs p K w2 := by
  obtain ⟨h1, p', hp, hr⟩ := h
  have hE : Gr b w w2 := ⟨hb2.os.trans h1.os, hb2.tape.trans h1.tape, hb2.output.trans h1.output, Nat.le_trans h1.size hb2.size, fun k hk hn => (hb2.block k hk).trans (h1.block k hk hn)⟩
  refine ⟨hE, p', hp, (hb2.block b hb).trans hr.1, hr.2.1, ?_, hr.2.2.2⟩
  obtain ⟨A, c, hv, e1, e2, e3⟩ := hr.2.2.1
  refine ⟨A, c, hv, e1, e2, fun hpos => ?_⟩
  obtain ⟨b', o, hA, h4⟩ := e3 hpos
  have hlt := hbs hpos b' o _ _ (by rw [hv, hA])
  refine ⟨b', o, hA, fun j x hj => ?_⟩
  obtain ⟨cs, hl, he, hc⟩ := h4 j x hj
  exact ⟨cs, hl, he, fun i' u' hu' => (World.cell?_of_block (w := w1) (a := ⟨b', o + (j * 1 + i'), none⟩) (hb2.block b' hlt)).trans (hc i' u' hu')⟩
/-- while a cluster is drawn: its variable lies in block H, the result's block is still zero -/
structure LC (w : World) (b : Nat) (bv : Value) (bs : List Int) (p K H : Nat) (wr : World) (rv uv : Value) (C : ClusD) : Prop where
  low : b < w.heap.size ∧ (0 < bs.length → ∀ b' o n c, bv = .slice (some ⟨b', o, none⟩) n c → b' < w.heap.size)
  hi : w.heap.size < H
  box : wr.heap[H]? = some (.cells #[rv, uv] 26 (0, 0))
  zero : wr.heap[w.heap.size]? = some (.cells #[.slice none 0 0, .slice none 0 0] 26 (0, 0))
  own : OCl wr w.heap.size (.agg #[rv, uv]) C
  drw : DrawR w b bv bs p K wr
section
variable {w wr w2 : World} {b p K K' H : Nat} {bv rv uv : Value} {bs : List Int} {C C2 : ClusD}
theorem LC.cells (h : LC w b bv bs p K H wr rv uv C) : wr.cell? ⟨H, 0, none⟩ = some rv ∧ wr.cell? ⟨H, 1, none⟩ = some uv := ⟨obj_cell h.box (i := 0) rfl, obj_cell h.box (i := 1) rfl⟩
theorem LC.mono (h : LC w b bv bs p K H wr rv uv C) (hk : K ≤ K') : LC w b bv bs p K' H wr rv uv C := ⟨h.low, h.hi, h.box, h.zero, h.own, h.drw.mono hk⟩
theorem LC.ext (h : LC w b bv bs p K H wr rv uv C) (ha : Ext wr w2) : LC w b bv bs p K H w2 rv uv C := ⟨h.low, h.hi, ha.obj h.box, ha.obj h.zero, h.own.ext ha, h.drw.ext ha⟩
theorem LC.drew (h : LC w b bv bs p K H wr rv uv C) : LC w b bv bs p K H wr.drew rv uv C := h.ext (Below.drew (Below.refl _ _))
theorem LC.draw (h : LC w b bv bs p K H wr rv uv C) {p1 : Nat} (hp1 : p1 ≤ p + K) (hr : Rd wr b bv bs p1) (k : DrawR wr b bv bs p1 K' w2) : LC w b bv bs p (K + K') H w2 rv uv C :=
  ⟨h.low, h.hi, k.1.obj h.box (by have := h.low.1; have := h.hi; omega), k.1.obj h.zero (by have := h.low.1; omega), h.own.same (k.1.same hr _ (by rintro t (rfl | rfl | rfl) <;> decide)), DrawR.then h.drw.1 hp1 k⟩
theorem LC.pick (h : LC w b bv bs p K H wr rv uv C) (hp : p + K ≤ 1000000) (n : Int) (hn : n ≤ 1000000) :
    Calls Try.prog 31 #[.pointer (some ⟨b, 0, none⟩), .int .i64 n] wr fun e w' => ∃ x : Nat, e = .returned (.int .i64 x) ∧ ((x : Int) < n ∨ x = 0) ∧ LC w b bv bs p (K + 1) H w' rv uv C ∧ SameT (fun t => t ≠ 72) wr w' := by
  obtain ⟨hg, p', hp', hr⟩ := h.drw
  refine (dPick b bv bs p' n wr hr (by omega) hn).mono ?_
  rintro e w' ⟨x, rfl, hx, hg', hr'⟩
  exact ⟨x, rfl, hx, h.draw hp' hr ⟨hg', p' + 1, Nat.le_refl _, hr'⟩, hg'.same hr _ (fun t ht => ht)⟩
theorem LC.task (h : LC w b bv bs p K H wr rv uv C) (hp : p + K ≤ 900000) (id : Int) :
    Calls Try.prog 60 #[.pointer (some ⟨b, 0, none⟩), .int .i64 id] wr fun e w' => ∃ A c xs, e = .returned (.agg #[.int .i64 id, .slice A xs.length c]) ∧ OI w' wr.heap.size (.slice A xs.length c) xs ∧ xs.length = 3 ∧ LC w b bv bs p (K + 6) H w' rv uv C ∧ SameT (fun t => t ≠ 72) wr w' := by
  obtain ⟨hg, p', hp', hr⟩ := h.drw
  refine (dTask b bv bs p' id wr hr (by omega)).mono ?_
  rintro e w' ⟨v, xs, rfl, hO, hl, _, hd⟩
  obtain ⟨A, c, rfl, _⟩ := hO.form
  exact ⟨A, c, xs, rfl, hO, hl, h.draw hp' hr hd, hd.1.same hr _ (fun t ht => ht)⟩
theorem LC.ret (h : LC w b bv bs p K H wr rv uv C) {r : ClusD × Int} {e : Ending} (hr : RetOC wr r e w2) : ∃ A c A2 c2, e = .returned (.tuple #[.agg #[.slice A r.1.room.length c, .slice A2 r.1.units.length c2], .int .i64 r.2]) ∧ OCl w2 w.heap.size (.agg #[.slice A r.1.room.length c, .slice A2 r.1.units.length c2]) r.1 ∧ LC w b bv bs p K H w2 rv uv C := by
  obtain ⟨cv, he, hO, hE⟩ := hr
  obtain ⟨A, c, A2, c2, rfl⟩ := hO.form
  exact ⟨A, c, A2, c2, he, hO.low h.drw.1.size, h.ext hE⟩
theorem LC.retF (h : LC w b bv bs p K H wr rv uv C) {r : ClusD × Int} {e : Ending} (hr : RetOC wr r e w2) (hf : Few r.1) : ∃ (A : Option Addr) (c : Nat) (A2 : Option Addr) (c2 : Nat) (R : ClusD × Int), e = .returned (.tuple #[.agg #[.slice A R.1.room.length c, .slice A2 R.1.units.length c2], .int .i64 R.2]) ∧ OCl w2 w.heap.size (.agg #[.slice A R.1.room.length c, .slice A2 R.1.units.length c2]) R.1 ∧ LC w b bv bs p K H w2 rv uv C ∧ Few R.1 :=
  let ⟨A, c, A2, c2, h1, h2, h3⟩ := h.ret hr; ⟨A, c, A2, c2, r, h1, h2, h3, hf⟩
theorem LC.units {A A2 : Option Addr} {n c n2 c2 : Nat} (h : LC w b bv bs p K H wr (.slice A n c) (.slice A2 n2 c2) C) (hp : 0 < C.units.length) : ∃ gu ps, A2 = some ⟨gu, 0, none⟩ ∧ n2 = ps.length ∧ RI wr (.slice A n c) C.room ∧ OUV wr w.heap.size (.slice (some ⟨gu, 0, none⟩) n2 c2) ps ∧ ps.map (·.1) = C.units ∧ (blocksOf ps).Nodup ∧ w.heap.size ≤ gu := by
  obtain ⟨rv', uv', ps, he, h1, h2, h3, h4⟩ := h.own
  injection he with he
  injection he with he
  injection he with e1 he
  injection he with e2 _
  subst e1 e2
  have hl : 0 < ps.length := by rw [← h3, List.length_map] at hp; exact hp
  obtain ⟨gu, c', hv, hgu⟩ := Own.row h2 hl
  injection hv with e1 e2 e3
  subst e1 e3
  exact ⟨gu, ps, rfl, e2, h1, h2, h3, h4, hgu⟩
theorem LC.turned (h : LC w b bv bs p K H wr rv uv C) (hs : SameT (fun t => t = 26) wr w2) (hd : DrawR w b bv bs p K' w2) (ho : OCl w2 w.heap.size (.agg #[rv, uv]) C2) : LC w b bv bs p K' H w2 rv uv C2 :=
  ⟨h.low, h.hi, hs _ _ _ _ rfl h.box, hs _ _ _ _ rfl h.zero, ho, hd⟩
/-- the variable takes another cluster -/
theorem LC.set (h : LC w b bv bs p K H wr rv uv C) {r2 u2 : Value} (ho : OCl wr w.heap.size (.agg #[r2, u2]) C2) : LC w b bv bs p K H ((wr.setCell ⟨H, 0, none⟩ r2).setCell ⟨H, 1, none⟩ u2) r2 u2 C2 := by
  have hne : w.heap.size ≠ H := by have := h.hi; omega
  refine ⟨h.low, h.hi, obj_set2 h.box _ _, obj_far (p := ⟨H, 1, none⟩) (obj_far (p := ⟨H, 0, none⟩) h.zero hne _) hne _, ho.same ((box2 h.box r2 u2).2.2.2.2.2.2.2 _ notClu), (h.drw.stored (Nat.le_of_lt h.hi) h.low.1 h.low.2 _).stored (Nat.le_of_lt h.hi) h.low.1 h.low.2 _⟩
/-- its first cell takes another room -/
theorem LC.set0 (h : LC w b bv bs p K H wr rv uv C) {r2 : Value} (ho : OCl wr w.heap.size (.agg #[r2, uv]) C2) : LC w b bv bs p K H (wr.setCell ⟨H, 0, none⟩ r2) r2 uv C2 := by
  have hne : w.heap.size ≠ H := by have := h.hi; omega
  refine ⟨h.low, h.hi, by simpa using obj_set h.box 0 r2, obj_far (p := ⟨H, 0, none⟩) h.zero hne _, ho.same (SameT.setCell (p := ⟨H, 0, none⟩) h.box r2 notClu), h.drw.stored (Nat.le_of_lt h.hi) h.low.1 h.low.2 _⟩
end
theorem cluUnit : ∀ t, (t = 26 ∨ t = 44) → t ≠ 72 := by rintro t (rfl | rfl) <;> decide
theorem notRd3 : ∀ t, (t = 44 ∨ t = 80 ∨ t = 3) → t ≠ 72 := by rintro t (rfl | rfl | rfl) <;> decide
theorem cluUnit2 : ∀ t, (t = 26 ∨ t = 44) → t ≠ 80 := by rintro t (rfl | rfl) <;> decide
/-- a slice from its first element on -/
theorem RI.tail {w : World} {A : Option Addr} {n c : Nat} {xs : List Int} (h : RI w (.slice A n c) xs) {b o : Nat} (hA : A = some ⟨b, o, none⟩) (hn : 1 ≤ xs.length) : RI w (.slice (some ⟨b, o + 1, none⟩) (n - 1) (c - 1)) (xs.drop 1) := by
  obtain ⟨A', c', hv, hc, hc', h⟩ := h
  injection hv with h1 h2 h3
  subst h1 h2 h3
  refine ⟨_, c - 1, by rw [List.length_drop], by rw [List.length_drop]; omega, by omega, fun hp => ?_⟩
  obtain ⟨b', o', cur, fr, hA', hb, h⟩ := h (by omega)
  rw [hA] at hA'
  injection hA' with hA'
  injection hA' with e1 e2 _
  subst e1 e2
  refine ⟨b, o + 1, cur, fr, rfl, hb, fun j x hx => ?_⟩
  rw [List.getElem?_drop] at hx
  obtain ⟨cs, hl, he, hcc⟩ := h (1 + j) x hx
  refine ⟨cs, hl, he, fun i u hu => ?_⟩
  have := hcc i u hu
  rwa [show o + 1 + (j * 1 + i) = o + ((1 + j) * 1 + i) by omega]

end Go.Proofs.Ytcfpilkhjpegcaa

/- A cluster is drawn: the walk. -/
namespace Go.Proofs.Ytcfpilkhjpegcaa
open Go.RowKit
set_option maxRecDepth 4000

set_option maxHeartbeats 8000000 in
theorem dCluster (b : Nat) (bv : Value) (bs : List Int) (p : Nat) (w : World) (h : Rd w b bv bs p) (hp : p ≤ 800000) :
    Calls Try.prog 30 #[.pointer (some ⟨b, 0, none⟩)] w fun e w' => ∃ cv C, e = .returned cv ∧ OCl w' w.heap.size cv C ∧ SmallC C ∧ DrawR w b bv bs p 200 w' := by
  have HLO := hid h.low
  have hbl : b < w.heap.size := h.low.1
  have HR0 := hid (h.ext (Ext.alloc w (.cells #[.slice none 0 0, .slice none 0 0] 26)))
  have HG0 := hid (Gr.of_ext (b := b) (Ext.alloc w (.cells #[.slice none 0 0, .slice none 0 0] 26)))
  have Z0 := hid (heap_alloc_new w (.cells #[.slice none 0 0, .slice none 0 0] 26))
  clear h
  go_enter Try.func30, Try.ntmps30
  go_wp2_with (first
    | (go_at_call 31; have hq := HL4.out; refine (LC.pick hq (by omega) _ (by omega)).mono ?_; rintro e w5 ⟨n, rfl, hx5, h5, _⟩; have hn16 := pick_lt hx5 (by decide); have HL5 := hid h5; clear h5 hx5 hq)
    | (go_at_call 31; obtain ⟨hg, p', hp', hr⟩ := HT1.out; refine (dPick b bv bs _ _ _ hr (by omega) (by omega)).mono ?_; rintro e w2 ⟨x2, rfl, hx2, hg2, hr2⟩; have HT2 := hid (HT1.out.more hg2 hr2 hp'); have HI2 := hid (RI.same HI1.out (hg2.same hr _ (by rintro t rfl; decide))); have Z2 := hid (hg2.obj Z1.out (by omega)); clear hg hp' hr hg2 hr2 hx2)
    | (go_at_call 56; refine (dRoom b bv bs p _ HR0.out (by omega)).mono ?_; rintro e w1 ⟨v1, xs1, rfl, hO1, hl1, hb1, hT1⟩; have HI1 := hid hO1.read; obtain ⟨A1, c1, rfl, _, _⟩ := hO1.form; have Z1 := hid (hT1.1.obj Z0.out (by omega)); have HT1 : Hid (DrawR w b bv bs p (0 + 6) w1) := hid (DrawR.then HG0.out (by omega) hT1); clear hO1 hb1 hT1 hl1)
    | (go_at_call 55; refine (sClusterNew _ xs1 _ _ HI2.out).mono ?_; rintro e w3 ⟨cv, rfl, hO3, hE3⟩; obtain ⟨R, hR, hF⟩ : ∃ R, R = newC xs1 (wrap64 (1 + (x2 : Int))) ∧ Few R.1 := ⟨_, rfl, few_new _ _⟩; rw [← hR] at hO3 ⊢; clear hR; obtain ⟨A3, c3, B3, d3, rfl⟩ := hO3.form; have HF0 := hid hF; have HL4 : Hid (LC w b bv bs p 7 w3.heap.size (w3.alloc (.cells #[.slice A3 R.1.room.length c3, .slice B3 R.1.units.length d3] 26)) (.slice A3 R.1.room.length c3) (.slice B3 R.1.units.length d3) R.1) := hid ⟨HLO.out, obj_lt (hE3.obj Z2.out), heap_alloc_new _ _, (Ext.alloc _ _).obj (hE3.obj Z2.out), (hO3.low HT2.out.1.size).ext (Ext.alloc _ _), (HT2.out.ext hE3).ext (Ext.alloc _ _)⟩; obtain ⟨y0, y1, y0f, y1f, k1, k1f, _, _⟩ := box2 (heap_alloc_new w3 (.cells #[.slice none 0 0, .slice none 0 0] 26)) (.slice A3 R.1.room.length c3) (.slice B3 R.1.units.length d3); clear hF hO3 hE3))
  obtain ⟨H, hH⟩ : ∃ H, H = w3.heap.size := ⟨_, rfl⟩
  rw [← hH] at HL5 ⊢
  clear hH HL4
  go_loopw [6] (fun i wr => ∃ (k : Nat) (Ar : Option Addr) (cr : Nat) (Au : Option Addr) (cu : Nat) (C : ClusD), k ≤ n ∧ i = .int .i64 k ∧ Hid (LC w b bv bs p (8 + 9 * k) H wr (.slice Ar C.room.length cr) (.slice Au C.units.length cu) C ∧ Few C)) (fun i _ => n - (intOf i).toNat)
  case atStart => exact ⟨0, _, _, _, _, _, Nat.zero_le _, rfl, hid ⟨HL5.out, HF0.out⟩⟩
  case round =>
    obtain ⟨k, Ar, cr, Au, cu, C, hk, rfl, HH⟩ := hrel
    have HL6 := hid HH.out.1
    have HF := hid HH.out.2
    clear HH
    by_cases hlt : k < n
    · have i1 : (k : Int) < (n : Int) := by omega
      go_wp2_with (go_at_call 31; refine (LC.pick HL6.out (by omega) _ (by omega)).mono ?_; rintro e w7 ⟨x7, rfl, hx7, h7, _⟩; have HL7 := hid h7; clear h7 hx7)
      · refine WG.start (fun w' => w'.cell? ⟨H, 0, none⟩ = some (.slice Ar C.room.length cr) ∧ w'.cell? ⟨H, 1, none⟩ = some (.slice Au C.units.length cu)) [6,7,8] (by kernel_rfl) (by exact HL7.out.drew.cells) (fun hHeld => ?_)
        (refine WG.take (i := 0) (v := ?_) rfl (by kernel_rfl) (by kernel_rfl) (by kernel_rfl) (by kernel_rfl) (fun _ _ _ h => h) (Or.inl ⟨by rfl, ?_⟩) (by assumption) ?_; rotate_left; (intro w hSw; (try dsimp only at hSw); go_split_ands; go_simp; (try with_reducible rfl)); (try simp only [Act.put, List.setIfInBounds_toArray, List.set_cons_zero, List.set_cons_succ]))
        (refine WG.take (i := 1) (v := ?_) rfl (by kernel_rfl) (by kernel_rfl) (by kernel_rfl) (by kernel_rfl) (fun _ _ _ h => h) (Or.inl ⟨by rfl, ?_⟩) (by assumption) ?_; rotate_left; (intro w hSw; (try dsimp only at hSw); go_split_ands; go_simp; (try with_reducible rfl)); (try simp only [Act.put, List.setIfInBounds_toArray, List.set_cons_zero, List.set_cons_succ]))
        refine WG.one (i := 2) rfl (by kernel_rfl) (fun K hK => ?_)
        go_simp; refine (LC.pick HL7.out.drew (by omega) _ (by omega)).mono ?_; rintro e wxa ⟨xa, rfl, xah, xal, xas⟩; have xalt := pick_lt xah (by decide); have HL8 := hid xal; have HSxa := hid xas; clear xal xas xah; (try dsimp only)
        refine hK.out _ _ (by exact HL8.out.cells) (fun hHeld => ?_)
        clear hK K
        (try simp only [Act.put, List.setIfInBounds_toArray, List.set_cons_zero, List.set_cons_succ])
        (refine WG.take (i := 3) (v := ?_) rfl (by kernel_rfl) (by kernel_rfl) (by kernel_rfl) (by kernel_rfl) (fun _ _ _ h => h) (Or.inl ⟨by rfl, ?_⟩) (by assumption) ?_; rotate_left; (intro w hSw; (try dsimp only at hSw); go_split_ands; go_simp; (try with_reducible rfl)); (try simp only [Act.put, List.setIfInBounds_toArray, List.set_cons_zero, List.set_cons_succ]))
        refine WG.one (i := 4) rfl (by kernel_rfl) (fun K hK => ?_)
        go_simp; refine (sClusterDepart _ C _ _ HL8.out.own.read HF.out.small.len HF.out.small.flat).mono ?_; intro e9 w9 hr9; obtain ⟨A9, c9, B9, d9, R9, rfl, hO9, hL9, hF9⟩ := HL8.out.retF hr9 (few_depart _ _); have HO9 := hid hO9; have HL9 := hid hL9; have HF9 := hid hF9; clear hr9 hO9 hL9 hF9; (try dsimp only)
        refine hK.out _ _ (by exact HL9.out.cells) (fun hHeld => ?_)
        clear hK K
        (try simp only [Act.put, List.setIfInBounds_toArray, List.set_cons_zero, List.set_cons_succ])
        (refine WG.take (i := 5) (v := ?_) rfl (by kernel_rfl) (by kernel_rfl) (by kernel_rfl) (by kernel_rfl) (fun _ _ _ h => h) (Or.inl ⟨by rfl, ?_⟩) (by assumption) ?_; rotate_left; (intro w hSw; (try dsimp only at hSw); go_split_ands; go_simp; (try with_reducible rfl)); (try simp only [Act.put, List.setIfInBounds_toArray, List.set_cons_zero, List.set_cons_succ]))
        (refine WG.takeP (i := 6) (v := ?_) rfl (by kernel_rfl) (by kernel_rfl) (by kernel_rfl) (by kernel_rfl) (fun _ _ _ h => h) (Or.inl ⟨by rfl, ?_⟩) ?_; rotate_left; (intro w hSw; clear hSw; go_simp; (try with_reducible rfl)); (try simp only [Act.put, List.setIfInBounds_toArray, List.set_cons_zero, List.set_cons_succ]))
        (refine WG.takeP (i := 7) (v := ?_) rfl (by kernel_rfl) (by kernel_rfl) (by kernel_rfl) (by kernel_rfl) (fun _ _ _ h => h) (Or.inl ⟨by rfl, ?_⟩) ?_; rotate_left; (intro w hSw; clear hSw; go_simp; (try with_reducible rfl)); (try simp only [Act.put, List.setIfInBounds_toArray, List.set_cons_zero, List.set_cons_succ]))
        obtain ⟨y0, y1, y0f, y1f, k1, k1f, hkk, _⟩ := box2 HL9.out.box (.slice A9 R9.1.room.length c9) (.slice B9 R9.1.units.length d9)
        clear hkk
        refine WG.last (i := 8) rfl (by kernel_rfl) (by kernel_rfl) (fun K hK => ?_)
        go_simp
        refine hK.out _ _ ?_
        clear hK K
        (try simp only [Act.put, List.setIfInBounds_toArray, List.set_cons_zero, List.set_cons_succ])
        refine WG.done (by kernel_rfl) ?_
        go_wp2
        go_roundw
        case rel => exact ⟨k + 1, A9, c9, B9, d9, R9.1, by omega, by go_num, hid ⟨LC.mono (K' := 8 + 9 * (k + 1)) (HL9.out.set HO9.out) (by omega), HF9.out⟩⟩
        case measure => simp [intOf]; omega
      · refine WG.start (fun w' => w'.cell? ⟨H, 0, none⟩ = some (.slice Ar C.room.length cr) ∧ w'.cell? ⟨H, 1, none⟩ = some (.slice Au C.units.length cu)) [8,9,10] (by kernel_rfl) (by exact HL7.out.drew.cells) (fun hHeld => ?_)
        (refine WG.take (i := 0) (v := ?_) rfl (by kernel_rfl) (by kernel_rfl) (by kernel_rfl) (by kernel_rfl) (fun _ _ _ h => h) (Or.inl ⟨by rfl, ?_⟩) (by assumption) ?_; rotate_left; (intro w hSw; (try dsimp only at hSw); go_split_ands; go_simp; (try with_reducible rfl)); (try simp only [Act.put, List.setIfInBounds_toArray, List.set_cons_zero, List.set_cons_succ]))
        (refine WG.take (i := 1) (v := ?_) rfl (by kernel_rfl) (by kernel_rfl) (by kernel_rfl) (by kernel_rfl) (fun _ _ _ h => h) (Or.inl ⟨by rfl, ?_⟩) (by assumption) ?_; rotate_left; (intro w hSw; (try dsimp only at hSw); go_split_ands; go_simp; (try with_reducible rfl)); (try simp only [Act.put, List.setIfInBounds_toArray, List.set_cons_zero, List.set_cons_succ]))
        (refine WG.take (i := 3) (v := ?_) rfl (by kernel_rfl) (by kernel_rfl) (by kernel_rfl) (by kernel_rfl) (fun _ _ _ h => h) (Or.inl ⟨by rfl, ?_⟩) (by assumption) ?_; rotate_left; (intro w hSw; (try dsimp only at hSw); go_split_ands; go_simp; (try with_reducible rfl)); (try simp only [Act.put, List.setIfInBounds_toArray, List.set_cons_zero, List.set_cons_succ]))
        refine WG.one (i := 2) rfl (by kernel_rfl) (fun K hK => ?_)
        go_simp; refine (LC.pick HL7.out.drew (by omega) _ (by omega)).mono ?_; rintro e wxa ⟨xa, rfl, xah, xal, xas⟩; have xalt := pick_lt xah (by decide); have HL8 := hid xal; have HSxa := hid xas; clear xal xas xah; (try dsimp only)
        refine hK.out _ _ (by exact HL8.out.cells) (fun hHeld => ?_)
        clear hK K
        (try simp only [Act.put, List.setIfInBounds_toArray, List.set_cons_zero, List.set_cons_succ])
        refine WG.one (i := 4) rfl (by kernel_rfl) (fun K hK => ?_)
        go_simp; refine (LC.pick HL8.out (by omega) _ (by omega)).mono ?_; rintro e wxb ⟨xb, rfl, xbh, xbl, xbs⟩; have xblt := pick_lt xbh (by decide); have HL8b := hid xbl; have HSxb := hid xbs; clear xbl xbs xbh; (try dsimp only)
        refine hK.out _ _ (by exact HL8b.out.cells) (fun hHeld => ?_)
        clear hK K
        (try simp only [Act.put, List.setIfInBounds_toArray, List.set_cons_zero, List.set_cons_succ])
        (refine WG.take (i := 5) (v := ?_) rfl (by kernel_rfl) (by kernel_rfl) (by kernel_rfl) (by kernel_rfl) (fun _ _ _ h => h) (Or.inl ⟨by rfl, ?_⟩) (by assumption) ?_; rotate_left; (intro w hSw; (try dsimp only at hSw); go_split_ands; go_simp; (try with_reducible rfl)); (try simp only [Act.put, List.setIfInBounds_toArray, List.set_cons_zero, List.set_cons_succ]))
        refine WG.one (i := 6) rfl (by kernel_rfl) (fun K hK => ?_)
        go_simp; refine (sClusterOpen _ C _ _ _ HL8b.out.own.read HF.out.small.len HF.out.small.flat).mono ?_; intro e9 w9 hr9; obtain ⟨A9, c9, B9, d9, R9, rfl, hO9, hL9, hF9⟩ := HL8b.out.retF hr9 (few_open _ _ _); have HO9 := hid hO9; have HL9 := hid hL9; have HF9 := hid hF9; clear hr9 hO9 hL9 hF9; (try dsimp only)
        refine hK.out _ _ (by exact HL9.out.cells) (fun hHeld => ?_)
        clear hK K
        (try simp only [Act.put, List.setIfInBounds_toArray, List.set_cons_zero, List.set_cons_succ])
        (refine WG.take (i := 7) (v := ?_) rfl (by kernel_rfl) (by kernel_rfl) (by kernel_rfl) (by kernel_rfl) (fun _ _ _ h => h) (Or.inl ⟨by rfl, ?_⟩) (by assumption) ?_; rotate_left; (intro w hSw; (try dsimp only at hSw); go_split_ands; go_simp; (try with_reducible rfl)); (try simp only [Act.put, List.setIfInBounds_toArray, List.set_cons_zero, List.set_cons_succ]))
        (refine WG.takeP (i := 8) (v := ?_) rfl (by kernel_rfl) (by kernel_rfl) (by kernel_rfl) (by kernel_rfl) (fun _ _ _ h => h) (Or.inl ⟨by rfl, ?_⟩) ?_; rotate_left; (intro w hSw; clear hSw; go_simp; (try with_reducible rfl)); (try simp only [Act.put, List.setIfInBounds_toArray, List.set_cons_zero, List.set_cons_succ]))
        (refine WG.takeP (i := 9) (v := ?_) rfl (by kernel_rfl) (by kernel_rfl) (by kernel_rfl) (by kernel_rfl) (fun _ _ _ h => h) (Or.inl ⟨by rfl, ?_⟩) ?_; rotate_left; (intro w hSw; clear hSw; go_simp; (try with_reducible rfl)); (try simp only [Act.put, List.setIfInBounds_toArray, List.set_cons_zero, List.set_cons_succ]))
        obtain ⟨y0, y1, y0f, y1f, k1, k1f, hkk, _⟩ := box2 HL9.out.box (.slice A9 R9.1.room.length c9) (.slice B9 R9.1.units.length d9)
        clear hkk
        refine WG.last (i := 10) rfl (by kernel_rfl) (by kernel_rfl) (fun K hK => ?_)
        go_simp
        refine hK.out _ _ ?_
        clear hK K
        (try simp only [Act.put, List.setIfInBounds_toArray, List.set_cons_zero, List.set_cons_succ])
        refine WG.done (by kernel_rfl) ?_
        go_wp2
        go_roundw
        case rel => exact ⟨k + 1, A9, c9, B9, d9, R9.1, by omega, by go_num, hid ⟨LC.mono (K' := 8 + 9 * (k + 1)) (HL9.out.set HO9.out) (by omega), HF9.out⟩⟩
        case measure => simp [intOf]; omega
      · refine WG.start (fun w' => w'.cell? ⟨H, 0, none⟩ = some (.slice Ar C.room.length cr) ∧ w'.cell? ⟨H, 1, none⟩ = some (.slice Au C.units.length cu)) [11,12,13] (by kernel_rfl) (by exact HL7.out.drew.cells) (fun hHeld => ?_)
        (refine WG.take (i := 0) (v := ?_) rfl (by kernel_rfl) (by kernel_rfl) (by kernel_rfl) (by kernel_rfl) (fun _ _ _ h => h) (Or.inl ⟨by rfl, ?_⟩) (by assumption) ?_; rotate_left; (intro w hSw; (try dsimp only at hSw); go_split_ands; go_simp; (try with_reducible rfl)); (try simp only [Act.put, List.setIfInBounds_toArray, List.set_cons_zero, List.set_cons_succ]))
        (refine WG.take (i := 1) (v := ?_) rfl (by kernel_rfl) (by kernel_rfl) (by kernel_rfl) (by kernel_rfl) (fun _ _ _ h => h) (Or.inl ⟨by rfl, ?_⟩) (by assumption) ?_; rotate_left; (intro w hSw; (try dsimp only at hSw); go_split_ands; go_simp; (try with_reducible rfl)); (try simp only [Act.put, List.setIfInBounds_toArray, List.set_cons_zero, List.set_cons_succ]))
        (refine WG.take (i := 2) (v := ?_) rfl (by kernel_rfl) (by kernel_rfl) (by kernel_rfl) (by kernel_rfl) (fun _ _ _ h => h) (Or.inl ⟨by rfl, ?_⟩) (by assumption) ?_; rotate_left; (intro w hSw; (try dsimp only at hSw); go_split_ands; go_simp; (try with_reducible rfl)); (try simp only [Act.put, List.setIfInBounds_toArray, List.set_cons_zero, List.set_cons_succ]))
        (refine WG.take (i := 6) (v := ?_) rfl (by kernel_rfl) (by kernel_rfl) (by kernel_rfl) (by kernel_rfl) (fun _ _ _ h => h) (Or.inl ⟨by rfl, ?_⟩) (by assumption) ?_; rotate_left; (intro w hSw; (try dsimp only at hSw); go_split_ands; go_simp; (try with_reducible rfl)); (try simp only [Act.put, List.setIfInBounds_toArray, List.set_cons_zero, List.set_cons_succ]))
        refine WG.one (i := 3) rfl (by kernel_rfl) (fun K hK => ?_)
        go_simp; refine (LC.pick HL7.out.drew (by omega) _ (by omega)).mono ?_; rintro e wxa ⟨xa, rfl, xah, xal, xas⟩; have xalt := pick_lt xah (by decide); have HL8 := hid xal; have HSxa := hid xas; clear xal xas xah; (try dsimp only)
        refine hK.out _ _ (by exact HL8.out.cells) (fun hHeld => ?_)
        clear hK K
        (try simp only [Act.put, List.setIfInBounds_toArray, List.set_cons_zero, List.set_cons_succ])
        (refine WG.take (i := 4) (v := ?_) rfl (by kernel_rfl) (by kernel_rfl) (by kernel_rfl) (by kernel_rfl) (fun _ _ _ h => h) (Or.inl ⟨by rfl, ?_⟩) (by assumption) ?_; rotate_left; (intro w hSw; (try dsimp only at hSw); go_split_ands; go_simp; (try with_reducible rfl)); (try simp only [Act.put, List.setIfInBounds_toArray, List.set_cons_zero, List.set_cons_succ]))
        refine WG.one (i := 5) rfl (by kernel_rfl) (fun K hK => ?_)
        go_simp; refine (LC.task HL8.out (by omega) _).mono ?_; rintro e wt ⟨At, ct, ts, rfl, tO, tlen, tl, _⟩; clear tlen; have HTO := hid tO.read; have HLt := hid tl; clear tO tl; (try dsimp only)
        refine hK.out _ _ (by exact HLt.out.cells) (fun hHeld => ?_)
        clear hK K
        (try simp only [Act.put, List.setIfInBounds_toArray, List.set_cons_zero, List.set_cons_succ])
        refine WG.one (i := 7) rfl (by kernel_rfl) (fun K hK => ?_)
        go_simp; refine (LC.pick HLt.out (by omega) _ (by omega)).mono ?_; rintro e wxb ⟨xb, rfl, xbh, xbl, xbs⟩; have xblt := pick_lt xbh (by decide); have HL8b := hid xbl; have HSxb := hid xbs; clear xbl xbs xbh; (try dsimp only)
        refine hK.out _ _ (by exact HL8b.out.cells) (fun hHeld => ?_)
        clear hK K
        (try simp only [Act.put, List.setIfInBounds_toArray, List.set_cons_zero, List.set_cons_succ])
        (refine WG.take (i := 8) (v := ?_) rfl (by kernel_rfl) (by kernel_rfl) (by kernel_rfl) (by kernel_rfl) (fun _ _ _ h => h) (Or.inl ⟨by rfl, ?_⟩) (by assumption) ?_; rotate_left; (intro w hSw; (try dsimp only at hSw); go_split_ands; go_simp; (try with_reducible rfl)); (try simp only [Act.put, List.setIfInBounds_toArray, List.set_cons_zero, List.set_cons_succ]))
        refine WG.one (i := 9) rfl (by kernel_rfl) (fun K hK => ?_)
        go_simp; refine (sClusterArrive _ _ C ⟨_, ts⟩ _ _ HL8b.out.own.read ⟨_, rfl, RI.same HTO.out (HSxb.out.mono (by rintro t rfl; decide))⟩ HF.out.small.len HF.out.small.flat).mono ?_; intro e9 w9 hr9; obtain ⟨A9, c9, B9, d9, R9, rfl, hO9, hL9, hF9⟩ := HL8b.out.retF hr9 (few_arrive _ _ _); have HO9 := hid hO9; have HL9 := hid hL9; have HF9 := hid hF9; clear hr9 hO9 hL9 hF9; (try dsimp only)
        refine hK.out _ _ (by exact HL9.out.cells) (fun hHeld => ?_)
        clear hK K
        (try simp only [Act.put, List.setIfInBounds_toArray, List.set_cons_zero, List.set_cons_succ])
        (refine WG.take (i := 10) (v := ?_) rfl (by kernel_rfl) (by kernel_rfl) (by kernel_rfl) (by kernel_rfl) (fun _ _ _ h => h) (Or.inl ⟨by rfl, ?_⟩) (by assumption) ?_; rotate_left; (intro w hSw; (try dsimp only at hSw); go_split_ands; go_simp; (try with_reducible rfl)); (try simp only [Act.put, List.setIfInBounds_toArray, List.set_cons_zero, List.set_cons_succ]))
        (refine WG.takeP (i := 11) (v := ?_) rfl (by kernel_rfl) (by kernel_rfl) (by kernel_rfl) (by kernel_rfl) (fun _ _ _ h => h) (Or.inl ⟨by rfl, ?_⟩) ?_; rotate_left; (intro w hSw; clear hSw; go_simp; (try with_reducible rfl)); (try simp only [Act.put, List.setIfInBounds_toArray, List.set_cons_zero, List.set_cons_succ]))
        (refine WG.takeP (i := 12) (v := ?_) rfl (by kernel_rfl) (by kernel_rfl) (by kernel_rfl) (by kernel_rfl) (fun _ _ _ h => h) (Or.inl ⟨by rfl, ?_⟩) ?_; rotate_left; (intro w hSw; clear hSw; go_simp; (try with_reducible rfl)); (try simp only [Act.put, List.setIfInBounds_toArray, List.set_cons_zero, List.set_cons_succ]))
        obtain ⟨y0, y1, y0f, y1f, k1, k1f, hkk, _⟩ := box2 HL9.out.box (.slice A9 R9.1.room.length c9) (.slice B9 R9.1.units.length d9)
        clear hkk
        refine WG.last (i := 13) rfl (by kernel_rfl) (by kernel_rfl) (fun K hK => ?_)
        go_simp
        refine hK.out _ _ ?_
        clear hK K
        (try simp only [Act.put, List.setIfInBounds_toArray, List.set_cons_zero, List.set_cons_succ])
        refine WG.done (by kernel_rfl) ?_
        go_wp2
        go_roundw
        case rel => exact ⟨k + 1, A9, c9, B9, d9, R9.1, by omega, by go_num, hid ⟨LC.mono (K' := 8 + 9 * (k + 1)) (HL9.out.set HO9.out) (by omega), HF9.out⟩⟩
        case measure => simp [intOf]; omega
    · have hk' : k = n := by omega
      have i1 : ¬ (k : Int) < (n : Int) := by omega
      by_cases hu : 0 < C.units.length
      · have iu : (0 : Int) < (C.units.length : Int) := by omega
        obtain ⟨gu, ps0, rfl, hlen0, hri, hjunk⟩ := HL6.out.units hu
        obtain ⟨A', c', hv, hcr, hcc', hx⟩ := hri
        injection hv with e1 e2 e3
        subst e1 e3
        have hrl := HF.out.roomed hu
        obtain ⟨ba, oa, cur0, fr0, rfl, hjunk2⟩ := hx (by omega)
        clear hjunk hjunk2 hx e2 hcc' hlen0
        obtain ⟨c0, c1⟩ := HL6.out.cells
        have hul := HF.out.small.units
        have hcr1 : 1 ≤ cr := by omega
        have hcr2 : 1 ≤ C.room.length := by omega
        go_wp2_with (first
          | (go_at_call 31; have hq := HL7.out; refine (LC.pick hq (by omega) _ (by omega)).mono ?_; rintro e w8 ⟨x8, rfl, hx8, h8, _⟩; clear c0 c1; have HL8 := hid h8; obtain ⟨gu2, ps, he, hpsl, hRR, hOU, hPS, hND, hgu⟩ := HL8.out.units hu; injection he with he; injection he with he _ _; subst he; obtain ⟨u, huk⟩ : ∃ u, C.units[k7]? = some u := ⟨_, List.getElem?_eq_getElem hk7n⟩; obtain ⟨tv, hpk⟩ := at_fst hPS huk; have HPK := hid hpk; have HUK := hid huk; have HRR := hid hRR; have HOU := hid hOU; have HPS := hid hPS; have HND := hid hND; have HCC := hid h8.cells; obtain ⟨c0, c1⟩ := HCC.out; have HL20 : Hid (LC w b bv bs p (8 + 9 * k + 1 + 1) H (w8.setCell ⟨H, 0, none⟩ (.slice (some ⟨ba, oa + 1, none⟩) (C.room.length - 1) (cr - 1))) (.slice (some ⟨ba, oa + 1, none⟩) (C.room.length - 1) (cr - 1)) (.slice (some ⟨gu, 0, none⟩) C.units.length cu) ⟨C.room.drop 1, C.units⟩) := hid (h8.set0 ⟨_, _, ps, rfl, RI.tail hRR rfl hcr2, hOU, hPS, hND⟩); have fH := obj_frozen h8.box 0; obtain ⟨e0, e1, y0, y1, y0f, y1f, k1, k1f, r0, r1, hsm⟩ := res2 h8.zero h8.box; have HSM8 := hid hsm; clear hsm; obtain ⟨e0', e1', y0', y1', y0f', y1f', k1', k1f', r0', r1', hsm⟩ := res2 HL20.out.zero HL20.out.box; have HSM20 := hid hsm; clear hsm; clear h8 hx8 hq hpk huk hRR hOU hPS hND hpsl)
          | (go_at_call 31; refine (LC.pick HL6.out (by omega) _ (by omega)).mono ?_; rintro e w7 ⟨k7, rfl, hx7, h7, _⟩; have hk7l := pick_lt hx7 iu; have hk7n : k7 < C.units.length := (by omega); have HL7 := hid h7; obtain ⟨c0, c1⟩ := h7.cells; clear h7 hx7))
        · obtain ⟨cx, fx⟩ := OUV.at_ HOU.out HPK.out
          have KS := hid (And.intro HL8.out.cells.2 cx)
          refine WG.start (fun w' => w'.cell? ⟨H, 1, none⟩ = some (.slice (some ⟨gu, 0, none⟩) C.units.length cu) ∧ w'.cell? ⟨gu, k7 * 2, none⟩ = some (.bool u.opened)) [12] (by kernel_rfl) (by exact KS.out) (fun hHeld => ?_)
          (refine WG.take (i := 0) (v := ?_) rfl (by kernel_rfl) (by kernel_rfl) (by kernel_rfl) (by kernel_rfl) (fun _ _ _ h => h) (Or.inl ⟨by rfl, ?_⟩) (by assumption) ?_; rotate_left; (intro w hSw; (try dsimp only at hSw); go_split_ands; go_simp; (try with_reducible rfl)); (try simp only [Act.put, List.setIfInBounds_toArray, List.set_cons_zero, List.set_cons_succ]))
          (refine WG.take (i := 1) (v := ?_) rfl (by kernel_rfl) (by kernel_rfl) (by kernel_rfl) (by kernel_rfl) (fun _ _ _ h => h) (Or.inl ⟨by rfl, ?_⟩) (by assumption) ?_; rotate_left; (intro w hSw; (try dsimp only at hSw); go_split_ands; go_simp; (try with_reducible rfl)); (try simp only [Act.put, List.setIfInBounds_toArray, List.set_cons_zero, List.set_cons_succ]))
          (refine WG.take (i := 2) (v := ?_) rfl (by kernel_rfl) (by kernel_rfl) (by kernel_rfl) (by kernel_rfl) (fun _ _ _ h => h) (Or.inl ⟨by rfl, ?_⟩) (by assumption) ?_; rotate_left; (intro w hSw; (try dsimp only at hSw); go_split_ands; go_simp; (try with_reducible rfl)); (try simp only [Act.put, List.setIfInBounds_toArray, List.set_cons_zero, List.set_cons_succ]))
          (refine WG.take (i := 3) (v := ?_) rfl (by kernel_rfl) (by kernel_rfl) (by kernel_rfl) (by kernel_rfl) (fun _ _ _ h => h) (Or.inl ⟨by rfl, ?_⟩) (by assumption) ?_; rotate_left; (intro w hSw; (try dsimp only at hSw); go_split_ands; go_simp; (try with_reducible rfl)); (try simp only [Act.put, List.setIfInBounds_toArray, List.set_cons_zero, List.set_cons_succ]))
          (refine WG.take (i := 4) (v := ?_) rfl (by kernel_rfl) (by kernel_rfl) (by kernel_rfl) (by kernel_rfl) (fun _ _ _ h => h) (Or.inl ⟨by rfl, ?_⟩) (by assumption) ?_; rotate_left; (intro w hSw; (try dsimp only at hSw); go_split_ands; go_simp; (try with_reducible rfl)); (try simp only [Act.put, List.setIfInBounds_toArray, List.set_cons_zero, List.set_cons_succ]))
          (refine WG.take (i := 5) (v := ?_) rfl (by kernel_rfl) (by kernel_rfl) (by kernel_rfl) (by kernel_rfl) (fun _ _ _ h => h) (Or.inl ⟨by rfl, ?_⟩) (by assumption) ?_; rotate_left; (intro w hSw; (try dsimp only at hSw); go_split_ands; go_simp; (try with_reducible rfl)); (try simp only [Act.put, List.setIfInBounds_toArray, List.set_cons_zero, List.set_cons_succ]))
          (refine WG.take (i := 6) (v := ?_) rfl (by kernel_rfl) (by kernel_rfl) (by kernel_rfl) (by kernel_rfl) (fun _ _ _ h => h) (Or.inl ⟨by rfl, ?_⟩) (by assumption) ?_; rotate_left; (intro w hSw; (try dsimp only at hSw); go_split_ands; go_simp; (try with_reducible rfl)); (try simp only [Act.put, List.setIfInBounds_toArray, List.set_cons_zero, List.set_cons_succ]))
          (refine WG.take (i := 7) (v := ?_) rfl (by kernel_rfl) (by kernel_rfl) (by kernel_rfl) (by kernel_rfl) (fun _ _ _ h => h) (Or.inl ⟨by rfl, ?_⟩) (by assumption) ?_; rotate_left; (intro w hSw; (try dsimp only at hSw); go_split_ands; go_simp; (try with_reducible rfl)); (try simp only [Act.put, List.setIfInBounds_toArray, List.set_cons_zero, List.set_cons_succ]))
          (refine WG.take (i := 8) (v := ?_) rfl (by kernel_rfl) (by kernel_rfl) (by kernel_rfl) (by kernel_rfl) (fun _ _ _ h => h) (Or.inl ⟨by rfl, ?_⟩) (by assumption) ?_; rotate_left; (intro w hSw; (try dsimp only at hSw); go_split_ands; go_simp; (try with_reducible rfl)); (try simp only [Act.put, List.setIfInBounds_toArray, List.set_cons_zero, List.set_cons_succ]))
          (refine WG.take (i := 9) (v := ?_) rfl (by kernel_rfl) (by kernel_rfl) (by kernel_rfl) (by kernel_rfl) (fun _ _ _ h => h) (Or.inl ⟨by rfl, ?_⟩) (by assumption) ?_; rotate_left; (intro w hSw; (try dsimp only at hSw); go_split_ands; go_simp; (try with_reducible rfl)); (try simp only [Act.put, List.setIfInBounds_toArray, List.set_cons_zero, List.set_cons_succ]))
          (refine WG.take (i := 10) (v := ?_) rfl (by kernel_rfl) (by kernel_rfl) (by kernel_rfl) (by kernel_rfl) (fun _ _ _ h => h) (Or.inl ⟨by rfl, ?_⟩) (by assumption) ?_; rotate_left; (intro w hSw; (try dsimp only at hSw); go_split_ands; go_simp; (try with_reducible rfl)); (try simp only [Act.put, List.setIfInBounds_toArray, List.set_cons_zero, List.set_cons_succ]))
          (refine WG.take (i := 11) (v := ?_) rfl (by kernel_rfl) (by kernel_rfl) (by kernel_rfl) (by kernel_rfl) (fun _ _ _ h => h) (Or.inl ⟨by rfl, ?_⟩) (by assumption) ?_; rotate_left; (intro w hSw; (try dsimp only at hSw); go_split_ands; go_simp; (try with_reducible rfl)); (try simp only [Act.put, List.setIfInBounds_toArray, List.set_cons_zero, List.set_cons_succ]))
          refine WG.last (i := 12) rfl (by kernel_rfl) (by kernel_rfl) (fun K hK => ?_)
          go_simp
          refine hK.out _ _ ?_
          clear hK K
          (try simp only [Act.put, List.setIfInBounds_toArray, List.set_cons_zero, List.set_cons_succ])
          refine WG.done (by kernel_rfl) ?_
          have hset := OUV.set0 HOU.out HPK.out (!u.opened)
          have HLF := hid (LC.turned (C2 := ⟨C.room, C.units.set k7 ⟨!u.opened, u.tasks⟩⟩) HL8.out (hset.2.mono (by rintro t rfl; decide)) (HL8.out.drw.stored hgu HLO.out.1 HLO.out.2 _) ⟨_, _, ps.set k7 (⟨!u.opened, u.tasks⟩, tv), rfl, RI.same HRR.out (hset.2.mono (by rintro t rfl; decide)), hset.1, by rw [List.map_set, HPS.out], by rw [blocksOf_set HPK.out]; exact HND.out⟩)
          have HSF : Hid (SmallC ⟨C.room, C.units.set k7 ⟨!u.opened, u.tasks⟩⟩) := hid (HF.out.small.set _ (HF.out.small.tasks u (List.mem_of_getElem? HUK.out)))
          clear hset cx fx
          obtain ⟨e0, e1, y0, y1, y0f, y1f, k1, k1f, r0, r1, hsm⟩ := res2 HLF.out.zero HLF.out.box
          have HSM := hid hsm
          clear hsm
          go_wp2
          refine bodyPost_ret (v := .agg #[.slice (some ⟨ba, oa, none⟩) C.room.length cr, .slice (some ⟨gu, 0, none⟩) C.units.length cu]) (by simp [results, Try.results30, go_sem, r0, r1]) rfl ?_
          first | exact ⟨_, _, rfl, OCl.ext (HLF.out.own.same (HSM.out _ notClu)) (Below.drew (Below.refl _ _)), HSF.out, (DrawR.ext ((HLF.out.drw.stored (Nat.le_refl _) HLO.out.1 HLO.out.2 _).stored (Nat.le_refl _) HLO.out.1 HLO.out.2 _) (Below.drew (Below.refl _ _))).mono (by omega)⟩ | exact ⟨_, rfl, _, OCl.ext (HLF.out.own.same (HSM.out _ notClu)) (Below.drew (Below.refl _ _)), HSF.out, (DrawR.ext ((HLF.out.drw.stored (Nat.le_refl _) HLO.out.1 HLO.out.2 _).stored (Nat.le_refl _) HLO.out.1 HLO.out.2 _) (Below.drew (Below.refl _ _))).mono (by omega)⟩
        · obtain ⟨cx, fx, htv, _⟩ := OUV.at1 HOU.out HPK.out
          obtain ⟨At, ct, rfl, _, _⟩ := htv.form
          have htvl := htv.lt
          have HD1 := hid cx
          have HCL := hid HL8.out.cells.2
          obtain ⟨curu, hcuru⟩ := Own.obj HOU.out
          have HU8 := hid hcuru
          have KS : Hid (∀ w', SameT (fun t => t = 26 ∨ t = 44) w8 w' → w'.cell? ⟨H, 1, none⟩ = some (.slice (some ⟨gu, 0, none⟩) C.units.length cu) ∧ w'.cell? ⟨gu, k7 * 2 + 1, none⟩ = some (.slice At u.tasks.length ct)) :=
            hid fun w' hw => ⟨obj_cell (hw _ _ _ _ (.inl rfl) HL8.out.box) (i := 1) rfl, (World.cell?_of_block (w := w8) (a := ⟨gu, k7 * 2 + 1, none⟩) ((hw _ _ _ _ (.inr rfl) HU8.out).trans HU8.out.symm)).trans HD1.out⟩
          clear hcuru htv htvl cx fx
          obtain ⟨i0_task, hi0_task, hz0_task, hz1_task, hz2_task⟩ := info_parts info_task
          refine WG.start (fun w' => w'.cell? ⟨H, 1, none⟩ = some (.slice (some ⟨gu, 0, none⟩) C.units.length cu) ∧ w'.cell? ⟨gu, k7 * 2 + 1, none⟩ = some (.slice At u.tasks.length ct)) [18] (by kernel_rfl) (by exact KS.out _ (SameT.refl _ _)) (fun hHeld => ?_)
          (refine WG.take (i := 0) (v := ?_) rfl (by kernel_rfl) (by kernel_rfl) (by kernel_rfl) (by kernel_rfl) (fun _ _ _ h => h) (Or.inl ⟨by rfl, ?_⟩) (by assumption) ?_; rotate_left; (intro w hSw; (try dsimp only at hSw); go_split_ands; go_simp; (try with_reducible rfl)); (try simp only [Act.put, List.setIfInBounds_toArray, List.set_cons_zero, List.set_cons_succ]))
          (refine WG.take (i := 1) (v := ?_) rfl (by kernel_rfl) (by kernel_rfl) (by kernel_rfl) (by kernel_rfl) (fun _ _ _ h => h) (Or.inl ⟨by rfl, ?_⟩) (by assumption) ?_; rotate_left; (intro w hSw; (try dsimp only at hSw); go_split_ands; go_simp; (try with_reducible rfl)); (try simp only [Act.put, List.setIfInBounds_toArray, List.set_cons_zero, List.set_cons_succ]))
          (refine WG.take (i := 2) (v := ?_) rfl (by kernel_rfl) (by kernel_rfl) (by kernel_rfl) (by kernel_rfl) (fun _ _ _ h => h) (Or.inl ⟨by rfl, ?_⟩) (by assumption) ?_; rotate_left; (intro w hSw; (try dsimp only at hSw); go_split_ands; go_simp; (try with_reducible rfl)); (try simp only [Act.put, List.setIfInBounds_toArray, List.set_cons_zero, List.set_cons_succ]))
          (refine WG.take (i := 3) (v := ?_) rfl (by kernel_rfl) (by kernel_rfl) (by kernel_rfl) (by kernel_rfl) (fun _ _ _ h => h) (Or.inl ⟨by rfl, ?_⟩) (by assumption) ?_; rotate_left; (intro w hSw; (try dsimp only at hSw); go_split_ands; go_simp; (try with_reducible rfl)); (try simp only [Act.put, List.setIfInBounds_toArray, List.set_cons_zero, List.set_cons_succ]))
          (refine WG.take (i := 4) (v := ?_) rfl (by kernel_rfl) (by kernel_rfl) (by kernel_rfl) (by kernel_rfl) (fun _ _ _ h => h) (Or.inl ⟨by rfl, ?_⟩) (by assumption) ?_; rotate_left; (intro w hSw; (try dsimp only at hSw); go_split_ands; go_simp; (try with_reducible rfl)); (try simp only [Act.put, List.setIfInBounds_toArray, List.set_cons_zero, List.set_cons_succ]))
          (refine WG.take (i := 5) (v := ?_) rfl (by kernel_rfl) (by kernel_rfl) (by kernel_rfl) (by kernel_rfl) (fun _ _ _ h => h) (Or.inl ⟨by rfl, ?_⟩) (by assumption) ?_; rotate_left; (intro w hSw; (try dsimp only at hSw); go_split_ands; go_simp; (try with_reducible rfl)); (try simp only [Act.put, List.setIfInBounds_toArray, List.set_cons_zero, List.set_cons_succ]))
          (refine WG.take (i := 6) (v := ?_) rfl (by kernel_rfl) (by kernel_rfl) (by kernel_rfl) (by kernel_rfl) (fun _ _ _ h => h) (Or.inl ⟨by rfl, ?_⟩) (by assumption) ?_; rotate_left; (intro w hSw; (try dsimp only at hSw); go_split_ands; go_simp; (try with_reducible rfl)); (try simp only [Act.put, List.setIfInBounds_toArray, List.set_cons_zero, List.set_cons_succ]))
          (refine WG.take (i := 7) (v := ?_) rfl (by kernel_rfl) (by kernel_rfl) (by kernel_rfl) (by kernel_rfl) (fun _ _ _ h => h) (Or.inl ⟨by rfl, ?_⟩) (by assumption) ?_; rotate_left; (intro w hSw; (try dsimp only at hSw); go_split_ands; go_simp; (try with_reducible rfl)); (try simp only [Act.put, List.setIfInBounds_toArray, List.set_cons_zero, List.set_cons_succ]))
          (refine WG.take (i := 8) (v := ?_) rfl (by kernel_rfl) (by kernel_rfl) (by kernel_rfl) (by kernel_rfl) (fun _ _ _ h => h) (Or.inl ⟨by rfl, ?_⟩) (by assumption) ?_; rotate_left; (intro w hSw; (try dsimp only at hSw); go_split_ands; go_simp; (try with_reducible rfl)); (try simp only [Act.put, List.setIfInBounds_toArray, List.set_cons_zero, List.set_cons_succ]))
          (refine WG.take (i := 9) (v := ?_) rfl (by kernel_rfl) (by kernel_rfl) (by kernel_rfl) (by kernel_rfl) (fun _ _ _ h => h) (Or.inl ⟨by rfl, ?_⟩) (by assumption) ?_; rotate_left; (intro w hSw; (try dsimp only at hSw); go_split_ands; go_simp; (try with_reducible rfl)); (try simp only [Act.put, List.setIfInBounds_toArray, List.set_cons_zero, List.set_cons_succ]))
          (refine WG.take (i := 10) (v := ?_) rfl (by kernel_rfl) (by kernel_rfl) (by kernel_rfl) (by kernel_rfl) (fun _ _ _ h => h) (Or.inl ⟨by rfl, ?_⟩) (by assumption) ?_; rotate_left; (intro w hSw; (try dsimp only at hSw); go_split_ands; go_simp; (try with_reducible rfl)); (try simp only [Act.put, List.setIfInBounds_toArray, List.set_cons_zero, List.set_cons_succ]))
          refine WG.one (i := 11) rfl (by kernel_rfl) (fun K hK => ?_)
          go_simp; refine (LC.pick HL8.out.drew (by omega) _ (by omega)).mono ?_; rintro e wa ⟨xa, rfl, xah, xal, xas⟩; have xalt := pick_lt xah (by decide); have HLa := hid xal; have HSa := hid xas; clear xal xas xah; (try dsimp only)
          refine hK.out _ _ (by exact KS.out _ (HSa.out.mono cluUnit)) (fun hHeld => ?_)
          clear hK K
          (try simp only [Act.put, List.setIfInBounds_toArray, List.set_cons_zero, List.set_cons_succ])
          (refine WG.take (i := 12) (v := ?_) rfl (by kernel_rfl) (by kernel_rfl) (by kernel_rfl) (by kernel_rfl) (fun _ _ _ h => h) (Or.inl ⟨by rfl, ?_⟩) (by assumption) ?_; rotate_left; (intro w hSw; (try dsimp only at hSw); go_split_ands; go_simp; (try with_reducible rfl)); (try simp only [Act.put, List.setIfInBounds_toArray, List.set_cons_zero, List.set_cons_succ]))
          refine WG.one (i := 13) rfl (by kernel_rfl) (fun K hK => ?_)
          go_simp; refine (LC.task HLa.out (by omega) _).mono ?_; rintro e wt ⟨At2, ct2, ts, rfl, tO, tlen, tl, tS⟩; have HTO := hid tO.read; have HLt := hid tl; have HSt := hid (HSa.out.trans tS); have HTL := hid tlen; clear tO tl tS tlen; (try dsimp only)
          refine hK.out _ _ (by exact KS.out _ (HSt.out.mono cluUnit)) (fun hHeld => ?_)
          clear hK K
          (try simp only [Act.put, List.setIfInBounds_toArray, List.set_cons_zero, List.set_cons_succ])
          refine WG.one (i := 14) rfl (by kernel_rfl) (fun K hK => ?_)
          go_simp
          refine hK.out _ _ (by exact KS.out _ ((HSt.out.mono cluUnit).trans ((Ext.alloc _ _).same _))) (fun hHeld => ?_)
          clear hK K
          (try simp only [Act.put, List.setIfInBounds_toArray, List.set_cons_zero, List.set_cons_succ])
          have HE10 := hid (Ext.alloc wt (.cells #[.int .i64 (IntKind.i64.wrap (1 + (xa : Int))), .slice At2 ts.length ct2] 80))
          have HS10 := hid ((HSt.out.mono cluUnit).trans (HE10.out.same _))
          have HO10 := hid (Own.ext (EUV.ok _) (Own.same (EUV.ok _) HOU.out (HSt.out.mono notRd3)) HE10.out)
          have HR10 := hid (RI.ext (RI.same HRR.out (HSt.out.mono (by rintro t rfl; decide))) HE10.out)
          have HL10 := hid (HLt.out.ext HE10.out)
          have HT10 := hid (OUV.at1 HO10.out HPK.out).2.2.1
          have HUT := hid (HF.out.few u (List.mem_of_getElem? HUK.out))
          have hz10 := HL10.out.drw.1.size
          refine WG.one (i := 15) rfl (by kernel_rfl) (fun K hK => ?_)
          refine step_append_sl _ (by rfl) _ _ 42 (by rfl) ET.ok ET.flat (w.heap.size) 80 ET.ne i0_task _ 2 32 Try.underlying42 hi0_task hz0_task hz1_task hz2_task rfl (by omega) _ (by rfl) _ (HT10.out) _ (by rfl) _ (RSl.laid (cs := [.int .i64 (IntKind.i64.wrap (1 + (xa : Int))), .slice At2 ts.length ct2]) (x := (⟨IntKind.i64.wrap (1 + (xa : Int)), ts⟩ : TaskD)) (heap_alloc_new _ _) rfl ⟨_, rfl, RI.ext HTO.out (Ext.alloc _ _)⟩) (by have := HUT.out; simp; omega) (by have := HUT.out; simp; omega) ?_ ?_; (focus (first | exact Nat.le_refl _ | (simp; done) | (simp; omega) | omega)); intro v12 w12 hO12 hg12 hat12 hs12; obtain ⟨A12, c12, rfl, _, _⟩ := hO12.form_app; have HO12 := hid hO12; have HG12 := hid hg12; have HAT12 := hid hat12; have HS12 := hid hs12; clear hO12 hg12 hat12 hs12
          refine hK.out _ _ (by exact KS.out _ (HS10.out.trans (HS12.out.mono cluUnit2))) (fun hHeld => ?_)
          clear hK K
          (try simp only [Act.put, List.setIfInBounds_toArray, List.set_cons_zero, List.set_cons_succ])
          (refine WG.take (i := 16) (v := ?_) rfl (by kernel_rfl) (by kernel_rfl) (by kernel_rfl) (by kernel_rfl) (fun _ _ _ h => h) (Or.inl ⟨by rfl, ?_⟩) (by assumption) ?_; rotate_left; (intro w hSw; (try dsimp only at hSw); go_split_ands; go_simp; (try with_reducible rfl)); (try simp only [Act.put, List.setIfInBounds_toArray, List.set_cons_zero, List.set_cons_succ]))
          (refine WG.take (i := 17) (v := ?_) rfl (by kernel_rfl) (by kernel_rfl) (by kernel_rfl) (by kernel_rfl) (fun _ _ _ h => h) (Or.inl ⟨by rfl, ?_⟩) (by assumption) ?_; rotate_left; (intro w hSw; (try dsimp only at hSw); go_split_ands; go_simp; (try with_reducible rfl)); (try simp only [Act.put, List.setIfInBounds_toArray, List.set_cons_zero, List.set_cons_succ]))
          have hblk := (HS10.out.trans (HS12.out.mono cluUnit2)) _ _ _ _ (.inr rfl) HU8.out
          have cx12 := (World.cell?_of_block (w := w8) (a := ⟨gu, k7 * 2 + 1, none⟩) (hblk.trans HU8.out.symm)).trans HD1.out
          have fx12 := obj_frozen hblk (k7 * 2 + 1)
          clear hblk
          refine WG.last (i := 18) rfl (by kernel_rfl) (by kernel_rfl) (fun K hK => ?_)
          go_simp
          refine hK.out _ _ ?_
          clear hK K
          (try simp only [Act.put, List.setIfInBounds_toArray, List.set_cons_zero, List.set_cons_succ])
          refine WG.done (by kernel_rfl) ?_
          have hgrow := OUV.grow HO10.out HND.out HPK.out HG12.out HS12.out HO12.out
          have hIR : SameT (fun t => t = 3) _ _ := (HS12.out.mono (by rintro t rfl; decide)).trans (hgrow.2.mono (by rintro t rfl; decide))
          have HLF := hid (LC.turned (C2 := ⟨C.room, C.units.set k7 ⟨u.opened, u.tasks ++ [⟨IntKind.i64.wrap (1 + (xa : Int)), ts⟩]⟩⟩) HL10.out ((HS12.out.mono (by rintro t rfl; decide)).trans (hgrow.2.mono (by rintro t rfl; decide))) (DrawR.below HL10.out.drw (Below.setCell (Below.grown (Below.refl _ _) HG12.out hz10 (fun a ha => (Own.lt HT10.out a ha).1)) hgu _) HLO.out.1 HLO.out.2) ⟨_, _, ps.set k7 (⟨u.opened, u.tasks ++ [⟨IntKind.i64.wrap (1 + (xa : Int)), ts⟩]⟩, _), rfl, RI.same HR10.out hIR, hgrow.1, by rw [List.map_set, HPS.out], nodup_app HND.out HPK.out HAT12.out (fun g hg => (OUV.lt HO10.out g hg).2)⟩)
          have HSF : Hid (SmallC ⟨C.room, C.units.set k7 ⟨u.opened, u.tasks ++ [⟨IntKind.i64.wrap (1 + (xa : Int)), ts⟩]⟩⟩) := hid (HF.out.small.set _ ⟨by have := HUT.out; show (u.tasks ++ [_]).length ≤ 902; rw [List.length_append]; simp; omega, fun t ht => by
            rcases List.mem_append.1 ht with ht | ht
            · exact (HF.out.small.tasks u (List.mem_of_getElem? HUK.out)).2 t ht
            · rw [List.mem_singleton.1 ht]
              refine ⟨by have := HTL.out; show ts.length ≤ 3; omega, ?_⟩
              show IdR (IntKind.i64.wrap (1 + (xa : Int)))
              rw [IntWalk.i64_in _ (by omega)]
              unfold IdR
              omega⟩)
          clear hgrow hIR
          obtain ⟨e0, e1, y0, y1, y0f, y1f, k1, k1f, r0, r1, hsm⟩ := res2 HLF.out.zero HLF.out.box
          have HSM := hid hsm
          clear hsm
          go_wp2
          refine bodyPost_ret (v := .agg #[.slice (some ⟨ba, oa, none⟩) C.room.length cr, .slice (some ⟨gu, 0, none⟩) C.units.length cu]) (by simp [results, Try.results30, go_sem, r0, r1]) rfl ?_
          first | exact ⟨_, _, rfl, (HLF.out.own.same (HSM.out _ notClu)), HSF.out, (((HLF.out.drw.stored (Nat.le_refl _) HLO.out.1 HLO.out.2 _).stored (Nat.le_refl _) HLO.out.1 HLO.out.2 _)).mono (by omega)⟩ | exact ⟨_, rfl, _, (HLF.out.own.same (HSM.out _ notClu)), HSF.out, (((HLF.out.drw.stored (Nat.le_refl _) HLO.out.1 HLO.out.2 _).stored (Nat.le_refl _) HLO.out.1 HLO.out.2 _)).mono (by omega)⟩
        · have HLF := HL20
          have HSM := HSM20
          have HSF : Hid (SmallC ⟨C.room.drop 1, C.units⟩) := hid ⟨by show (C.room.drop 1).length ≤ 3; have := HF.out.small.room; rw [List.length_drop]; omega, HF.out.small.units, HF.out.small.tasks⟩
          refine bodyPost_ret (v := .agg #[.slice (some ⟨ba, oa + 1, none⟩) (C.room.length - 1) (cr - 1), .slice (some ⟨gu, 0, none⟩) C.units.length cu]) (by simp [results, Try.results30, go_sem, r0', r1']) rfl ?_
          first | exact ⟨_, _, rfl, (HLF.out.own.same (HSM.out _ notClu)), HSF.out, (((HLF.out.drw.stored (Nat.le_refl _) HLO.out.1 HLO.out.2 _).stored (Nat.le_refl _) HLO.out.1 HLO.out.2 _)).mono (by omega)⟩ | exact ⟨_, rfl, _, (HLF.out.own.same (HSM.out _ notClu)), HSF.out, (((HLF.out.drw.stored (Nat.le_refl _) HLO.out.1 HLO.out.2 _).stored (Nat.le_refl _) HLO.out.1 HLO.out.2 _)).mono (by omega)⟩
        · have HLF := HL8
          have HSM := HSM8
          have HSF := hid HF.out.small
          refine bodyPost_ret (v := .agg #[.slice (some ⟨ba, oa, none⟩) C.room.length cr, .slice (some ⟨gu, 0, none⟩) C.units.length cu]) (by simp [results, Try.results30, go_sem, r0, r1]) rfl ?_
          first | exact ⟨_, _, rfl, (HLF.out.own.same (HSM.out _ notClu)), HSF.out, (((HLF.out.drw.stored (Nat.le_refl _) HLO.out.1 HLO.out.2 _).stored (Nat.le_refl _) HLO.out.1 HLO.out.2 _)).mono (by omega)⟩ | exact ⟨_, rfl, _, (HLF.out.own.same (HSM.out _ notClu)), HSF.out, (((HLF.out.drw.stored (Nat.le_refl _) HLO.out.1 HLO.out.2 _).stored (Nat.le_refl _) HLO.out.1 HLO.out.2 _)).mono (by omega)⟩
      · have iu : ¬ (0 : Int) < (C.units.length : Int) := by omega
        obtain ⟨c0, c1⟩ := HL6.out.cells
        have HLF := HL6
        have HSF := hid HF.out.small
        obtain ⟨e0, e1, y0, y1, y0f, y1f, k1, k1f, r0, r1, hsm⟩ := res2 HLF.out.zero HLF.out.box
        have HSM := hid hsm
        clear hsm
        go_wp2
        refine bodyPost_ret (v := .agg #[.slice Ar C.room.length cr, .slice Au C.units.length cu]) (by simp [results, Try.results30, go_sem, r0, r1]) rfl ?_
        first | exact ⟨_, _, rfl, (HLF.out.own.same (HSM.out _ notClu)), HSF.out, (((HLF.out.drw.stored (Nat.le_refl _) HLO.out.1 HLO.out.2 _).stored (Nat.le_refl _) HLO.out.1 HLO.out.2 _)).mono (by omega)⟩ | exact ⟨_, rfl, _, (HLF.out.own.same (HSM.out _ notClu)), HSF.out, (((HLF.out.drw.stored (Nat.le_refl _) HLO.out.1 HLO.out.2 _).stored (Nat.le_refl _) HLO.out.1 HLO.out.2 _)).mono (by omega)⟩

end Go.Proofs.Ytcfpilkhjpegcaa
