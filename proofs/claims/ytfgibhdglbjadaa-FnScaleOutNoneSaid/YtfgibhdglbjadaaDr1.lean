/- The reader of codes. -/
import Derived.Test.YtfgibhdglbjadaaLx
import Derived.Laws.BitsLemmas
namespace Go.Proofs.Ytfgibhdglbjadaa
open Go.RowKit
set_option maxRecDepth 4000

def EBy : Enc Int := fun _ cs x => cs = [.int .u8 x] ∧ 0 ≤ x ∧ x ≤ 255
theorem EBy.okx : EBy.OkX := fun _ _ _ _ h _ => h
abbrev XBy := RXl 1 EBy
theorem XBy.get {w : World} {v : Value} {xs : List Int} (h : XBy w v xs) : ∃ A c, v = .slice A xs.length c ∧ xs.length ≤ c ∧ c ≤ 9223372036854775807 ∧
    ∀ (j : Nat), j < xs.length → ∃ b o x, A = some ⟨b, o, none⟩ ∧ w.cell? ⟨b, o + j, none⟩ = some (.int .u8 x) ∧ 0 ≤ x ∧ x ≤ 255 := by
  obtain ⟨A, c, hv, h1, h2, h⟩ := RXl.get_ h
  refine ⟨A, c, hv, h1, h2, fun j hj => ?_⟩
  obtain ⟨b, o, x, cs, hA, _, _, ⟨he, hx0, hx1⟩, hc⟩ := h j hj
  subst he
  exact ⟨b, o, x, hA, by simpa using hc 0 _ rfl, hx0, hx1⟩

/-- block b is a reader at place p, over bytes that lie elsewhere -/
def Rd (w : World) (b : Nat) (bv : Value) (bs : List Int) (p : Nat) : Prop :=
  w.heap[b]? = some (.cells #[bv, .int .i64 p] 109 (0, 0)) ∧ bs.length ≤ 2000 ∧ XBy w bv bs ∧ (0 < bs.length → ∀ b' o n c, bv = .slice (some ⟨b', o, none⟩) n c → b' ≠ b)
abbrev Gr (b : Nat) (w w' : World) : Prop := w.grownBy w' (some b)
theorem Gr.refl (b : Nat) (w : World) : Gr b w w := ⟨rfl, rfl, rfl, Nat.le_refl _, fun _ _ _ => rfl⟩
theorem Gr.trans {b : Nat} {w w1 w2 : World} (h : Gr b w w1) (k : Gr b w1 w2) : Gr b w w2 := ⟨k.os.trans h.os, k.tape.trans h.tape, k.output.trans h.output, Nat.le_trans h.size k.size, fun i hi hn => (k.block i (Nat.lt_of_lt_of_le hi h.size) hn).trans (h.block i hi hn)⟩
theorem Gr.of_ext {b : Nat} {w w' : World} (h : Ext w w') : Gr b w w' := ⟨h.os, h.tape, h.output, h.size, fun i hi _ => h.block i hi⟩
theorem Gr.setCell (w : World) (b i : Nat) (u : Value) : Gr b w (w.setCell ⟨b, i, none⟩ u) :=
  ⟨by simp [World.setCell], by simp [World.setCell], by simp [World.setCell], by simp [World.setCell], fun k _ hn => Below.heap_setCell _ _ _ _ (fun h => hn (by rw [h]))⟩
theorem Gr.below {b H : Nat} {w w' : World} (h : Gr b w w') (hb : H ≤ b) (hs : H ≤ w.heap.size) : Below H w w' := Below.grown (Below.refl _ _) h hs (fun k hk => by injection hk with hk; omega)
theorem Gr.same {b : Nat} {w w' : World} (h : Gr b w w') {bv : Value} {bs : List Int} {p : Nat} (hr : Rd w b bv bs p) (T : TypeId → Prop) (hT : ∀ t, T t → t ≠ 109) : SameT T w w' := by
  intro k cur t fr ht hk
  by_cases hkb : k = b
  · subst hkb
    rw [hr.1] at hk
    injection hk with hk
    injection hk with _ h2 _
    exact absurd h2.symm (hT t ht)
  · rw [h.block k (Array.getElem?_eq_some_iff.1 hk).1 (by intro he; injection he with he; exact hkb he)]
    exact hk
theorem Rd.moved {w w' : World} {b : Nat} {bv : Value} {bs : List Int} {p p' : Nat} (h : Rd w b bv bs p) (hg : Gr b w w') (ho : w'.heap[b]? = some (.cells #[bv, .int .i64 p'] 109 (0, 0))) : Rd w' b bv bs p' := by
  obtain ⟨_, hl, hx, hn⟩ := h
  refine ⟨ho, hl, ?_, hn⟩
  obtain ⟨A, c, hv, h1, h2, h3⟩ := hx
  refine ⟨A, c, hv, h1, h2, fun hp => ?_⟩
  obtain ⟨b', o, hA, h4⟩ := h3 hp
  have hne : b' ≠ b := hn hp b' o _ _ (by rw [hv, hA])
  refine ⟨b', o, hA, fun j x hj => ?_⟩
  obtain ⟨cs, hl, he, hc⟩ := h4 j x hj
  refine ⟨cs, hl, he, fun i u hu => ?_⟩
  have h5 := hc i u hu
  have hlt := World.block_lt_of_cell? w _ h5
  exact (World.cell?_of_block (w := w) (a := ⟨b', o + (j * 1 + i), none⟩) (hg.block b' hlt (by intro he; injection he with he; exact hne he))).trans h5
theorem Rd.ext {w w' : World} {b : Nat} {bv : Value} {bs : List Int} {p : Nat} (h : Rd w b bv bs p) (ha : Ext w w') : Rd w' b bv bs p := h.moved (Gr.of_ext ha) (ha.obj h.1)

theorem cell_far (w : World) {b b' o i : Nat} (h : b' ≠ b) (u : Value) : (w.setCell ⟨b, i, none⟩ u).cell? ⟨b', o, none⟩ = w.cell? ⟨b', o, none⟩ :=
  World.cell?_of_block (w := w) (a := ⟨b', o, none⟩) (Below.heap_setCell _ _ _ _ h)
def PickR (w : World) (b : Nat) (bv : Value) (bs : List Int) (p : Nat) (n : Int) (e : Ending) (w' : World) : Prop :=
  ∃ x : Nat, e = .returned (.int .i64 x) ∧ ((x : Int) < n ∨ x = 0) ∧ Gr b w w' ∧ Rd w' b bv bs (p + 1)

theorem xor_nat (a b : Nat) (ha : a < 2 ^ 40) (hb : b < 2 ^ 40) : bits BinOp.xor IntKind.i64 (a : Int) (b : Int) = ((a ^^^ b : Nat) : Int) := by
  have hp : 2 ^ 40 ≤ 2 ^ IntKind.i64.bits := Nat.pow_le_pow_right (by decide) (by decide)
  have ha' : a % 2 ^ IntKind.i64.bits = a := Nat.mod_eq_of_lt (Nat.lt_of_lt_of_le ha hp)
  have hb' : b % 2 ^ IntKind.i64.bits = b := Nat.mod_eq_of_lt (Nat.lt_of_lt_of_le hb hp)
  have hx : a ^^^ b < 2 ^ 40 := Nat.xor_lt_two_pow ha hb
  simp only [bits, BitVec.ofInt_natCast, BitVec.toNat_xor, BitVec.toNat_ofNat, ha', hb']
  exact IntWalk.i64_in _ (by omega)
theorem xor_nn {a b : Int} (ha : 0 ≤ a) (ha' : a < 1099511627776) (hb : 0 ≤ b) (hb' : b < 1099511627776) : 0 ≤ bits BinOp.xor IntKind.i64 a b := by
  have h := xor_nat a.toNat b.toNat (by omega) (by omega)
  rw [Int.toNat_of_nonneg ha, Int.toNat_of_nonneg hb] at h
  rw [h]
  omega

set_option maxHeartbeats 4000000 in
theorem dPick (b : Nat) (bv : Value) (bs : List Int) (p : Nat) (n : Int) (w : World) (h : Rd w b bv bs p) (hp : p ≤ 1000000) (hn : n ≤ 1000000) :
    Calls Try.prog 75 #[.pointer (some ⟨b, 0, none⟩), .int .i64 n] w (PickR w b bv bs p n) := by
  have h0 := h
  obtain ⟨ho, hl, hx, hne⟩ := h
  obtain ⟨A, c, rfl, hc, hc', hg⟩ := hx.get
  have c1 := obj_cell ho (i := 1) rfl
  have f1 := obj_frozen ho 1
  have ho1 := obj_set ho 1 (.int .i64 ((p : Int) + 1))
  have d0 := obj_cell ho1 (i := 0) rfl
  have d1 := obj_cell ho1 (i := 1) rfl
  have HR : Hid (Rd (w.setCell ⟨b, 1, none⟩ (.int .i64 ((p : Int) + 1))) b (.slice A bs.length c) bs (p + 1)) := hid (h0.moved (Gr.setCell _ _ _ _) ho1)
  have HG := hid (Gr.setCell w b 1 (.int .i64 ((p : Int) + 1)))
  clear h0 ho hx ho1
  by_cases hn1 : n < 1
  · go_enter Try.func75, Try.ntmps75
    go_wp2
    go_ret
    exact ⟨0, rfl, .inr rfl, HG.out, HR.out⟩
  · have hn2 : 0 < n := by omega
    by_cases hb0 : bs.length = 0
    · have e0 : ((bs.length : Int) == 0) = true := by rw [hb0]; rfl
      clear hb0
      go_enter Try.func75, Try.ntmps75
      go_wp2
      go_ret
      exact ⟨0, rfl, .inr rfl, HG.out, HR.out⟩
    · have e0 : ((bs.length : Int) == 0) = false := by simpa using hb0
      have hpos : 0 < bs.length := by omega
      clear hb0
      by_cases hk : p < bs.length
      · obtain ⟨b1, o1, x, rfl, cx, hx0, hx1⟩ := hg p hk
        have i1 : (p : Int) < (bs.length : Int) := by omega
        have cx' := (cell_far (i := 1) w (hne hpos b1 o1 _ _ rfl) (.int .i64 ((p : Int) + 1))).trans cx
        clear hne cx hg
        go_enter Try.func75, Try.ntmps75
        go_wp2
        go_ret
        exact ⟨(x % n).toNat, ret_i (Int.toNat_of_nonneg (Int.emod_nonneg _ (by omega))).symm, .inl (by rw [Int.toNat_of_nonneg (Int.emod_nonneg _ (by omega))]; exact Int.emod_lt_of_pos _ hn2), HG.out, HR.out⟩
      · have i1 : ¬ (p : Int) < (bs.length : Int) := by omega
        have ip : 0 < (bs.length : Int) := by omega
        obtain ⟨q1, hq1, hq1l⟩ : ∃ q1 : Nat, ((p : Int) % (bs.length : Int)) = (q1 : Int) ∧ q1 < bs.length := ⟨p % bs.length, by simp, Nat.mod_lt _ hpos⟩
        obtain ⟨q2, hq2, hq2l⟩ : ∃ q2 : Nat, (((p : Int) * 7 + 3) % (bs.length : Int)) = (q2 : Int) ∧ q2 < bs.length := ⟨(p * 7 + 3) % bs.length, by simp, Nat.mod_lt _ hpos⟩
        obtain ⟨q3, hq3, hq3l⟩ : ∃ q3 : Nat, ((p : Int) / (bs.length : Int)) = (q3 : Int) ∧ q3 ≤ p := ⟨p / bs.length, by simp, Nat.div_le_self _ _⟩
        obtain ⟨b1, o1, x1, rfl, cx1, hx0, hx1⟩ := hg q1 hq1l
        obtain ⟨b2, o2, x2, hA2, cx2, hy0, hy1⟩ := hg q2 hq2l
        injection hA2 with hA2
        injection hA2 with h3 h4 _
        subst h3 h4
        have hne' : b1 ≠ b := hne hpos b1 o1 _ _ rfl
        have cx1' := (cell_far (i := 1) w hne' (.int .i64 ((p : Int) + 1))).trans cx1
        have cx2' := (cell_far (i := 1) w hne' (.int .i64 ((p : Int) + 1))).trans cx2
        have ib1 : (q1 : Int) < (bs.length : Int) := by omega
        have ib2 : (q2 : Int) < (bs.length : Int) := by omega
        clear hne cx1 cx2 hg
        go_enter Try.func75, Try.ntmps75
        go_wp2
        go_quiet (fail)
        go_wp2
        go_ret
        have hz := xor_nn (a := x1 * 131 + x2 * 1117 + (p : Int) * 29 + (q3 : Int) * 53) (b := (x1 * 131 + x2 * 1117 + (p : Int) * 29 + (q3 : Int) * 53) / 64) (by omega) (by omega) (by omega) (by omega)
        exact ⟨_, ret_i (Int.toNat_of_nonneg (Int.tmod_nonneg n hz)).symm, .inl (by rw [Int.toNat_of_nonneg (Int.tmod_nonneg n hz)]; exact Int.tmod_lt_of_pos _ hn2), HG.out.trans (Gr.of_ext (Ext.drewN _ _)), HR.out.ext (Ext.drewN _ _)⟩

end Go.Proofs.Ytfgibhdglbjadaa
