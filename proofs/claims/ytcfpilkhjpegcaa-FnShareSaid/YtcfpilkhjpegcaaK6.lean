/- What came in: a slice value that reads as a list, whatever its block's type. -/
import Derived.Test.YtcfpilkhjpegcaaK4
import Derived.Laws.BitsLemmas
namespace Go.Proofs.Ytcfpilkhjpegcaa
open Go.RowKit
set_option maxRecDepth 4000

def RXl {α : Type} (size : Nat) (E : Enc α) (w : World) (v : Value) (xs : List α) : Prop :=
  ∃ A c, v = .slice A xs.length c ∧ xs.length ≤ c ∧ c ≤ 9223372036854775807 ∧ (0 < xs.length → ∃ b o, A = some ⟨b, o, none⟩ ∧
    ∀ j x, xs[j]? = some x → ∃ cs : List Value, cs.length = size ∧ E w cs x ∧ ∀ i u, cs[i]? = some u → w.cell? ⟨b, o + (j * size + i), none⟩ = some u)
def Enc.OkX {α : Type} (E : Enc α) : Prop := ∀ w w' cs x, E w cs x → Ext w w' → E w' cs x
theorem RXl.ext_ {α : Type} {size : Nat} {E : Enc α} (ok : E.OkX) {w w' : World} {v : Value} {xs : List α} (h : RXl size E w v xs) (ha : Ext w w') : RXl size E w' v xs := by
  obtain ⟨A, c, hv, hc, hc', h⟩ := h
  refine ⟨A, c, hv, hc, hc', fun hn => ?_⟩
  obtain ⟨b, o, hA, h⟩ := h hn
  refine ⟨b, o, hA, fun j x hx => ?_⟩
  obtain ⟨cs, hl, he, hcell⟩ := h j x hx
  exact ⟨cs, hl, ok _ _ _ _ he ha, fun i u hu => ha.cell (hcell i u hu)⟩
theorem RXl.get_ {α : Type} {size : Nat} {E : Enc α} {w : World} {v : Value} {xs : List α} (h : RXl size E w v xs) : ∃ A c, v = .slice A xs.length c ∧ xs.length ≤ c ∧ c ≤ 9223372036854775807 ∧
    ∀ (j : Nat), j < xs.length → ∃ b o x cs, A = some ⟨b, o, none⟩ ∧ xs[j]? = some x ∧ cs.length = size ∧ E w cs x ∧ ∀ i u, cs[i]? = some u → w.cell? ⟨b, o + (j * size + i), none⟩ = some u := by
  obtain ⟨A, c, hv, h1, h2, h⟩ := h
  refine ⟨A, c, hv, h1, h2, fun j hj => ?_⟩
  obtain ⟨b, o, hA, h⟩ := h (by omega)
  obtain ⟨cs, hl, he, hc⟩ := h j xs[j] (List.getElem?_eq_getElem hj)
  exact ⟨b, o, xs[j], cs, hA, List.getElem?_eq_getElem hj, hl, he, hc⟩

theorem EI.okx : EI.OkX := fun _ _ _ _ h _ => h
abbrev XI := RXl 1 EI
def EXT : Enc TaskD := fun w cs t => ∃ nv, cs = [.int .i64 t.id, nv] ∧ XI w nv t.need
theorem EXT.okx : EXT.OkX := fun _ _ _ _ ⟨v, h, hr⟩ ha => ⟨v, h, RXl.ext_ EI.okx hr ha⟩
abbrev XT := RXl 2 EXT
theorem XI.ext {w w' : World} {v : Value} {xs : List Int} (h : XI w v xs) (ha : Ext w w') : XI w' v xs := RXl.ext_ EI.okx h ha
theorem XT.ext {w w' : World} {v : Value} {xs : List TaskD} (h : XT w v xs) (ha : Ext w w') : XT w' v xs := RXl.ext_ EXT.okx h ha
theorem XI.get {w : World} {v : Value} {xs : List Int} (h : XI w v xs) : ∃ A c, v = .slice A xs.length c ∧ xs.length ≤ c ∧ c ≤ 9223372036854775807 ∧
    ∀ (j : Nat), j < xs.length → ∃ b o x, A = some ⟨b, o, none⟩ ∧ Hid (xs[j]? = some x) ∧ w.cell? ⟨b, o + j, none⟩ = some (.int .i64 x) := by
  obtain ⟨A, c, hv, h1, h2, h⟩ := RXl.get_ h
  refine ⟨A, c, hv, h1, h2, fun j hj => ?_⟩
  obtain ⟨b, o, x, cs, hA, hx, _, he, hc⟩ := h j hj
  subst he
  exact ⟨b, o, x, hA, hx, by simpa using hc 0 _ rfl⟩
theorem XT.get {w : World} {v : Value} {xs : List TaskD} (h : XT w v xs) : ∃ A c, v = .slice A xs.length c ∧ xs.length ≤ c ∧ c ≤ 9223372036854775807 ∧
    ∀ (j : Nat), j < xs.length → ∃ b o x An cn, A = some ⟨b, o, none⟩ ∧ Hid (xs[j]? = some x) ∧ w.cell? ⟨b, o + j * 2, none⟩ = some (.int .i64 x.id) ∧ w.cell? ⟨b, o + j * 2 + 1, none⟩ = some (.slice An x.need.length cn) ∧ XI w (.slice An x.need.length cn) x.need := by
  obtain ⟨A, c, hv, h1, h2, h⟩ := RXl.get_ h
  refine ⟨A, c, hv, h1, h2, fun j hj => ?_⟩
  obtain ⟨b, o, x, cs, hA, hx, _, ⟨nv, he, hr⟩, hc⟩ := h j hj
  subst he
  have hr0 := hr
  obtain ⟨An, cn, rfl, _⟩ := hr
  have hr := hr0
  exact ⟨b, o, x, An, cn, hA, hx, by simpa using hc 0 _ rfl, by simpa [Nat.add_assoc] using hc 1 _ rfl, hr⟩
def EXU : Enc UnitD := fun w cs u => ∃ v, cs = [.bool u.opened, v] ∧ XT w v u.tasks
theorem EXU.okx : EXU.OkX := fun _ _ _ _ ⟨v, h, hr⟩ ha => ⟨v, h, XT.ext hr ha⟩
abbrev XU := RXl 2 EXU
theorem XU.ext {w w' : World} {v : Value} {xs : List UnitD} (h : XU w v xs) (ha : Ext w w') : XU w' v xs := RXl.ext_ EXU.okx h ha
theorem XU.get {w : World} {v : Value} {xs : List UnitD} (h : XU w v xs) : ∃ A c, v = .slice A xs.length c ∧ xs.length ≤ c ∧ c ≤ 9223372036854775807 ∧
    ∀ (j : Nat), j < xs.length → ∃ b o x An cn, A = some ⟨b, o, none⟩ ∧ Hid (xs[j]? = some x) ∧ w.cell? ⟨b, o + j * 2, none⟩ = some (.bool x.opened) ∧ w.cell? ⟨b, o + j * 2 + 1, none⟩ = some (.slice An x.tasks.length cn) ∧ XT w (.slice An x.tasks.length cn) x.tasks := by
  obtain ⟨A, c, hv, h1, h2, h⟩ := RXl.get_ h
  refine ⟨A, c, hv, h1, h2, fun j hj => ?_⟩
  obtain ⟨b, o, x, cs, hA, hx, _, ⟨nv, he, hr⟩, hc⟩ := h j hj
  subst he
  have hr0 := hr
  obtain ⟨An, cn, rfl, _⟩ := hr
  have hr := hr0
  exact ⟨b, o, x, An, cn, hA, hx, by simpa using hc 0 _ rfl, by simpa [Nat.add_assoc] using hc 1 _ rfl, hr⟩
def ClusX (w : World) (v : Value) (c : ClusD) : Prop := ∃ rv uv, v = .agg #[rv, uv] ∧ XI w rv c.room ∧ XU w uv c.units
theorem ClusX.ext {w w' : World} {v : Value} {c : ClusD} (h : ClusX w v c) (ha : Ext w w') : ClusX w' v c := let ⟨rv, uv, h1, h2, h3⟩ := h; ⟨rv, uv, h1, XI.ext h2 ha, XU.ext h3 ha⟩

/-- n zero elements, of the call's own -/
theorem Own.full {α : Type} {e : TypeId} {size : Nat} {E : Enc α} {w : World} {base : Nat} {v : Value} {n : Nat} {z : Value} (x0 : α) (hz : z.cells.size = size) (he : E w z.cells.toList x0)
    (h : w.ownsRow base e size v n (madeCells z.cells (n * size)).toList) : Own e size E w base v (List.replicate n x0) := by
  refine ⟨_, by rw [List.length_replicate]; exact h, by rw [List.length_replicate]; exact h.1, fun j x hx => ?_⟩
  rw [List.getElem?_replicate] at hx
  split at hx
  · rename_i hj
    injection hx with hx
    subst hx
    refine ⟨z.cells.toList, by simpa using hz, he, fun i u hu => ?_⟩
    have hi : i < size := by
      have := (List.getElem?_eq_some_iff.1 hu).1
      rw [← hz]; simpa using this
    have hlt : j * size + i < n * size := by
      have : (j + 1) * size ≤ n * size := Nat.mul_le_mul_right _ hj
      rw [Nat.add_mul] at this
      omega
    have hmod : (j * size + i) % size = i := by rw [Nat.mul_comm, Nat.mul_add_mod]; exact Nat.mod_eq_of_lt hi
    have e1 : z.cells[i]? = some u := by simpa using hu
    have hmod' : (j * size + i) % z.cells.size = i := by rw [hz]; exact hmod
    unfold madeCells
    simp [hlt, hmod']
    rw [getElem!_def, e1]
  · cases hx

end Go.Proofs.Ytcfpilkhjpegcaa

/- The reader of codes. -/
namespace Go.Proofs.Ytcfpilkhjpegcaa
open Go.RowKit
set_option maxRecDepth 4000

def EBy : Enc Int := fun _ cs x => cs = [.int .u8 x] ∧ 0 ≤ x ∧ x ≤ 255
theorem EBy.okx : EBy.OkX := fun _ _ _ _ h _ => h
abbrev XBy := RXl 1 EBy
theorem XBy.get {w : World} {v : Value} {xs : List Int} (h : XBy w v xs) : ∃ A c, v = .slice A xs.length c ∧ xs.length ≤ c ∧ c ≤ 9223372036854775807 ∧
    ∀ (j : Nat), j < xs.length → ∃ b o x, A = some ⟨b, o, none⟩ ∧ w.cell? ⟨b, o + j, none⟩ = some (.int .u8 x) ∧ 0 ≤ x ∧ x ≤ 255 := by
  obtain ⟨A, c, hv, h1, h2, h⟩ := RXl.get_ h
  refine ⟨A, c, hv, h1, h2, fun j hj => ?_⟩
  obtain ⟨b, o, x, cs, hA, _, _, ⟨he, hx0, hx1⟩, hc⟩ := h j hj
  subst he
  exact ⟨b, o, x, hA, by simpa using hc 0 _ rfl, hx0, hx1⟩

/-- block b is a reader at place p, over bytes that lie elsewhere -/
def Rd (w : World) (b : Nat) (bv : Value) (bs : List Int) (p : Nat) : Prop :=
  w.heap[b]? = some (.cells #[bv, .int .i64 p] 72 (0, 0)) ∧ bs.length ≤ 2000 ∧ XBy w bv bs ∧ (0 < bs.length → ∀ b' o n c, bv = .slice (some ⟨b', o, none⟩) n c → b' ≠ b)
abbrev Gr (b : Nat) (w w' : World) : Prop := w.grownBy w' (some b)
theorem Gr.refl (b : Nat) (w : World) : Gr b w w := ⟨rfl, rfl, rfl, Nat.le_refl _, fun _ _ _ => rfl⟩
theorem Gr.trans {b : Nat} {w w1 w2 : World} (h : Gr b w w1) (k : Gr b w1 w2) : Gr b w w2 := ⟨k.os.trans h.os, k.tape.trans h.tape, k.output.trans h.output, Nat.le_trans h.size k.size, fun i hi hn => (k.block i (Nat.lt_of_lt_of_le hi h.size) hn).trans (h.block i hi hn)⟩
theorem Gr.of_ext {b : Nat} {w w' : World} (h : Ext w w') : Gr b w w' := ⟨h.os, h.tape, h.output, h.size, fun i hi _ => h.block i hi⟩
theorem Gr.setCell (w : World) (b i : Nat) (u : Value) : Gr b w (w.setCell ⟨b, i, none⟩ u) :=
  ⟨by simp [World.setCell], by simp [World.setCell], by simp [World.setCell], by simp [World.setCell], fun k _ hn => Below.heap_setCell _ _ _ _ (fun h => hn (by rw [h]))⟩
theorem Gr.below {b H : Nat} {w w' : World} (h : Gr b w w') (hb : H ≤ b) (hs : H ≤ w.heap.size) : Below H w w' := Below.grown (Below.refl _ _) h hs (fun k hk => by injection hk with hk; omega)
theorem Gr.same {b : Nat} {w w' : World} (h : Gr b w w') {bv : Value} {bs : List Int} {p : Nat} (hr : Rd w b bv bs p) (T : TypeId → Prop) (hT : ∀ t, T t → t ≠ 72) : SameT T w w' := by
  intro k cur t fr ht hk
  by_cases hkb : k = b
  · subst hkb
    rw [hr.1] at hk
    injection hk with hk
    injection hk with _ h2 _
    exact absurd h2.symm (hT t ht)
  · rw [h.block k (Array.getElem?_eq_some_iff.1 hk).1 (by intro he; injection he with he; exact hkb he)]
    exact hk
theorem Rd.moved {w w' : World} {b : Nat} {bv : Value} {bs : List Int} {p p' : Nat} (h : Rd w b bv bs p) (hg : Gr b w w') (ho : w'.heap[b]? = some (.cells #[bv, .int .i64 p'] 72 (0, 0))) : Rd w' b bv bs p' := by
  obtain ⟨_, hl, hx, hn⟩ := h
  refine ⟨ho, hl, ?_, hn⟩
  obtain ⟨A, c, hv, h1, h2, h3⟩ := hx
  refine ⟨A, c, hv, h1, h2, fun hp => ?_⟩
  obtain ⟨b', o, hA, h4⟩ := h3 hp
  have hne : b' ≠ b := hn hp b' o _ _ (by rw [hv, hA])
  refine ⟨b', o, hA, fun j x hj => ?_⟩
  obtain ⟨cs, hl, he, hc⟩ := h4 j x hj
  refine ⟨cs, hl, he, fun i u hu => ?_⟩
  have h5 := hc i u hu
  have hlt := World.block_lt_of_cell? w _ h5
  exact (World.cell?_of_block (w := w) (a := ⟨b', o + (j * 1 + i), none⟩) (hg.block b' hlt (by intro he; injection he with he; exact hne he))).trans h5
theorem Rd.ext {w w' : World} {b : Nat} {bv : Value} {bs : List Int} {p : Nat} (h : Rd w b bv bs p) (ha : Ext w w') : Rd w' b bv bs p := h.moved (Gr.of_ext ha) (ha.obj h.1)

theorem cell_far (w : World) {b b' o i : Nat} (h : b' ≠ b) (u : Value) : (w.setCell ⟨b, i, none⟩ u).cell? ⟨b', o, none⟩ = w.cell? ⟨b', o, none⟩ :=
  World.cell?_of_block (w := w) (a := ⟨b', o, none⟩) (Below.heap_setCell _ _ _ _ h)
def PickR (w : World) (b : Nat) (bv : Value) (bs : List Int) (p : Nat) (n : Int) (e : Ending) (w' : World) : Prop :=
  ∃ x : Nat, e = .returned (.int .i64 x) ∧ ((x : Int) < n ∨ x = 0) ∧ Gr b w w' ∧ Rd w' b bv bs (p + 1)

theorem xor_nat (a b : Nat) (ha : a < 2 ^ 40) (hb : b < 2 ^ 40) : bits BinOp.xor IntKind.i64 (a : Int) (b : Int) = ((a ^^^ b : Nat) : Int) := by
  have hp : 2 ^ 40 ≤ 2 ^ IntKind.i64.bits := Nat.pow_le_pow_right (by decide) (by decide)
  have ha' : a % 2 ^ IntKind.i64.bits = a := Nat.mod_eq_of_lt (Nat.lt_of_lt_of_le ha hp)
  have hb' : b % 2 ^ IntKind.i64.bits = b := Nat.mod_eq_of_lt (Nat.lt_of_lt_of_le hb hp)
  have hx : a ^^^ b < 2 ^ 40 := Nat.xor_lt_two_pow ha hb
  simp only [bits, BitVec.ofInt_natCast, BitVec.toNat_xor, BitVec.toNat_ofNat, ha', hb']
  exact IntWalk.i64_in _ (by omega)
theorem xor_nn {a b : Int} (ha : 0 ≤ a) (ha' : a < 1099511627776) (hb : 0 ≤ b) (hb' : b < 1099511627776) : 0 ≤ bits BinOp.xor IntKind.i64 a b := by
  have h := xor_nat a.toNat b.toNat (by omega) (by omega)
  rw [Int.toNat_of_nonneg ha, Int.toNat_of_nonneg hb] at h
  rw [h]
  omega

set_option maxHeartbeats 4000000 in
theorem dPick (b : Nat) (bv : Value) (bs : List Int) (p : Nat) (n : Int) (w : World) (h : Rd w b bv bs p) (hp : p ≤ 1000000) (hn : n ≤ 1000000) :
    Calls Try.prog 31 #[.pointer (some ⟨b, 0, none⟩), .int .i64 n] w (PickR w b bv bs p n) := by
  have h0 := h
  obtain ⟨ho, hl, hx, hne⟩ := h
  obtain ⟨A, c, rfl, hc, hc', hg⟩ := hx.get
  have c1 := obj_cell ho (i := 1) rfl
  have f1 := obj_frozen ho 1
  have ho1 := obj_set ho 1 (.int .i64 ((p : Int) + 1))
  have d0 := obj_cell ho1 (i := 0) rfl
  have d1 := obj_cell ho1 (i := 1) rfl
  have HR : Hid (Rd (w.setCell ⟨b, 1, none⟩ (.int .i64 ((p : Int) + 1))) b (.slice A bs.length c) bs (p + 1)) := hid (h0.moved (Gr.setCell _ _ _ _) ho1)
  have HG := hid (Gr.setCell w b 1 (.int .i64 ((p : Int) + 1)))
  clear h0 ho hx ho1
  by_cases hn1 : n < 1
  · go_enter Try.func31, Try.ntmps31
    go_wp2
    go_ret
    exact ⟨0, rfl, .inr rfl, HG.out, HR.out⟩
  · have hn2 : 0 < n := by omega
    by_cases hb0 : bs.length = 0
    · have e0 : ((bs.length : Int) == 0) = true := by rw [hb0]; rfl
      clear hb0
      go_enter Try.func31, Try.ntmps31
      go_wp2
      go_ret
      exact ⟨0, rfl, .inr rfl, HG.out, HR.out⟩
    · have e0 : ((bs.length : Int) == 0) = false := by simpa using hb0
      have hpos : 0 < bs.length := by omega
      clear hb0
      by_cases hk : p < bs.length
      · obtain ⟨b1, o1, x, rfl, cx, hx0, hx1⟩ := hg p hk
        have i1 : (p : Int) < (bs.length : Int) := by omega
        have cx' := (cell_far (i := 1) w (hne hpos b1 o1 _ _ rfl) (.int .i64 ((p : Int) + 1))).trans cx
        clear hne cx hg
        go_enter Try.func31, Try.ntmps31
        go_wp2
        go_ret
        exact ⟨(x % n).toNat, ret_i (Int.toNat_of_nonneg (Int.emod_nonneg _ (by omega))).symm, .inl (by rw [Int.toNat_of_nonneg (Int.emod_nonneg _ (by omega))]; exact Int.emod_lt_of_pos _ hn2), HG.out, HR.out⟩
      · have i1 : ¬ (p : Int) < (bs.length : Int) := by omega
        have ip : 0 < (bs.length : Int) := by omega
        obtain ⟨q1, hq1, hq1l⟩ : ∃ q1 : Nat, ((p : Int) % (bs.length : Int)) = (q1 : Int) ∧ q1 < bs.length := ⟨p % bs.length, by simp, Nat.mod_lt _ hpos⟩
        obtain ⟨q2, hq2, hq2l⟩ : ∃ q2 : Nat, (((p : Int) * 7 + 3) % (bs.length : Int)) = (q2 : Int) ∧ q2 < bs.length := ⟨(p * 7 + 3) % bs.length, by simp, Nat.mod_lt _ hpos⟩
        obtain ⟨q3, hq3, hq3l⟩ : ∃ q3 : Nat, ((p : Int) / (bs.length : Int)) = (q3 : Int) ∧ q3 ≤ p := ⟨p / bs.length, by simp, Nat.div_le_self _ _⟩
        obtain ⟨b1, o1, x1, rfl, cx1, hx0, hx1⟩ := hg q1 hq1l
        obtain ⟨b2, o2, x2, hA2, cx2, hy0, hy1⟩ := hg q2 hq2l
        injection hA2 with hA2
        injection hA2 with h3 h4 _
        subst h3 h4
        have hne' : b1 ≠ b := hne hpos b1 o1 _ _ rfl
        have cx1' := (cell_far (i := 1) w hne' (.int .i64 ((p : Int) + 1))).trans cx1
        have cx2' := (cell_far (i := 1) w hne' (.int .i64 ((p : Int) + 1))).trans cx2
        have ib1 : (q1 : Int) < (bs.length : Int) := by omega
        have ib2 : (q2 : Int) < (bs.length : Int) := by omega
        clear hne cx1 cx2 hg
        go_enter Try.func31, Try.ntmps31
        go_wp2
        go_quiet (fail)
        go_wp2
        go_ret
        have hz := xor_nn (a := x1 * 131 + x2 * 1117 + (p : Int) * 29 + (q3 : Int) * 53) (b := (x1 * 131 + x2 * 1117 + (p : Int) * 29 + (q3 : Int) * 53) / 64) (by omega) (by omega) (by omega) (by omega)
        exact ⟨_, ret_i (Int.toNat_of_nonneg (Int.tmod_nonneg n hz)).symm, .inl (by rw [Int.toNat_of_nonneg (Int.tmod_nonneg n hz)]; exact Int.tmod_lt_of_pos _ hn2), HG.out.trans (Gr.of_ext (Ext.drewN _ _)), HR.out.ext (Ext.drewN _ _)⟩

end Go.Proofs.Ytcfpilkhjpegcaa

/- Rooms, tasks and needs that are drawn. -/
namespace Go.Proofs.Ytcfpilkhjpegcaa
open Go.RowKit
set_option maxRecDepth 4000

theorem XBy.head {w : World} {A : Option Addr} {n c : Nat} {xs : List Int} (h : XBy w (.slice A n c) xs) {k : Nat} (hk : k ≤ xs.length) : XBy w (.slice A k c) (xs.take k) := by
  obtain ⟨A', c', hv, hc, hc', h⟩ := h
  injection hv with h1 h2 h3
  subst h1 h2 h3
  refine ⟨A, c, by rw [List.length_take, Nat.min_eq_left hk], by rw [List.length_take]; omega, hc', fun hn => ?_⟩
  rw [List.length_take] at hn
  obtain ⟨b, o, hA, h⟩ := h (by omega)
  refine ⟨b, o, hA, fun j x hx => ?_⟩
  rw [List.getElem?_take] at hx
  split at hx
  · exact h j x hx
  · cases hx
theorem XBy.ext {w w' : World} {v : Value} {xs : List Int} (h : XBy w v xs) (ha : Ext w w') : XBy w' v xs := RXl.ext_ EBy.okx h ha
theorem Rd.new {w : World} {A : Option Addr} {n c : Nat} {bs : List Int} (h : XBy w (.slice A n c) bs) (hl : bs.length ≤ 2000) : Rd (w.alloc (.cells #[.slice A n c, .int .i64 0] 72)) w.heap.size (.slice A n c) bs 0 := by
  refine ⟨heap_alloc_new w _, hl, h.ext (Ext.alloc _ _), fun hp b' o n' c' hv => ?_⟩
  obtain ⟨A', c'', hv', h1, h2, h3⟩ := h
  obtain ⟨b2, o2, hA, h4⟩ := h3 hp
  rw [hv'] at hv
  injection hv with e1 e2 e3
  rw [hA] at e1
  injection e1 with e1
  injection e1 with e1 _ _
  subst e1
  obtain ⟨cs, hl', he, hc⟩ := h4 0 bs[0] (List.getElem?_eq_getElem hp)
  have h5 := hc 0 cs[0] (List.getElem?_eq_getElem (by omega))
  have := World.block_lt_of_cell? w _ h5
  have h6 : b2 < w.heap.size := this
  omega

theorem dOpen (v : Value) (bs : List Int) (w : World) (h : XBy w v bs) (hl : bs.length ≤ 4000000) :
    Calls Try.prog 29 #[v] w fun e w' => e = .returned (.pointer (some ⟨w.heap.size, 0, none⟩)) ∧ (∃ bv bs', Rd w' w.heap.size bv bs' 0) ∧ Ext w w' := by
  have h0 := h
  obtain ⟨A, c, rfl, hc, hc', _⟩ := h
  by_cases hlong : 2000 < bs.length
  · have h2 : (2000 : Int) < (bs.length : Int) := by omega
    have hcc : 2000 ≤ c := by omega
    have HR := hid (Rd.new (h0.head (k := 2000) (by omega)) (by rw [List.length_take]; omega))
    clear h0
    go_enter Try.func29, Try.ntmps29
    go_wp2
    go_ret
    exact ⟨rfl, ⟨_, _, HR.out⟩, Ext.alloc _ _⟩
  · have h2 : ¬ (2000 : Int) < (bs.length : Int) := by omega
    have HR := hid (Rd.new h0 (by omega))
    clear h0
    go_enter Try.func29, Try.ntmps29
    go_wp2
    go_ret
    exact ⟨rfl, ⟨_, _, HR.out⟩, Ext.alloc _ _⟩

end Go.Proofs.Ytcfpilkhjpegcaa

/- Rooms, tasks and needs that are drawn. -/
namespace Go.Proofs.Ytcfpilkhjpegcaa
open Go.RowKit
set_option maxRecDepth 4000

/-- what a draw leaves: the reader is at most K places on; but for it, all that was there is as it was -/
def DrawR (w : World) (b : Nat) (bv : Value) (bs : List Int) (p K : Nat) (w' : World) : Prop := Gr b w w' ∧ ∃ p', p' ≤ p + K ∧ Rd w' b bv bs p'
theorem DrawR.start {w : World} {b : Nat} {bv : Value} {bs : List Int} {p : Nat} (h : Rd w b bv bs p) : DrawR w b bv bs p 0 w := ⟨Gr.refl _ _, p, by omega, h⟩
theorem DrawR.ext {w w1 w2 : World} {b : Nat} {bv : Value} {bs : List Int} {p K : Nat} (h : DrawR w b bv bs p K w1) (ha : Ext w1 w2) : DrawR w b bv bs p K w2 := let ⟨hg, p', hp, hr⟩ := h; ⟨hg.trans (Gr.of_ext ha), p', hp, hr.ext ha⟩
theorem DrawR.mono {w w1 : World} {b : Nat} {bv : Value} {bs : List Int} {p K K' : Nat} (h : DrawR w b bv bs p K w1) (hk : K ≤ K') : DrawR w b bv bs p K' w1 := let ⟨hg, p', hp, hr⟩ := h; ⟨hg, p', by omega, hr⟩
theorem DrawR.then {w w1 w2 : World} {b : Nat} {bv : Value} {bs : List Int} {p p1 K K' : Nat} (h : Gr b w w1) (hp : p1 ≤ p + K) (k : DrawR w1 b bv bs p1 K' w2) : DrawR w b bv bs p (K + K') w2 := let ⟨hg, p', hp', hr⟩ := k; ⟨h.trans hg, p', by omega, hr⟩
/-- a store into a block that the call has made -/
theorem DrawR.stored {w w1 : World} {b : Nat} {bv : Value} {bs : List Int} {p K : Nat} (h : DrawR w b bv bs p K w1) {g i : Nat} (hg : w.heap.size ≤ g) (hb : b < w.heap.size) (hbs : 0 < bs.length → ∀ b' o n c, bv = .slice (some ⟨b', o, none⟩) n c → b' < w.heap.size) (u : Value) : DrawR w b bv bs p K (w1.setCell ⟨g, i, none⟩ u) := by
  obtain ⟨h1, p', hp, hr⟩ := h
  have hE : Gr b w (w1.setCell ⟨g, i, none⟩ u) := ⟨by simpa [World.setCell] using h1.os, by simpa [World.setCell] using h1.tape, by simpa [World.setCell] using h1.output, by simpa [World.setCell] using h1.size, fun k hk hn => (Below.heap_setCell _ _ _ _ (by show k ≠ g; omega)).trans (h1.block k hk hn)⟩
  refine ⟨hE, p', hp, obj_far hr.1 (by show b ≠ g; omega) u, hr.2.1, ?_, hr.2.2.2⟩
  obtain ⟨A, c, hv, e1, e2, e3⟩ := hr.2.2.1
  refine ⟨A, c, hv, e1, e2, fun hpos => ?_⟩
  obtain ⟨b', o, hA, h4⟩ := e3 hpos
  have hlt := hbs hpos b' o _ _ (by rw [hv, hA])
  refine ⟨b', o, hA, fun j x hj => ?_⟩
  obtain ⟨cs, hl, he, hc⟩ := h4 j x hj
  exact ⟨cs, hl, he, fun i' u' hu => (cell_far w1 (by omega) u).trans (hc i' u' hu)⟩
/-- the bytes lie in a block that was there -/
theorem Rd.low {w : World} {b : Nat} {bv : Value} {bs : List Int} {p : Nat} (h : Rd w b bv bs p) : b < w.heap.size ∧ (0 < bs.length → ∀ b' o n c, bv = .slice (some ⟨b', o, none⟩) n c → b' < w.heap.size) := by
  refine ⟨obj_lt h.1, fun hp b' o n c hv => ?_⟩
  obtain ⟨A, c', hv', e1, e2, e3⟩ := h.2.2.1
  obtain ⟨b2, o2, hA, h4⟩ := e3 hp
  rw [hv', hA] at hv
  injection hv with e4 _ _
  injection e4 with e4
  injection e4 with e4 _ _
  subst e4
  obtain ⟨cs, hl', he, hc⟩ := h4 0 bs[0] (List.getElem?_eq_getElem hp)
  have h5 := hc 0 cs[0] (List.getElem?_eq_getElem (by omega))
  exact World.block_lt_of_cell? w _ h5

theorem DrawR.more {w w1 w2 : World} {b : Nat} {bv : Value} {bs : List Int} {p q K : Nat} (h : DrawR w b bv bs p K w1) (hg : Gr b w1 w2) (hr : Rd w2 b bv bs (q + 1)) (hq : q ≤ p + K := by omega) : DrawR w b bv bs p (K + 1) w2 := ⟨h.1.trans hg, q + 1, by omega, hr⟩
theorem notRd : ∀ t, (t = 3 ∨ False) → t ≠ 72 := by rintro t (rfl | h) <;> first | decide | exact h.elim
theorem four_at {x : Nat} (h : x < 4) : ∃ y : Int, ([0, 1, 20, 21] : List Int)[x]? = some y ∧ 0 ≤ y ∧ y ≤ 21 := by
  match x, h with
  | 0, _ => exact ⟨0, rfl, by omega, by omega⟩
  | 1, _ => exact ⟨1, rfl, by omega, by omega⟩
  | 2, _ => exact ⟨20, rfl, by omega, by omega⟩
  | 3, _ => exact ⟨21, rfl, by omega, by omega⟩
theorem pick_lt {x : Nat} {n : Int} (h : (x : Int) < n ∨ x = 0) (hn : 0 < n) : (x : Int) < n := by omega
theorem pick_more {b : Nat} {bv : Value} {bs : List Int} {p : Nat} {w w1 w2 : World} (hg : Gr b w w1) {q K : Nat} (hq : p ≤ q + K) (k : Gr b w1 w2) (r : Rd w2 b bv bs (p + 1)) : DrawR w b bv bs q (K + 1) w2 := ⟨hg.trans k, p + 1, by omega, r⟩

set_option maxHeartbeats 2000000 in
theorem dRoom (b : Nat) (bv : Value) (bs : List Int) (p : Nat) (w : World) (h : Rd w b bv bs p) (hp : p ≤ 900000) :
    Calls Try.prog 56 #[.pointer (some ⟨b, 0, none⟩)] w fun e w' => ∃ v xs, e = .returned v ∧ OI w' w.heap.size v xs ∧ xs.length = 3 ∧ (∀ x ∈ xs, 0 ≤ x ∧ x ≤ 21) ∧ DrawR w b bv bs p 6 w' := by
  have HR0 := hid h
  have HL := hid h.low
  clear h
  go_enter Try.func56, Try.ntmps56
  go_wp2_with (first
    | (go_at_call 31; have hq := HR5.out; refine (dPick b bv bs _ _ _ hq (by omega) (by omega)).mono ?_; rintro e w6 ⟨x6, rfl, ho6, hg6, hr6⟩; have hx6 := pick_lt ho6 (by decide); clear ho6; have HO6 := hid (Own.same EI.ok HO5.out (hg6.same hq (fun t => t = 3 ∨ False) notRd)); have HB6 := hid (Own.same EI.ok HB5.out (hg6.same hq (fun t => t = 3 ∨ False) notRd)); have HT6 := hid (HT5.out.more hg6 hr6); obtain ⟨y6, hy6, hyb⟩ := four_at (x := x6) (by omega); obtain ⟨cb6, _, _⟩ := OI.at_ HB6.out hy6; obtain ⟨z6, hz6⟩ : ∃ z, ([6 + (x1 : Int), 6 + (x2 : Int), 6 + (x3 : Int)] : List Int)[x5]? = some z := ⟨_, List.getElem?_eq_getElem (by show x5 < 3; omega)⟩; obtain ⟨co6, fo6, _⟩ := OI.at_ HO6.out hz6; clear hg6 hr6 hq)
    | (go_at_call 31; have hq := HR4.out; refine (dPick b bv bs _ _ _ hq (by omega) (by omega)).mono ?_; rintro e w5 ⟨x5, rfl, ho5, hg5, hr5⟩; have hx5 := pick_lt ho5 (by decide); clear ho5; have HO5 := hid ((Own.same EI.ok HO4.out (hg5.same hq (fun t => t = 3 ∨ False) notRd)).ext EI.ok (Ext.alloc w5 (.cells #[.int .i64 0, .int .i64 1, .int .i64 20, .int .i64 21] 3))); have HB5 : Hid (OI (w5.alloc (.cells #[.int .i64 0, .int .i64 1, .int .i64 20, .int .i64 21] 3)) w5.heap.size (.slice (some ⟨w5.heap.size, 0, none⟩) 4 4) [0, 1, 20, 21]) := hid (OI.lit w5 [0, 1, 20, 21] (by simp) w5.heap.size (Nat.le_refl _)); have HT5 := hid ((HT4.out.more hg5 hr5).ext (Ext.alloc w5 (.cells #[.int .i64 0, .int .i64 1, .int .i64 20, .int .i64 21] 3))); have HR5 := hid (hr5.ext (Ext.alloc w5 (.cells #[.int .i64 0, .int .i64 1, .int .i64 20, .int .i64 21] 3))); clear hg5 hr5 hq)
    | (go_at_call 31; have hq := HR3.out; refine (dPick b bv bs _ _ _ hq (by omega) (by omega)).mono ?_; rintro e w4 ⟨x4, rfl, ho4, hg4, hr4⟩; have hx4 := pick_lt ho4 (by decide); clear ho4; have HR4 := hid hr4; have HT4 := hid (HT3.out.more hg4 hr4); have HO4 := hid (Own.same EI.ok HO3.out (hg4.same hq (fun t => t = 3 ∨ False) notRd)); clear hg4 hr4 hq)
    | (go_at_call 31; have hq := HR2.out; refine (dPick b bv bs _ _ _ hq (by omega) (by omega)).mono ?_; rintro e w3 ⟨x3, rfl, ho3, hg3, hr3⟩; have hx3 := pick_lt ho3 (by decide); clear ho3; have HT3 := hid ((HT2.out.more hg3 hr3).ext (Ext.alloc w3 (.cells #[.int .i64 (6 + (x1 : Int)), .int .i64 (6 + (x2 : Int)), .int .i64 (6 + (x3 : Int))] 3))); have HR3 := hid (hr3.ext (Ext.alloc w3 (.cells #[.int .i64 (6 + (x1 : Int)), .int .i64 (6 + (x2 : Int)), .int .i64 (6 + (x3 : Int))] 3))); have HO3 : Hid (OI (w3.alloc (.cells #[.int .i64 (6 + (x1 : Int)), .int .i64 (6 + (x2 : Int)), .int .i64 (6 + (x3 : Int))] 3)) w.heap.size (.slice (some ⟨w3.heap.size, 0, none⟩) 3 3) [6 + (x1 : Int), 6 + (x2 : Int), 6 + (x3 : Int)]) := hid (OI.lit w3 [6 + (x1 : Int), 6 + (x2 : Int), 6 + (x3 : Int)] (by simp) w.heap.size (HT2.out.1.trans hg3).size); clear hg3 hr3 hq)
    | (go_at_call 31; have hq := HR1.out; refine (dPick b bv bs _ _ _ hq (by omega) (by omega)).mono ?_; rintro e w2 ⟨x2, rfl, ho2, hg2, hr2⟩; have hx2 := pick_lt ho2 (by decide); clear ho2; have HR2 := hid hr2; have HT2 := hid (HT1.out.more hg2 hr2); clear hg2 hr2 hq)
    | (go_at_call 31; refine (dPick b bv bs _ _ _ HR0.out (by omega) (by omega)).mono ?_; rintro e w1 ⟨x1, rfl, ho1, hg1, hr1⟩; have hx1 := pick_lt ho1 (by decide); clear ho1; have HR1 := hid hr1; have HT1 : Hid (DrawR w b bv bs p 1 w1) := hid ⟨hg1, _, Nat.le_refl _, hr1⟩; clear hg1 hr1))
  · go_ret
    have hlow := (HO6.out.lt _ rfl).1
    have hs := (OI.set HO6.out (j := x5) (by show x5 < 3; omega) y6).1
    refine ⟨_, _, rfl, hs, by simp, fun x hx => ?_, (HT6.out.stored hlow HL.out.1 HL.out.2 _).mono (by omega)⟩
    rcases List.mem_or_eq_of_mem_set hx with hx | rfl
    · simp at hx; omega
    · exact hyb
  · go_ret
    exact ⟨_, _, rfl, HO4.out, rfl, fun x hx => by simp at hx; omega, HT4.out.mono (by omega)⟩

end Go.Proofs.Ytcfpilkhjpegcaa

/- Needs and tasks that are drawn. -/
namespace Go.Proofs.Ytcfpilkhjpegcaa
open Go.RowKit
set_option maxRecDepth 4000

theorem three_at {x : Nat} (h : x < 3) : ∃ y : Int, ([-1, 20, 21] : List Int)[x]? = some y ∧ -1 ≤ y ∧ y ≤ 21 := by
  match x, h with
  | 0, _ => exact ⟨-1, rfl, by omega, by omega⟩
  | 1, _ => exact ⟨20, rfl, by omega, by omega⟩
  | 2, _ => exact ⟨21, rfl, by omega, by omega⟩
theorem Gr.obj {b : Nat} {w w' : World} (h : Gr b w w') {k : Nat} {o : Obj} (hk : w.heap[k]? = some o) (hb : k ≠ b) : w'.heap[k]? = some o := (h.block k (Array.getElem?_eq_some_iff.1 hk).1 (by intro he; injection he with he; exact hb he)).trans hk
theorem bd3 {l h a b c : Int} (ha : l ≤ a ∧ a ≤ h) (hb : l ≤ b ∧ b ≤ h) (hc : l ≤ c ∧ c ≤ h) : ∀ x ∈ ([a, b, c] : List Int), l ≤ x ∧ x ≤ h := by
  intro x hx
  simp only [List.mem_cons, List.not_mem_nil, or_false] at hx
  rcases hx with rfl | rfl | rfl
  · exact ha
  · exact hb
  · exact hc

theorem set3 {l h a b c y : Int} {i : Nat} (ha : l ≤ a ∧ a ≤ h) (hb : l ≤ b ∧ b ≤ h) (hc : l ≤ c ∧ c ≤ h) (hy : l ≤ y ∧ y ≤ h) : ∀ x ∈ ([a, b, c] : List Int).set i y, l ≤ x ∧ x ≤ h := by
  intro x hx
  rcases List.mem_or_eq_of_mem_set hx with hx | rfl
  · exact bd3 ha hb hc x hx
  · exact hy
/-- a struct of two cells is taken into the block of the results -/
theorem res2 {W : World} {H G : Nat} {z0 z1 u v : Value} {t : TypeId} (pH : W.heap[H]? = some (.cells #[z0, z1] t (0, 0))) (pG : W.heap[G]? = some (.cells #[u, v] t (0, 0))) :
    W.cell? ⟨G, 0, none⟩ = some u ∧ W.cell? ⟨G, 1, none⟩ = some v ∧ W.cell? ⟨H, 0, none⟩ = some z0 ∧ W.cell? ⟨H, 1, none⟩ = some z1 ∧ W.frozen? ⟨H, 0, none⟩ = false ∧ W.frozen? ⟨H, 1, none⟩ = false ∧
    (W.setCell ⟨H, 0, none⟩ u).cell? ⟨H, 1, none⟩ = some z1 ∧ (W.setCell ⟨H, 0, none⟩ u).frozen? ⟨H, 1, none⟩ = false ∧
    ((W.setCell ⟨H, 0, none⟩ u).setCell ⟨H, 1, none⟩ v).cell? ⟨H, 0, none⟩ = some u ∧ ((W.setCell ⟨H, 0, none⟩ u).setCell ⟨H, 1, none⟩ v).cell? ⟨H, 1, none⟩ = some v ∧
    (∀ T : TypeId → Prop, (∀ s, T s → s ≠ t) → SameT T W ((W.setCell ⟨H, 0, none⟩ u).setCell ⟨H, 1, none⟩ v)) := by
  have k := obj_set pH 0 u
  have r := obj_set2 pH u v
  exact ⟨obj_cell pG (i := 0) rfl, obj_cell pG (i := 1) rfl, obj_cell pH (i := 0) rfl, obj_cell pH (i := 1) rfl, obj_frozen pH 0, obj_frozen pH 1, obj_cell k (i := 1) rfl, obj_frozen k 1, obj_cell r (i := 0) rfl, obj_cell r (i := 1) rfl,
    fun T hT => (SameT.setCell (p := ⟨H, 0, none⟩) pH u hT).trans (SameT.setCell (p := ⟨H, 1, none⟩) k v hT)⟩

set_option maxHeartbeats 4000000 in
theorem dTask (b : Nat) (bv : Value) (bs : List Int) (p : Nat) (id : Int) (w : World) (h : Rd w b bv bs p) (hp : p ≤ 900000) :
    Calls Try.prog 60 #[.pointer (some ⟨b, 0, none⟩), .int .i64 id] w fun e w' => ∃ v xs, e = .returned (.agg #[.int .i64 id, v]) ∧ OI w' w.heap.size v xs ∧ xs.length = 3 ∧ (∀ x ∈ xs, 0 ≤ x ∧ x ≤ 7) ∧ DrawR w b bv bs p 6 w' := by
  have HR0 := hid (h.ext (Ext.alloc w (.cells #[.int .i64 0, .slice none 0 0] 80)))
  have HG0 := hid (Gr.of_ext (b := b) (Ext.alloc w (.cells #[.int .i64 0, .slice none 0 0] 80)))
  have HL := hid h.low
  have hbl : b < w.heap.size := h.low.1
  have P0 := hid (heap_alloc_new w (.cells #[.int .i64 0, .slice none 0 0] 80))
  clear h
  go_enter Try.func60, Try.ntmps60
  go_wp2_with (first
    | (go_at_call 31; have hq := HR3.out; refine (dPick b bv bs _ _ _ hq (by omega) (by omega)).mono ?_; rintro e w4 ⟨x4, rfl, ho4, hg4, hr4⟩; have hx4 := pick_lt ho4 (by decide); clear ho4; have HR4 := hid hr4; have HT4 := hid (HT3.out.more hg4 hr4); have HO4 := hid (Own.same EI.ok HO3.out (hg4.same hq (fun t => t = 3 ∨ False) notRd)); have P4 := hid (hg4.obj P3.out (by omega)); have Q4 := hid (hg4.obj Q3.out (by omega)); obtain ⟨e0, e1, y0, y1, y0f, y1f, k1, k1f, r0, r1, hsm⟩ := res2 P4.out Q4.out; have HSM := hid hsm; clear hg4 hr4 hq hsm)
    | (go_at_call 31; have hq := HR2.out; refine (dPick b bv bs _ _ _ hq (by omega) (by omega)).mono ?_; rintro e w3 ⟨x3, rfl, ho3, hg3, hr3⟩; have hx3 := pick_lt ho3 (by decide); clear ho3; have hEE := (Ext.alloc w3 (.cells #[.int .i64 (x1 : Int), .int .i64 (x2 : Int), .int .i64 (x3 : Int)] 3)).trans (Ext.alloc _ (.cells #[.int .i64 id, .slice (some ⟨w3.heap.size, 0, none⟩) 3 3] 80)); have HT3 := hid ((HT2.out.more hg3 hr3).ext hEE); have HR3 := hid (hr3.ext hEE); have HO3 : Hid (OI ((w3.alloc (.cells #[.int .i64 (x1 : Int), .int .i64 (x2 : Int), .int .i64 (x3 : Int)] 3)).alloc (.cells #[.int .i64 id, .slice (some ⟨w3.heap.size, 0, none⟩) 3 3] 80)) w.heap.size (.slice (some ⟨w3.heap.size, 0, none⟩) 3 3) [(x1 : Int), (x2 : Int), (x3 : Int)]) := hid ((OI.lit w3 [(x1 : Int), (x2 : Int), (x3 : Int)] (by simp) w.heap.size (HT2.out.1.trans hg3).size).ext EI.ok (Ext.alloc _ _)); have P3 := hid (hEE.obj (hg3.obj P2.out (by omega))); have Q3 : Hid (((w3.alloc (.cells #[.int .i64 (x1 : Int), .int .i64 (x2 : Int), .int .i64 (x3 : Int)] 3)).alloc (.cells #[.int .i64 id, .slice (some ⟨w3.heap.size, 0, none⟩) 3 3] 80)).heap[w3.heap.size + 1]? = some (.cells #[.int .i64 id, .slice (some ⟨w3.heap.size, 0, none⟩) 3 3] 80 (0, 0))) := hid (heap_new (by simp)); have hsz3 := obj_lt (hg3.obj P2.out (by omega)); clear hg3 hr3 hq hEE)
    | (go_at_call 31; have hq := HR1.out; refine (dPick b bv bs _ _ _ hq (by omega) (by omega)).mono ?_; rintro e w2 ⟨x2, rfl, ho2, hg2, hr2⟩; have hx2 := pick_lt ho2 (by decide); clear ho2; have HR2 := hid hr2; have HT2 := hid (HT1.out.more hg2 hr2); have P2 := hid (hg2.obj P1.out (by omega)); clear hg2 hr2 hq)
    | (go_at_call 31; refine (dPick b bv bs _ _ _ HR0.out (by omega) (by omega)).mono ?_; rintro e w1 ⟨x1, rfl, ho1, hg1, hr1⟩; have hx1 := pick_lt ho1 (by decide); clear ho1; have HR1 := hid hr1; have HT1 : Hid (DrawR w b bv bs p 1 w1) := hid ⟨HG0.out.trans hg1, _, Nat.le_refl _, hr1⟩; have P1 := hid (hg1.obj P0.out (by omega)); clear hg1 hr1))
  · have KS := hid (obj_cell Q4.out (i := 1) rfl)
    refine WG.start (fun w' => w'.cell? ⟨w3.heap.size + 1, 1, none⟩ = some (.slice (some ⟨w3.heap.size, 0, none⟩) 3 3)) [8] (by kernel_rfl) (by exact KS.out) (fun hHeld => ?_)
    (refine WG.take (i := 0) (v := ?_) rfl (by kernel_rfl) (by kernel_rfl) (by kernel_rfl) (by kernel_rfl) (fun _ _ _ h => h) (Or.inl ⟨by rfl, ?_⟩) (by assumption) ?_; rotate_left; (intro w hSw; (try dsimp only at hSw); go_split_ands; go_simp; (try with_reducible rfl)); (try simp only [Act.put, List.setIfInBounds_toArray, List.set_cons_zero, List.set_cons_succ]))
    (refine WG.take (i := 1) (v := ?_) rfl (by kernel_rfl) (by kernel_rfl) (by kernel_rfl) (by kernel_rfl) (fun _ _ _ h => h) (Or.inl ⟨by rfl, ?_⟩) (by assumption) ?_; rotate_left; (intro w hSw; (try dsimp only at hSw); go_split_ands; go_simp; (try with_reducible rfl)); (try simp only [Act.put, List.setIfInBounds_toArray, List.set_cons_zero, List.set_cons_succ]))
    (refine WG.take (i := 2) (v := ?_) rfl (by kernel_rfl) (by kernel_rfl) (by kernel_rfl) (by kernel_rfl) (fun _ _ _ h => h) (Or.inl ⟨by rfl, ?_⟩) (by assumption) ?_; rotate_left; (intro w hSw; (try dsimp only at hSw); go_split_ands; go_simp; (try with_reducible rfl)); (try simp only [Act.put, List.setIfInBounds_toArray, List.set_cons_zero, List.set_cons_succ]))
    (refine WG.take (i := 4) (v := ?_) rfl (by kernel_rfl) (by kernel_rfl) (by kernel_rfl) (by kernel_rfl) (fun _ _ _ h => h) (Or.inl ⟨by rfl, ?_⟩) (by assumption) ?_; rotate_left; (intro w hSw; (try dsimp only at hSw); go_split_ands; go_simp; (try with_reducible rfl)); (try simp only [Act.put, List.setIfInBounds_toArray, List.set_cons_zero, List.set_cons_succ]))
    refine WG.one (i := 3) rfl (by kernel_rfl) (fun K hK => ?_)
    go_simp; refine (dPick b bv bs _ _ _ (HR4.out.ext (Below.drew (Below.refl _ _))) (by omega) (by omega)).mono ?_; rintro e5 w5 ⟨x5, rfl, ho5, hg5, hr5⟩; have hx5 := pick_lt ho5 (by decide); clear ho5; have hg5 := (Gr.of_ext (b := b) (Below.drew (Below.refl w4.heap.size w4))).trans hg5; have HR5 := hid hr5; have HT5 := hid (HT4.out.more hg5 hr5); have HO5 := hid (Own.same EI.ok HO4.out (hg5.same HR4.out (fun t => t = 3 ∨ False) notRd)); have P5 := hid (hg5.obj P4.out (by omega)); have Q5 := hid (hg5.obj Q4.out (by omega)); clear hg5 hr5; (try dsimp only)
    refine hK.out _ _ (by exact obj_cell Q5.out (i := 1) rfl) (fun hHeld => ?_)
    clear hK K
    (try simp only [Act.put, List.setIfInBounds_toArray, List.set_cons_zero, List.set_cons_succ])
    refine WG.one (i := 5) rfl (by kernel_rfl) (fun K hK => ?_)
    go_simp; refine (dPick b bv bs _ _ _ HR5.out (by omega) (by omega)).mono ?_; rintro e6 w6 ⟨x6, rfl, ho6, hg6, hr6⟩; have hx6 := pick_lt ho6 (by decide); clear ho6; have HR6 := hid hr6; have HT6 := hid (HT5.out.more hg6 hr6); have HO6 := hid (Own.same EI.ok HO5.out (hg6.same HR5.out (fun t => t = 3 ∨ False) notRd)); have P6 := hid (hg6.obj P5.out (by omega)); have Q6 := hid (hg6.obj Q5.out (by omega)); clear hg6 hr6; (try dsimp only)
    refine hK.out _ _ (by exact obj_cell Q6.out (i := 1) rfl) (fun hHeld => ?_)
    clear hK K
    (try simp only [Act.put, List.setIfInBounds_toArray, List.set_cons_zero, List.set_cons_succ])
    (refine WG.take (i := 6) (v := ?_) rfl (by kernel_rfl) (by kernel_rfl) (by kernel_rfl) (by kernel_rfl) (fun _ _ _ h => h) (Or.inl ⟨by rfl, ?_⟩) (by assumption) ?_; rotate_left; (intro w hSw; (try dsimp only at hSw); go_split_ands; go_simp; (try with_reducible rfl)); (try simp only [Act.put, List.setIfInBounds_toArray, List.set_cons_zero, List.set_cons_succ]))
    (refine WG.take (i := 7) (v := ?_) rfl (by kernel_rfl) (by kernel_rfl) (by kernel_rfl) (by kernel_rfl) (fun _ _ _ h => h) (Or.inl ⟨by rfl, ?_⟩) (by assumption) ?_; rotate_left; (intro w hSw; (try dsimp only at hSw); go_split_ands; go_simp; (try with_reducible rfl)); (try simp only [Act.put, List.setIfInBounds_toArray, List.set_cons_zero, List.set_cons_succ]))
    obtain ⟨z6, hz6⟩ : ∃ z, ([(x1 : Int), (x2 : Int), (x3 : Int)] : List Int)[x5]? = some z := ⟨_, List.getElem?_eq_getElem (by show x5 < 3; omega)⟩
    obtain ⟨co6, fo6, hlow⟩ := OI.at_ HO6.out hz6
    refine WG.last (i := 8) rfl (by kernel_rfl) (by kernel_rfl) (fun K hK => ?_)
    go_simp
    refine hK.out _ _ ?_
    clear hK K
    (try simp only [Act.put, List.setIfInBounds_toArray, List.set_cons_zero, List.set_cons_succ])
    refine WG.done (by kernel_rfl) ?_
    clear e0 e1 y0 y1 y0f y1f k1 k1f r0 r1
    obtain ⟨W7, hW7⟩ : ∃ W7, W7 = w6.setCell ⟨w3.heap.size, x5, none⟩ (.int .i64 (4 + (x6 : Int))) := ⟨_, rfl⟩
    rw [show IntKind.i64.wrap (4 + (x6 : Int)) = 4 + (x6 : Int) from IntWalk.i64_in _ (by omega), ← hW7]
    have P7 : W7.heap[w.heap.size]? = some (.cells #[.int .i64 0, .slice none 0 0] 80 (0, 0)) := by rw [hW7]; exact obj_far P6.out (by show w.heap.size ≠ w3.heap.size; omega) _
    have Q7 : W7.heap[w3.heap.size + 1]? = some (.cells #[.int .i64 id, .slice (some ⟨w3.heap.size, 0, none⟩) 3 3] 80 (0, 0)) := by rw [hW7]; exact obj_far Q6.out (by show w3.heap.size + 1 ≠ w3.heap.size; omega) _
    have HO7 : Hid (OI W7 w.heap.size (.slice (some ⟨w3.heap.size, 0, none⟩) 3 3) (([(x1 : Int), (x2 : Int), (x3 : Int)] : List Int).set x5 (4 + (x6 : Int)))) := hid (by rw [hW7]; exact (OI.set HO6.out (j := x5) (by show x5 < 3; omega) (4 + (x6 : Int))).1)
    have HT7 := hid (HT6.out.stored hlow HL.out.1 HL.out.2 (i := x5) (.int .i64 (4 + (x6 : Int))))
    rw [← hW7] at HT7
    clear hW7
    obtain ⟨e0, e1, y0, y1, y0f, y1f, k1, k1f, r0, r1, hsm⟩ := res2 P7 Q7
    have HSM := hid hsm
    clear hsm P7 Q7
    go_wp2
    refine bodyPost_ret (v := .agg #[.int .i64 id, .slice (some ⟨w3.heap.size, 0, none⟩) 3 3]) (by simp [results, Try.results60, go_sem, r0, r1]) rfl ⟨_, _, rfl, Own.same EI.ok HO7.out (HSM.out (fun t => t = 3 ∨ False) (by rintro t (rfl | h) <;> first | decide | exact h.elim)), by simp, set3 (by omega) (by omega) (by omega) (by omega), ((HT7.out.stored (Nat.le_refl _) HL.out.1 HL.out.2 _).stored (Nat.le_refl _) HL.out.1 HL.out.2 _).mono (by omega)⟩
  · refine bodyPost_ret (v := .agg #[.int .i64 id, .slice (some ⟨w3.heap.size, 0, none⟩) 3 3]) (by simp [results, Try.results60, go_sem, r0, r1]) rfl ⟨_, _, rfl, Own.same EI.ok HO4.out (HSM.out (fun t => t = 3 ∨ False) (by rintro t (rfl | h) <;> first | decide | exact h.elim)), rfl, bd3 (by omega) (by omega) (by omega), ((HT4.out.stored (Nat.le_refl _) HL.out.1 HL.out.2 _).stored (Nat.le_refl _) HL.out.1 HL.out.2 _).mono (by omega)⟩

end Go.Proofs.Ytcfpilkhjpegcaa
