/- What came in: a slice value that reads as a list, whatever its block's type. -/
import Derived.Test.YtkdkmihgnplooaaGreatK4
import Derived.Laws.BitsLemmas
namespace Go.Proofs.YtkdkmihgnplooaaGreat
open Go.RowKit
set_option maxRecDepth 4000

def RXl {α : Type} (size : Nat) (E : Enc α) (w : World) (v : Value) (xs : List α) : Prop :=
  ∃ A c, v = .slice A xs.length c ∧ xs.length ≤ c ∧ c ≤ 9223372036854775807 ∧ (0 < xs.length → ∃ b o, A = some ⟨b, o, none⟩ ∧
    ∀ j x, xs[j]? = some x → ∃ cs : List Value, cs.length = size ∧ E w cs x ∧ ∀ i u, cs[i]? = some u → w.cell? ⟨b, o + (j * size + i), none⟩ = some u)
def Enc.OkX {α : Type} (E : Enc α) : Prop := ∀ w w' cs x, E w cs x → Ext w w' → E w' cs x
theorem RXl.ext_ {α : Type} {size : Nat} {E : Enc α} (ok : E.OkX) {w w' : World} {v : Value} {xs : List α} (h : RXl size E w v xs) (ha : Ext w w') : RXl size E w' v xs := by
  obtain ⟨A, c, hv, hc, hc', h⟩ := h
  refine ⟨A, c, hv, hc, hc', fun hn => ?_⟩
  obtain ⟨b, o, hA, h⟩ := h hn
  refine ⟨b, o, hA, fun j x hx => ?_⟩
  obtain ⟨cs, hl, he, hcell⟩ := h j x hx
  exact ⟨cs, hl, ok _ _ _ _ he ha, fun i u hu => ha.cell (hcell i u hu)⟩
theorem RXl.get_ {α : Type} {size : Nat} {E : Enc α} {w : World} {v : Value} {xs : List α} (h : RXl size E w v xs) : ∃ A c, v = .slice A xs.length c ∧ xs.length ≤ c ∧ c ≤ 9223372036854775807 ∧
    ∀ (j : Nat), j < xs.length → ∃ b o x cs, A = some ⟨b, o, none⟩ ∧ xs[j]? = some x ∧ cs.length = size ∧ E w cs x ∧ ∀ i u, cs[i]? = some u → w.cell? ⟨b, o + (j * size + i), none⟩ = some u := by
  obtain ⟨A, c, hv, h1, h2, h⟩ := h
  refine ⟨A, c, hv, h1, h2, fun j hj => ?_⟩
  obtain ⟨b, o, hA, h⟩ := h (by omega)
  obtain ⟨cs, hl, he, hc⟩ := h j xs[j] (List.getElem?_eq_getElem hj)
  exact ⟨b, o, xs[j], cs, hA, List.getElem?_eq_getElem hj, hl, he, hc⟩

theorem EI.okx : EI.OkX := fun _ _ _ _ h _ => h
abbrev XI := RXl 1 EI
def EXT : Enc TaskD := fun w cs t => ∃ nv, cs = [.int .i64 t.id, nv] ∧ XI w nv t.need
theorem EXT.okx : EXT.OkX := fun _ _ _ _ ⟨v, h, hr⟩ ha => ⟨v, h, RXl.ext_ EI.okx hr ha⟩
abbrev XT := RXl 2 EXT
theorem XI.ext {w w' : World} {v : Value} {xs : List Int} (h : XI w v xs) (ha : Ext w w') : XI w' v xs := RXl.ext_ EI.okx h ha
theorem XT.ext {w w' : World} {v : Value} {xs : List TaskD} (h : XT w v xs) (ha : Ext w w') : XT w' v xs := RXl.ext_ EXT.okx h ha
theorem XI.get {w : World} {v : Value} {xs : List Int} (h : XI w v xs) : ∃ A c, v = .slice A xs.length c ∧ xs.length ≤ c ∧ c ≤ 9223372036854775807 ∧
    ∀ (j : Nat), j < xs.length → ∃ b o x, A = some ⟨b, o, none⟩ ∧ Hid (xs[j]? = some x) ∧ w.cell? ⟨b, o + j, none⟩ = some (.int .i64 x) := by
  obtain ⟨A, c, hv, h1, h2, h⟩ := RXl.get_ h
  refine ⟨A, c, hv, h1, h2, fun j hj => ?_⟩
  obtain ⟨b, o, x, cs, hA, hx, _, he, hc⟩ := h j hj
  subst he
  exact ⟨b, o, x, hA, hx, by simpa using hc 0 _ rfl⟩
theorem XT.get {w : World} {v : Value} {xs : List TaskD} (h : XT w v xs) : ∃ A c, v = .slice A xs.length c ∧ xs.length ≤ c ∧ c ≤ 9223372036854775807 ∧
    ∀ (j : Nat), j < xs.length → ∃ b o x An cn, A = some ⟨b, o, none⟩ ∧ Hid (xs[j]? = some x) ∧ w.cell? ⟨b, o + j * 2, none⟩ = some (.int .i64 x.id) ∧ w.cell? ⟨b, o + j * 2 + 1, none⟩ = some (.slice An x.need.length cn) ∧ XI w (.slice An x.need.length cn) x.need := by
  obtain ⟨A, c, hv, h1, h2, h⟩ := RXl.get_ h
  refine ⟨A, c, hv, h1, h2, fun j hj => ?_⟩
  obtain ⟨b, o, x, cs, hA, hx, _, ⟨nv, he, hr⟩, hc⟩ := h j hj
  subst he
  have hr0 := hr
  obtain ⟨An, cn, rfl, _⟩ := hr
  have hr := hr0
  exact ⟨b, o, x, An, cn, hA, hx, by simpa using hc 0 _ rfl, by simpa [Nat.add_assoc] using hc 1 _ rfl, hr⟩
def EXU : Enc UnitD := fun w cs u => ∃ v, cs = [.bool u.opened, v] ∧ XT w v u.tasks
theorem EXU.okx : EXU.OkX := fun _ _ _ _ ⟨v, h, hr⟩ ha => ⟨v, h, XT.ext hr ha⟩
abbrev XU := RXl 2 EXU
theorem XU.ext {w w' : World} {v : Value} {xs : List UnitD} (h : XU w v xs) (ha : Ext w w') : XU w' v xs := RXl.ext_ EXU.okx h ha
theorem XU.get {w : World} {v : Value} {xs : List UnitD} (h : XU w v xs) : ∃ A c, v = .slice A xs.length c ∧ xs.length ≤ c ∧ c ≤ 9223372036854775807 ∧
    ∀ (j : Nat), j < xs.length → ∃ b o x An cn, A = some ⟨b, o, none⟩ ∧ Hid (xs[j]? = some x) ∧ w.cell? ⟨b, o + j * 2, none⟩ = some (.bool x.opened) ∧ w.cell? ⟨b, o + j * 2 + 1, none⟩ = some (.slice An x.tasks.length cn) ∧ XT w (.slice An x.tasks.length cn) x.tasks := by
  obtain ⟨A, c, hv, h1, h2, h⟩ := RXl.get_ h
  refine ⟨A, c, hv, h1, h2, fun j hj => ?_⟩
  obtain ⟨b, o, x, cs, hA, hx, _, ⟨nv, he, hr⟩, hc⟩ := h j hj
  subst he
  have hr0 := hr
  obtain ⟨An, cn, rfl, _⟩ := hr
  have hr := hr0
  exact ⟨b, o, x, An, cn, hA, hx, by simpa using hc 0 _ rfl, by simpa [Nat.add_assoc] using hc 1 _ rfl, hr⟩
def ClusX (w : World) (v : Value) (c : ClusD) : Prop := ∃ rv uv, v = .agg #[rv, uv] ∧ XI w rv c.room ∧ XU w uv c.units
theorem ClusX.ext {w w' : World} {v : Value} {c : ClusD} (h : ClusX w v c) (ha : Ext w w') : ClusX w' v c := let ⟨rv, uv, h1, h2, h3⟩ := h; ⟨rv, uv, h1, XI.ext h2 ha, XU.ext h3 ha⟩

/-- n zero elements, of the call's own -/
theorem Own.full {α : Type} {e : TypeId} {size : Nat} {E : Enc α} {w : World} {base : Nat} {v : Value} {n : Nat} {z : Value} (x0 : α) (hz : z.cells.size = size) (he : E w z.cells.toList x0)
    (h : w.ownsRow base e size v n (madeCells z.cells (n * size)).toList) : Own e size E w base v (List.replicate n x0) := by
  refine ⟨_, by rw [List.length_replicate]; exact h, by rw [List.length_replicate]; exact h.1, fun j x hx => ?_⟩
  rw [List.getElem?_replicate] at hx
  split at hx
  · rename_i hj
    injection hx with hx
    subst hx
    refine ⟨z.cells.toList, by simpa using hz, he, fun i u hu => ?_⟩
    have hi : i < size := by
      have := (List.getElem?_eq_some_iff.1 hu).1
      rw [← hz]; simpa using this
    have hlt : j * size + i < n * size := by
      have : (j + 1) * size ≤ n * size := Nat.mul_le_mul_right _ hj
      rw [Nat.add_mul] at this
      omega
    have hmod : (j * size + i) % size = i := by rw [Nat.mul_comm, Nat.mul_add_mod]; exact Nat.mod_eq_of_lt hi
    have e1 : z.cells[i]? = some u := by simpa using hu
    have hmod' : (j * size + i) % z.cells.size = i := by rw [hz]; exact hmod
    unfold madeCells
    simp [hlt, hmod']
    rw [getElem!_def, e1]
  · cases hx

end Go.Proofs.YtkdkmihgnplooaaGreat

/- The reader of codes. -/
namespace Go.Proofs.YtkdkmihgnplooaaGreat
open Go.RowKit
set_option maxRecDepth 4000

def EBy : Enc Int := fun _ cs x => cs = [.int .u8 x] ∧ 0 ≤ x ∧ x ≤ 255
theorem EBy.okx : EBy.OkX := fun _ _ _ _ h _ => h
abbrev XBy := RXl 1 EBy
theorem XBy.get {w : World} {v : Value} {xs : List Int} (h : XBy w v xs) : ∃ A c, v = .slice A xs.length c ∧ xs.length ≤ c ∧ c ≤ 9223372036854775807 ∧
    ∀ (j : Nat), j < xs.length → ∃ b o x, A = some ⟨b, o, none⟩ ∧ w.cell? ⟨b, o + j, none⟩ = some (.int .u8 x) ∧ 0 ≤ x ∧ x ≤ 255 := by
  obtain ⟨A, c, hv, h1, h2, h⟩ := RXl.get_ h
  refine ⟨A, c, hv, h1, h2, fun j hj => ?_⟩
  obtain ⟨b, o, x, cs, hA, _, _, ⟨he, hx0, hx1⟩, hc⟩ := h j hj
  subst he
  exact ⟨b, o, x, hA, by simpa using hc 0 _ rfl, hx0, hx1⟩

abbrev Gr (b : Nat) (w w' : World) : Prop := w.grownBy w' (some b)
theorem Gr.refl (b : Nat) (w : World) : Gr b w w := ⟨rfl, rfl, rfl, Nat.le_refl _, fun _ _ _ => rfl⟩
theorem Gr.trans {b : Nat} {w w1 w2 : World} (h : Gr b w w1) (k : Gr b w1 w2) : Gr b w w2 := ⟨k.os.trans h.os, k.tape.trans h.tape, k.output.trans h.output, Nat.le_trans h.size k.size, fun i hi hn => (k.block i (Nat.lt_of_lt_of_le hi h.size) hn).trans (h.block i hi hn)⟩
theorem Gr.of_ext {b : Nat} {w w' : World} (h : Ext w w') : Gr b w w' := ⟨h.os, h.tape, h.output, h.size, fun i hi _ => h.block i hi⟩
theorem Gr.setCell (w : World) (b i : Nat) (u : Value) : Gr b w (w.setCell ⟨b, i, none⟩ u) :=
  ⟨by simp [World.setCell], by simp [World.setCell], by simp [World.setCell], by simp [World.setCell], fun k _ hn => Below.heap_setCell _ _ _ _ (fun h => hn (by rw [h]))⟩
theorem Gr.below {b H : Nat} {w w' : World} (h : Gr b w w') (hb : H ≤ b) (hs : H ≤ w.heap.size) : Below H w w' := Below.grown (Below.refl _ _) h hs (fun k hk => by injection hk with hk; omega)
theorem cell_far (w : World) {b b' o i : Nat} (h : b' ≠ b) (u : Value) : (w.setCell ⟨b, i, none⟩ u).cell? ⟨b', o, none⟩ = w.cell? ⟨b', o, none⟩ :=
  World.cell?_of_block (w := w) (a := ⟨b', o, none⟩) (Below.heap_setCell _ _ _ _ h)
theorem xor_nat (a b : Nat) (ha : a < 2 ^ 40) (hb : b < 2 ^ 40) : bits BinOp.xor IntKind.i64 (a : Int) (b : Int) = ((a ^^^ b : Nat) : Int) := by
  have hp : 2 ^ 40 ≤ 2 ^ IntKind.i64.bits := Nat.pow_le_pow_right (by decide) (by decide)
  have ha' : a % 2 ^ IntKind.i64.bits = a := Nat.mod_eq_of_lt (Nat.lt_of_lt_of_le ha hp)
  have hb' : b % 2 ^ IntKind.i64.bits = b := Nat.mod_eq_of_lt (Nat.lt_of_lt_of_le hb hp)
  have hx : a ^^^ b < 2 ^ 40 := Nat.xor_lt_two_pow ha hb
  simp only [bits, BitVec.ofInt_natCast, BitVec.toNat_xor, BitVec.toNat_ofNat, ha', hb']
  exact IntWalk.i64_in _ (by omega)
theorem xor_nn {a b : Int} (ha : 0 ≤ a) (ha' : a < 1099511627776) (hb : 0 ≤ b) (hb' : b < 1099511627776) : 0 ≤ bits BinOp.xor IntKind.i64 a b := by
  have h := xor_nat a.toNat b.toNat (by omega) (by omega)
  rw [Int.toNat_of_nonneg ha, Int.toNat_of_nonneg hb] at h
  rw [h]
  omega

end Go.Proofs.YtkdkmihgnplooaaGreat

/- Rooms, tasks and needs that are drawn. -/
namespace Go.Proofs.YtkdkmihgnplooaaGreat
open Go.RowKit
set_option maxRecDepth 4000

theorem XBy.head {w : World} {A : Option Addr} {n c : Nat} {xs : List Int} (h : XBy w (.slice A n c) xs) {k : Nat} (hk : k ≤ xs.length) : XBy w (.slice A k c) (xs.take k) := by
  obtain ⟨A', c', hv, hc, hc', h⟩ := h
  injection hv with h1 h2 h3
  subst h1 h2 h3
  refine ⟨A, c, by rw [List.length_take, Nat.min_eq_left hk], by rw [List.length_take]; omega, hc', fun hn => ?_⟩
  rw [List.length_take] at hn
  obtain ⟨b, o, hA, h⟩ := h (by omega)
  refine ⟨b, o, hA, fun j x hx => ?_⟩
  rw [List.getElem?_take] at hx
  split at hx
  · exact h j x hx
  · cases hx
theorem XBy.ext {w w' : World} {v : Value} {xs : List Int} (h : XBy w v xs) (ha : Ext w w') : XBy w' v xs := RXl.ext_ EBy.okx h ha
end Go.Proofs.YtkdkmihgnplooaaGreat

/- Rooms, tasks and needs that are drawn. -/
namespace Go.Proofs.YtkdkmihgnplooaaGreat
open Go.RowKit
set_option maxRecDepth 4000

theorem four_at {x : Nat} (h : x < 4) : ∃ y : Int, ([0, 1, 20, 21] : List Int)[x]? = some y ∧ 0 ≤ y ∧ y ≤ 21 := by
  match x, h with
  | 0, _ => exact ⟨0, rfl, by omega, by omega⟩
  | 1, _ => exact ⟨1, rfl, by omega, by omega⟩
  | 2, _ => exact ⟨20, rfl, by omega, by omega⟩
  | 3, _ => exact ⟨21, rfl, by omega, by omega⟩
theorem pick_lt {x : Nat} {n : Int} (h : (x : Int) < n ∨ x = 0) (hn : 0 < n) : (x : Int) < n := by omega
end Go.Proofs.YtkdkmihgnplooaaGreat

/- Needs and tasks that are drawn. -/
namespace Go.Proofs.YtkdkmihgnplooaaGreat
open Go.RowKit
set_option maxRecDepth 4000

theorem three_at {x : Nat} (h : x < 3) : ∃ y : Int, ([-1, 20, 21] : List Int)[x]? = some y ∧ -1 ≤ y ∧ y ≤ 21 := by
  match x, h with
  | 0, _ => exact ⟨-1, rfl, by omega, by omega⟩
  | 1, _ => exact ⟨20, rfl, by omega, by omega⟩
  | 2, _ => exact ⟨21, rfl, by omega, by omega⟩
theorem Gr.obj {b : Nat} {w w' : World} (h : Gr b w w') {k : Nat} {o : Obj} (hk : w.heap[k]? = some o) (hb : k ≠ b) : w'.heap[k]? = some o := (h.block k (Array.getElem?_eq_some_iff.1 hk).1 (by intro he; injection he with he; exact hb he)).trans hk
theorem bd3 {l h a b c : Int} (ha : l ≤ a ∧ a ≤ h) (hb : l ≤ b ∧ b ≤ h) (hc : l ≤ c ∧ c ≤ h) : ∀ x ∈ ([a, b, c] : List Int), l ≤ x ∧ x ≤ h := by
  intro x hx
  simp only [List.mem_cons, List.not_mem_nil, or_false] at hx
  rcases hx with rfl | rfl | rfl
  · exact ha
  · exact hb
  · exact hc

theorem set3 {l h a b c y : Int} {i : Nat} (ha : l ≤ a ∧ a ≤ h) (hb : l ≤ b ∧ b ≤ h) (hc : l ≤ c ∧ c ≤ h) (hy : l ≤ y ∧ y ≤ h) : ∀ x ∈ ([a, b, c] : List Int).set i y, l ≤ x ∧ x ≤ h := by
  intro x hx
  rcases List.mem_or_eq_of_mem_set hx with hx | rfl
  · exact bd3 ha hb hc x hx
  · exact hy
/-- a struct of two cells is taken into the block of the results -/
theorem res2 {W : World} {H G : Nat} {z0 z1 u v : Value} {t : TypeId} (pH : W.heap[H]? = some (.cells #[z0, z1] t (0, 0))) (pG : W.heap[G]? = some (.cells #[u, v] t (0, 0))) :
    W.cell? ⟨G, 0, none⟩ = some u ∧ W.cell? ⟨G, 1, none⟩ = some v ∧ W.cell? ⟨H, 0, none⟩ = some z0 ∧ W.cell? ⟨H, 1, none⟩ = some z1 ∧ W.frozen? ⟨H, 0, none⟩ = false ∧ W.frozen? ⟨H, 1, none⟩ = false ∧
    (W.setCell ⟨H, 0, none⟩ u).cell? ⟨H, 1, none⟩ = some z1 ∧ (W.setCell ⟨H, 0, none⟩ u).frozen? ⟨H, 1, none⟩ = false ∧
    ((W.setCell ⟨H, 0, none⟩ u).setCell ⟨H, 1, none⟩ v).cell? ⟨H, 0, none⟩ = some u ∧ ((W.setCell ⟨H, 0, none⟩ u).setCell ⟨H, 1, none⟩ v).cell? ⟨H, 1, none⟩ = some v ∧
    (∀ T : TypeId → Prop, (∀ s, T s → s ≠ t) → SameT T W ((W.setCell ⟨H, 0, none⟩ u).setCell ⟨H, 1, none⟩ v)) := by
  have k := obj_set pH 0 u
  have r := obj_set2 pH u v
  exact ⟨obj_cell pG (i := 0) rfl, obj_cell pG (i := 1) rfl, obj_cell pH (i := 0) rfl, obj_cell pH (i := 1) rfl, obj_frozen pH 0, obj_frozen pH 1, obj_cell k (i := 1) rfl, obj_frozen k 1, obj_cell r (i := 0) rfl, obj_cell r (i := 1) rfl,
    fun T hT => (SameT.setCell (p := ⟨H, 0, none⟩) pH u hT).trans (SameT.setCell (p := ⟨H, 1, none⟩) k v hT)⟩

end Go.Proofs.YtkdkmihgnplooaaGreat
