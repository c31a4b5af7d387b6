/- What came in: a slice value that reads as a list, whatever its block's type. -/
import Derived.Test.YtfgibhdglbjadaaIm9
namespace Go.Proofs.Ytfgibhdglbjadaa
open Go.RowKit
set_option maxRecDepth 4000

def RXl {α : Type} (size : Nat) (E : Enc α) (w : World) (v : Value) (xs : List α) : Prop :=
  ∃ A c, v = .slice A xs.length c ∧ xs.length ≤ c ∧ c ≤ 9223372036854775807 ∧ (0 < xs.length → ∃ b o, A = some ⟨b, o, none⟩ ∧
    ∀ j x, xs[j]? = some x → ∃ cs : List Value, cs.length = size ∧ E w cs x ∧ ∀ i u, cs[i]? = some u → w.cell? ⟨b, o + (j * size + i), none⟩ = some u)
def Enc.OkX {α : Type} (E : Enc α) : Prop := ∀ w w' cs x, E w cs x → Ext w w' → E w' cs x
theorem RXl.ext_ {α : Type} {size : Nat} {E : Enc α} (ok : E.OkX) {w w' : World} {v : Value} {xs : List α} (h : RXl size E w v xs) (ha : Ext w w') : RXl size E w' v xs := by
  obtain ⟨A, c, hv, hc, hc', h⟩ := h
  refine ⟨A, c, hv, hc, hc', fun hn => ?_⟩
  obtain ⟨b, o, hA, h⟩ := h hn
  refine ⟨b, o, hA, fun j x hx => ?_⟩
  obtain ⟨cs, hl, he, hcell⟩ := h j x hx
  exact ⟨cs, hl, ok _ _ _ _ he ha, fun i u hu => ha.cell (hcell i u hu)⟩
theorem RXl.get_ {α : Type} {size : Nat} {E : Enc α} {w : World} {v : Value} {xs : List α} (h : RXl size E w v xs) : ∃ A c, v = .slice A xs.length c ∧ xs.length ≤ c ∧ c ≤ 9223372036854775807 ∧
    ∀ (j : Nat), j < xs.length → ∃ b o x cs, A = some ⟨b, o, none⟩ ∧ xs[j]? = some x ∧ cs.length = size ∧ E w cs x ∧ ∀ i u, cs[i]? = some u → w.cell? ⟨b, o + (j * size + i), none⟩ = some u := by
  obtain ⟨A, c, hv, h1, h2, h⟩ := h
  refine ⟨A, c, hv, h1, h2, fun j hj => ?_⟩
  obtain ⟨b, o, hA, h⟩ := h (by omega)
  obtain ⟨cs, hl, he, hc⟩ := h j xs[j] (List.getElem?_eq_getElem hj)
  exact ⟨b, o, xs[j], cs, hA, List.getElem?_eq_getElem hj, hl, he, hc⟩

theorem EI.okx : EI.OkX := fun _ _ _ _ h _ => h
abbrev XI := RXl 1 EI
def EXT : Enc TaskD := fun w cs t => ∃ nv, cs = [.int .i64 t.id, nv] ∧ XI w nv t.need
theorem EXT.okx : EXT.OkX := fun _ _ _ _ ⟨v, h, hr⟩ ha => ⟨v, h, RXl.ext_ EI.okx hr ha⟩
abbrev XT := RXl 2 EXT
theorem XI.ext {w w' : World} {v : Value} {xs : List Int} (h : XI w v xs) (ha : Ext w w') : XI w' v xs := RXl.ext_ EI.okx h ha
theorem XT.ext {w w' : World} {v : Value} {xs : List TaskD} (h : XT w v xs) (ha : Ext w w') : XT w' v xs := RXl.ext_ EXT.okx h ha
theorem XI.get {w : World} {v : Value} {xs : List Int} (h : XI w v xs) : ∃ A c, v = .slice A xs.length c ∧ xs.length ≤ c ∧ c ≤ 9223372036854775807 ∧
    ∀ (j : Nat), j < xs.length → ∃ b o x, A = some ⟨b, o, none⟩ ∧ Hid (xs[j]? = some x) ∧ w.cell? ⟨b, o + j, none⟩ = some (.int .i64 x) := by
  obtain ⟨A, c, hv, h1, h2, h⟩ := RXl.get_ h
  refine ⟨A, c, hv, h1, h2, fun j hj => ?_⟩
  obtain ⟨b, o, x, cs, hA, hx, _, he, hc⟩ := h j hj
  subst he
  exact ⟨b, o, x, hA, hx, by simpa using hc 0 _ rfl⟩
theorem XT.get {w : World} {v : Value} {xs : List TaskD} (h : XT w v xs) : ∃ A c, v = .slice A xs.length c ∧ xs.length ≤ c ∧ c ≤ 9223372036854775807 ∧
    ∀ (j : Nat), j < xs.length → ∃ b o x An cn, A = some ⟨b, o, none⟩ ∧ Hid (xs[j]? = some x) ∧ w.cell? ⟨b, o + j * 2, none⟩ = some (.int .i64 x.id) ∧ w.cell? ⟨b, o + j * 2 + 1, none⟩ = some (.slice An x.need.length cn) ∧ XI w (.slice An x.need.length cn) x.need := by
  obtain ⟨A, c, hv, h1, h2, h⟩ := RXl.get_ h
  refine ⟨A, c, hv, h1, h2, fun j hj => ?_⟩
  obtain ⟨b, o, x, cs, hA, hx, _, ⟨nv, he, hr⟩, hc⟩ := h j hj
  subst he
  have hr0 := hr
  obtain ⟨An, cn, rfl, _⟩ := hr
  have hr := hr0
  exact ⟨b, o, x, An, cn, hA, hx, by simpa using hc 0 _ rfl, by simpa [Nat.add_assoc] using hc 1 _ rfl, hr⟩
def EXU : Enc UnitD := fun w cs u => ∃ v, cs = [.bool u.opened, v] ∧ XT w v u.tasks
theorem EXU.okx : EXU.OkX := fun _ _ _ _ ⟨v, h, hr⟩ ha => ⟨v, h, XT.ext hr ha⟩
abbrev XU := RXl 2 EXU
theorem XU.ext {w w' : World} {v : Value} {xs : List UnitD} (h : XU w v xs) (ha : Ext w w') : XU w' v xs := RXl.ext_ EXU.okx h ha
theorem XU.get {w : World} {v : Value} {xs : List UnitD} (h : XU w v xs) : ∃ A c, v = .slice A xs.length c ∧ xs.length ≤ c ∧ c ≤ 9223372036854775807 ∧
    ∀ (j : Nat), j < xs.length → ∃ b o x An cn, A = some ⟨b, o, none⟩ ∧ Hid (xs[j]? = some x) ∧ w.cell? ⟨b, o + j * 2, none⟩ = some (.bool x.opened) ∧ w.cell? ⟨b, o + j * 2 + 1, none⟩ = some (.slice An x.tasks.length cn) ∧ XT w (.slice An x.tasks.length cn) x.tasks := by
  obtain ⟨A, c, hv, h1, h2, h⟩ := RXl.get_ h
  refine ⟨A, c, hv, h1, h2, fun j hj => ?_⟩
  obtain ⟨b, o, x, cs, hA, hx, _, ⟨nv, he, hr⟩, hc⟩ := h j hj
  subst he
  have hr0 := hr
  obtain ⟨An, cn, rfl, _⟩ := hr
  have hr := hr0
  exact ⟨b, o, x, An, cn, hA, hx, by simpa using hc 0 _ rfl, by simpa [Nat.add_assoc] using hc 1 _ rfl, hr⟩
def ClusX (w : World) (v : Value) (c : ClusD) : Prop := ∃ rv uv, v = .agg #[rv, uv] ∧ XI w rv c.room ∧ XU w uv c.units
theorem ClusX.ext {w w' : World} {v : Value} {c : ClusD} (h : ClusX w v c) (ha : Ext w w') : ClusX w' v c := let ⟨rv, uv, h1, h2, h3⟩ := h; ⟨rv, uv, h1, XI.ext h2 ha, XU.ext h3 ha⟩

/-- n zero elements, of the call's own -/
theorem Own.full {α : Type} {e : TypeId} {size : Nat} {E : Enc α} {w : World} {base : Nat} {v : Value} {n : Nat} {z : Value} (x0 : α) (hz : z.cells.size = size) (he : E w z.cells.toList x0)
    (h : w.ownsRow base e size v n (madeCells z.cells (n * size)).toList) : Own e size E w base v (List.replicate n x0) := by
  refine ⟨_, by rw [List.length_replicate]; exact h, by rw [List.length_replicate]; exact h.1, fun j x hx => ?_⟩
  rw [List.getElem?_replicate] at hx
  split at hx
  · rename_i hj
    injection hx with hx
    subst hx
    refine ⟨z.cells.toList, by simpa using hz, he, fun i u hu => ?_⟩
    have hi : i < size := by
      have := (List.getElem?_eq_some_iff.1 hu).1
      rw [← hz]; simpa using this
    have hlt : j * size + i < n * size := by
      have : (j + 1) * size ≤ n * size := Nat.mul_le_mul_right _ hj
      rw [Nat.add_mul] at this
      omega
    have hmod : (j * size + i) % size = i := by rw [Nat.mul_comm, Nat.mul_add_mod]; exact Nat.mod_eq_of_lt hi
    have e1 : z.cells[i]? = some u := by simpa using hu
    have hmod' : (j * size + i) % z.cells.size = i := by rw [hz]; exact hmod
    unfold madeCells
    simp [hlt, hmod']
    rw [getElem!_def, e1]
  · cases hx

end Go.Proofs.Ytfgibhdglbjadaa
