/- What came in, opened: slices, tasks, nodes, clusters as lists. -/
import Derived.Test.YtcfpilkhjpegcaaK6
import Derived.ProofKit
import Derived.Deep.Slices
import Derived.Lib.SmallJoins
namespace Go.Proofs.Ytcfpilkhjpegcaa
open Go.RowKit Go.ChangeShapes Go.WideShapes Go.Deep Go.Joins
set_option maxRecDepth 100000

theorem list_of {α : Type} {R : Nat → α → Prop} : ∀ n : Nat, (∀ i, i < n → ∃ a, R i a) → ∃ xs : List α, xs.length = n ∧ ∀ (i : Nat) (x : α), xs[i]? = some x → R i x
  | 0, _ => ⟨[], rfl, fun i x h => by simp at h⟩
  | n + 1, h => by
    obtain ⟨xs, hl, hx⟩ := list_of n (fun i hi => h i (by omega))
    obtain ⟨a, ha⟩ := h n (by omega)
    refine ⟨xs ++ [a], by simp [hl], fun i x hi => ?_⟩
    rw [List.getElem?_append] at hi
    split at hi
    · exact hx i x hi
    · have h1 : i - xs.length = 0 := by
        have := (List.getElem?_eq_some_iff.1 hi).1
        simp at this
        omega
      rw [h1] at hi
      simp at hi
      have : i = n := by omega
      rw [this, ← hi]
      exact ha
theorem spot_none {w : World} {a : Addr} {u : Value} (h : w.cell? a = some u) : a = ⟨a.block, a.off, none⟩ := by
  obtain ⟨b, o, s⟩ := a
  cases s with
  | none => rfl
  | some s =>
    simp only [World.cell?] at h
    split at h
    · simp at h
    · cases h
theorem add_at (b o m : Nat) : (⟨b, o, none⟩ : Addr).add m = ⟨b, o + m, none⟩ := by
  unfold Addr.add
  split
  · rename_i h; rw [h]; rfl
  · rfl

section
variable {H : Type} {enc : TypeId × Value → H} {P : Program} {w : World} {base : Nat} {spare : Nat → Bool} {held : Bool}
theorem open_rx {α : Type} (E : Enc α) (Q : α → Prop) {t e : TypeId} {size : Nat} (hs : 0 < size) {fuel : Nat} {cs : List Value} {x : DataW H × List MemPlace} (ht : P.underlying t = some (.slice e)) (hC : P.cellsOf e = size)
    (hel : ∀ n cs' y, DataW.trod enc P w base spare held n e cs' = some y → cs'.length = size → ∃ a : α, E w cs' a ∧ Q a)
    (h : DataW.trod enc P w base spare held fuel t cs = some x) : ∃ v xs, cs = [v] ∧ RXl size E w v xs ∧ ∀ a ∈ xs, Q a := by
  rcases open_slice ht h with ⟨rfl, _⟩ | ⟨a, len, cap, m, n, D, Pl, rfl, _, hl, hm, hmm, _, hi⟩
  · exact ⟨_, [], rfl, ⟨none, 0, rfl, Nat.le_refl _, by omega, fun h => absurd h (by simp)⟩, by simp⟩
  · have hle : len ≤ m := by rw [hmm]; split <;> omega
    obtain ⟨xs, hxl, hxs⟩ := list_of (R := fun i (b : α) => ∃ cs' : List Value, cs'.length = size ∧ E w cs' b ∧ Q b ∧ ∀ j u, cs'[j]? = some u → w.cell? ((a.add (i * size)).add j) = some u) len (fun i hil => by
      obtain ⟨cs', hc, ht'⟩ := hi i (by omega)
      rw [hC] at hc
      obtain ⟨_, hcl, hat⟩ := World.cells?_some hc
      obtain ⟨b, hb, hq⟩ := hel _ _ _ ht' hcl
      exact ⟨b, cs', hcl, hb, hq, fun j u hu => by
        rw [hat j (by have := (List.getElem?_eq_some_iff.1 hu).1; omega)]
        exact hu⟩)
    unfold maxLen at hm
    subst hxl
    refine ⟨_, xs, rfl, ⟨some a, cap, rfl, hl, by omega, fun hn => ?_⟩, fun b hb => ?_⟩
    · obtain ⟨cs', hcl, _, _, hat⟩ := hxs 0 xs[0] (List.getElem?_eq_getElem hn)
      have h0 := hat 0 cs'[0] (List.getElem?_eq_getElem (by omega))
      have e0 : (a.add (0 * size)).add 0 = a := by simp [Addr.add]
      rw [e0] at h0
      have ha := spot_none h0
      refine ⟨a.block, a.off, by rw [← ha], fun j y hy => ?_⟩
      obtain ⟨cs2, hcl2, he2, _, hat2⟩ := hxs j y hy
      refine ⟨cs2, hcl2, he2, fun i u hu => ?_⟩
      have h2 := hat2 i u hu
      rw [ha, add_at, add_at] at h2
      rw [← Nat.add_assoc]
      exact h2
    · obtain ⟨k, hk⟩ := List.getElem?_of_mem hb
      obtain ⟨_, _, _, hq, _⟩ := hxs k b hk
      exact hq
end

theorem idr_of_wf {x : Int} (h : (Lit.int .i64 x).wf = true) : IdR x := by
  simp [Lit.wf, IntKind.min, IntKind.max, IntKind.signed, IntKind.bits] at h
  exact ⟨h.1, h.2⟩
theorem len2 {α : Type} {l : List α} (h : l.length = 2) : ∃ a b, l = [a, b] := by
  match l, h with
  | [a, b], _ => exact ⟨a, b, rfl⟩

section
variable {H : Type} {enc : TypeId × Value → H} {w : World} {base : Nat} {spare : Nat → Bool} {held : Bool}
theorem open_xi {fuel : Nat} {cs : List Value} {x : DataW H × List MemPlace} (h : DataW.trod enc Try.prog w base spare held fuel 23 cs = some x) : ∃ v xs, cs = [v] ∧ XI w v xs ∧ ∀ a ∈ xs, IdR a :=
  open_rx EI IdR (by omega) Try.underlying23 (by kernel_rfl) (fun n cs' y hy _ => by
    obtain ⟨z, rfl, _, hw⟩ := DataW.trod_int Try.underlying3 hy
    exact ⟨z, rfl, idr_of_wf hw⟩) h
theorem open_xt {fuel : Nat} {cs : List Value} {x : DataW H × List MemPlace} (h : DataW.trod enc Try.prog w base spare held fuel 101 cs = some x) : ∃ v xs, cs = [v] ∧ XT w v xs ∧ ∀ t ∈ xs, IdR t.id :=
  open_rx EXT (fun t => IdR t.id) (by omega) Try.underlying101 (by kernel_rfl) (fun n cs' y hy hl => by
    obtain ⟨y0, y1, m, _, _, h0, h1⟩ := trod_struct2 Try.underlying149 hy
    obtain ⟨c0, c1, rfl⟩ := len2 hl
    obtain ⟨z, hz, _, hw⟩ := DataW.trod_int Try.underlying3 h0
    obtain ⟨v, ns, hv, hr, _⟩ := open_xi h1
    have e0 : c0 = .int .i64 z := by
      have hc : Try.prog.cellsOf 3 = 1 := by kernel_rfl
      rw [hc] at hz
      simpa using hz
    have e1 : c1 = v := by
      have hc : Try.prog.cellsOf 23 = 1 := by kernel_rfl
      rw [hc] at hv
      simpa using hv
    subst e0 e1
    exact ⟨⟨z, ns⟩, ⟨c1, rfl, hr⟩, idr_of_wf hw⟩) h
theorem open_xu {fuel : Nat} {cs : List Value} {x : DataW H × List MemPlace} (h : DataW.trod enc Try.prog w base spare held fuel 32 cs = some x) : ∃ v xs, cs = [v] ∧ XU w v xs ∧ ∀ u ∈ xs, ∀ t ∈ u.tasks, IdR t.id :=
  open_rx EXU (fun u => ∀ t ∈ u.tasks, IdR t.id) (by omega) Try.underlying32 (by kernel_rfl) (fun n cs' y hy hl => by
    obtain ⟨y0, y1, m, _, _, h0, h1⟩ := trod_struct2 Try.underlying103 hy
    obtain ⟨c0, c1, rfl⟩ := len2 hl
    obtain ⟨z, hz, _⟩ := DataW.trod_bool Try.underlying4 h0
    obtain ⟨v, ns, hv, hr, hq⟩ := open_xt h1
    have e0 : c0 = .bool z := by
      have hc : Try.prog.cellsOf 4 = 1 := by kernel_rfl
      rw [hc] at hz
      simpa using hz
    have e1 : c1 = v := by
      have hc : Try.prog.cellsOf 101 = 1 := by kernel_rfl
      rw [hc] at hv
      simpa using hv
    subst e0 e1
    exact ⟨⟨z, ns⟩, ⟨c1, rfl, hr⟩, hq⟩) h
theorem open_xc {v : Value} {r : Reach} {b0 : Nat} {d : DataW H} {p : List MemPlace} (hv : Value.okWide Try.prog w r b0 34 v) (h : DataW.Trod enc Try.prog w base spare held 34 v d p) :
    ∃ C, ClusX w v C ∧ ∀ t ∈ (C.units.map (·.tasks)).flatten, IdR t.id := by
  obtain ⟨v0, v1, y0, y1, n, rfl, _, _, h0, h1⟩ := open_agg2 Try.underlying34 (by kernel_rfl) (by kernel_rfl) hv h
  obtain ⟨a, xs, ha, hx, _⟩ := open_xi h0
  obtain ⟨b, us, hb, hu, hq⟩ := open_xu h1
  injection ha with ha _
  injection hb with hb _
  subst ha hb
  refine ⟨⟨xs, us⟩, ⟨_, _, rfl, hx, hu⟩, fun t ht => ?_⟩
  obtain ⟨l, hl, ht⟩ := List.mem_flatten.1 ht
  obtain ⟨u, hu', rfl⟩ := List.mem_map.1 hl
  exact hq u hu' t ht
theorem open_xI {v : Value} {r : Reach} {b0 : Nat} {d : DataW H} {p : List MemPlace} (hv : Value.okWide Try.prog w r b0 23 v) (h : DataW.Trod enc Try.prog w base spare held 23 v d p) : ∃ xs, XI w v xs ∧ ∀ a ∈ xs, IdR a := by
  obtain ⟨a, n, c, rfl⟩ := okWide_slice Try.underlying23 hv
  obtain ⟨fuel, hf⟩ := h
  obtain ⟨u, xs, hu, hx, hq⟩ := open_xi hf
  have e1 : Value.slice a n c = u := by simpa [Value.cells] using hu
  subst e1
  exact ⟨xs, hx, hq⟩
end
end Go.Proofs.Ytcfpilkhjpegcaa

/- Bytes that came in, opened. -/
namespace Go.Proofs.Ytcfpilkhjpegcaa
open Go.RowKit Go.ChangeShapes Go.WideShapes Go.Deep Go.Joins
set_option maxRecDepth 100000

theorem byte_of_wf {x : Int} (h : (Lit.int .u8 x).wf = true) : 0 ≤ x ∧ x ≤ 255 := by
  simp [Lit.wf, IntKind.min, IntKind.max, IntKind.signed, IntKind.bits] at h
  omega
section
variable {H : Type} {enc : TypeId × Value → H} {w : World} {base : Nat} {spare : Nat → Bool} {held : Bool}
theorem open_xB {v : Value} {r : Reach} {b0 : Nat} {d : DataW H} {p : List MemPlace} (hv : Value.okWide Try.prog w r b0 22 v) (h : DataW.Trod enc Try.prog w base spare held 22 v d p) : ∃ xs, XBy w v xs := by
  obtain ⟨a, n, c, rfl⟩ := okWide_slice Try.underlying22 hv
  obtain ⟨fuel, hf⟩ := h
  obtain ⟨u, xs, hu, hx, _⟩ := open_rx (size := 1) EBy (fun _ => True) (by omega) Try.underlying22 (by kernel_rfl) (fun n cs' y hy _ => by
    obtain ⟨z, rfl, _, hw⟩ := DataW.trod_int Try.underlying5 hy
    exact ⟨z, ⟨rfl, byte_of_wf hw⟩, trivial⟩) hf
  have e1 : Value.slice a n c = u := by simpa [Value.cells] using hu
  subst e1
  exact ⟨xs, hx⟩
end
end Go.Proofs.Ytcfpilkhjpegcaa
