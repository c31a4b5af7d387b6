/- While a cluster is drawn. -/
import Derived.Test.YtkdkmihgnplooaaGreatK8
import Derived.Test.YtkdkmihgnplooaaGreatK2
namespace Go.Proofs.YtkdkmihgnplooaaGreat
open Go.RowKit
set_option maxRecDepth 4000

theorem OCl.same {w w' : World} {base : Nat} {cv : Value} {C : ClusD} (h : OCl w base cv C) (hs : SameT (fun t => t = 66 ∨ t = 36 ∨ t = 3) w w') : OCl w' base cv C :=
  let ⟨rv, uv, ps, h1, h2, h3, h4, h5⟩ := h; ⟨rv, uv, ps, h1, RI.same h2 (hs.mono (fun _ ht => .inr (.inr ht))), Own.same (EUV.ok _) h3 hs, h4, h5⟩
theorem OCl.form {w : World} {base : Nat} {cv : Value} {C : ClusD} (h : OCl w base cv C) : ∃ A c A2 c2, cv = .agg #[.slice A C.room.length c, .slice A2 C.units.length c2] := by
  obtain ⟨rv, uv, ps, h1, h2, h3, h4, _⟩ := h
  obtain ⟨A, c, rfl, _⟩ := h2
  obtain ⟨A2, c2, rfl, _, _⟩ := h3.form
  exact ⟨A, c, A2, c2, by rw [h1, ← h4, List.length_map]⟩
section
variable {w wr w2 : World} {b p K K' H : Nat} {bv rv uv : Value} {bs : List Int} {C C2 : ClusD}
end
theorem cluUnit2 : ∀ t, (t = 32 ∨ t = 66) → t ≠ 36 := by rintro t (rfl | rfl) <;> decide
/-- a slice from its first element on -/
theorem RI.tail {w : World} {A : Option Addr} {n c : Nat} {xs : List Int} (h : RI w (.slice A n c) xs) {b o : Nat} (hA : A = some ⟨b, o, none⟩) (hn : 1 ≤ xs.length) : RI w (.slice (some ⟨b, o + 1, none⟩) (n - 1) (c - 1)) (xs.drop 1) := by
  obtain ⟨A', c', hv, hc, hc', h⟩ := h
  injection hv with h1 h2 h3
  subst h1 h2 h3
  refine ⟨_, c - 1, by rw [List.length_drop], by rw [List.length_drop]; omega, by omega, fun hp => ?_⟩
  obtain ⟨b', o', cur, fr, hA', hb, h⟩ := h (by omega)
  rw [hA] at hA'
  injection hA' with hA'
  injection hA' with e1 e2 _
  subst e1 e2
  refine ⟨b, o + 1, cur, fr, rfl, hb, fun j x hx => ?_⟩
  rw [List.getElem?_drop] at hx
  obtain ⟨cs, hl, he, hcc⟩ := h (1 + j) x hx
  refine ⟨cs, hl, he, fun i u hu => ?_⟩
  have := hcc i u hu
  rwa [show o + 1 + (j * 1 + i) = o + ((1 + j) * 1 + i) by omega]

end Go.Proofs.YtkdkmihgnplooaaGreat
