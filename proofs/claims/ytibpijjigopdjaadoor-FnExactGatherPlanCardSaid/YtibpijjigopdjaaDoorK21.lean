/- Raw nodes and a raw move are opened. -/
import Derived.Test.YtibpijjigopdjaaDoorK15
import Derived.Test.YtibpijjigopdjaaDoorK20
namespace Go.Proofs.YtibpijjigopdjaaDoor
open Go.RowKit Go.ChangeShapes Go.WideShapes Go.Deep Go.Joins
set_option maxRecDepth 100000

section
variable {H : Type} {enc : TypeId × Value → H} {w : World} {base : Nat} {spare : Nat → Bool} {held : Bool}
theorem open_xtt {fuel : Nat} {cs : List Value} {x : DataW H × List MemPlace} (h : DataW.trod enc Tryd.prog w base spare held fuel 48 cs = some x) : ∃ v xs, cs = [v] ∧ XTT w v xs ∧ ∀ b ∈ xs, ∀ t ∈ b, IdR t.id :=
  open_rx EXB (fun b => ∀ t ∈ b, IdR t.id) (by omega) Tryd.underlying48 (by kernel_rfl) (fun n cs' y hy _ => by
    obtain ⟨v, ts, hv, hr, hq⟩ := open_xt hy
    exact ⟨ts, ⟨v, hv, hr⟩, hq⟩) h
theorem open_xTT {v : Value} {r : Reach} {b0 : Nat} {d : DataW H} {p : List MemPlace} (hv : Value.okWide Tryd.prog w r b0 48 v) (h : DataW.Trod enc Tryd.prog w base spare held 48 v d p) : ∃ xs, XTT w v xs ∧ ∀ t ∈ xs.flatten, IdR t.id := by
  obtain ⟨a, n, c, rfl⟩ := okWide_slice Tryd.underlying48 hv
  obtain ⟨fuel, hf⟩ := h
  obtain ⟨u, xs, hu, hx, hq⟩ := open_xtt hf
  have e1 : Value.slice a n c = u := by simpa [Value.cells] using hu
  subst e1
  exact ⟨xs, hx, fun t ht => by obtain ⟨b, hb, htb⟩ := List.mem_flatten.1 ht; exact hq b hb t htb⟩
theorem open_xmove {v : Value} {r : Reach} {b0 : Nat} {d : DataW H} {p : List MemPlace} (hv : Value.okWide Tryd.prog w r b0 49 v) (h : DataW.Trod enc Tryd.prog w base spare held 49 v d p) :
    ∃ mid mto : Int, v = .agg #[.int .i64 mid, .int .i64 mto] := by
  obtain ⟨v0, v1, y0, y1, n, rfl, _, _, h0, h1⟩ := open_agg2 Tryd.underlying49 (by kernel_rfl) (by kernel_rfl) hv h
  obtain ⟨z, hz, _, hw⟩ := DataW.trod_int Tryd.underlying3 h0
  obtain ⟨z', hz', _, hw'⟩ := DataW.trod_int Tryd.underlying3 h1
  injection hz with hz _
  injection hz' with hz' _
  subst hz hz'
  exact ⟨z, z', rfl⟩
end
end Go.Proofs.YtibpijjigopdjaaDoor

/- Raw moves are opened. -/
namespace Go.Proofs.YtibpijjigopdjaaDoor
open Go.RowKit Go.ChangeShapes Go.WideShapes Go.Deep Go.Joins
set_option maxRecDepth 100000

section
variable {H : Type} {enc : TypeId × Value → H} {w : World} {base : Nat} {spare : Nat → Bool} {held : Bool}
theorem open_xmv {fuel : Nat} {cs : List Value} {x : DataW H × List MemPlace} (h : DataW.trod enc Tryd.prog w base spare held fuel 66 cs = some x) : ∃ v xs, cs = [v] ∧ XMv w v xs ∧ ∀ m ∈ xs, True :=
  open_rx EM (fun _ => True) (by omega) Tryd.underlying66 (by kernel_rfl) (fun n cs' y hy hl => by
    obtain ⟨y0, y1, m, _, _, h0, h1⟩ := trod_struct2 Tryd.underlying49 hy
    obtain ⟨c0, c1, rfl⟩ := len2 hl
    obtain ⟨z, hz, _, hw⟩ := DataW.trod_int Tryd.underlying3 h0
    obtain ⟨z', hz', _, hw'⟩ := DataW.trod_int Tryd.underlying3 h1
    have hc : Tryd.prog.cellsOf 3 = 1 := by kernel_rfl
    have e0 : c0 = .int .i64 z := by
      rw [hc] at hz
      simpa using hz
    have e1 : c1 = .int .i64 z' := by
      rw [hc] at hz'
      simpa using hz'
    subst e0 e1
    exact ⟨⟨z, z'⟩, rfl, trivial⟩) h
theorem open_xMv {v : Value} {r : Reach} {b0 : Nat} {d : DataW H} {p : List MemPlace} (hv : Value.okWide Tryd.prog w r b0 66 v) (h : DataW.Trod enc Tryd.prog w base spare held 66 v d p) : ∃ xs, XMv w v xs := by
  obtain ⟨a, n, c, rfl⟩ := okWide_slice Tryd.underlying66 hv
  obtain ⟨fuel, hf⟩ := h
  obtain ⟨u, xs, hu, hx, _⟩ := open_xmv hf
  have e1 : Value.slice a n c = u := by simpa [Value.cells] using hu
  subst e1
  exact ⟨xs, hx⟩
end
end Go.Proofs.YtibpijjigopdjaaDoor
