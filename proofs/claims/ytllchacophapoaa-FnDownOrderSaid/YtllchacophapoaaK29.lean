/- Pairs are drawn. -/
import Derived.Test.YtllchacophapoaaK23
import Derived.Test.YtllchacophapoaaK12
namespace Go.Proofs.Ytllchacophapoaa
open Go.RowKit
set_option maxRecDepth 4000

theorem dMany (b : Nat) (bv : Value) (bs : List Int) (p : Nat) (w : World) (h : Rd w b bv bs p) (hp : p ≤ 900000) :
    Calls Try.prog 72 #[.pointer (some ⟨b, 0, none⟩)] w fun e w' => ∃ n : Nat, e = .returned (.int .i64 (n : Int)) ∧ n ≤ 15 ∧ DrawR w b bv bs p 2 w' := by
  have HR0 := hid h
  have TK0 : Hid True := hid trivial
  clear h
  go_enter Try.func72, Try.ntmps72
  go_wp2_with (first
    | (go_at_call 98; clear TK0; refine (dPick b bv bs p _ _ HR0.out (by omega) (by omega)).mono ?_; rintro e w1 ⟨x1, rfl, hx, hg1, hr1⟩; have HD1 : Hid (DrawR w b bv bs p 1 w1) := hid ⟨hg1, _, Nat.le_refl _, hr1⟩; have TK1 : Hid True := hid trivial; clear hx hg1 hr1)
    | (go_at_call 98; clear TK1; obtain ⟨hg, pp, hpp, hr⟩ := HD1.out; refine (dPick b bv bs pp _ _ hr (by omega) (by omega)).mono ?_; rintro e w2 ⟨x2, rfl, hx, hg2, hr2⟩; have hx2 := pick_lt hx (by decide); have HD2 := hid (DrawR.more HD1.out hg2 hr2 hpp); have hw14 : IntKind.i64.wrap (14 + (x2 : Int)) = ((14 + x2 : Nat) : Int) := (by rw [IntWalk.i64_in _ (by omega)]; omega); clear hg hpp hr hx hg2 hr2))
  · go_ret
    refine ⟨14 + x2, ?_, by omega, HD2.out⟩
    rfl
  · go_ret
    exact ⟨x2, rfl, by omega, HD2.out⟩

end Go.Proofs.Ytllchacophapoaa
