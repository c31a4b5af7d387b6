/- ApartAt on given data: as the plain rule, and what it was given is left. No condition. -/
import Derived.Test.YtoaabinpdjcimaaPe1b
import Derived.Test.YtoaabinpdjcimaaK15
import Derived.Test.YtoaabinpdjcimaaK30
import Derived.Test.YtoaabinpdjcimaaK21
import Derived.Test.YtoaabinpdjcimaaClosed
import Derived.Test.YtoaabinpdjcimaaRows
import Derived.Test.YtoaabinpdjcimaaChecked
import Derived.Carry
namespace Go.Proofs.Ytoaabinpdjcimaa
open Go.ChangeShapes Go.WideShapes Go.ChangeAt Go.RowKit

theorem own_knob : ownKnob Try.prog.godebug = none := by kernel_rfl
theorem laid_out : laidOutB Try.prog = true := by kernel_rfl

set_option maxRecDepth 100000 in
theorem fnExactApartAt_lifted (os : Os) (started : os.Started) (H : Type) (enc : TypeId × Value → H) :
    ReturnsInHanded {} Try.checked os 5 .any (Rows.fnExactApartAtSpec.pre6 enc Try.prog Try.f5 Rows.fnExactApartAtRow.domain false) (Rows.fnExactApartAtSpec.post enc Try.prog Try.f5 false true false false) := by
  refine returnsInHanded_of_change (C := Try.checked) own_knob started (by kernel_rfl) Try.func5
    (ChangeSpec.witness6 (enc := enc) (C := Try.checked) false ⟨#[], #[.slice none 0 0, .slice none 0 0, .slice none 0 0, .agg #[.int .i64 0, .slice none 0 0]], []⟩ 8 (by kernel_rfl) (by kernel_rfl) (by kernel_rfl) (by kernel_rfl)) ?_
  intro W base args ds gs before hval0 hW hcnd _
  have hval : ∀ (j : Nat) t v, Try.f5.params[j]? = some t → args[j]? = some v → Value.okWide Try.prog W .any base t v := hval0
  have hW' := hW
  obtain ⟨p, q, hA0, hV, rfl, hfz, hnd⟩ := hW
  have hA : DataW.TrodAll enc Try.prog W 0 (fun _ => true) true Try.f5.params.toList args.toList ds p := hA0
  rw [Try.params5] at hA hval
  obtain ⟨v0, v1, v2, v3, d0, d1, d2, d3, p0, p1, p2, p3, rfl, rfl, rfl, h0, h1, h2, h3⟩ := trodAll_four hA
  obtain ⟨rfl, rfl⟩ := trodVars_none hV
  obtain ⟨n0, hN0, hI0⟩ := open_xI (hval 0 23 v0 rfl rfl) h0
  obtain ⟨S1, hS1, hid1⟩ := open_xTT (hval 1 39 v1 rfl rfl) h1
  obtain ⟨P2, hP2⟩ := open_xPv (hval 2 40 v2 rfl rfl) h2
  obtain ⟨x3, nv3, rfl, hX3, hxi3⟩ := open_xtask (hval 3 41 v3 rfl rfl) h3
  have hlt : ∀ x ∈ (p0 ++ p1 ++ p2 ++ p3) ++ [], x.block < W.heap.size := fun x hx => hW'.lt x hx
  clear hA0 hval0
  refine (lawExactApartAt v0 v1 v2 nv3 n0 S1 P2 x3 W hN0 hS1 hid1 hP2 hX3 hxi3).mono fun e W' ⟨he, hw⟩ => ?_
  subst he
  exact ⟨_, rfl, _, _, _, [], _, [], hW', trodAll_mk1 (shut_bool Try.underlying4 _),
    trodAll_mk4 (Below.trod laid_out (by kernel_rfl) (of_decide_eq_true (by kernel_rfl)) h0 hw (fun x hx => hlt x (by simp [hx]))) (Below.trod laid_out (by kernel_rfl) (of_decide_eq_true (by kernel_rfl)) h1 hw (fun x hx => hlt x (by simp [hx]))) (Below.trod laid_out (by kernel_rfl) (of_decide_eq_true (by kernel_rfl)) h2 hw (fun x hx => hlt x (by simp [hx]))) (Below.trod laid_out (by kernel_rfl) (of_decide_eq_true (by kernel_rfl)) h3 hw (fun x hx => hlt x (by simp [hx]))), rfl, hw.frame _, fun h => by cases h⟩

theorem row_inPlace : (Rows.fnExactApartAtRow.inPlace == Try.pinned.checked.prog.inPlace 5) = true := by kernel_rfl
theorem row_unfollowed : (Rows.fnExactApartAtRow.unfollowed == Try.pinned.checked.prog.unfollowed 5) = true := by kernel_rfl
theorem row_recurses : (Rows.fnExactApartAtRow.recurses == Try.pinned.checked.prog.recurses 5) = true := by kernel_rfl
theorem row_named : (Rows.fnExactApartAtRow.named == Try.pinned.checked.prog.varsNamed 5) = true := by kernel_rfl
theorem row_closed : joinedFacts Try.pinned.checked.prog 5 Try.f5 Rows.fnExactApartAtSpec Rows.fnExactApartAtRow = true :=
  closed_of (by kernel_rfl) clo_laid clo_rowed (by kernel_rfl) (by kernel_rfl) (by kernel_rfl) clo_stops (by kernel_rfl) clo_knobs row_inPlace row_unfollowed row_recurses row_named clo_heard clo_enter (by kernel_rfl) (by kernel_rfl) (by kernel_rfl) (by kernel_rfl) (by kernel_rfl)

theorem fnExactApartAt_holds : Rows.FnExactApartAtSaid :=
  OpenClaim.holds_of_wide 5 Try.f5 rfl rfl rfl rfl rfl rfl rfl ⟨rfl, rfl, rfl, rfl, rfl⟩ rfl rfl rfl rfl rfl (by kernel_rfl) Try.func5 row_closed
    (of_decide_eq_true (by kernel_rfl)) (by unfold Func.isWrapper; first | (rw [if_pos (by decide +kernel)]; kernel_rfl) | (rw [if_neg (by decide +kernel)]; exact ⟨rfl, rfl⟩))
    (fun os started H enc _ => fnExactApartAt_lifted os started H enc)
#print axioms fnExactApartAt_holds

end Go.Proofs.Ytoaabinpdjcimaa
