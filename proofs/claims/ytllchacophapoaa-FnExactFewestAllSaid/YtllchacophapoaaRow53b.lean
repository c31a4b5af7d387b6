/- FewestAll on given data: as the plain rule, its own result, and what it was given is left. No condition. -/
import Derived.Test.YtllchacophapoaaOe3b
import Derived.Test.YtllchacophapoaaK15
import Derived.Test.YtllchacophapoaaK30
import Derived.Test.YtllchacophapoaaClosed
import Derived.Test.YtllchacophapoaaRows
import Derived.Test.YtllchacophapoaaChecked
namespace Go.Proofs.Ytllchacophapoaa
open Go.ChangeShapes Go.WideShapes Go.ChangeAt Go.RowKit

theorem own_knob : ownKnob Try.prog.godebug = none := by kernel_rfl
theorem laid_out : laidOutB Try.prog = true := by kernel_rfl

set_option maxRecDepth 100000 in
theorem fnExactFewestAll_lifted (os : Os) (started : os.Started) (H : Type) (enc : TypeId × Value → H) :
    ReturnsInHanded {} Try.checked os 8 .any (Rows.fnExactFewestAllSpec.pre6 enc Try.prog Try.f8 Rows.fnExactFewestAllRow.domain false) (Rows.fnExactFewestAllSpec.post enc Try.prog Try.f8 false true false false) := by
  refine returnsInHanded_of_change (C := Try.checked) own_knob started (by kernel_rfl) Try.func8
    (ChangeSpec.witness6 (enc := enc) (C := Try.checked) false ⟨#[], #[.slice none 0 0, .slice none 0 0], []⟩ 8 (by kernel_rfl) (by kernel_rfl) (by kernel_rfl) (by kernel_rfl)) ?_
  intro W base args ds gs before hval0 hW hcnd _
  have hval : ∀ (j : Nat) t v, Try.f8.params[j]? = some t → args[j]? = some v → Value.okWide Try.prog W .any base t v := hval0
  have hW' := hW
  obtain ⟨p, q, hA0, hV, rfl, hfz, hnd⟩ := hW
  have hA : DataW.TrodAll enc Try.prog W 0 (fun _ => true) true Try.f8.params.toList args.toList ds p := hA0
  rw [Try.params8] at hA hval
  obtain ⟨v0, v1, d0, d1, p0, p1, rfl, rfl, rfl, h0, h1⟩ := trodAll_two hA
  obtain ⟨rfl, rfl⟩ := trodVars_none hV
  obtain ⟨n0, hN0, hI0⟩ := open_xI (hval 0 22 v0 rfl rfl) h0
  obtain ⟨L1, hL1, hid1⟩ := open_xLT (hval 1 23 v1 rfl rfl) h1
  have hlt : ∀ x ∈ (p0 ++ p1) ++ [], x.block < W.heap.size := fun x hx => hW'.lt x hx
  clear hA0 hval0
  refine (lawExactFewestAll v0 v1 n0 L1 W hN0 hL1 hid1).mono fun e W' ⟨he, hw⟩ => ?_
  subst he
  exact ⟨_, rfl, _, _, _, [], _, [], hW', trodAll_mk1 (shut_bool Try.underlying4 _),
    trodAll_mk2 (Below.trod laid_out (by kernel_rfl) (of_decide_eq_true (by kernel_rfl)) h0 hw (fun x hx => hlt x (by simp [hx]))) (Below.trod laid_out (by kernel_rfl) (of_decide_eq_true (by kernel_rfl)) h1 hw (fun x hx => hlt x (by simp [hx]))), rfl, hw.frame _, fun h => by cases h⟩

theorem row_inPlace : (Rows.fnExactFewestAllRow.inPlace == Try.pinned.checked.prog.inPlace 8) = true := by kernel_rfl
theorem row_unfollowed : (Rows.fnExactFewestAllRow.unfollowed == Try.pinned.checked.prog.unfollowed 8) = true := by kernel_rfl
theorem row_recurses : (Rows.fnExactFewestAllRow.recurses == Try.pinned.checked.prog.recurses 8) = true := by kernel_rfl
theorem row_named : (Rows.fnExactFewestAllRow.named == Try.pinned.checked.prog.varsNamed 8) = true := by kernel_rfl
theorem row_closed : joinedFacts Try.pinned.checked.prog 8 Try.f8 Rows.fnExactFewestAllSpec Rows.fnExactFewestAllRow = true :=
  closed_of (by kernel_rfl) clo_laid clo_rowed (by kernel_rfl) (by kernel_rfl) (by kernel_rfl) clo_stops (by kernel_rfl) clo_knobs row_inPlace row_unfollowed row_recurses row_named clo_heard clo_enter (by kernel_rfl) (by kernel_rfl) (by kernel_rfl) (by kernel_rfl) (by kernel_rfl)

theorem fnExactFewestAll_holds : Rows.FnExactFewestAllSaid :=
  OpenClaim.holds_of_wide 8 Try.f8 rfl rfl rfl rfl rfl rfl rfl ⟨rfl, rfl, rfl, rfl, rfl⟩ rfl rfl rfl rfl rfl (by kernel_rfl) Try.func8 row_closed
    (of_decide_eq_true (by kernel_rfl)) (by unfold Func.isWrapper; first | (rw [if_pos (by decide +kernel)]; kernel_rfl) | (rw [if_neg (by decide +kernel)]; exact ⟨rfl, rfl⟩))
    (fun os started H enc _ => fnExactFewestAll_lifted os started H enc)
#print axioms fnExactFewestAll_holds

end Go.Proofs.Ytllchacophapoaa
