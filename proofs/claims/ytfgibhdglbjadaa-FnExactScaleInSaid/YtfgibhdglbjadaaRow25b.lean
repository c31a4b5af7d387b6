/- For all clusters, needs and numbers wanted: the program's ScaleIn returns what the reference's returns, its arguments stay as they are, and its result is its own. No condition. -/
import Derived.Test.YtfgibhdglbjadaaRows
import Derived.Test.YtfgibhdglbjadaaChecked
import Derived.Test.YtfgibhdglbjadaaLw19b
import Derived.Test.YtfgibhdglbjadaaK13
import Derived.Test.YtfgibhdglbjadaaClosed
namespace Go.Proofs.Ytfgibhdglbjadaa
open Go.ChangeShapes Go.WideShapes Go.ChangeAt Go.RowKit

theorem own_knob : ownKnob Try.prog.godebug = none := by kernel_rfl
theorem laid_out : laidOutB Try.prog = true := by kernel_rfl

set_option maxRecDepth 100000 in
theorem fnExactScaleIn_lifted (os : Os) (started : os.Started) (H : Type) (enc : TypeId × Value → H) :
    ReturnsInHanded {} Try.checked os 9 .any (Rows.fnExactScaleInSpec.pre6 enc Try.prog Try.f9 Rows.fnExactScaleInRow.domain false) (Rows.fnExactScaleInSpec.post enc Try.prog Try.f9 false true false false) := by
  refine returnsInHanded_of_change (C := Try.checked) own_knob started (by kernel_rfl) Try.func9
    (ChangeSpec.witness6 (enc := enc) (C := Try.checked) false ⟨#[], #[.agg #[.slice none 0 0, .slice none 0 0], .slice none 0 0, .int .i64 0], []⟩ 8 (by kernel_rfl) (by kernel_rfl) (by kernel_rfl) (by kernel_rfl)) ?_
  intro W base args ds gs before hval0 hW hcnd _
  have hval : ∀ (j : Nat) t v, Try.f9.params[j]? = some t → args[j]? = some v → Value.okWide Try.prog W .any base t v := hval0
  have hW' := hW
  obtain ⟨p, q, hA0, hV, rfl, hfz, hnd⟩ := hW
  have hA : DataW.TrodAll enc Try.prog W 0 (fun _ => true) true Try.f9.params.toList args.toList ds p := hA0
  rw [Try.params9] at hA hval
  obtain ⟨v0, v1, v2, d0, d1, d2, p0, p1, p2, rfl, rfl, rfl, h0, h1, h2⟩ := trodAll_three hA
  obtain ⟨rfl, rfl⟩ := trodVars_none hV
  obtain ⟨C0, hC0, hid0⟩ := open_xc (hval 0 33 v0 rfl rfl) h0
  obtain ⟨n1, hN1, hI1⟩ := open_xI (hval 1 23 v1 rfl rfl) h1
  obtain ⟨z2, rfl, rfl, rfl, ww2⟩ := open_int Try.underlying3 (hval 2 3 v2 rfl rfl) h2
  have hlt : ∀ x ∈ (p0 ++ p1 ++ []) ++ [], x.block < W.heap.size := fun x hx => hW'.lt x hx
  clear hA0 hval0
  refine (lawExactScaleIn v0 v1 C0 n1 z2 W hC0 hid0 hN1).mono fun e W' ⟨he, hw⟩ => ?_
  subst he
  exact ⟨_, rfl, _, _, _, [], _, [], hW', trodAll_mk1 (shut_bool Try.underlying4 _),
    trodAll_mk3 (Below.trod laid_out (by kernel_rfl) (of_decide_eq_true (by kernel_rfl)) h0 hw (fun x hx => hlt x (by simp [hx]))) (Below.trod laid_out (by kernel_rfl) (of_decide_eq_true (by kernel_rfl)) h1 hw (fun x hx => hlt x (by simp [hx]))) (shut_int Try.underlying3 ww2), rfl, hw.frame _, fun h => by cases h⟩

theorem row_inPlace : (Rows.fnExactScaleInRow.inPlace == Try.pinned.checked.prog.inPlace 9) = true := by kernel_rfl
theorem row_unfollowed : (Rows.fnExactScaleInRow.unfollowed == Try.pinned.checked.prog.unfollowed 9) = true := by kernel_rfl
theorem row_recurses : (Rows.fnExactScaleInRow.recurses == Try.pinned.checked.prog.recurses 9) = true := by kernel_rfl
theorem row_named : (Rows.fnExactScaleInRow.named == Try.pinned.checked.prog.varsNamed 9) = true := by kernel_rfl
theorem row_closed : joinedFacts Try.pinned.checked.prog 9 Try.f9 Rows.fnExactScaleInSpec Rows.fnExactScaleInRow = true :=
  closed_of (by kernel_rfl) clo_laid clo_rowed (by kernel_rfl) (by kernel_rfl) (by kernel_rfl) clo_stops (by kernel_rfl) clo_knobs row_inPlace row_unfollowed row_recurses row_named clo_heard clo_enter (by kernel_rfl) (by kernel_rfl) (by kernel_rfl) (by kernel_rfl) (by kernel_rfl)

theorem fnExactScaleIn_holds : Rows.FnExactScaleInSaid :=
  OpenClaim.holds_of_wide 9 Try.f9 rfl rfl rfl rfl rfl rfl rfl ⟨rfl, rfl, rfl, rfl, rfl⟩ rfl rfl rfl rfl rfl (by kernel_rfl) Try.func9 row_closed
    (of_decide_eq_true (by kernel_rfl)) (by unfold Func.isWrapper; first | (rw [if_pos (by decide +kernel)]; kernel_rfl) | (rw [if_neg (by decide +kernel)]; exact ⟨rfl, rfl⟩))
    (fun os started H enc _ => fnExactScaleIn_lifted os started H enc)
#print axioms fnExactScaleIn_holds

end Go.Proofs.Ytfgibhdglbjadaa
