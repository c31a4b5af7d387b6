/- For all codes: no further node could be closed (FnScaleInAll). No condition. -/
import Derived.Test.YtfgibhdglbjadaaGreatRows
import Derived.Test.YtfgibhdglbjadaaGreatChecked
import Derived.Test.YtfgibhdglbjadaaGreatLw21b
import Derived.Test.YtfgibhdglbjadaaGreatK13
import Derived.Test.YtfgibhdglbjadaaGreatClosed
namespace Go.Proofs.YtfgibhdglbjadaaGreat
open Go.ChangeShapes Go.WideShapes Go.ChangeAt Go.RowKit

theorem own_knob : ownKnob Tryz.prog.godebug = none := by kernel_rfl
theorem laid_out : laidOutB Tryz.prog = true := by kernel_rfl

set_option maxRecDepth 100000 in
theorem fnScaleInAll_lifted (os : Os) (started : os.Started) (H : Type) (enc : TypeId × Value → H) :
    ReturnsInHanded {} Tryz.checked os 15 .any (Rows.fnScaleInAllSpec.pre6 enc Tryz.prog Tryz.f15 Rows.fnScaleInAllRow.domain false) (Rows.fnScaleInAllSpec.post enc Tryz.prog Tryz.f15 false true false false) := by
  refine returnsInHanded_of_change (C := Tryz.checked) own_knob started (by kernel_rfl) Tryz.func15
    (ChangeSpec.witness6 (enc := enc) (C := Tryz.checked) false ⟨#[], #[.slice none 0 0], []⟩ 8 (by kernel_rfl) (by kernel_rfl) (by kernel_rfl) (by kernel_rfl)) ?_
  intro W base args ds gs before hval0 hW hcnd _
  have hval : ∀ (j : Nat) t v, Tryz.f15.params[j]? = some t → args[j]? = some v → Value.okWide Tryz.prog W .any base t v := hval0
  have hW' := hW
  obtain ⟨p, q, hA0, hV, rfl, hfz, hnd⟩ := hW
  have hA : DataW.TrodAll enc Tryz.prog W 0 (fun _ => true) true Tryz.f15.params.toList args.toList ds p := hA0
  rw [Tryz.params15] at hA hval
  obtain ⟨v0, d0, rfl, rfl, h0⟩ := trodAll_one hA
  obtain ⟨rfl, rfl⟩ := trodVars_none hV
  obtain ⟨b0, hB0⟩ := open_xB (hval 0 22 v0 rfl rfl) h0
  have hlt : ∀ x ∈ p ++ [], x.block < W.heap.size := fun x hx => hW'.lt x hx
  clear hA0 hval0
  refine (lawScaleInAll v0 b0 W hB0).mono fun e W' ⟨he, hw⟩ => ?_
  subst he
  exact ⟨_, rfl, _, _, _, [], _, [], hW', trodAll_mk1 (shut_bool Tryz.underlying4 _),
    trodAll_mk1 (Below.trod laid_out (by kernel_rfl) (of_decide_eq_true (by kernel_rfl)) h0 hw (fun x hx => hlt x (by simp [hx]))), rfl, hw.frame _, fun h => by cases h⟩

theorem row_inPlace : (Rows.fnScaleInAllRow.inPlace == Tryz.pinned.checked.prog.inPlace 15) = true := by kernel_rfl
theorem row_unfollowed : (Rows.fnScaleInAllRow.unfollowed == Tryz.pinned.checked.prog.unfollowed 15) = true := by kernel_rfl
theorem row_recurses : (Rows.fnScaleInAllRow.recurses == Tryz.pinned.checked.prog.recurses 15) = true := by kernel_rfl
theorem row_named : (Rows.fnScaleInAllRow.named == Tryz.pinned.checked.prog.varsNamed 15) = true := by kernel_rfl
theorem row_closed : joinedFacts Tryz.pinned.checked.prog 15 Tryz.f15 Rows.fnScaleInAllSpec Rows.fnScaleInAllRow = true :=
  closed_of (by kernel_rfl) clo_laid clo_rowed (by kernel_rfl) (by kernel_rfl) (by kernel_rfl) clo_stops (by kernel_rfl) clo_knobs row_inPlace row_unfollowed row_recurses row_named clo_heard clo_enter (by kernel_rfl) (by kernel_rfl) (by kernel_rfl) (by kernel_rfl) (by kernel_rfl)

theorem fnScaleInAll_holds : Rows.FnScaleInAllSaid :=
  OpenClaim.holds_of_wide 15 Tryz.f15 rfl rfl rfl rfl rfl rfl rfl ⟨rfl, rfl, rfl, rfl, rfl⟩ rfl rfl rfl rfl rfl (by kernel_rfl) Tryz.func15 row_closed
    (of_decide_eq_true (by kernel_rfl)) (by unfold Func.isWrapper; first | (rw [if_pos (by decide +kernel)]; kernel_rfl) | (rw [if_neg (by decide +kernel)]; exact ⟨rfl, rfl⟩))
    (fun os started H enc _ => fnScaleInAll_lifted os started H enc)
#print axioms fnScaleInAll_holds

end Go.Proofs.YtfgibhdglbjadaaGreat
