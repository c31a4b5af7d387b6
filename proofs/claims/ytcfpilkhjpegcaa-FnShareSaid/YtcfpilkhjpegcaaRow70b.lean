/- For all bytes: the share of the cluster drawn from them is at most everything, and rounded down. No condition. -/
import Derived.Test.YtcfpilkhjpegcaaWv6b
import Derived.Test.YtcfpilkhjpegcaaK13
import Derived.Test.YtcfpilkhjpegcaaClosed
import Derived.Test.YtcfpilkhjpegcaaRows
import Derived.Test.YtcfpilkhjpegcaaChecked
import Derived.Conc.LeavingOf
namespace Go.Proofs.Ytcfpilkhjpegcaa
open Go.ChangeShapes Go.WideShapes Go.ChangeAt Go.RowKit

theorem own_knob : ownKnob Try.prog.godebug = none := by kernel_rfl
theorem laid_out : laidOutB Try.prog = true := by kernel_rfl

set_option maxRecDepth 100000 in
theorem fnShare_lifted (os : Os) (started : os.Started) (H : Type) (enc : TypeId × Value → H) :
    ReturnsInLeavingWide {} Try.checked os 3 .any (Rows.fnShareSpec.pre6 enc Try.prog Try.f3 Rows.fnShareRow.domain false) (Rows.fnShareSpec.post enc Try.prog Try.f3 false true false false) := by
  refine returnsInLeavingWide_of_change_sized (C := Try.checked) own_knob started Try.func3
    (ChangeSpec.witness6 (enc := enc) (C := Try.checked) false ⟨#[], #[.slice none 0 0], []⟩ 8 (by kernel_rfl) (by kernel_rfl) (by kernel_rfl) (by kernel_rfl)) ?_
  intro W base args ds gs before hval0 hW hcnd _ _
  have hval : ∀ (j : Nat) t v, Try.f3.params[j]? = some t → args[j]? = some v → Value.okWide Try.prog W .any base t v := hval0
  have hW' := hW
  obtain ⟨p, q, hA0, hV, rfl, hfz, hnd⟩ := hW
  have hA : DataW.TrodAll enc Try.prog W 0 (fun _ => true) true Try.f3.params.toList args.toList ds p := hA0
  rw [Try.params3] at hA hval
  obtain ⟨v0, d0, rfl, rfl, h0⟩ := trodAll_one hA
  obtain ⟨rfl, rfl⟩ := trodVars_none hV
  obtain ⟨b0, hB0⟩ := open_xB (hval 0 22 v0 rfl rfl) h0
  have hlt : ∀ x ∈ p ++ [], x.block < W.heap.size := fun x hx => hW'.lt x hx
  clear hA0 hval0
  obtain ⟨M, last, o, w', t', g1, g2, g3, g4⟩ := lawShare v0 b0 W hB0
  refine ⟨M, last, o, w', t', g1, g2, g3, g4.mono fun v hp => ?_⟩
  obtain ⟨rfl, hs⟩ := hp
  have hw := hs.ext
  exact ⟨_, _, _, [], _, [], hW', trodAll_mk1 (shut_bool Try.underlying4 _),
    (trodAll_mk1 (Below.trod laid_out (by kernel_rfl) (of_decide_eq_true (by kernel_rfl)) h0 hw (fun x hx => hlt x (by simp [hx])))).of_heap (by rfl), rfl, ⟨hs.os, hs.output, fun i hi => by rw [hs.block i hi]; split <;> simp_all⟩, fun h => by cases h⟩

theorem row_inPlace : (Rows.fnShareRow.inPlace == Try.pinned.checked.prog.inPlace 3) = true := by kernel_rfl
theorem row_unfollowed : (Rows.fnShareRow.unfollowed == Try.pinned.checked.prog.unfollowed 3) = true := by kernel_rfl
theorem row_recurses : (Rows.fnShareRow.recurses == Try.pinned.checked.prog.recurses 3) = true := by kernel_rfl
theorem row_named : (Rows.fnShareRow.named == Try.pinned.checked.prog.varsNamed 3) = true := by kernel_rfl
theorem row_closed : joinedFacts Try.pinned.checked.prog 3 Try.f3 Rows.fnShareSpec Rows.fnShareRow = true :=
  closed_of (by kernel_rfl) clo_laid clo_rowed (by kernel_rfl) (by kernel_rfl) (by kernel_rfl) clo_stops (by kernel_rfl) clo_knobs row_inPlace row_unfollowed row_recurses row_named clo_heard clo_enter (by kernel_rfl) (by kernel_rfl) (by kernel_rfl) (by kernel_rfl) (by kernel_rfl)

theorem fnShare_holds : Rows.FnShareSaid :=
  OpenClaim.holds_of_wide_leaving 3 Try.f3 rfl rfl rfl rfl rfl rfl rfl ⟨rfl, rfl, rfl, rfl, rfl⟩ rfl rfl rfl rfl rfl (by kernel_rfl) Try.func3 row_closed
    (of_decide_eq_true (by kernel_rfl)) (by unfold Func.isWrapper; first | (rw [if_pos (by decide +kernel)]; kernel_rfl) | (rw [if_neg (by decide +kernel)]; exact ⟨rfl, rfl⟩))
    (fun os started H enc _ => fnShare_lifted os started H enc)
#print axioms fnShare_holds

end Go.Proofs.Ytcfpilkhjpegcaa
