/- The card of FnLeast: the law returns true for every list of bytes. The tables of math/bits are listed, and tied. -/
import Derived.Test.YtllchacophapoaaDoorLaidT
import Derived.Test.YtllchacophapoaaDoorOi5b
import Derived.Test.YtllchacophapoaaDoorK15
import Derived.Test.YtllchacophapoaaDoorClosed
import Derived.Test.YtllchacophapoaaDoorCards
import Derived.Test.YtllchacophapoaaDoorTie
namespace Go.Proofs.YtllchacophapoaaDoor
open Go.ChangeShapes Go.WideShapes Go.ChangeAt Go.RowKit

theorem own_knob : ownKnob Tryd.prog.godebug = none := by kernel_rfl
theorem laid_out : laidOutB Tryd.prog = true := by kernel_rfl

set_option maxRecDepth 100000 in
theorem fnLeast_lifted (os : Os) (started : os.Started) (H : Type) (enc : TypeId × Value → H) :
    ReturnsInHanded {} Tryd.checked os 4 .any (fun w args => (Rows.fnLeastSpec.pre enc Tryd.prog Tryd.f4 [] false w args ∧ laidMetH Tryd.prog laidT w) ∧ sizedMet enc Tryd.prog Tryd.f4 (OpenSpec.ofChange Rows.fnLeastSpec) false w args)
      (Rows.fnLeastSpec.post enc Tryd.prog Tryd.f4 false true false false) := by
  refine returnsInHanded_of_change_and (C := Tryd.checked) (X := fun w _ => laidMetH Tryd.prog laidT w) (fun _ _ _ hh h => h.of_heap hh) own_knob started (by kernel_rfl) Tryd.func4
    (ChangeSpec.witness_shaped (enc := enc) (C := Tryd.checked) (os := os) (X := fun w _ => laidMetH Tryd.prog laidT w) false (World.doorLaid Tryd.prog 400 os) #[.slice none 0 0] 8 rfl (World.shaped_of_RefB (by kernel_rfl) (by kernel_rfl)) (by kernel_rfl) (by kernel_rfl) (by kernel_rfl) (door_met os _)) ?_
  intro W base args ds gs before hval0 hW _ _ hL _
  have hval : ∀ (j : Nat) t v, Tryd.f4.params[j]? = some t → args[j]? = some v → Value.okWide Tryd.prog W .any base t v := hval0
  have hW' := hW
  obtain ⟨p, q, hA0, hV0, rfl, hfz, hnd⟩ := hW
  have hA : DataW.TrodAll enc Tryd.prog W 0 (fun _ => true) true Tryd.f4.params.toList args.toList ds p := hA0
  rw [Tryd.params4] at hA hval
  obtain ⟨v0, d0, rfl, rfl, h0⟩ := trodAll_one hA
  have htab := of_laid hL
  obtain ⟨rfl, rfl⟩ := trodVars_none hV0
  obtain ⟨b0, hB0⟩ := open_xB (hval 0 37 v0 rfl rfl) h0
  have hlt : ∀ x ∈ p ++ [], x.block < W.heap.size := fun x hx => hW'.lt x hx
  clear hA0 hval0
  refine (lawLeast v0 b0 W hB0 htab).mono fun e W' ⟨he, hw⟩ => ?_
  subst he
  exact ⟨_, rfl, _, _, _, [], _, [], hW', trodAll_mk1 (shut_bool Tryd.underlying4 _),
    trodAll_mk1 (Below.trod laid_out (by kernel_rfl) (of_decide_eq_true (by kernel_rfl)) h0 hw (fun x hx => hlt x (by simp [hx]))), rfl, hw.frame _, fun h => by cases h⟩

theorem row_inPlace : (Rows.fnLeastRow.inPlace == Tryd.pinned.checked.prog.inPlace 4) = true := by kernel_rfl
theorem row_unfollowed : (Rows.fnLeastRow.unfollowed == Tryd.pinned.checked.prog.unfollowed 4) = true := by kernel_rfl
theorem row_recurses : (Rows.fnLeastRow.recurses == Tryd.pinned.checked.prog.recurses 4) = true := by kernel_rfl
theorem row_named : (Rows.fnLeastRow.named == Tryd.pinned.checked.prog.varsNamed 4) = true := by kernel_rfl
theorem row_closed : joinedFacts Tryd.pinned.checked.prog 4 Tryd.f4 Rows.fnLeastSpec Rows.fnLeastRow = true :=
  closed_of (by kernel_rfl) clo_laid clo_rowed (by kernel_rfl) (by kernel_rfl) (by kernel_rfl) clo_stops (by kernel_rfl) clo_knobs row_inPlace row_unfollowed row_recurses row_named clo_heard clo_enter (by kernel_rfl) (by kernel_rfl) (by kernel_rfl) (by kernel_rfl) (by kernel_rfl)

theorem fnLeast_said : Rows.FnLeastSaid :=
  OpenClaim.holds_of_wide 4 Tryd.f4 rfl rfl rfl rfl rfl rfl rfl ⟨rfl, rfl, rfl, rfl, rfl⟩ rfl rfl rfl rfl rfl (by kernel_rfl) Tryd.func4 row_closed
    (of_decide_eq_true (by kernel_rfl)) (by unfold Func.isWrapper; first | (rw [if_pos (by decide +kernel)]; kernel_rfl) | (rw [if_neg (by decide +kernel)]; exact ⟨rfl, rfl⟩))
    (fun os started H enc _ => fnLeast_lifted os started H enc)

theorem fnLeast_holds : Rows.FnLeastCardSaid :=
  Claim7.holds_tied_plain_at .later [] [.data, .data] true (true, "c131035664295441e16676de3306356d75e3d72d746fa5a03a9bf922b8ad2fa6") true
    fnLeast_said (fun _ h => by cases h) (by kernel_rfl) (fun _ h => by cases h) fnLeast_row_tie rfl ⟨rfl, rfl⟩ (by kernel_rfl) rfl
    (fun f fn hf hfn => by
      obtain rfl : f = 4 := Option.some.inj ((show Tryd.prog.funcNamed "loop.example/vectorpacker/laws.FnLeast" = some 4 by kernel_rfl).symm.trans hf) |>.symm
      obtain rfl : fn = Tryd.f4 := (Option.some.inj (Tryd.func4.symm.trans hfn)).symm
      exact ⟨by kernel_rfl, fun j t ht => by
        rw [Tryd.params4] at ht
        have hm : t ∈ [37] := by simpa using Array.mem_of_getElem? ht
        have hall : ([37].all fun u => !Tryd.prog.wantsStandIn u) = true := by kernel_rfl
        exact (show Tryd.prog.wantsStandIn t = false by simpa using List.all_eq_true.1 hall t hm)⟩)
    (by kernel_rfl)
#print axioms fnLeast_holds

end Go.Proofs.YtllchacophapoaaDoor
