/- A move needs a task, another node and room. The variable errMove is listed, and tied. -/
import Derived.Test.YtibpijjigopdjaaDoorLaid
import Derived.Test.YtibpijjigopdjaaDoorN6b
import Derived.Test.YtibpijjigopdjaaDoorK15
import Derived.Test.YtibpijjigopdjaaDoorClosed
import Derived.Test.YtibpijjigopdjaaDoorCards
import Derived.Test.YtibpijjigopdjaaDoorTie
namespace Go.Proofs.YtibpijjigopdjaaDoor
open Go.ChangeShapes Go.WideShapes Go.ChangeAt Go.RowKit

theorem own_knob : ownKnob Tryd.prog.godebug = none := by kernel_rfl
theorem laid_out : laidOutB Tryd.prog = true := by kernel_rfl

set_option maxRecDepth 100000 in
theorem fnMoveWhen_lifted (os : Os) (started : os.Started) (H : Type) (enc : TypeId × Value → H) :
    ReturnsInHanded {} Tryd.checked os 11 .any (fun w args => (Rows.fnMoveWhenSpec.pre enc Tryd.prog Tryd.f11 [] false w args ∧ laidMetH Tryd.prog laidE w) ∧ sizedMet enc Tryd.prog Tryd.f11 (OpenSpec.ofChange Rows.fnMoveWhenSpec) false w args)
      (Rows.fnMoveWhenSpec.post enc Tryd.prog Tryd.f11 false true false false) := by
  refine returnsInHanded_of_change_and (C := Tryd.checked) (X := fun w _ => laidMetH Tryd.prog laidE w) (fun _ _ _ hh h => h.of_heap hh) own_knob started (by kernel_rfl) Tryd.func11
    (ChangeSpec.witness_shaped (enc := enc) (C := Tryd.checked) (os := os) (X := fun w _ => laidMetH Tryd.prog laidE w) false (World.doorLaid Tryd.prog 400 os) #[.slice none 0 0] 8 rfl (World.shaped_of_RefB (by kernel_rfl) (by kernel_rfl)) (by kernel_rfl) (by kernel_rfl) (by kernel_rfl) (door_met os _)) ?_
  intro W base args ds gs before hval0 hW _ _ hL _
  have hval : ∀ (j : Nat) t v, Tryd.f11.params[j]? = some t → args[j]? = some v → Value.okWide Tryd.prog W .any base t v := hval0
  have hW' := hW
  obtain ⟨p, q, hA0, hV0, rfl, hfz, hnd⟩ := hW
  have hA : DataW.TrodAll enc Tryd.prog W 0 (fun _ => true) true Tryd.f11.params.toList args.toList ds p := hA0
  have hV : DataW.TrodVars enc Tryd.prog W (fun _ => true) ["loop.example/vectorpacker/impl.errMove"] gs q := hV0
  rw [Tryd.params11] at hA hval
  obtain ⟨v0, d0, rfl, rfl, h0⟩ := trodAll_one hA
  obtain ⟨a0, hv0, hc0⟩ := of_laid hL
  obtain ⟨rfl, rfl⟩ := hV.unique (var_read enc hv0 _)
  obtain ⟨b0, hB0⟩ := open_xB (hval 0 22 v0 rfl rfl) h0
  have hlt : ∀ x ∈ p ++ [.cell 0 0], x.block < W.heap.size := fun x hx => hW'.lt x hx
  clear hA0 hV0 hval0
  refine (lawMoveWhen v0 b0 W hB0 a0 hc0).mono fun e W' ⟨he, hw⟩ => ?_
  subst he
  exact ⟨_, rfl, _, _, _, [], _, [.cell 0 0], hW', trodAll_mk1 (shut_bool Tryd.underlying4 _),
    trodAll_mk1 (Below.trod laid_out (by kernel_rfl) (of_decide_eq_true (by kernel_rfl)) h0 hw (fun x hx => hlt x (by simp [hx]))), var_read enc (var_ext hv0 hw) _, hw.frame _, fun h => by cases h⟩

theorem row_inPlace : (Rows.fnMoveWhenRow.inPlace == Tryd.pinned.checked.prog.inPlace 11) = true := by kernel_rfl
theorem row_unfollowed : (Rows.fnMoveWhenRow.unfollowed == Tryd.pinned.checked.prog.unfollowed 11) = true := by kernel_rfl
theorem row_recurses : (Rows.fnMoveWhenRow.recurses == Tryd.pinned.checked.prog.recurses 11) = true := by kernel_rfl
theorem row_named : (Rows.fnMoveWhenRow.named == Tryd.pinned.checked.prog.varsNamed 11) = true := by kernel_rfl
theorem row_closed : joinedFacts Tryd.pinned.checked.prog 11 Tryd.f11 Rows.fnMoveWhenSpec Rows.fnMoveWhenRow = true :=
  closed_of (by kernel_rfl) clo_laid clo_rowed (by kernel_rfl) (by kernel_rfl) (by kernel_rfl) clo_stops (by kernel_rfl) clo_knobs row_inPlace row_unfollowed row_recurses row_named clo_heard clo_enter (by kernel_rfl) (by kernel_rfl) (by kernel_rfl) (by kernel_rfl) (by kernel_rfl)

theorem fnMoveWhen_said : Rows.FnMoveWhenSaid :=
  OpenClaim.holds_of_wide 11 Tryd.f11 rfl rfl rfl rfl rfl rfl rfl ⟨rfl, rfl, rfl, rfl, rfl⟩ rfl rfl rfl rfl rfl (by kernel_rfl) Tryd.func11 row_closed
    (of_decide_eq_true (by kernel_rfl)) (by unfold Func.isWrapper; first | (rw [if_pos (by decide +kernel)]; kernel_rfl) | (rw [if_neg (by decide +kernel)]; exact ⟨rfl, rfl⟩))
    (fun os started H enc _ => fnMoveWhen_lifted os started H enc)

theorem fnMoveWhen_holds : Rows.FnMoveWhenCardSaid :=
  Claim7.holds_tied_plain_at .later [] [.sentinel] true (true, "fade3b44c23db266a56e2147ae3255a7ab925cdc4c6ae47b64b1fdce20930162") true
    fnMoveWhen_said (fun _ h => by cases h) (by kernel_rfl) (fun _ h => by cases h) fnMoveWhen_row_tie rfl ⟨rfl, rfl⟩ (by kernel_rfl) rfl
    (fun f fn hf hfn => by
      obtain rfl : f = 11 := Option.some.inj ((show Tryd.prog.funcNamed "loop.example/vectorpacker/laws.FnMoveWhen" = some 11 by kernel_rfl).symm.trans hf) |>.symm
      obtain rfl : fn = Tryd.f11 := (Option.some.inj (Tryd.func11.symm.trans hfn)).symm
      exact ⟨by kernel_rfl, fun j t ht => by
        rw [Tryd.params11] at ht
        have hm : t ∈ [22] := by simpa using Array.mem_of_getElem? ht
        have hall : ([22].all fun u => !Tryd.prog.wantsStandIn u) = true := by kernel_rfl
        exact (show Tryd.prog.wantsStandIn t = false by simpa using List.all_eq_true.1 hall t hm)⟩)
    (by kernel_rfl)
#print axioms fnMoveWhen_holds

end Go.Proofs.YtibpijjigopdjaaDoor
