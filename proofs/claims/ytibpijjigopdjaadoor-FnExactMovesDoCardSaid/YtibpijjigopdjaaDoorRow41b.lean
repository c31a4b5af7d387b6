/- The card of FnExactMovesDo: the law returns true for every room, all nodes and every row of moves. The variable errMove is listed, and tied. -/
import Derived.Test.YtibpijjigopdjaaDoorLaid
import Derived.Test.YtibpijjigopdjaaDoorE6b
import Derived.Test.YtibpijjigopdjaaDoorK15
import Derived.Test.YtibpijjigopdjaaDoorK21
import Derived.Test.YtibpijjigopdjaaDoorClosed
import Derived.Test.YtibpijjigopdjaaDoorCards
import Derived.Test.YtibpijjigopdjaaDoorTie
namespace Go.Proofs.YtibpijjigopdjaaDoor
open Go.ChangeShapes Go.WideShapes Go.ChangeAt Go.RowKit

theorem own_knob : ownKnob Tryd.prog.godebug = none := by kernel_rfl
theorem laid_out : laidOutB Tryd.prog = true := by kernel_rfl

set_option maxRecDepth 100000 in
theorem fnExactMovesDo_lifted (os : Os) (started : os.Started) (H : Type) (enc : TypeId × Value → H) :
    ReturnsInHanded {} Tryd.checked os 15 .any (fun w args => (Rows.fnExactMovesDoSpec.pre enc Tryd.prog Tryd.f15 [] false w args ∧ laidMetH Tryd.prog laidE w) ∧ sizedMet enc Tryd.prog Tryd.f15 (OpenSpec.ofChange Rows.fnExactMovesDoSpec) false w args)
      (Rows.fnExactMovesDoSpec.post enc Tryd.prog Tryd.f15 false true false false) := by
  refine returnsInHanded_of_change_and (C := Tryd.checked) (X := fun w _ => laidMetH Tryd.prog laidE w) (fun _ _ _ hh h => h.of_heap hh) own_knob started (by kernel_rfl) Tryd.func15
    (ChangeSpec.witness_shaped (enc := enc) (C := Tryd.checked) (os := os) (X := fun w _ => laidMetH Tryd.prog laidE w) false (World.doorLaid Tryd.prog 400 os) #[.slice none 0 0, .slice none 0 0, .slice none 0 0] 8 rfl (World.shaped_of_RefB (by kernel_rfl) (by kernel_rfl)) (by kernel_rfl) (by kernel_rfl) (by kernel_rfl) (door_met os _)) ?_
  intro W base args ds gs before hval0 hW _ _ hL _
  have hval : ∀ (j : Nat) t v, Tryd.f15.params[j]? = some t → args[j]? = some v → Value.okWide Tryd.prog W .any base t v := hval0
  have hW' := hW
  obtain ⟨p, q, hA0, hV0, rfl, hfz, hnd⟩ := hW
  have hA : DataW.TrodAll enc Tryd.prog W 0 (fun _ => true) true Tryd.f15.params.toList args.toList ds p := hA0
  have hV : DataW.TrodVars enc Tryd.prog W (fun _ => true) ["loop.example/vectorpacker/impl.errMove"] gs q := hV0
  rw [Tryd.params15] at hA hval
  obtain ⟨v0, v1, v2, d0, d1, d2, p0, p1, p2, rfl, rfl, rfl, h0, h1, h2⟩ := trodAll_three hA
  obtain ⟨a0, hv0, hc0⟩ := of_laid hL
  obtain ⟨rfl, rfl⟩ := hV.unique (var_read enc hv0 _)
  obtain ⟨n0, hN0, hI0⟩ := open_xI (hval 0 23 v0 rfl rfl) h0
  obtain ⟨S1, hS1, hid1⟩ := open_xTT (hval 1 48 v1 rfl rfl) h1
  obtain ⟨V2, hV2⟩ := open_xMv (hval 2 66 v2 rfl rfl) h2
  have hlt : ∀ x ∈ (p0 ++ p1 ++ p2) ++ [.cell 0 0], x.block < W.heap.size := fun x hx => hW'.lt x hx
  clear hA0 hV0 hval0
  refine (lawExactMovesDo v0 v1 v2 n0 S1 V2 W hN0 hS1 hid1 hV2 a0 hc0).mono fun e W' ⟨he, hw⟩ => ?_
  subst he
  exact ⟨_, rfl, _, _, _, [], _, [.cell 0 0], hW', trodAll_mk1 (shut_bool Tryd.underlying4 _),
    trodAll_mk3 (Below.trod laid_out (by kernel_rfl) (of_decide_eq_true (by kernel_rfl)) h0 hw (fun x hx => hlt x (by simp [hx]))) (Below.trod laid_out (by kernel_rfl) (of_decide_eq_true (by kernel_rfl)) h1 hw (fun x hx => hlt x (by simp [hx]))) (Below.trod laid_out (by kernel_rfl) (of_decide_eq_true (by kernel_rfl)) h2 hw (fun x hx => hlt x (by simp [hx]))), var_read enc (var_ext hv0 hw) _, hw.frame _, fun h => by cases h⟩

theorem row_inPlace : (Rows.fnExactMovesDoRow.inPlace == Tryd.pinned.checked.prog.inPlace 15) = true := by kernel_rfl
theorem row_unfollowed : (Rows.fnExactMovesDoRow.unfollowed == Tryd.pinned.checked.prog.unfollowed 15) = true := by kernel_rfl
theorem row_recurses : (Rows.fnExactMovesDoRow.recurses == Tryd.pinned.checked.prog.recurses 15) = true := by kernel_rfl
theorem row_named : (Rows.fnExactMovesDoRow.named == Tryd.pinned.checked.prog.varsNamed 15) = true := by kernel_rfl
theorem row_closed : joinedFacts Tryd.pinned.checked.prog 15 Tryd.f15 Rows.fnExactMovesDoSpec Rows.fnExactMovesDoRow = true :=
  closed_of (by kernel_rfl) clo_laid clo_rowed (by kernel_rfl) (by kernel_rfl) (by kernel_rfl) clo_stops (by kernel_rfl) clo_knobs row_inPlace row_unfollowed row_recurses row_named clo_heard clo_enter (by kernel_rfl) (by kernel_rfl) (by kernel_rfl) (by kernel_rfl) (by kernel_rfl)

theorem fnExactMovesDo_said : Rows.FnExactMovesDoSaid :=
  OpenClaim.holds_of_wide 15 Tryd.f15 rfl rfl rfl rfl rfl rfl rfl ⟨rfl, rfl, rfl, rfl, rfl⟩ rfl rfl rfl rfl rfl (by kernel_rfl) Tryd.func15 row_closed
    (of_decide_eq_true (by kernel_rfl)) (by unfold Func.isWrapper; first | (rw [if_pos (by decide +kernel)]; kernel_rfl) | (rw [if_neg (by decide +kernel)]; exact ⟨rfl, rfl⟩))
    (fun os started H enc _ => fnExactMovesDo_lifted os started H enc)

theorem fnExactMovesDo_holds : Rows.FnExactMovesDoCardSaid :=
  Claim7.holds_tied_plain_at .later [] [.sentinel] true (true, "fade3b44c23db266a56e2147ae3255a7ab925cdc4c6ae47b64b1fdce20930162") true
    fnExactMovesDo_said (fun _ h => by cases h) (by kernel_rfl) (fun _ h => by cases h) fnExactMovesDo_row_tie rfl ⟨rfl, rfl⟩ (by kernel_rfl) rfl
    (fun f fn hf hfn => by
      obtain rfl : f = 15 := Option.some.inj ((show Tryd.prog.funcNamed "loop.example/vectorpacker/laws.FnExactMovesDo" = some 15 by kernel_rfl).symm.trans hf) |>.symm
      obtain rfl : fn = Tryd.f15 := (Option.some.inj (Tryd.func15.symm.trans hfn)).symm
      exact ⟨by kernel_rfl, fun j t ht => by
        rw [Tryd.params15] at ht
        have hm : t ∈ [23, 48, 66] := by simpa using Array.mem_of_getElem? ht
        have hall : ([23, 48, 66].all fun u => !Tryd.prog.wantsStandIn u) = true := by kernel_rfl
        exact (show Tryd.prog.wantsStandIn t = false by simpa using List.all_eq_true.1 hall t hm)⟩)
    (by kernel_rfl)
#print axioms fnExactMovesDo_holds

end Go.Proofs.YtibpijjigopdjaaDoor
