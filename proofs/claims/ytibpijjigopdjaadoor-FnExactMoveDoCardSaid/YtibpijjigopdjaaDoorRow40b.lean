/- The card of FnExactMoveDo: the law returns true for every room, all nodes and every move. The variable errMove is listed, and tied. -/
import Derived.Test.YtibpijjigopdjaaDoorLaid
import Derived.Test.YtibpijjigopdjaaDoorE4b
import Derived.Test.YtibpijjigopdjaaDoorK15
import Derived.Test.YtibpijjigopdjaaDoorK21
import Derived.Test.YtibpijjigopdjaaDoorClosed
import Derived.Test.YtibpijjigopdjaaDoorCards
import Derived.Test.YtibpijjigopdjaaDoorTie
namespace Go.Proofs.YtibpijjigopdjaaDoor
open Go.ChangeShapes Go.WideShapes Go.ChangeAt Go.RowKit

theorem own_knob : ownKnob Tryd.prog.godebug = none := by kernel_rfl
theorem laid_out : laidOutB Tryd.prog = true := by kernel_rfl

set_option maxRecDepth 100000 in
theorem fnExactMoveDo_lifted (os : Os) (started : os.Started) (H : Type) (enc : TypeId × Value → H) :
    ReturnsInHanded {} Tryd.checked os 9 .any (fun w args => (Rows.fnExactMoveDoSpec.pre enc Tryd.prog Tryd.f9 [] false w args ∧ laidMetH Tryd.prog laidE w) ∧ sizedMet enc Tryd.prog Tryd.f9 (OpenSpec.ofChange Rows.fnExactMoveDoSpec) false w args)
      (Rows.fnExactMoveDoSpec.post enc Tryd.prog Tryd.f9 false true false false) := by
  refine returnsInHanded_of_change_and (C := Tryd.checked) (X := fun w _ => laidMetH Tryd.prog laidE w) (fun _ _ _ hh h => h.of_heap hh) own_knob started (by kernel_rfl) Tryd.func9
    (ChangeSpec.witness_shaped (enc := enc) (C := Tryd.checked) (os := os) (X := fun w _ => laidMetH Tryd.prog laidE w) false (World.doorLaid Tryd.prog 400 os) #[.slice none 0 0, .slice none 0 0, .agg #[.int .i64 0, .int .i64 0]] 8 rfl (World.shaped_of_RefB (by kernel_rfl) (by kernel_rfl)) (by kernel_rfl) (by kernel_rfl) (by kernel_rfl) (door_met os _)) ?_
  intro W base args ds gs before hval0 hW _ _ hL _
  have hval : ∀ (j : Nat) t v, Tryd.f9.params[j]? = some t → args[j]? = some v → Value.okWide Tryd.prog W .any base t v := hval0
  have hW' := hW
  obtain ⟨p, q, hA0, hV0, rfl, hfz, hnd⟩ := hW
  have hA : DataW.TrodAll enc Tryd.prog W 0 (fun _ => true) true Tryd.f9.params.toList args.toList ds p := hA0
  have hV : DataW.TrodVars enc Tryd.prog W (fun _ => true) ["loop.example/vectorpacker/impl.errMove"] gs q := hV0
  rw [Tryd.params9] at hA hval
  obtain ⟨v0, v1, v2, d0, d1, d2, p0, p1, p2, rfl, rfl, rfl, h0, h1, h2⟩ := trodAll_three hA
  obtain ⟨a0, hv0, hc0⟩ := of_laid hL
  obtain ⟨rfl, rfl⟩ := hV.unique (var_read enc hv0 _)
  obtain ⟨n0, hN0, hI0⟩ := open_xI (hval 0 23 v0 rfl rfl) h0
  obtain ⟨S1, hS1, hid1⟩ := open_xTT (hval 1 48 v1 rfl rfl) h1
  obtain ⟨mi2, mt2, hM2⟩ := open_xmove (hval 2 49 v2 rfl rfl) h2
  subst hM2
  have hlt : ∀ x ∈ (p0 ++ p1 ++ p2) ++ [.cell 0 0], x.block < W.heap.size := fun x hx => hW'.lt x hx
  clear hA0 hV0 hval0
  refine (lawExactMoveDo v0 v1 n0 S1 mi2 mt2 W hN0 hS1 hid1 a0 hc0).mono fun e W' ⟨he, hw⟩ => ?_
  subst he
  exact ⟨_, rfl, _, _, _, [], _, [.cell 0 0], hW', trodAll_mk1 (shut_bool Tryd.underlying4 _),
    trodAll_mk3 (Below.trod laid_out (by kernel_rfl) (of_decide_eq_true (by kernel_rfl)) h0 hw (fun x hx => hlt x (by simp [hx]))) (Below.trod laid_out (by kernel_rfl) (of_decide_eq_true (by kernel_rfl)) h1 hw (fun x hx => hlt x (by simp [hx]))) (Below.trod laid_out (by kernel_rfl) (of_decide_eq_true (by kernel_rfl)) h2 hw (fun x hx => hlt x (by simp [hx]))), var_read enc (var_ext hv0 hw) _, hw.frame _, fun h => by cases h⟩

theorem row_inPlace : (Rows.fnExactMoveDoRow.inPlace == Tryd.pinned.checked.prog.inPlace 9) = true := by kernel_rfl
theorem row_unfollowed : (Rows.fnExactMoveDoRow.unfollowed == Tryd.pinned.checked.prog.unfollowed 9) = true := by kernel_rfl
theorem row_recurses : (Rows.fnExactMoveDoRow.recurses == Tryd.pinned.checked.prog.recurses 9) = true := by kernel_rfl
theorem row_named : (Rows.fnExactMoveDoRow.named == Tryd.pinned.checked.prog.varsNamed 9) = true := by kernel_rfl
theorem row_closed : joinedFacts Tryd.pinned.checked.prog 9 Tryd.f9 Rows.fnExactMoveDoSpec Rows.fnExactMoveDoRow = true :=
  closed_of (by kernel_rfl) clo_laid clo_rowed (by kernel_rfl) (by kernel_rfl) (by kernel_rfl) clo_stops (by kernel_rfl) clo_knobs row_inPlace row_unfollowed row_recurses row_named clo_heard clo_enter (by kernel_rfl) (by kernel_rfl) (by kernel_rfl) (by kernel_rfl) (by kernel_rfl)

theorem fnExactMoveDo_said : Rows.FnExactMoveDoSaid :=
  OpenClaim.holds_of_wide 9 Tryd.f9 rfl rfl rfl rfl rfl rfl rfl ⟨rfl, rfl, rfl, rfl, rfl⟩ rfl rfl rfl rfl rfl (by kernel_rfl) Tryd.func9 row_closed
    (of_decide_eq_true (by kernel_rfl)) (by unfold Func.isWrapper; first | (rw [if_pos (by decide +kernel)]; kernel_rfl) | (rw [if_neg (by decide +kernel)]; exact ⟨rfl, rfl⟩))
    (fun os started H enc _ => fnExactMoveDo_lifted os started H enc)

theorem fnExactMoveDo_holds : Rows.FnExactMoveDoCardSaid :=
  Claim7.holds_tied_plain_at .later [] [.sentinel] true (true, "fade3b44c23db266a56e2147ae3255a7ab925cdc4c6ae47b64b1fdce20930162") true
    fnExactMoveDo_said (fun _ h => by cases h) (by kernel_rfl) (fun _ h => by cases h) fnExactMoveDo_row_tie rfl ⟨rfl, rfl⟩ (by kernel_rfl) rfl
    (fun f fn hf hfn => by
      obtain rfl : f = 9 := Option.some.inj ((show Tryd.prog.funcNamed "loop.example/vectorpacker/laws.FnExactMoveDo" = some 9 by kernel_rfl).symm.trans hf) |>.symm
      obtain rfl : fn = Tryd.f9 := (Option.some.inj (Tryd.func9.symm.trans hfn)).symm
      exact ⟨by kernel_rfl, fun j t ht => by
        rw [Tryd.params9] at ht
        have hm : t ∈ [23, 48, 49] := by simpa using Array.mem_of_getElem? ht
        have hall : ([23, 48, 49].all fun u => !Tryd.prog.wantsStandIn u) = true := by kernel_rfl
        exact (show Tryd.prog.wantsStandIn t = false by simpa using List.all_eq_true.1 hall t hm)⟩)
    (by kernel_rfl)
#print axioms fnExactMoveDo_holds

end Go.Proofs.YtibpijjigopdjaaDoor
