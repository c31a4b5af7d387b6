/- The law FnExactClusterArrive returns true for every cluster, every task and either grant. No condition. -/
import Derived.Test.YtkdkmihgnplooaaGreatLw22b
import Derived.Test.YtkdkmihgnplooaaGreatK13
import Derived.Test.YtkdkmihgnplooaaGreatClosed
import Derived.Test.YtkdkmihgnplooaaGreatRows
import Derived.Test.YtkdkmihgnplooaaGreatChecked
namespace Go.Proofs.YtkdkmihgnplooaaGreat
open Go.ChangeShapes Go.WideShapes Go.ChangeAt Go.RowKit

theorem own_knob : ownKnob Tryz.prog.godebug = none := by kernel_rfl
theorem laid_out : laidOutB Tryz.prog = true := by kernel_rfl

set_option maxRecDepth 100000 in
theorem fnExactClusterArrive_lifted (os : Os) (started : os.Started) (H : Type) (enc : TypeId × Value → H) :
    ReturnsInHanded {} Tryz.checked os 3 .any (Rows.fnExactClusterArriveSpec.pre6 enc Tryz.prog Tryz.f3 Rows.fnExactClusterArriveRow.domain false) (Rows.fnExactClusterArriveSpec.post enc Tryz.prog Tryz.f3 false true false false) := by
  refine returnsInHanded_of_change (C := Tryz.checked) own_knob started (by kernel_rfl) Tryz.func3
    (ChangeSpec.witness6 (enc := enc) (C := Tryz.checked) false ⟨#[], #[.agg #[.slice none 0 0, .slice none 0 0], .agg #[.int .i64 0, .slice none 0 0], .bool false], []⟩ 8 (by kernel_rfl) (by kernel_rfl) (by kernel_rfl) (by kernel_rfl)) ?_
  intro W base args ds gs before hval0 hW hcnd _
  have hval : ∀ (j : Nat) t v, Tryz.f3.params[j]? = some t → args[j]? = some v → Value.okWide Tryz.prog W .any base t v := hval0
  have hW' := hW
  obtain ⟨p, q, hA0, hV, rfl, hfz, hnd⟩ := hW
  have hA : DataW.TrodAll enc Tryz.prog W 0 (fun _ => true) true Tryz.f3.params.toList args.toList ds p := hA0
  rw [Tryz.params3] at hA hval
  obtain ⟨v0, v1, v2, d0, d1, d2, p0, p1, p2, rfl, rfl, rfl, h0, h1, h2⟩ := trodAll_three hA
  obtain ⟨rfl, rfl⟩ := trodVars_none hV
  obtain ⟨C0, hC0, hid0⟩ := open_xc (hval 0 25 v0 rfl rfl) h0
  obtain ⟨x1, nv1, rfl, hX1, hxi1⟩ := open_xtask (hval 1 27 v1 rfl rfl) h1
  obtain ⟨z2, rfl, rfl, rfl⟩ := open_bool Tryz.underlying4 (hval 2 4 v2 rfl rfl) h2
  have hlt : ∀ x ∈ (p0 ++ p1 ++ []) ++ [], x.block < W.heap.size := fun x hx => hW'.lt x hx
  clear hA0 hval0
  refine (lawExactArrive v0 nv1 C0 x1 z2 W hC0 hid0 hX1 hxi1).mono fun e W' ⟨he, hw⟩ => ?_
  subst he
  exact ⟨_, rfl, _, _, _, [], _, [], hW', trodAll_mk1 (shut_bool Tryz.underlying4 _),
    trodAll_mk3 (Below.trod laid_out (by kernel_rfl) (of_decide_eq_true (by kernel_rfl)) h0 hw (fun x hx => hlt x (by simp [hx]))) (Below.trod laid_out (by kernel_rfl) (of_decide_eq_true (by kernel_rfl)) h1 hw (fun x hx => hlt x (by simp [hx]))) (shut_bool Tryz.underlying4 z2), rfl, hw.frame _, fun h => by cases h⟩

theorem row_inPlace : (Rows.fnExactClusterArriveRow.inPlace == Tryz.pinned.checked.prog.inPlace 3) = true := by kernel_rfl
theorem row_unfollowed : (Rows.fnExactClusterArriveRow.unfollowed == Tryz.pinned.checked.prog.unfollowed 3) = true := by kernel_rfl
theorem row_recurses : (Rows.fnExactClusterArriveRow.recurses == Tryz.pinned.checked.prog.recurses 3) = true := by kernel_rfl
theorem row_named : (Rows.fnExactClusterArriveRow.named == Tryz.pinned.checked.prog.varsNamed 3) = true := by kernel_rfl
theorem row_closed : joinedFacts Tryz.pinned.checked.prog 3 Tryz.f3 Rows.fnExactClusterArriveSpec Rows.fnExactClusterArriveRow = true :=
  closed_of (by kernel_rfl) clo_laid clo_rowed (by kernel_rfl) (by kernel_rfl) (by kernel_rfl) clo_stops (by kernel_rfl) clo_knobs row_inPlace row_unfollowed row_recurses row_named clo_heard clo_enter (by kernel_rfl) (by kernel_rfl) (by kernel_rfl) (by kernel_rfl) (by kernel_rfl)

theorem fnExactClusterArrive_holds : Rows.FnExactClusterArriveSaid :=
  OpenClaim.holds_of_wide 3 Tryz.f3 rfl rfl rfl rfl rfl rfl rfl ⟨rfl, rfl, rfl, rfl, rfl⟩ rfl rfl rfl rfl rfl (by kernel_rfl) Tryz.func3 row_closed
    (of_decide_eq_true (by kernel_rfl)) (by unfold Func.isWrapper; first | (rw [if_pos (by decide +kernel)]; kernel_rfl) | (rw [if_neg (by decide +kernel)]; exact ⟨rfl, rfl⟩))
    (fun os started H enc _ => fnExactClusterArrive_lifted os started H enc)
#print axioms fnExactClusterArrive_holds

end Go.Proofs.YtkdkmihgnplooaaGreat
