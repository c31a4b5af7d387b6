/- For all clusters and numbers: the program's ClusterDepart returns what the reference's returns, its arguments stay as they are, and its results are its own. No condition. -/
import Derived.Test.YtfgibhdglbjadaaGreatRows
import Derived.Test.YtfgibhdglbjadaaGreatChecked
import Derived.Test.YtfgibhdglbjadaaGreatLw18b
import Derived.Test.YtfgibhdglbjadaaGreatK13
import Derived.Test.YtfgibhdglbjadaaGreatClosed
namespace Go.Proofs.YtfgibhdglbjadaaGreat
open Go.ChangeShapes Go.WideShapes Go.ChangeAt Go.RowKit

theorem own_knob : ownKnob Tryz.prog.godebug = none := by kernel_rfl
theorem laid_out : laidOutB Tryz.prog = true := by kernel_rfl

set_option maxRecDepth 100000 in
theorem fnExactClusterDepart_lifted (os : Os) (started : os.Started) (H : Type) (enc : TypeId × Value → H) :
    ReturnsInHanded {} Tryz.checked os 11 .any (Rows.fnExactClusterDepartSpec.pre6 enc Tryz.prog Tryz.f11 Rows.fnExactClusterDepartRow.domain false) (Rows.fnExactClusterDepartSpec.post enc Tryz.prog Tryz.f11 false true false false) := by
  refine returnsInHanded_of_change (C := Tryz.checked) own_knob started (by kernel_rfl) Tryz.func11
    (ChangeSpec.witness6 (enc := enc) (C := Tryz.checked) false ⟨#[], #[.agg #[.slice none 0 0, .slice none 0 0], .int .i64 0], []⟩ 8 (by kernel_rfl) (by kernel_rfl) (by kernel_rfl) (by kernel_rfl)) ?_
  intro W base args ds gs before hval0 hW hcnd _
  have hval : ∀ (j : Nat) t v, Tryz.f11.params[j]? = some t → args[j]? = some v → Value.okWide Tryz.prog W .any base t v := hval0
  have hW' := hW
  obtain ⟨p, q, hA0, hV, rfl, hfz, hnd⟩ := hW
  have hA : DataW.TrodAll enc Tryz.prog W 0 (fun _ => true) true Tryz.f11.params.toList args.toList ds p := hA0
  rw [Tryz.params11] at hA hval
  obtain ⟨v0, v1, d0, d1, p0, p1, rfl, rfl, rfl, h0, h1⟩ := trodAll_two hA
  obtain ⟨rfl, rfl⟩ := trodVars_none hV
  obtain ⟨C0, hC0, hid0⟩ := open_xc (hval 0 39 v0 rfl rfl) h0
  obtain ⟨z1, rfl, rfl, rfl, ww1⟩ := open_int Tryz.underlying3 (hval 1 3 v1 rfl rfl) h1
  have hlt : ∀ x ∈ (p0 ++ []) ++ [], x.block < W.heap.size := fun x hx => hW'.lt x hx
  clear hA0 hval0
  refine (lawExactDepart v0 C0 z1 W hC0 hid0).mono fun e W' ⟨he, hw⟩ => ?_
  subst he
  exact ⟨_, rfl, _, _, _, [], _, [], hW', trodAll_mk1 (shut_bool Tryz.underlying4 _),
    trodAll_mk2 (Below.trod laid_out (by kernel_rfl) (of_decide_eq_true (by kernel_rfl)) h0 hw (fun x hx => hlt x (by simp [hx]))) (shut_int Tryz.underlying3 ww1), rfl, hw.frame _, fun h => by cases h⟩

theorem row_inPlace : (Rows.fnExactClusterDepartRow.inPlace == Tryz.pinned.checked.prog.inPlace 11) = true := by kernel_rfl
theorem row_unfollowed : (Rows.fnExactClusterDepartRow.unfollowed == Tryz.pinned.checked.prog.unfollowed 11) = true := by kernel_rfl
theorem row_recurses : (Rows.fnExactClusterDepartRow.recurses == Tryz.pinned.checked.prog.recurses 11) = true := by kernel_rfl
theorem row_named : (Rows.fnExactClusterDepartRow.named == Tryz.pinned.checked.prog.varsNamed 11) = true := by kernel_rfl
theorem row_closed : joinedFacts Tryz.pinned.checked.prog 11 Tryz.f11 Rows.fnExactClusterDepartSpec Rows.fnExactClusterDepartRow = true :=
  closed_of (by kernel_rfl) clo_laid clo_rowed (by kernel_rfl) (by kernel_rfl) (by kernel_rfl) clo_stops (by kernel_rfl) clo_knobs row_inPlace row_unfollowed row_recurses row_named clo_heard clo_enter (by kernel_rfl) (by kernel_rfl) (by kernel_rfl) (by kernel_rfl) (by kernel_rfl)

theorem fnExactClusterDepart_holds : Rows.FnExactClusterDepartSaid :=
  OpenClaim.holds_of_wide 11 Tryz.f11 rfl rfl rfl rfl rfl rfl rfl ⟨rfl, rfl, rfl, rfl, rfl⟩ rfl rfl rfl rfl rfl (by kernel_rfl) Tryz.func11 row_closed
    (of_decide_eq_true (by kernel_rfl)) (by unfold Func.isWrapper; first | (rw [if_pos (by decide +kernel)]; kernel_rfl) | (rw [if_neg (by decide +kernel)]; exact ⟨rfl, rfl⟩))
    (fun os started H enc _ => fnExactClusterDepart_lifted os started H enc)
#print axioms fnExactClusterDepart_holds

end Go.Proofs.YtfgibhdglbjadaaGreat
