/- The laws' tests for the same ints, tasks, cluster, where they are the same. -/
import Derived.Test.YtcfpilkhjpegcaaK9
import Derived.Test.YtcfpilkhjpegcaaK6
import Derived.Test.YtcfpilkhjpegcaaK2
namespace Go.Proofs.Ytcfpilkhjpegcaa
open Go.RowKit
set_option maxRecDepth 4000

theorem lSameInts (v u : Value) (xs : List Int) (w : World) (h : RI w v xs) (h' : RI w u xs) :
    Calls Try.prog 19 #[v, u] w (RetB w true) := by
  obtain ⟨A, c, rfl, hc, hc', hr⟩ := h.get
  obtain ⟨A', c', rfl, _, _, hr'⟩ := h'.get
  clear h h'
  go_enter Try.func19, Try.ntmps19
  go_wp2
  go_loopw [5] (fun i wr => ∃ k : Nat, k ≤ xs.length ∧ i = .int .i64 k ∧ ∃ n, wr = w.drewN n) (fun i _ => xs.length - (intOf i).toNat)
  case atStart => exact ⟨0, Nat.zero_le _, rfl, 0, rfl⟩
  case round =>
    obtain ⟨k, hk, rfl, n, rfl⟩ := hrel
    by_cases hlt : k < xs.length
    · obtain ⟨b1, o1, x1, rfl, e1, c1⟩ := hr k hlt
      obtain ⟨b2, o2, x2, rfl, e2, c2⟩ := hr' k hlt
      have hx : x2 = x1 := by have a := e1.out; rw [e2.out] at a; injection a
      subst hx
      have i1 : (k : Int) < (xs.length : Int) := by omega
      go_wp2
      go_quiet (fail)
      go_wp2
      go_roundw
      case rel => exact ⟨k + 1, by omega, by go_num, _, rfl⟩
      case measure => simp [intOf]; omega
    · go_wp2
      go_ret
      exact ⟨rfl, Ext.drewN _ _⟩

end Go.Proofs.Ytcfpilkhjpegcaa
