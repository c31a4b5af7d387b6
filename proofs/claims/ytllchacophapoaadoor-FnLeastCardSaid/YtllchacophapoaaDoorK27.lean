/- cmp.Compare and cmp.Or of ints; the program's order of pairs. -/
import Derived.Test.YtllchacophapoaaDoorK23
import Derived.Test.YtllchacophapoaaDoorK3
namespace Go.Proofs.YtllchacophapoaaDoor
open Go.RowKit
set_option maxRecDepth 4000

def cmpI (a b : Int) : Int := if a < b then -1 else if b < a then 1 else 0
theorem cCompare (a b : Int) (w : World) : Calls Tryd.prog 139 #[.int .i64 a, .int .i64 b] w fun e w' => e = .returned (.int .i64 (cmpI a b)) ∧ w' = w := by
  have ha : (a != a) = false := by simp
  have hb : (b != b) = false := by simp
  by_cases h1 : a < b
  · have hR : Hid (cmpI a b = -1) := hid (by unfold cmpI; rw [if_pos h1])
    go_enter Tryd.func139, Tryd.ntmps139
    go_wp2
    go_ret
    exact ⟨ret_i hR.out.symm, rfl⟩
  · by_cases h2 : b < a
    · have hR : Hid (cmpI a b = 1) := hid (by unfold cmpI; rw [if_neg h1, if_pos h2])
      go_enter Tryd.func139, Tryd.ntmps139
      go_wp2
      go_ret
      exact ⟨ret_i hR.out.symm, rfl⟩
    · have hR : Hid (cmpI a b = 0) := hid (by unfold cmpI; rw [if_neg h1, if_neg h2])
      go_enter Tryd.func139, Tryd.ntmps139
      go_wp2
      go_ret
      exact ⟨ret_i hR.out.symm, rfl⟩

def orI (x y : Int) : Int := if x = 0 then y else x
set_option maxHeartbeats 1000000 in
theorem cOr (v : Value) (x y : Int) (w : World) (h : RI w v [x, y]) : Calls Tryd.prog 138 #[v] w fun e w' => e = .returned (.int .i64 (orI x y)) ∧ w' = w := by
  obtain ⟨A, c, rfl, hc, hc', hg⟩ := RI.get h
  obtain ⟨b, o, x', rfl, e0, c0⟩ := hg 0 (by simp)
  obtain ⟨b', o', y', hA, e1, c1⟩ := hg 1 (by simp)
  injection hA with hA
  injection hA with h1 h2 _
  subst h1 h2
  have hx : x = x' := by simpa using e0.out
  have hy : y = y' := by simpa using e1.out
  subst hx hy
  have c0 : w.cell? ⟨b, o, none⟩ = some (.int .i64 x) := by simpa using c0
  clear h hg e0 e1
  go_enter Tryd.func138, Tryd.ntmps138
  go_wp2
  refine wp_loop_rounds 3 ?_
  rw [rounds_succ]
  by_cases hx0 : x = 0
  · have hb0 : (x != 0) = false := by simp [hx0]
    by_cases hy0 : y = 0
    · have hb1 : (y != 0) = false := by simp [hy0]
      have hR : Hid (orI x y = 0) := hid (by unfold orI; rw [if_pos hx0, hy0])
      clear hx0 hy0
      go_wp2
      rw [rounds_succ]
      go_wp2
      rw [rounds_succ]
      go_wp2
      go_ret
      exact ⟨ret_i hR.out.symm, rfl⟩
    · have hb1 : (y != 0) = true := by simp [hy0]
      have hR : Hid (orI x y = y) := hid (by unfold orI; rw [if_pos hx0])
      clear hx0 hy0
      go_wp2
      rw [rounds_succ]
      go_wp2
      go_ret
      exact ⟨ret_i hR.out.symm, rfl⟩
  · have hb0 : (x != 0) = true := by simp [hx0]
    have hR : Hid (orI x y = x) := hid (by unfold orI; rw [if_neg hx0])
    clear hx0
    go_wp2
    go_ret
    exact ⟨ret_i hR.out.symm, rfl⟩
theorem pair_lt (p q : PairD) : decide (0 ≤ orI (cmpI p.a q.a) (cmpI p.b q.b)) = !pairLt p q := by
  unfold orI cmpI pairLt
  by_cases h1 : p.a < q.a
  · simp [h1]
  · by_cases h2 : q.a < p.a
    · have : ¬ p.a = q.a := by omega
      simp [h1, h2, this]
    · have : p.a = q.a := by omega
      by_cases h3 : p.b < q.b
      · simp [this, h3]
      · by_cases h4 : q.b < p.b
        · simp [this, h3, h4]
        · simp [this, h3, h4]

end Go.Proofs.YtllchacophapoaaDoor

/- The program's PairsValid. (Printed by genpq2.py.) -/
namespace Go.Proofs.YtllchacophapoaaDoor
open Go.RowKit
set_option maxRecDepth 4000

end Go.Proofs.YtllchacophapoaaDoor
