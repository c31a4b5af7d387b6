/- The reference's moves: done, one and many. -/
import Derived.Test.YtllchacophapoaaDoorK6
namespace Go.Proofs.YtllchacophapoaaDoor
open Go.RowKit
set_option maxRecDepth 4000

/-- nodes that are small -/
theorem bins_rows {room : List Int} {bs : List (List TaskD)} (h : binsOk room bs = true) : bs.length ≤ 3000000 ∧ bs.flatten.length ≤ 4000000 ∧ ∀ b ∈ bs, b.length ≤ 4000000 ∧ ∀ t ∈ b, t.need.length ≤ 4000000 := by
  obtain ⟨_, h2, h3, h4⟩ := bins_small h
  exact ⟨by omega, by omega, fun b hb => ⟨by have := (h4 b hb).2.1; omega, fun t ht => by have := ((h4 b hb).2.2 t ht).1; omega⟩⟩
theorem can_to {room : List Int} {bs : List (List TaskD)} {mid mto : Int} (h : canMove room bs ⟨mid, mto⟩ = true) : 0 ≤ mto ∧ mto < bs.length := by
  unfold canMove inB at h
  simp only [Bool.and_eq_true, decide_eq_true_eq] at h
  omega

/-- nodes and a bool -/
def RetMB (w : World) (r : List (List TaskD) × Bool) (e : Ending) (w' : World) : Prop := ∃ v, e = .returned (.tuple #[v, .bool r.2]) ∧ RB w' v r.1 ∧ Ext w w'
/-- nodes and a number -/
def RetMN (w : World) (r : List (List TaskD) × Int) (e : Ending) (w' : World) : Prop := ∃ v, e = .returned (.tuple #[v, .int .i64 r.2]) ∧ RB w' v r.1 ∧ Ext w w'

end Go.Proofs.YtllchacophapoaaDoor

/- The reference's moves one after the other; all moves that are possible. -/
namespace Go.Proofs.YtllchacophapoaaDoor
open Go.RowKit
set_option maxRecDepth 4000

/-- moves in memory -/
def EM : Enc MoveD := fun _ cs m => cs = [.int .i64 m.id, .int .i64 m.to]
theorem EM.mk (w : World) (a b : Int) : EM w [.int .i64 a, .int .i64 b] ⟨a, b⟩ := rfl
theorem EM.ok : EM.Ok (fun _ => False) := fun _ _ _ _ h _ => h
theorem EM.okx : EM.OkX := fun _ _ _ _ h _ => h
theorem EM.flat : EM.Flat := fun _ _ _ h u hu => by rw [h] at hu; simp at hu; rcases hu with rfl | rfl <;> rfl
end Go.Proofs.YtllchacophapoaaDoor

/- The reference's list of all moves that are possible. -/
namespace Go.Proofs.YtllchacophapoaaDoor
open Go.RowKit
set_option maxRecDepth 4000

def mvRow (room : List Int) (bs : List (List TaskD)) (x : TaskD) (n : Nat) : List MoveD := ((List.range n).filter fun (j : Nat) => canMove room bs ⟨x.id, (j : Int)⟩).map fun (j : Nat) => ⟨x.id, (j : Int)⟩
def mvTo (room : List Int) (bs : List (List TaskD)) (ts : List TaskD) : List MoveD := ts.flatMap fun x => mvRow room bs x bs.length
theorem mvRow_succ (room : List Int) (bs : List (List TaskD)) (x : TaskD) (n : Nat) : mvRow room bs x (n + 1) = if canMove room bs ⟨x.id, (n : Int)⟩ then mvRow room bs x n ++ [⟨x.id, (n : Int)⟩] else mvRow room bs x n := by
  unfold mvRow
  rw [List.range_succ, List.filter_append, List.map_append]
  by_cases h : canMove room bs ⟨x.id, (n : Int)⟩ = true
  · rw [if_pos h]; simp [h]
  · rw [if_neg h]; simp [h]
theorem mvRow_len (room : List Int) (bs : List (List TaskD)) (x : TaskD) (n : Nat) : (mvRow room bs x n).length ≤ n := by
  unfold mvRow
  rw [List.length_map]
  exact Nat.le_trans (List.length_filter_le _ _) (by simp)
theorem mvTo_len (room : List Int) (bs : List (List TaskD)) : ∀ (ts : List TaskD), (mvTo room bs ts).length ≤ ts.length * bs.length
  | [] => by simp [mvTo]
  | t :: ts => by
    have ih := mvTo_len room bs ts
    have h1 := mvRow_len room bs t bs.length
    unfold mvTo at ih ⊢
    rw [List.flatMap_cons, List.length_append, List.length_cons, Nat.add_mul]
    omega
theorem mvTo_succ (room : List Int) (bs : List (List TaskD)) {ts : List TaskD} {k : Nat} {x : TaskD} (h : ts[k]? = some x) : mvTo room bs (ts.take (k + 1)) = mvTo room bs (ts.take k) ++ mvRow room bs x bs.length := by
  unfold mvTo
  rw [take_snoc h, List.flatMap_append]
  simp
theorem movesOf_eq {room : List Int} {bs : List (List TaskD)} (h : binsOk room bs = true) : movesOf room bs = mvTo room bs bs.flatten := by unfold movesOf; rw [if_pos h]; rfl
theorem movesOf_len (room : List Int) (bs : List (List TaskD)) : (movesOf room bs).length ≤ 200 := by
  by_cases h : binsOk room bs = true
  · rw [movesOf_eq h]
    have h1 := mvTo_len room bs bs.flatten
    obtain ⟨_, h2, h3, _⟩ := bins_small h
    have : bs.flatten.length * bs.length ≤ 14 * 14 := Nat.mul_le_mul h3 h2
    omega
  · unfold movesOf
    rw [if_neg h]
    simp

end Go.Proofs.YtllchacophapoaaDoor
