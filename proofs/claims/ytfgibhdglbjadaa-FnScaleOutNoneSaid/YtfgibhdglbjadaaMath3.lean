/- Nodes that would have to be opened. No program in sight. -/
import Derived.Test.YtfgibhdglbjadaaMath2
namespace Go.Proofs.Ytfgibhdglbjadaa

/-- the open ones of the first k nodes -/
def openTo (us : List UnitD) (k : Nat) : Nat := (us.take k).countP fun u => u.opened
def openN (c : ClusD) : Nat := openTo c.units c.units.length
theorem openTo_succ {us : List UnitD} {k : Nat} {u : UnitD} (h : us[k]? = some u) : openTo us (k + 1) = if u.opened then openTo us k + 1 else openTo us k := by
  unfold openTo
  rw [take_snoc h, List.countP_append]
  cases hu : u.opened <;> simp [hu]
theorem openTo_le (us : List UnitD) (k : Nat) : openTo us k ≤ us.length := by
  unfold openTo
  have h1 : (us.take k).countP (fun u => u.opened) ≤ (us.take k).length := List.countP_le_length
  have h2 := List.length_take_le' k us
  omega
/-- the first number of nodes that is enough, or -1 -/
def enough (have_ full want : Int) (m : Nat) : Int := match (List.range m).findIdx? (fun n : Nat => decide (want ≤ have_ + (n : Int) * full)) with | some i => i | none => -1
theorem enough_hit {h f want : Int} {m k : Nat} (hk : k < m) (hp : want ≤ h + (k : Int) * f) (hn : ∀ j : Nat, j < k → h + (j : Int) * f < want) : enough h f want m = k := by
  have : (List.range m).findIdx? (fun n : Nat => decide (want ≤ h + (n : Int) * f)) = some k := by
    rw [List.findIdx?_eq_some_iff_getElem]
    refine ⟨by simpa using hk, by simpa using hp, fun j hj => ?_⟩
    have := hn j hj
    simp
    omega
  unfold enough
  rw [this]
theorem enough_miss {h f want : Int} {m : Nat} (hn : ∀ j : Nat, j < m → h + (j : Int) * f < want) : enough h f want m = -1 := by
  have : (List.range m).findIdx? (fun n : Nat => decide (want ≤ h + (n : Int) * f)) = none := by
    rw [List.findIdx?_eq_none_iff]
    intro j hj
    have := hn j (by simpa using hj)
    simp
    omega
  unfold enough
  rw [this]
def outN (c : ClusD) (need : List Int) (want : Int) : Int := if clusOk c && needOk need && inB want 0 999 then enough (spareL c need) (timesL c.room need) want (c.units.length - openN c + 1) else -1
theorem leftL_nil {room : List Int} (h : room.length = 3) : leftL room [] = room := by
  match room, h with
  | [a, b, c], _ => simp [leftL, addL, addTo, loadL, List.range, List.range.loop]
theorem full_bd {c : ClusD} (h : clusOk c = true) (need : List Int) : 0 ≤ timesL c.room need ∧ timesL c.room need ≤ 20 := timesTo_bd (M := 20) (fun x hx => vecOk_mem (roomOk_vec (clusOk_room h)) x hx) (by omega) 3
theorem spare_bd {c : ClusD} (h : clusOk c = true) (need : List Int) : 0 ≤ spareL c need ∧ spareL c need ≤ 200 := by
  have h1 := spareTo_bd h need c.units.length (Nat.le_refl _)
  have h2 := (clusOk_len h).2
  unfold spareL
  omega
theorem mul_bd {k f : Int} (hk0 : 0 ≤ k) (hk : k ≤ 100) (hf0 : 0 ≤ f) (hf : f ≤ 20) : 0 ≤ k * f ∧ k * f ≤ 2000 := by
  have h1 : 0 ≤ k * f := Int.mul_nonneg hk0 hf0
  have h2 : k * f ≤ 100 * 20 := Int.mul_le_mul hk hf hf0 (by omega)
  omega

end Go.Proofs.Ytfgibhdglbjadaa
