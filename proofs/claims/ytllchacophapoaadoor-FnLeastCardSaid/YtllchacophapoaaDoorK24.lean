/- The library's linked list, as the enemies of a task use it. (Printed by genpc1.py.) -/
import Derived.Test.YtllchacophapoaaDoorK23
import Derived.Test.YtllchacophapoaaDoorK9
import Derived.LaidEql
namespace Go.Proofs.YtllchacophapoaaDoor
open Go.RowKit
set_option maxRecDepth 4000

abbrev elP (b : Nat) : Value := .pointer (some ⟨b, 0, none⟩)
abbrev elV (e : Int) : Value := .iface 3 (.int .i64 e)
theorem getD_push_l {gs : List Nat} {H k d : Nat} (h : k < gs.length) : (gs ++ [H]).getD k d = gs.getD k d := by rw [List.getD_eq_getElem?_getD, List.getElem?_append_left h, List.getD_eq_getElem?_getD]
theorem getD_push_e {gs : List Nat} {H d : Nat} : (gs ++ [H]).getD gs.length d = H := by rw [List.getD_eq_getElem?_getD, List.getElem?_append_right (Nat.le_refl _), Nat.sub_self]; rfl
theorem getD_past {gs : List Nat} {k d : Nat} (h : gs.length ≤ k) : gs.getD k d = d := by rw [List.getD_eq_getElem?_getD, List.getElem?_eq_none h]; rfl
theorem getD_in {gs : List Nat} {k d : Nat} (h : k < gs.length) : gs.getD k d ∈ gs := by rw [List.getD_eq_getElem?_getD, List.getElem?_eq_getElem h]; exact List.getElem_mem _
end Go.Proofs.YtllchacophapoaaDoor

/- The linked list: a number is put at its end; its first; the next. (Printed by genpc2.py.) -/
namespace Go.Proofs.YtllchacophapoaaDoor
open Go.RowKit
set_option maxRecDepth 4000

theorem neq_ptr_same {P : Program} (w : World) {tp te : TypeId} {j : TypeInfo} (a : Addr) (hp : P.underlying tp = some (.pointer te)) (hte : P.info? te = some j) :
    (binOp .neq tp (.pointer (some a)) (.pointer (some a))).run P w = .ok (.bool false) w := by
  have h : ∀ d : Nat, (Op.equalIn (d + 1) tp (.pointer (some a)) (.pointer (some a))).run P w = .ok true w := fun d => by
    simp [Op.equalIn, run_underlying hp, sizeOf, typeInfo, hte, run_sameAddr_same]
  simp only [binOp]
  simp [Op.equal, Op.maxDepth, h 9999]
theorem neq_ptr_other {P : Program} (w : World) {tp te : TypeId} {j : TypeInfo} {a b : Addr} {ca cb : Array Value} {ta tb : TypeId} (hp : P.underlying tp = some (.pointer te)) (hte : P.info? te = some j) (hsz : j.size ≠ 0)
    (hne : a ≠ b) (ha : w.heap[a.block]? = some (.cells ca ta (0, 0))) (hb : w.heap[b.block]? = some (.cells cb tb (0, 0))) :
    (binOp .neq tp (.pointer (some a)) (.pointer (some b))).run P w = .ok (.bool true) w := by
  have h : ∀ d : Nat, (Op.equalIn (d + 1) tp (.pointer (some a)) (.pointer (some b))).run P w = .ok false w := fun d => by
    simp [Op.equalIn, run_underlying hp, sizeOf, typeInfo, hte, hsz, run_sameAddr_other w hne ha hb]
  simp only [binOp]
  simp [Op.equal, Op.maxDepth, h 9999]
/-- where the list stands: at element k, or at its end -/
def elAt (B : Nat) (gs : List Nat) (k : Nat) : Value := if k < gs.length then (.pointer (some ⟨gs.getD k B, 0, none⟩)) else .pointer none
end Go.Proofs.YtllchacophapoaaDoor

/- The program's enemies of a task. -/
namespace Go.Proofs.YtllchacophapoaaDoor
open Go.RowKit
set_option maxRecDepth 4000

theorem elAt_inj {B : Nat} {gs : List Nat} (hn : gs.Nodup) {k j : Nat} (hk : k ≤ gs.length) (hj : j ≤ gs.length) (h : elAt B gs k = elAt B gs j) : k = j := by
  unfold elAt at h
  by_cases h1 : k < gs.length
  · by_cases h2 : j < gs.length
    · rw [if_pos h1, if_pos h2] at h
      injection h with h
      injection h with h
      injection h with h _ _
      rw [List.getD_eq_getElem?_getD, List.getElem?_eq_getElem h1, List.getD_eq_getElem?_getD, List.getElem?_eq_getElem h2] at h
      have h : gs[k] = gs[j] := h
      rcases Nat.lt_trichotomy k j with h3 | h3 | h3
      · exact absurd h (List.pairwise_iff_getElem.1 (List.nodup_iff_pairwise_ne.1 hn) k j h1 h2 h3)
      · exact h3
      · exact absurd h.symm (List.pairwise_iff_getElem.1 (List.nodup_iff_pairwise_ne.1 hn) j k h2 h1 h3)
    · rw [if_pos h1, if_neg h2] at h
      injection h with h
      cases h
  · by_cases h2 : j < gs.length
    · rw [if_neg h1, if_pos h2] at h
      injection h with h
      cases h
    · omega
open Classical in
/-- how far the list's end is -/
noncomputable def elRank (B : Nat) (gs : List Nat) (v : Value) : Nat := if h : ∃ k, k ≤ gs.length ∧ v = elAt B gs k then gs.length - Classical.choose h else 0
theorem elRank_at {B : Nat} {gs : List Nat} (hn : gs.Nodup) {k : Nat} (hk : k ≤ gs.length) : elRank B gs (elAt B gs k) = gs.length - k := by
  have h : ∃ j, j ≤ gs.length ∧ elAt B gs k = elAt B gs j := ⟨k, hk, rfl⟩
  unfold elRank
  rw [dif_pos h]
  have := Classical.choose_spec h
  rw [← elAt_inj hn hk this.1 this.2]
theorem foesIn_take_succ {es : List Int} {k : Nat} {e : Int} (h : es[k]? = some e) (ts : List TaskD) : foesIn (es.take (k + 1)) ts = (foesIn (es.take k) ts || hasId ts e) := by
  unfold foesIn hasId
  rw [take_snoc h, List.any_append]
  simp
theorem foesIn_hit {es : List Int} {k : Nat} {e : Int} (h : es[k]? = some e) {ts : List TaskD} (ht : hasId ts e = true) : foesIn es ts = true := by
  unfold foesIn
  rw [List.any_eq_true]
  exact ⟨e, List.mem_of_getElem? h, ht⟩

end Go.Proofs.YtllchacophapoaaDoor
