/- The laws' copies of what came in. -/
import Derived.Test.YtfgibhdglbjadaaLx
namespace Go.Proofs.Ytfgibhdglbjadaa
open Go.RowKit
set_option maxRecDepth 4000

theorem pad_at {α : Type} (xs : List α) (z : α) {k n : Nat} (hn : n = xs.length) (hk : k < n) : (xs.take k ++ List.replicate (n - k) z)[k]? = some z := by
  have hl : (xs.take k).length = k := by rw [List.length_take]; omega
  rw [List.getElem?_append_right (by omega), hl, Nat.sub_self, List.getElem?_replicate, if_pos (by omega)]
theorem pad_set {α : Type} {xs : List α} {z x : α} {k n : Nat} (hn : n = xs.length) (hx : xs[k]? = some x) : (xs.take k ++ List.replicate (n - k) z).set k x = xs.take (k + 1) ++ List.replicate (n - (k + 1)) z := by
  have hk : k < xs.length := (List.getElem?_eq_some_iff.1 hx).1
  have hl : (xs.take k).length = k := by rw [List.length_take]; omega
  rw [List.set_append_right _ _ (by omega), hl, Nat.sub_self, take_snoc hx, List.append_assoc]
  have : n - k = (n - (k + 1)) + 1 := by omega
  rw [this, List.replicate_succ]
  rfl
theorem pad_len {α : Type} (xs : List α) (z : α) {k n : Nat} (hn : n = xs.length) (hk : k ≤ n) : (xs.take k ++ List.replicate (n - k) z).length = n := by
  rw [List.length_append, List.length_take, List.length_replicate]; omega
theorem pad_end {α : Type} (xs : List α) (z : α) : xs.take xs.length ++ List.replicate (xs.length - xs.length) z = xs := by simp

set_option maxHeartbeats 1000000 in
theorem lToInts (v : Value) (xs : List Int) (w : World) (h : XI w v xs) (hl : xs.length ≤ 4000000) :
    Calls Try.prog 31 #[v] w fun e w' => ∃ v', e = .returned v' ∧ OI w' w.heap.size v' xs ∧ Ext w w' := by
  obtain ⟨A, c, rfl, hc, hc', hr⟩ := h.get
  clear h
  obtain ⟨i0_int, hi0_int, hz0_int, hz1_int, hz2_int⟩ := info_parts info_int
  go_enter Try.func31, Try.ntmps31
  go_wp2_with (at_make; refine wpList_make_full _ rfl _ _ 23 rfl w.heap.size 3 i0_int _ 1 Try.underlying23 hi0_int hz0_int hz1_int _ _ _ _ xs.length rfl rfl rfl rfl (by rw [hz2_int]; omega) (by unfold maxLen; omega) (Nat.le_refl _) ?_; intro w1 hO1 hg1; have HE1 : Hid (Ext w w1) := hid (Below.grown (Ext.refl _) hg1 (Nat.le_refl _) (fun k hk => by cases hk)); have HO1 : Hid (OI w1 w.heap.size (.slice (some ⟨w.heap.size, 0, none⟩) xs.length xs.length) (List.replicate xs.length 0)) := hid (Own.full (z := .int .i64 0) 0 rfl (by unfold EI; rfl) hO1); clear hO1 hg1)
  go_loopw [4] (fun i wr => ∃ k : Nat, k ≤ xs.length ∧ i = .int .i64 k ∧ OI wr w.heap.size (.slice (some ⟨w.heap.size, 0, none⟩) xs.length xs.length) (xs.take k ++ List.replicate (xs.length - k) 0) ∧ Ext w wr) (fun i _ => xs.length - (intOf i).toNat)
  case atStart => exact ⟨0, Nat.zero_le _, rfl, by simpa using HO1.out, HE1.out⟩
  case round =>
    obtain ⟨k, hk, rfl, hO, hE⟩ := hrel
    by_cases hlt : k < xs.length
    · obtain ⟨b1, o1, x1, rfl, e1, c1⟩ := hr k hlt
      have i1 : (k : Int) < (xs.length : Int) := by omega
      obtain ⟨c3, f3, _⟩ := hO.at_ (j := k) (x := 0) (pad_at xs 0 rfl hlt)
      have c1r := hE.cell c1
      have HO := hid hO
      clear c1 hO
      go_wp2
      go_roundw
      case rel =>
        have hs := (OI.set HO.out (j := k) (by rw [pad_len xs 0 rfl hk]; exact hlt) x1).1
        rw [pad_set rfl e1.out] at hs
        exact ⟨k + 1, by omega, by go_num, hs, Below.setCell hE (Nat.le_refl _) _⟩
      case measure => simp [intOf]; omega
    · go_wp2
      go_ret
      have hk' : k = xs.length := by omega
      subst hk'
      rw [pad_end] at hO
      exact ⟨_, rfl, hO, hE⟩

end Go.Proofs.Ytfgibhdglbjadaa
