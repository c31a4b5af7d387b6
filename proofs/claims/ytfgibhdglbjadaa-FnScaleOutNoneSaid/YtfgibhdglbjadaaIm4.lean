/- The program's joined lists. -/
import Derived.Test.YtfgibhdglbjadaaIm3
import Derived.Lib.AppendZeros
namespace Go.Proofs.Ytfgibhdglbjadaa
open Go.RowKit
set_option maxRecDepth 4000

theorem iGrow0 (n : Nat) (w : World) (hn : n ≤ 4000000) :
    Calls Try.prog 135 #[.slice none 0 0, .int .i64 n] w fun e w' => ∃ v, e = .returned v ∧ OT w' w.heap.size v [] ∧ Ext w w' := by
  by_cases h0 : 0 < n
  · obtain ⟨i0_task, hi0_task, hz0_task, hz1_task, hz2_task⟩ := info_parts info_task
    have h := Lib.run_append_nil_zeros (P := Try.prog) w 54 3 54 64 i0_task _ .i64 .i64 Try.underlying54 Try.underlying3 hi0_task hz0_task n h0 (by rw [hz1_task]; omega) (by omega) (by rw [hz2_task]; omega)
    have h1 := grownCap_ge w n 0 64
    have h2 := grownCap_le_maxLen w n 0 64 (by unfold maxLen; omega)
    unfold maxLen at h2
    obtain ⟨cap, hcap⟩ : ∃ cap, grownCap w n 0 64 = cap := ⟨_, rfl⟩
    rw [hcap] at h h1 h2
    obtain ⟨cur, hcur⟩ : ∃ cur, Builtin.zeroCells (Value.agg #[.int .i64 0, .slice none 0 0]).cells n ++ Builtin.zeroCells (Value.agg #[.int .i64 0, .slice none 0 0]).cells (cap - n) = cur := ⟨_, rfl⟩
    rw [hcur] at h
    have hsz : cur.size = cap * 2 := by rw [← hcur, Array.size_append, size_zeroCells, size_zeroCells, ← Nat.add_mul]; show (n + (cap - n)) * 2 = _; rw [Nat.add_sub_cancel' h1]
    have H := hid h
    have HS := hid hsz
    clear hi0_task hz0_task hz1_task hz2_task hcap hcur h hsz
    go_enter Try.func135, Try.ntmps135
    go_wp2_with (at_builtin; refine Lib.wpList_append_run _ rfl _ _ _ _ rfl _ _ rfl rfl _ _ H.out ?_)
    go_ret
    exact ⟨_, rfl, Own.made (w := w.drew) cur cap (Nat.le_refl _) h2 HS.out, Below.alloc (Below.drew (Below.refl _ _)) (Nat.le_refl _) _⟩
  · have h0 : n = 0 := by omega
    subst h0
    go_enter Try.func135, Try.ntmps135
    go_wp2
    go_ret
    exact ⟨_, rfl, Own.none_ _ _ _ _ _, Ext.refl _⟩

set_option maxHeartbeats 1000000 in
theorem iConcat (v : Value) (bs : List (List TaskD)) (w : World) (h : RB w v bs) (hl : bs.flatten.length ≤ 4000000) :
    Calls Try.prog 94 #[v] w fun e w' => ∃ v, e = .returned v ∧ OT w' w.heap.size v bs.flatten ∧ Ext w w' := by
  obtain ⟨A, c, rfl, hc, hc', hr⟩ := h.get
  clear h
  obtain ⟨i0_task, hi0_task, hz0_task, hz1_task, hz2_task⟩ := info_parts info_task
  have HI0 := hid hi0_task
  have HZ0 := hid hz0_task
  have HZ1 := hid hz1_task
  have HZ2 := hid hz2_task
  clear hi0_task hz0_task hz1_task hz2_task
  go_enter Try.func94, Try.ntmps94
  go_wp2
  go_loopw [3, 11] (fun s i wr => ∃ k : Nat, k ≤ bs.length ∧ i = .int .i64 k ∧ s = .int .i64 ((bs.take k).flatten.length : Nat) ∧ ∃ n, wr = w.drewN n) (fun _ i _ => bs.length - (intOf i).toNat)
  case atStart => exact ⟨0, Nat.zero_le _, rfl, rfl, 0, rfl⟩
  case round =>
    obtain ⟨k, hk, rfl, rfl, n, rfl⟩ := hrel
    by_cases hlt : k < bs.length
    · obtain ⟨b, o, x, An, cn, rfl, e, c1, hnx⟩ := hr k hlt
      have i1 : (k : Int) < (bs.length : Int) := by omega
      have hfl := flatten_take_le bs (k + 1)
      have hfs : ((bs.take (k + 1)).flatten.length : Int) = ((bs.take k).flatten.length : Int) + (x.length : Int) := by rw [flatten_take_succ e.out, List.length_append]; omega
      obtain ⟨L, hL⟩ : ∃ L : Nat, L = (bs.take k).flatten.length := ⟨_, rfl⟩
      rw [← hL] at hfs ⊢
      obtain ⟨M, hM⟩ : ∃ M : Nat, M = (bs.take (k + 1)).flatten.length := ⟨_, rfl⟩
      rw [← hM] at hfs hfl
      have HS := hid hfs
      have HM := hid hM
      have g1 : (L : Int) + (x.length : Int) ≤ 4000000 := by omega
      clear hfs hfl hL hM
      go_wp2
      go_roundw
      case rel => exact ⟨k + 1, by omega, by go_num, by rw [← HM.out, HS.out], _, rfl⟩
      case measure => simp [intOf]; omega
    · have hk' : k = bs.length := by omega
      subst hk'
      rw [List.take_length]
      clear hk hlt
      obtain ⟨L, hL⟩ : ∃ L : Nat, bs.flatten.length = L := ⟨_, rfl⟩
      rw [hL] at hl ⊢
      have HL := hid hL
      clear hL
      go_wp2_with fail
      refine (iGrow0 L _ hl).mono ?_
      rintro e w1 ⟨v1, rfl, hv1, hE1⟩
      have HV1 := hid hv1
      have HE1 := hid ((Ext.drewN w n).trans hE1)
      clear hv1 hE1
      go_wp2
      go_loopw [6, 27] (fun s i wr => ∃ (k : Nat) (ts : List TaskD), k ≤ bs.length ∧ i = .int .i64 k ∧ OT wr w.heap.size s ts ∧ Hid (ts = (bs.take k).flatten) ∧ Ext w wr) (fun _ i _ => bs.length - (intOf i).toNat)
      case atStart => exact ⟨0, [], Nat.zero_le _, rfl, Own.low HV1.out (Ext.drewN w n).size, rfl, HE1.out⟩
      case round =>
        obtain ⟨k, ts, hk, rfl, hO, HT, hE⟩ := hrel
        by_cases hlt : k < bs.length
        · obtain ⟨b, o, x, An, cn, rfl, e, c1, hnx⟩ := hr k hlt
          have i1 : (k : Int) < (bs.length : Int) := by omega
          have c1r := hE.cell c1
          have HN := hid (hnx.ext hE)
          have HO := hid hO
          have hfl := flatten_take_le bs (k + 1)
          rw [flatten_take_succ e.out, ← HT.out, List.length_append] at hfl
          have HF := hid hfl
          have hi0_task := HI0.out
          have hz0_task := HZ0.out
          have hz1_task := HZ1.out
          have hz2_task := HZ2.out
          have hsz := hE.size
          clear c1 hnx hO hfl
          go_wp2_with (at_builtin; refine wpList_append_sl _ (by rfl) _ _ 54 (by rfl) ET.ok ET.flat (w.heap.size) 64 ET.ne i0_task _ 2 32 Try.underlying54 hi0_task hz0_task hz1_task hz2_task rfl (by omega) _ (by rfl) _ (HO.out) _ (by rfl) _ (HN.out) (by have := HF.out; have := HL.out; omega) (by have := HF.out; have := HL.out; omega) ?_ ?_; (focus (first | exact Nat.le_refl _ | (simp; done) | (simp; omega) | omega)); intro v2 w2 hO2 hg2 hat2 hs2; have hE2 : Ext w w2 := Ext.grown hE hg2 HO.out.lt)
          go_roundw
          case rel => exact ⟨k + 1, _, by omega, by go_num, hO2, by show _ = (bs.take (k + 1)).flatten; rw [flatten_take_succ e.out, ← HT.out], hE2⟩
          case measure => simp [intOf]; omega
        · go_wp2
          go_ret
          have hk' : k = bs.length := by omega
          subst hk'
          have hT := HT.out
          rw [List.take_length] at hT
          subst hT
          exact ⟨_, rfl, hO, hE⟩

end Go.Proofs.Ytfgibhdglbjadaa
