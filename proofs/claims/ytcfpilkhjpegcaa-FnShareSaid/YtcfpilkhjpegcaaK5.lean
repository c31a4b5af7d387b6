/- Open nodes, counted. -/
import Derived.Test.YtcfpilkhjpegcaaK4
import Derived.Test.YtcfpilkhjpegcaaK1
namespace Go.Proofs.Ytcfpilkhjpegcaa
open Go.RowKit
set_option maxRecDepth 4000

set_option maxHeartbeats 1000000 in
theorem sOpen (cv : Value) (C : ClusD) (w : World) (h : ClusV w cv C) (_ : C.units.length ≤ 4000000) :
    Calls Try.prog 39 #[cv] w (RetN w (openN C)) := by
  obtain ⟨rv, uv, rfl, hr, hu⟩ := h
  obtain ⟨A, c, rfl, hc, hc', hg⟩ := hu.get
  obtain ⟨W, hW⟩ : ∃ W, W = w.alloc (.cells #[rv, .slice A C.units.length c] 26) := ⟨_, rfl⟩
  have hEW : Ext w W := by rw [hW]; exact Ext.alloc _ _
  have hb1 : W.cell? ⟨w.heap.size, 1, none⟩ = some (.slice A C.units.length c) := by rw [hW]; exact cell_new _ _ _ 1
  have HEW := hid hEW
  have HLe := fun k => openTo_le C.units k
  clear hu hr hEW
  go_enter Try.func39, Try.ntmps39
  go_wp2
  rw [← hW]
  clear hW
  go_loopw [3, 4] (fun s i wr => ∃ (k t : Nat), k ≤ C.units.length ∧ i = .int .i64 k ∧ s = .int .i64 t ∧ Hid (t = openTo C.units k) ∧ t ≤ C.units.length ∧ ∃ n, wr = W.drewN n) (fun _ i _ => C.units.length - (intOf i).toNat)
  case atStart => exact ⟨0, 0, Nat.zero_le _, rfl, rfl, rfl, Nat.zero_le _, 0, rfl⟩
  case round =>
    obtain ⟨k, t, hk, rfl, rfl, H, ht, n, rfl⟩ := hrel
    by_cases hlt : k < C.units.length
    · obtain ⟨b, o, x, An, cn, rfl, e, c1, c2, hnx⟩ := hg k hlt
      have i1 : (k : Int) < (C.units.length : Int) := by omega
      have c1r := HEW.out.cell c1
      have hle := HLe (k + 1)
      have hsu := openTo_succ e.out
      clear c1 c2 hnx
      by_cases ho : x.opened = true
      · rw [if_pos ho, ← H.out] at hsu
        rw [hsu] at hle
        have HS := hid hsu
        clear hsu
        go_wp2
        go_roundw
        case rel => exact ⟨k + 1, t + 1, by omega, by go_num, by go_num, HS.out.symm, by omega, _, rfl⟩
        case measure => simp [intOf]; omega
      · rw [if_neg ho, ← H.out] at hsu
        have HS := hid hsu
        have ho : x.opened = false := by simpa using ho
        clear hsu
        go_wp2
        go_roundw
        case rel => exact ⟨k + 1, t, by omega, by go_num, rfl, HS.out.symm, by omega, _, rfl⟩
        case measure => simp [intOf]; omega
    · go_wp2
      go_ret
      have hk' : k = C.units.length := by omega
      subst hk'
      exact ⟨ret_i (by rw [H.out]; rfl), HEW.out.trans (Ext.drewN _ _)⟩

set_option maxHeartbeats 1000000 in
theorem iOpen (cv : Value) (C : ClusD) (w : World) (h : ClusV w cv C) (_ : C.units.length ≤ 4000000) :
    Calls Try.prog 34 #[cv] w (RetN w (openN C)) := by
  obtain ⟨rv, uv, rfl, hr, hu⟩ := h
  obtain ⟨A, c, rfl, hc, hc', hg⟩ := hu.get
  obtain ⟨W, hW⟩ : ∃ W, W = w.alloc (.cells #[rv, .slice A C.units.length c] 26) := ⟨_, rfl⟩
  have hEW : Ext w W := by rw [hW]; exact Ext.alloc _ _
  have hb1 : W.cell? ⟨w.heap.size, 1, none⟩ = some (.slice A C.units.length c) := by rw [hW]; exact cell_new _ _ _ 1
  have HEW := hid hEW
  have HLe := fun k => openTo_le C.units k
  clear hu hr hEW
  go_enter Try.func34, Try.ntmps34
  go_wp2
  rw [← hW]
  clear hW
  go_loopw [3, 9] (fun s i wr => ∃ (k t : Nat), k ≤ C.units.length ∧ i = .int .i64 k ∧ s = .int .i64 t ∧ Hid (t = openTo C.units k) ∧ t ≤ C.units.length ∧ Ext w wr) (fun _ i _ => C.units.length - (intOf i).toNat)
  case atStart => exact ⟨0, 0, Nat.zero_le _, rfl, rfl, rfl, Nat.zero_le _, HEW.out⟩
  case round =>
    obtain ⟨k, t, hk, rfl, rfl, H, ht, hE⟩ := hrel
    by_cases hlt : k < C.units.length
    · obtain ⟨b, o, x, An, cn, rfl, e, c1, c2, hnx⟩ := hg k hlt
      have i1 : (k : Int) < (C.units.length : Int) := by omega
      have c1r := hE.cell c1
      have c2r := hE.cell c2
      have hle := HLe (k + 1)
      have hsu := openTo_succ e.out
      have hbx0 := cell_new wr #[.bool x.opened, .slice An x.tasks.length cn] 44 0
      simp only [List.getElem?_toArray, List.getElem?_cons_zero] at hbx0
      clear c1 c2 hnx
      by_cases ho : x.opened = true
      · rw [if_pos ho, ← H.out] at hsu
        rw [hsu] at hle
        have HS := hid hsu
        clear hsu
        go_wp2
        go_roundw
        case rel => exact ⟨k + 1, t + 1, by omega, by go_num, by go_num, HS.out.symm, by omega, hE.trans (Ext.alloc _ _)⟩
        case measure => simp [intOf]; omega
      · rw [if_neg ho, ← H.out] at hsu
        have HS := hid hsu
        have ho : x.opened = false := by simpa using ho
        clear hsu
        go_wp2
        go_roundw
        case rel => exact ⟨k + 1, t, by omega, by go_num, rfl, HS.out.symm, by omega, hE.trans (Ext.alloc _ _)⟩
        case measure => simp [intOf]; omega
    · go_wp2
      go_ret
      have hk' : k = C.units.length := by omega
      subst hk'
      exact ⟨ret_i (by rw [H.out]; rfl), hE⟩

end Go.Proofs.Ytcfpilkhjpegcaa
