/- A room and tasks are drawn; the laws FnDownSame and FnDownBest. -/
import Derived.Test.YtllchacophapoaaK29
import Derived.Test.YtllchacophapoaaK34
import Derived.Test.YtllchacophapoaaK35
import Derived.Test.YtllchacophapoaaK11
namespace Go.Proofs.Ytllchacophapoaa
open Go.RowKit
set_option maxRecDepth 4000

def DrawnTV (w : World) (e : Ending) (w' : World) : Prop := ∃ rv tv room ts, e = .returned (.tuple #[rv, tv]) ∧ RI w' rv room ∧ RT w' tv ts ∧ ts.length ≤ 16 ∧ (∀ t ∈ ts, GoodT t) ∧ Ext w w'

set_option maxHeartbeats 2000000 in
theorem dDrawTasks (v : Value) (bs : List Int) (w : World) (h : XBy w v bs) (hl : bs.length ≤ 4000000) :
    Calls Try.prog 41 #[v] w (DrawnTV w) := by
  go_enter Try.func41, Try.ntmps41
  go_wp2_with (first
    | (go_at_call 69; refine (dOpen _ bs _ h hl).mono ?_; rintro e w1 ⟨rfl, ⟨bv, bs', hr1⟩, hE1⟩; have HR1 := hid hr1; have HE1 := hid hE1; obtain ⟨b, hb⟩ : ∃ b, b = w.heap.size := ⟨_, rfl⟩; rw [← hb] at HR1 ⊢; have hbw : w.heap.size ≤ b := (by rw [hb]; exact Nat.le_refl _); have hb1 : b < w1.heap.size := HR1.out.low.1; clear hb hr1 hE1)
    | (go_at_call 70; refine (dRoom b bv bs' 0 _ HR1.out (by omega)).mono ?_; rintro e w2 ⟨rv, room, rfl, hO2, hl2, hb2, hd2⟩; have HO2 := hid hO2; have HD2 := hid hd2; clear hO2 hl2 hb2 hd2)
    | (go_at_call 72; obtain ⟨hg, pp, hpp, hr⟩ := HD2.out; refine (dMany b bv bs' pp _ hr (by omega)).mono ?_; rintro e w3 ⟨n, rfl, hn, hd3⟩; have HD3 := hid (DrawR.then hg hpp hd3); have HO3 := hid (Own.same EI.ok HO2.out (hd3.1.same hr _ notRd)); clear hg hpp hr hd3)
    | (go_at_call 71; obtain ⟨hg, pp, hpp, hr⟩ := HD3.out; refine (dTasks b bv bs' pp n _ hr (by omega) (by omega)).mono ?_; rintro e w4 ⟨tv, ts, rfl, hT4, hl4, hg4, hd4⟩; have HT4 := hid hT4; have HL4 := hid hl4; have HG4 := hid hg4; have HD4 := hid (DrawR.then hg hpp hd4); have HO4 := hid (Own.same EI.ok HO3.out (hd4.1.same hr _ notRd)); clear hg hpp hr hT4 hl4 hg4 hd4))
  refine bodyPost_ret (results_tmp2 rfl _ _ _) rfl ?_
  exact ⟨_, _, room, ts, rfl, HO4.out.read, HT4.out, by have := HL4.out; omega, HG4.out, Below.trans HE1.out (HD4.out.1.below (H := w.heap.size) hbw HE1.out.size)⟩
theorem dDrawDownAll (v : Value) (bs : List Int) (w : World) (h : XBy w v bs) (hl : bs.length ≤ 4000000) :
    Calls Try.prog 21 #[v] w (DrawnTV w) := by
  go_enter Try.func21, Try.ntmps21
  go_wp2_with (go_at_call 41; refine (dDrawTasks _ bs _ h hl).mono ?_; rintro e w1 ⟨rv, tv, room, ts, rfl, hr, ht, hll, hg, hE⟩; have H1 := hid hr; have H2 := hid ht; have H3 := hid hll; have H4 := hid hg; have H5 := hid hE; clear hr ht hll hg hE)
  refine bodyPost_ret (results_tmp2 rfl _ _ _) rfl ?_
  exact ⟨_, _, room, ts, rfl, H1.out, H2.out, H3.out, H4.out, H5.out⟩
theorem dDrawDownBest (v : Value) (bs : List Int) (w : World) (h : XBy w v bs) (hl : bs.length ≤ 4000000) :
    Calls Try.prog 28 #[v] w (DrawnTV w) := by
  go_enter Try.func28, Try.ntmps28
  go_wp2_with (go_at_call 41; refine (dDrawTasks _ bs _ h hl).mono ?_; rintro e w1 ⟨rv, tv, room, ts, rfl, hr, ht, hll, hg, hE⟩; have H1 := hid hr; have H2 := hid ht; have H3 := hid hll; have H4 := hid hg; have H5 := hid hE; clear hr ht hll hg hE)
  refine bodyPost_ret (results_tmp2 rfl _ _ _) rfl ?_
  exact ⟨_, _, room, ts, rfl, H1.out, H2.out, H3.out, H4.out, H5.out⟩

theorem drop_rev {α : Type} {ts : List α} {m : Nat} {x : α} (h : ts[m]? = some x) : (ts.drop (m + 1)).reverse ++ [x] = (ts.drop m).reverse := by
  obtain ⟨hm, rfl⟩ := List.getElem?_eq_some_iff.1 h
  rw [List.drop_eq_getElem_cons hm, List.reverse_cons]

set_option maxHeartbeats 4000000 in
theorem lawDownSame (v : Value) (bs : List Int) (w : World) (h : XBy w v bs) :
    Calls Try.prog 5 #[v] w (RetB w true) := by
  have HB := hid h
  obtain ⟨A, c, rfl, _⟩ := h
  by_cases h1 : bs.length ≤ 1048576
  · have i1 : ¬ (1048576 : Int) < (bs.length : Int) := by omega
    have TK0 : Hid True := hid trivial
    obtain ⟨i0_task, hi0_task, hz0_task, hz1_task, hz2_task⟩ := info_parts info_task
    go_enter Try.func5, Try.ntmps5
    go_wp2_with (first
      | (go_at_call 21; refine (dDrawDownAll _ bs _ HB.out (by omega)).mono ?_; rintro e w1 ⟨rv, tv, room, ts, rfl, hr, ht, hll, hg, hE1⟩; have hr0 := hr; have ht0 := ht; obtain ⟨Ar, cr, rfl, _⟩ := RI.get hr; obtain ⟨At, ct, rfl, _, _, hgt⟩ := RT.get ht; have HR := hid hr0; have HT := hid ht0; have HGT := hid hgt; have HLL := hid hll; have HID : Hid (∀ t ∈ ts, IdR t.id) := hid (fun t ht => (hg t ht).2.2); have HE1 := hid hE1; obtain ⟨R, hR⟩ : ∃ R, R = downAllN room ts := ⟨_, rfl⟩; have HRR := hid hR; clear hr ht hr0 ht0 hll hg hE1 hgt hR)
      | (go_at_call 13; refine (iDownAll _ _ room ts _ HR.out HT.out HID.out).mono ?_; rw [← HRR.out]; rintro e w2 ⟨v2, rfl, hB2, hE2⟩; have HB2 := hid hB2.read; have HE2 := hid hE2; clear hB2 hE2)
      | (go_at_call 10; refine (sDownAll _ _ room ts _ (RI.ext HR.out HE2.out) (RT.ext HT.out HE2.out)).mono ?_; rw [← HRR.out]; rintro e w3 ⟨v3, rfl, hB3, hE3⟩; have HB3 := hid hB3; have HB2 := hid (RB.ext HB2.out hE3); have HE3 := hid (HE2.out.trans hE3); clear hB3 hE3)
      | (go_at_call 22; refine (lSameBins _ _ R _ HB2.out HB3.out).mono ?_; rintro e w4 ⟨rfl, hE4⟩; have HB4 := hid (RB.ext HB2.out hE4); have HE4 := hid (HE3.out.trans hE4); clear hE4))
    have HO0 : Hid (OT (w4.alloc (.cells #[] 43)) w4.heap.size (.slice (some ⟨w4.heap.size, 0, none⟩) 0 0) []) := hid (Own.of_empty (heap_alloc_new w4 _) (Nat.le_refl _))
    have HEA : Hid (Ext w4 (w4.alloc (.cells #[] 43))) := hid (Ext.alloc _ _)
    go_loopw [7, 8] (fun o i wr => ∃ (u : Value) (m : Nat) (z : Int), u = o ∧ i = .int .i64 z ∧ z = (m : Int) - 1 ∧ m ≤ ts.length ∧ Hid (OT wr w4.heap.size u (ts.drop m).reverse) ∧ Hid (Ext w4 wr)) (fun _ i _ => (intOf i + 1).toNat)
    case atStart => exact ⟨_, ts.length, (ts.length : Int) - 1, rfl, by first | rfl | exact congrArg (Value.int .i64) (by omega), rfl, Nat.le_refl _, hid (by rw [List.drop_length]; exact HO0.out), HEA⟩
    case round =>
      obtain ⟨u, m, z, rfl, rfl, hz, hm, HO, HE⟩ := hrel
      rcases Nat.eq_zero_or_pos m with hm0 | hm0
      · subst hm0
        have hz1 : z = -1 := by omega
        subst hz1
        clear hz
        have hO := HO.out
        rw [List.drop_zero] at hO
        obtain ⟨Au, cu, hu, _⟩ := Own.form hO
        subst hu
        have HOU := hid (OT.read hO)
        have HX := hid (down_same (room := room) (List.reverse_perm ts))
        have HIDX : Hid (∀ t ∈ ts.reverse, IdR t.id) := hid (fun t ht => HID.out t (List.mem_reverse.1 ht))
        obtain ⟨Q, hQ⟩ : ∃ Q, Q = downBestN room ts := ⟨_, rfl⟩
        have HQ := hid hQ
        obtain ⟨xs, hxs⟩ : ∃ xs, xs = ts.reverse := ⟨_, rfl⟩
        rw [← hxs] at HOU HX HIDX ⊢
        have HEE := hid (HE4.out.trans HE.out)
        have HB5 := hid (RB.ext HB4.out HE.out)
        have TK1 : Hid True := hid trivial
        clear hO hQ hxs
        go_wp2_with (first
          | (go_at_call 13; refine (iDownAll _ _ room xs _ (RI.ext HR.out HEE.out) HOU.out HIDX.out).mono ?_; rw [HX.out.1, ← HRR.out]; rintro e w6 ⟨v6, rfl, hB6, hE6⟩; have HB6 := hid hB6.read; have HE6 := hid hE6; clear hB6 hE6)
          | (go_at_call 22; clear TK1; refine (lSameBins _ _ R _ HB6.out (RB.ext HB5.out HE6.out)).mono ?_; rintro e w7 ⟨rfl, hE7⟩; have HE7 := hid (HE6.out.trans hE7); have TK2 : Hid True := hid trivial; clear hE7)
          | (go_at_call 26; clear TK2; refine (iDownBest _ _ room xs _ (RI.ext HR.out (HEE.out.trans HE7.out)) (RT.ext HOU.out HE7.out) HIDX.out).mono ?_; rw [HX.out.2, ← HQ.out]; rintro e w8 ⟨v8, rfl, hB8, hE8⟩; have HB8 := hid hB8.read; have HE8 := hid (HE7.out.trans hE8); have TK3 : Hid True := hid trivial; clear hB8 hE8)
          | (go_at_call 26; clear TK3; refine (iDownBest _ _ room ts _ (RI.ext HR.out (HEE.out.trans HE8.out)) (RT.ext HT.out (HEE.out.trans HE8.out)) HID.out).mono ?_; rw [← HQ.out]; rintro e w9 ⟨v9, rfl, hB9, hE9⟩; have HB9 := hid hB9.read; have HB8' := hid (RB.ext HB8.out hE9); have HE9 := hid (HE8.out.trans hE9); have TK4 : Hid True := hid trivial; clear hB9 hE9)
          | (go_at_call 22; clear TK4; refine (lSameBins _ _ Q _ HB8'.out HB9.out).mono ?_; rintro e w10 ⟨rfl, hE10⟩; have HE10 := hid (HE9.out.trans hE10); clear hE10))
        go_ret
        exact ⟨rfl, HE1.out.trans (HEE.out.trans HE10.out)⟩
      · obtain ⟨n, rfl⟩ : ∃ n, m = n + 1 := ⟨m - 1, by omega⟩
        obtain rfl : z = (n : Int) := by omega
        clear hz
        obtain ⟨b, o, x, An, cn, rfl, e, c0, c1, hnx⟩ := HGT.out n (by omega)
        have i2 : (n : Int) < (ts.length : Int) := by omega
        have i0 : (0 : Int) ≤ (n : Int) := by omega
        have HEW := hid (HE4.out.trans HE.out)
        have c0r := HEW.out.cell c0
        have c1r := HEW.out.cell c1
        have HLR : Hid ((ts.drop (n + 1)).reverse.length ≤ 16) := hid (by rw [List.length_reverse, List.length_drop]; have := HLL.out; omega)
        have HEB := hid (Ext.alloc wr (.cells #[.int .i64 x.id, .slice An x.need.length cn] 43))
        have HOx := hid (Own.ext ET.ok HO.out HEB.out)
        have HNx := hid (RI.ext hnx (HEW.out.trans HEB.out))
        have HEx := hid (HE.out.trans HEB.out)
        have hszx : w4.heap.size ≤ (wr.alloc (.cells #[.int .i64 x.id, .slice An x.need.length cn] 43)).heap.size := HEx.out.size
        clear c0 c1 hnx
        obtain ⟨D, hD⟩ : ∃ D, D = (ts.drop (n + 1)).reverse := ⟨_, rfl⟩
        rw [← hD] at HOx HLR
        have HD := hid hD
        clear hD
        go_wp2_with (first
          | (at_builtin; refine wpList_append_sl _ (by rfl) _ _ 28 (by rfl) ET.ok ET.flat (w4.heap.size) 43 ET.ne i0_task _ 2 32 Try.underlying28 hi0_task hz0_task hz1_task hz2_task rfl (by omega) _ (by rfl) _ (HOx.out) _ (by rfl) _ (RSl.laid (cs := [.int .i64 x.id, .slice An x.need.length cn]) (x := x) (heap_alloc_new _ _) rfl ⟨_, rfl, HNx.out⟩) (by have := HLR.out; simp; omega) (by have := HLR.out; simp; omega) ?_ ?_; (focus (first | exact Nat.le_refl _ | (simp; done) | (simp; omega) | omega)); intro v6 w6 hO6 hg6 hat6 hs6; have HO6 := hid hO6; have HE6 := hid (Ext.grown HEx.out hg6 (fun q hq => Own.lt HOx.out q hq)); clear hO6 hg6 hat6 hs6))
        go_roundw
        case rel => exact ⟨_, n, (n : Int) - 1, rfl, by first | rfl | exact congrArg (Value.int .i64) (by omega), rfl, by omega, hid (by rw [← drop_rev e.out, ← HD.out]; exact HO6.out), HE6⟩
        case measure => simp [intOf]
  · have i1 : (1048576 : Int) < (bs.length : Int) := by omega
    go_enter Try.func5, Try.ntmps5
    go_wp2
    go_ret
    exact ⟨rfl, Ext.refl _⟩

end Go.Proofs.Ytllchacophapoaa
