/- Bits: the numbers of a set, the least of them. -/
import Derived.Test.YtllchacophapoaaDoorK2
import Derived.Test.YtllchacophapoaaDoorK38
import Derived.Test.YtllchacophapoaaDoorK34
import Derived.Test.YtllchacophapoaaDoorProg
namespace Go.Proofs.YtllchacophapoaaDoor
open Go.RowKit
set_option maxRecDepth 4000

theorem bitsAnd {a b : Nat} (ha : a < 18446744073709551616) (hb : b < 18446744073709551616) : bits .and .u64 (a : Int) (b : Int) = ((a &&& b : Nat) : Int) := by
  have h1 : a &&& b ≤ b := Nat.and_le_right
  have h2 : (BitVec.ofInt 64 (a : Int) &&& BitVec.ofInt 64 (b : Int)).toNat = a &&& b := by
    rw [BitVec.ofInt_natCast, BitVec.ofInt_natCast, BitVec.toNat_and, BitVec.toNat_ofNat, BitVec.toNat_ofNat, Nat.mod_eq_of_lt ha, Nat.mod_eq_of_lt hb]
  show IntKind.u64.wrap ((BitVec.ofInt 64 (a : Int) &&& BitVec.ofInt 64 (b : Int)).toNat : Int) = _
  rw [h2]
  simp [IntKind.wrap, IntKind.bits, IntKind.signed]
  omega
theorem bitsAndNot {a b : Nat} (ha : a < 18446744073709551616) (hb : Part b a) : bits .andNot .u64 (a : Int) (b : Int) = ((a - b : Nat) : Int) := by
  have hle := hb.le
  have h2 : (BitVec.ofInt 64 (a : Int) &&& ~~~ BitVec.ofInt 64 (b : Int)).toNat = a - b := by
    rw [BitVec.ofInt_natCast, BitVec.ofInt_natCast]
    have hs : BitVec.ofNat 64 b &&& BitVec.ofNat 64 a = BitVec.ofNat 64 b := by
      apply BitVec.eq_of_toNat_eq
      rw [BitVec.toNat_and, BitVec.toNat_ofNat, BitVec.toNat_ofNat, Nat.mod_eq_of_lt ha, Nat.mod_eq_of_lt (by omega)]
      exact hb
    have h3 : (BitVec.ofNat 64 a &&& ~~~ BitVec.ofNat 64 b) &&& BitVec.ofNat 64 b = 0#64 := by
      rw [BitVec.and_assoc, BitVec.and_comm (~~~ BitVec.ofNat 64 b)]
      simp
    have h4 : (BitVec.ofNat 64 a &&& ~~~ BitVec.ofNat 64 b) + BitVec.ofNat 64 b = BitVec.ofNat 64 a := by
      rw [BitVec.add_eq_or_of_and_eq_zero _ _ h3]
      apply BitVec.eq_of_getLsbD_eq
      intro i hi
      have h5 := congrArg (fun z => z.getLsbD i) hs
      simp only [BitVec.getLsbD_and] at h5
      simp only [BitVec.getLsbD_or, BitVec.getLsbD_and, BitVec.getLsbD_not, hi, decide_true, Bool.true_and]
      cases ha' : (BitVec.ofNat 64 a).getLsbD i <;> cases hb' : (BitVec.ofNat 64 b).getLsbD i <;> simp_all
    have h6 := congrArg BitVec.toNat h4
    have h7 : (BitVec.ofNat 64 a &&& ~~~ BitVec.ofNat 64 b).toNat ≤ a := by
      rw [BitVec.toNat_and, BitVec.toNat_ofNat, Nat.mod_eq_of_lt ha]
      exact Nat.and_le_left
    rw [BitVec.toNat_add, BitVec.toNat_ofNat, BitVec.toNat_ofNat, Nat.mod_eq_of_lt ha, Nat.mod_eq_of_lt (by omega : b < 2 ^ 64)] at h6
    omega
  show IntKind.u64.wrap ((BitVec.ofInt 64 (a : Int) &&& ~~~ BitVec.ofInt 64 (b : Int)).toNat : Int) = _
  rw [h2]
  simp [IntKind.wrap, IntKind.bits, IntKind.signed]
  omega

/-- the library's table -/
def deB : List Int := [0, 1, 56, 2, 57, 49, 28, 3, 61, 58, 42, 50, 38, 29, 17, 4, 62, 47, 59, 36, 45, 43, 51, 22, 53, 39, 33, 30, 24, 18, 12, 5, 63, 55, 48, 27, 60, 41, 37, 16, 46, 35, 44, 21, 52, 32, 23, 11, 54, 26, 40, 15, 34, 20, 31, 10, 25, 14, 19, 9, 13, 8, 7, 6]
def TabOk (w : World) : Prop := ∀ (j : Nat) (x : Int), deB[j]? = some x → w.cell? ⟨1, j, none⟩ = some (.int .u8 x)
theorem TabOk.ext {w w' : World} (h : TabOk w) (hx : Ext w w') : TabOk w' := fun j x hj => hx.cell (h j x hj)

/-- what the library reckons -/
def ones0 (s : Int) : Int := IntKind.u64.wrap (bits .and .u64 (s / 2) 6148914691236517205 + bits .and .u64 s 6148914691236517205)
def ones1 (x : Int) : Int := IntKind.u64.wrap (bits .and .u64 (x / 4) 3689348814741910323 + bits .and .u64 x 3689348814741910323)
def ones2 (x : Int) : Int := bits .and .u64 (IntKind.u64.wrap (x / 16 + x)) 1085102592571150095
def ones3 (x : Int) : Int := IntKind.u64.wrap (x + x / 256)
def ones4 (x : Int) : Int := IntKind.u64.wrap (x + x / 65536)
def ones5 (x : Int) : Int := IntKind.u64.wrap (x + x / 4294967296)
theorem ones_small : ∀ s < 128, bits .and .i64 (wrap64 (ones5 (ones4 (ones3 (ones2 (ones1 (ones0 (s : Nat)))))))) 127 = (pcF 7 s : Nat) := by decide +kernel
set_option maxHeartbeats 4000000 in
theorem bOnes64 (s : Nat) (w : World) (hs : s < 128) :
    Calls Tryd.prog 87 #[.int .u64 (s : Int)] w fun e w' => e = .returned (.int .i64 (pcF 7 s : Nat)) ∧ w' = w := by
  have h := ones_small s hs
  go_enter Tryd.func87, Tryd.ntmps87
  go_wp2
  go_ret
  refine ⟨?_, rfl⟩
  rw [← h]
  rfl
theorem bOnes (s : Nat) (w : World) (hs : s < 128) :
    Calls Tryd.prog 61 #[.int .u64 (s : Int)] w fun e w' => e = .returned (.int .i64 (pcF 7 s : Nat)) ∧ w' = w := by
  go_enter Tryd.func61, Tryd.ntmps61
  go_wp2_with (go_at_call 87; refine (bOnes64 s _ hs).mono ?_; rintro e w1 ⟨rfl, hw⟩; subst hw)
  go_ret
  exact ⟨rfl, rfl⟩

/-- where the table is looked at -/
def tzAt (s : Int) : Int := IntKind.u64.wrap (bits .and .u64 s (IntKind.u64.wrap (-s)) * 285870213051353865) / 288230376151711744
theorem tz_small : ∀ s < 128, 0 < s → ∃ j < 64, tzAt (s : Nat) = (j : Nat) ∧ deB[j]? = some ((tzF 7 s : Nat) : Int) := by decide +kernel
theorem tz_wrap : ∀ s < 128, wrap64 ((tzF 7 s : Nat) : Int) = (tzF 7 s : Nat) := by decide +kernel
set_option maxHeartbeats 4000000 in
theorem bTz64 (s : Nat) (w : World) (h0 : 0 < s) (hs : s < 128) (ht : TabOk w) :
    Calls Tryd.prog 101 #[.int .u64 (s : Int)] w fun e w' => e = .returned (.int .i64 (tzF 7 s : Nat)) ∧ w' = w := by
  obtain ⟨j, hj, h1, h2⟩ := tz_small s hs h0
  have hc := ht j _ h2
  have hz : ((s : Int) == 0) = false := by simp; omega
  unfold tzAt at h1
  go_enter Tryd.func101, Tryd.ntmps101
  go_wp2
  go_ret
  have h3 : wrap64 ((tzF 7 s : Nat) : Int) = (tzF 7 s : Nat) := tz_wrap s hs
  refine ⟨?_, rfl⟩
  show Ending.returned (.int .i64 (wrap64 ((tzF 7 s : Nat) : Int))) = _
  rw [h3]
theorem bTz (s : Nat) (w : World) (h0 : 0 < s) (hs : s < 128) (ht : TabOk w) :
    Calls Tryd.prog 88 #[.int .u64 (s : Int)] w fun e w' => e = .returned (.int .i64 (tzF 7 s : Nat)) ∧ w' = w := by
  go_enter Tryd.func88, Tryd.ntmps88
  go_wp2_with (go_at_call 101; refine (bTz64 s _ h0 hs ht).mono ?_; rintro e w1 ⟨rfl, hw⟩; subst hw)
  go_ret
  exact ⟨rfl, rfl⟩

end Go.Proofs.YtllchacophapoaaDoor

/- The program's chosen: the tasks of a set. -/
namespace Go.Proofs.YtllchacophapoaaDoor
open Go.RowKit
set_option maxRecDepth 4000

theorem pow_len {n : Nat} (h : n ≤ 7) : 2 ^ n ≤ 128 := Nat.pow_le_pow_right (n := 2) (by omega) h

set_option maxHeartbeats 4000000 in
theorem iChosen (tv : Value) (ts : List TaskD) (s : Nat) (w : World) (h : RT w tv ts) (hl : ts.length ≤ 7) (hs : s < 2 ^ ts.length) (ht : TabOk w) :
    Calls Tryd.prog 62 #[tv, .int .u64 (s : Int)] w fun e w' => ∃ v, e = .returned v ∧ OT w' w.heap.size v (pickL ts s) ∧ Ext w w' := by
  have HT := hid h
  obtain ⟨At, ct, rfl, _, _, hg⟩ := RT.get h
  have HG := hid hg
  have HTB := hid ht
  have HL := hid hl
  have HP := hid (pow_len hl)
  obtain ⟨W, hW⟩ : ∃ W, W = w.alloc (.cells #[] 44) := ⟨_, rfl⟩
  have hEW : Ext w W := by rw [hW]; exact Ext.alloc _ _
  have HEW := hid hEW
  have HO0 : Hid (OT W w.heap.size (.slice (some ⟨w.heap.size, 0, none⟩) 0 0) []) := hid (by rw [hW]; exact Own.made #[] 0 (Nat.le_refl _) (by omega) rfl)
  have HS := hid hs
  clear hEW h hg ht hl hs
  obtain ⟨i0_task, hi0_task, hz0_task, hz1_task, hz2_task⟩ := info_parts info_task
  go_enter Tryd.func62, Tryd.ntmps62
  go_wp2
  rw [← hW]
  clear hW
  go_loopw [5, 1] (fun o i wr => ∃ (u : Value) (p : Nat) (out : List TaskD), u = o ∧ i = .int .u64 (p : Int) ∧ Hid (p ≤ s) ∧ Hid (OT wr w.heap.size u out ∧ out ++ pickL ts p = pickL ts s ∧ Ext w wr)) (fun _ i _ => (intOf i).toNat)
  case atStart => exact ⟨_, s, [], rfl, rfl, hid (Nat.le_refl _), hid ⟨HO0.out, rfl, HEW.out⟩⟩
  case round =>
    obtain ⟨u, p, out, rfl, rfl, HPS, H⟩ := hrel
    by_cases hp0 : p = 0
    · subst hp0
      go_wp2
      go_ret
      have h2 := H.out.2.1
      rw [pick_zero, List.append_nil] at h2
      exact ⟨_, rfl, h2 ▸ H.out.1, H.out.2.2⟩
    · have hps : p < 2 ^ ts.length := Nat.lt_of_le_of_lt HPS.out HS.out
      obtain ⟨x, hx1, hx2⟩ := pick_step 7 ts p HL.out (by omega) hps
      have hxl := (List.getElem?_eq_some_iff.1 hx1).1
      obtain ⟨b, o, x', An, cn, rfl, e, c0, c1, hnx⟩ := HG.out _ hxl
      rw [e.out] at hx1
      injection hx1 with hx1
      subst hx1
      have hq : ((p : Int) == 0) = false := by simp; omega
      obtain ⟨z, hz⟩ : ∃ z, z = tzF 7 p := ⟨_, rfl⟩
      rw [← hz] at c0 c1 hxl
      have HZ := hid hz
      have HE := hid H.out.2.2
      have c0r := HE.out.cell c0
      have c1r := HE.out.cell c1
      have HNX := hid (RI.ext hnx HE.out)
      have i1 : (z : Int) < (ts.length : Int) := by omega
      have i0 : (0 : Int) ≤ (z : Int) := by omega
      have hp1 : IntKind.u64.wrap ((p : Int) - 1) = ((p - 1 : Nat) : Int) := by
        have := HP.out
        have h3 : p < 128 := by omega
        simp [IntKind.wrap, IntKind.bits, IntKind.signed]; omega
      have hba : bits .and .u64 (p : Int) ((p - 1 : Nat) : Int) = ((p &&& (p - 1) : Nat) : Int) := bitsAnd (by have := HP.out; omega) (by have := HP.out; omega)
      have HO := hid H.out.1
      have HX2 := hid hx2
      have HLO : Hid (out.length ≤ 7) := hid (by
        have h4 := congrArg List.length H.out.2.1
        have h5 := pick_len 7 ts s HL.out HS.out
        have h6 : ∀ (ts : List TaskD) (s : Nat), (pickL ts s).length ≤ ts.length := fun ts => by
          induction ts with
          | nil => intro s; exact Nat.le_refl _
          | cons t ts ih => intro s; have := ih (s / 2); unfold pickL; split <;> simp only [List.length_cons] <;> omega
        have h7 := h6 ts s
        rw [List.length_append] at h4
        have := HL.out
        omega)
      have HBS : Hid (w.heap.size ≤ wr.heap.size) := hid HE.out.size
      clear c0 c1 hnx hz hx2 hps
      go_wp2_with (first
        | (go_at_call 88; refine (bTz p _ (by omega) (by have := HP.out; have := HPS.out; have := HS.out; omega) (HTB.out.ext HE.out)).mono ?_; rintro e w1 ⟨rfl, hw⟩; subst hw; rw [← HZ.out])
        | (at_builtin; have hsz := HBS.out; refine wpList_append_sl _ (by rfl) _ _ 28 (by rfl) ET.ok ET.flat (w.heap.size) 44 ET.ne i0_task _ 2 32 Tryd.underlying28 hi0_task hz0_task hz1_task hz2_task rfl (by omega) _ (by rfl) _ (HO.out.ext ET.ok (Ext.alloc _ _)) _ (by rfl) _ (RSl.laid (cs := [.int .i64 x'.id, .slice An x'.need.length cn]) (x := x') (heap_alloc_new _ _) rfl ⟨_, rfl, RI.ext HNX.out (Ext.alloc _ _)⟩) (by have := HLO.out; simp; omega) (by have := HLO.out; simp; omega) ?_ ?_; (focus (first | exact Nat.le_refl _ | (simp; done) | (simp; omega) | omega)); intro v1 w1 hO1 hg1 hat1 hs1))
      go_roundw
      case rel =>
        refine ⟨v1, p &&& (p - 1), out ++ [x'], rfl, rfl, hid (Nat.le_trans Nat.and_le_left HPS.out), hid ⟨hO1, ?_, ?_⟩⟩
        · rw [List.append_assoc, List.singleton_append, ← HX2.out]; exact H.out.2.1
        · exact Ext.grown (HE.out.trans (Ext.alloc _ _)) hg1 (HO.out.ext ET.ok (Ext.alloc _ _)).lt
      case measure =>
        have := and_pred_lt (p := p) (s := p) (by omega)
        rw [Nat.and_comm] at this
        simp [intOf]; omega

end Go.Proofs.YtllchacophapoaaDoor

/- The program's leastOf: the least number of nodes, set by set. -/
namespace Go.Proofs.YtllchacophapoaaDoor
open Go.RowKit
set_option maxRecDepth 4000

/-- the row of the least numbers while the sets are looked at -/
structure LRow (room : List Int) (ts : List TaskD) (M s : Nat) (L : List Int) : Prop where
  len : L.length = M + 1
  val : ∀ k, k < s → L[k]? = some ((leastN room ts k : Nat) : Int)
theorem LRow.set {room : List Int} {ts : List TaskD} {M s : Nat} {L : List Int} (h : LRow room ts M s L) (x : Int) : LRow room ts M s (L.set s x) :=
  ⟨by rw [List.length_set]; exact h.len, fun k hk => by rw [List.getElem?_set_ne (by omega)]; exact h.val k hk⟩
theorem LRow.next {room : List Int} {ts : List TaskD} {M s : Nat} {L : List Int} (h : LRow room ts M s L) (hs : L[s]? = some ((leastN room ts s : Nat) : Int)) : LRow room ts M (s + 1) L :=
  ⟨h.len, fun k hk => by
    rcases Nat.lt_or_ge k s with h1 | h1
    · exact h.val k h1
    · rw [show k = s by omega]; exact hs⟩
theorem pick_sub_len : ∀ (ts : List TaskD) (s : Nat), (pickL ts s).length ≤ ts.length
  | [], _ => Nat.le_refl _
  | t :: ts, s => by have := pick_sub_len ts (s / 2); unfold pickL; split <;> simp only [List.length_cons] <;> omega
theorem wrap_u64 {n : Nat} (h : n < 100000) : IntKind.u64.wrap (n : Int) = (n : Int) := by
  simp [IntKind.wrap, IntKind.bits, IntKind.signed]; omega

theorem wrap_l {l : Nat} (h : l ≤ 7) : wrap64 ((l : Int) + 1) = (l : Int) + 1 := by unfold wrap64; omega
theorem wrap_li {l : Nat} (h : l ≤ 7) : IntKind.i64.wrap ((l : Int) + 1) = (l : Int) + 1 := by rw [IntKind.wrap_i64]; omega
theorem wrap_p {p : Nat} (h0 : 0 < p) (h : p < 128) : IntKind.u64.wrap ((p : Int) - 1) = ((p - 1 : Nat) : Int) := by simp [IntKind.wrap, IntKind.bits, IntKind.signed]; omega

set_option maxHeartbeats 4000000 in
theorem iLeastOf (rv tv : Value) (room : List Int) (ts : List TaskD) (w : World) (hR : RI w rv room) (h : RT w tv ts) (hok : tasksOk room ts = true) (hl : ts.length ≤ 7) (ht : TabOk w) :
    Calls Tryd.prog 34 #[rv, tv] w (RetN w ((leastR room ts).length : Int)) := by
  have HR := hid hR
  have HT := hid h
  obtain ⟨Ar, cr, rfl, _⟩ := hR
  obtain ⟨At, ct, rfl, _⟩ := RT.get h
  have HTB := hid ht
  have HFIT := hid (fit_of_ok hok)
  have HGT := hid (tasksOk_good hok)
  have HLR := hid (vecOk_len (roomOk_vec (tasksOk_room hok)))
  have HL7 := hid hl
  obtain ⟨M, hM⟩ : ∃ M, 2 ^ ts.length = M + 1 := ⟨2 ^ ts.length - 1, by have : 0 < 2 ^ ts.length := Nat.pow_pos (by omega); omega⟩
  have hM128 : M < 128 := by have := pow_len hl; omega
  have hN : (2 : Int) ^ ts.length = (M : Int) + 1 := by have := congrArg (Nat.cast (R := Int)) hM; simpa using this
  have hw1 : IntKind.u64.wrap ((M : Int) + 1) = (M : Int) + 1 := by have := wrap_u64 (n := M + 1) (by omega); simpa using this
  have hw2 : IntKind.u64.wrap (M : Int) = (M : Int) := wrap_u64 (by omega)
  have HM := hid hM
  have HALL : Hid (leastN room ts M = (leastR room ts).length) := hid (by rw [← leastN_all, hM]; rfl)
  clear h ht hok
  obtain ⟨i0_int, hi0_int, hz0_int, hz1_int, hz2_int⟩ := info_parts info_int
  go_enter Tryd.func34, Tryd.ntmps34
  go_wp2_with (at_make; refine wpList_make_full _ rfl _ _ 22 rfl w.heap.size 3 i0_int _ 1 Tryd.underlying22 hi0_int hz0_int hz1_int _ _ _ _ (M + 1) rfl rfl (by push_cast; rfl) (by push_cast; rfl) (by rw [hz2_int]; omega) (by unfold maxLen; omega) (Nat.le_refl _) ?_; intro w1 hO1 hg1; have HE1 : Hid (Ext w w1) := hid (Below.grown (Ext.refl _) hg1 (Nat.le_refl _) (fun k hk => by cases hk)); have HO1 : Hid (OI w1 w.heap.size (.slice (some ⟨w.heap.size, 0, none⟩) (M + 1) (M + 1)) (List.replicate (M + 1) 0)) := hid (Own.full (E := EI) (size := 1) (z := .int .i64 0) 0 (by rfl) (by rfl) hO1); clear hO1 hg1)
  go_loopw [7] (fun o wr => ∃ (s : Nat) (L : List Int), o = .int .u64 (s : Int) ∧ 1 ≤ s ∧ s ≤ M + 1 ∧ Hid (OI wr w.heap.size (.slice (some ⟨w.heap.size, 0, none⟩) (M + 1) (M + 1)) L ∧ LRow room ts M s L ∧ Ext w wr)) (fun o _ => M + 1 - (intOf o).toNat)
  case atStart =>
    refine ⟨1, List.replicate (M + 1) 0, rfl, Nat.le_refl _, by omega, hid ⟨HO1.out, ⟨by simp, fun k hk => ?_⟩, HE1.out⟩⟩
    rw [show k = 0 by omega, leastN_zero HFIT.out]
    rfl
  case round =>
    obtain ⟨s, L, rfl, hs1, hsM, H⟩ := hrel
    by_cases hsl : s ≤ M
    · have i1 : (s : Int) ≤ (M : Int) := by omega
      have i2 : (s : Int) < (M : Int) + 1 := by omega
      have i3 : (0 : Int) ≤ (s : Int) := by omega
      have hs2 : s < 2 ^ ts.length := by rw [HM.out]; omega
      have hLs : L[s]? = some (L.getD s 0) := by rw [List.getD_eq_getElem?_getD, List.getElem?_eq_getElem (by rw [H.out.2.1.len]; omega)]; rfl
      obtain ⟨c0, c0f, _⟩ := OI.at_ H.out.1 hLs
      have hws : IntKind.u64.wrap ((s : Int) + 1) = (s : Int) + 1 := by have := wrap_u64 (n := s + 1) (by omega); simpa using this
      have HS2 := hid hs2
      have HPC := hid (pick_len 7 ts s HL7.out hs2)
      clear hs2 hLs
      go_wp2_with (go_at_call 61; refine (bOnes s _ (by omega)).mono ?_; rintro e w2 ⟨rfl, hw⟩; subst hw)
      clear c0 c0f
      go_loopw [8] (fun o wr => ∃ (p v : Nat) (L' : List Int), o = .int .u64 (p : Int) ∧ Hid (Part p s) ∧ Hid (OI wr w.heap.size (.slice (some ⟨w.heap.size, 0, none⟩) (M + 1) (M + 1)) L' ∧ LRow room ts M s L' ∧ L'[s]? = some (v : Int) ∧ Inn room ts s p v ∧ v ≤ 7 ∧ Ext w wr)) (fun o _ => (intOf o).toNat)
      case atStart =>
        have hlt : s < L.length := by rw [H.out.2.1.len]; omega
        have hI := Inn.start HFIT.out (s := s)
        rw [HPC.out] at hI
        have h7 := pick_sub_len ts s
        rw [HPC.out] at h7
        exact ⟨s, pcF 7 s, L.set s ((pcF 7 s : Nat) : Int), rfl, hid (part_self s), hid ⟨(OI.set H.out.1 hlt _).1, H.out.2.1.set _, List.getElem?_set_self hlt, hI, by have := HL7.out; omega, Below.setCell H.out.2.2 (Nat.le_refl _) _⟩⟩
      case round =>
        obtain ⟨p, v, L', rfl, HP, H2⟩ := hrel
        by_cases hp0 : p = 0
        · subst hp0
          go_wp2
          go_roundw
          case rel =>
            have hd := Inn.done HFIT.out (by omega) HS2.out H2.out.2.2.2.1
            exact ⟨s + 1, L', by push_cast; rfl, by omega, by omega, hid ⟨H2.out.1, H2.out.2.1.next (by rw [H2.out.2.2.1, hd]), H2.out.2.2.2.2.2⟩⟩
          case measure => simp [intOf]; omega
        · have hq : ((p : Int) == 0) = false := by simp; omega
          have hps := HP.out.le
          obtain ⟨d, hd⟩ : ∃ d, d = s - p := ⟨_, rfl⟩
          have hpa : bits .andNot .u64 (s : Int) (p : Int) = (d : Int) := by rw [hd]; exact bitsAndNot (by omega) HP.out
          have j1 : (d : Int) < (M : Int) + 1 := by omega
          have j2 : (0 : Int) ≤ (d : Int) := by omega
          obtain ⟨l, hl'⟩ : ∃ l, l = leastN room ts d := ⟨_, rfl⟩
          have hl8 : l ≤ 7 := by have := leastN_le HFIT.out d; have := HL7.out; omega
          have hv8 : v ≤ 7 := H2.out.2.2.2.2.1
          obtain ⟨c1, _, _⟩ := OI.at_ H2.out.1 (H2.out.2.1.val d (by omega))
          obtain ⟨c2, _, _⟩ := OI.at_ H2.out.1 H2.out.2.2.1
          rw [← hl'] at c1
          have hp128 : p < 128 := by omega
          have hp1 : IntKind.u64.wrap ((p : Int) - 1) = ((p - 1 : Nat) : Int) := wrap_p (Nat.pos_of_ne_zero hp0) hp128
          have hba : bits .and .u64 ((p - 1 : Nat) : Int) (s : Int) = (((p - 1) &&& s : Nat) : Int) := bitsAnd (by omega) (by omega)
          have KB : Hid (∀ w', Ext wr w' → w'.cell? ⟨w.heap.size, d, none⟩ = some (.int .i64 l) ∧ w'.cell? ⟨w.heap.size, s, none⟩ = some (.int .i64 v)) := hid fun w' hw => ⟨hw.cell c1, hw.cell c2⟩
          have HDr : Hid (Ext wr wr.drew) := hid (Below.drew (Below.refl _ _))
          have HD := hid hd
          have HLL := hid hl'
          have HNX := hid (H2.out.2.2.2.1.step HFIT.out HP.out)
          have HPA : Hid (Part ((p - 1) &&& s) s) := hid (part_and _ _)
          have HPL : Hid (p < 128) := hid (by omega)
          have hlt' : (p - 1) &&& s < p := and_pred_lt (by omega)
          clear hd hl' c1 c2
          by_cases hc : l + 1 < v
          · have hcI : (l : Int) + 1 < (v : Int) := by omega
            have hl7 : l + 1 ≤ 7 := by omega
            have HME : Hid ((p - 1) &&& s < p) := hid hlt'
            clear hlt'
            have hwl : wrap64 ((l : Int) + 1) = (l : Int) + 1 := wrap_l hl8
            have hwm : IntKind.i64.wrap ((l : Int) + 1) = (l : Int) + 1 := wrap_li hl8
            have HGP : Hid (GoodTs (pickL ts p)) := hid ⟨Nat.le_trans (pick_sub_len ts p) HGT.out.1, fun t ht => HGT.out.2 t (pick_mem ht)⟩
            cases hf : fitsL (loadL (pickL ts p)) room with
            | false =>
              have HNV : Hid (nextV room ts s p v = v) := hid (by unfold nextV; rw [if_neg (by rw [hf]; simp)])
              go_wp2
              refine WG.start (fun w' => w'.cell? ⟨w.heap.size, d, none⟩ = some (.int .i64 l) ∧ w'.cell? ⟨w.heap.size, s, none⟩ = some (.int .i64 v)) [18,19] (by kernel_rfl) (by exact KB.out _ HDr.out) (fun hHeld => ?_)
              obtain ⟨pz, hpz⟩ : ∃ x, x = wr.drew := ⟨_, rfl⟩
              rw [← hpz] at hHeld HDr ⊢
              clear hpz
              (refine WG.take (i := 0) (v := ?_) rfl (by kernel_rfl) (by kernel_rfl) (by kernel_rfl) (by kernel_rfl) (fun _ _ _ h => h) (Or.inl ⟨by rfl, ?_⟩) (by assumption) ?_; rotate_left; (intro w hSw; (try dsimp only at hSw); go_split_ands; go_simp; (try with_reducible rfl)); (try simp only [Act.put, List.setIfInBounds_toArray, List.set_cons_zero, List.set_cons_succ]))
              (refine WG.take (i := 1) (v := ?_) rfl (by kernel_rfl) (by kernel_rfl) (by kernel_rfl) (by kernel_rfl) (fun _ _ _ h => h) (Or.inl ⟨by rfl, ?_⟩) (by assumption) ?_; rotate_left; (intro w hSw; (try dsimp only at hSw); go_split_ands; go_simp; (try with_reducible rfl)); (try simp only [Act.put, List.setIfInBounds_toArray, List.set_cons_zero, List.set_cons_succ]))
              (refine WG.take (i := 2) (v := ?_) rfl (by kernel_rfl) (by kernel_rfl) (by kernel_rfl) (by kernel_rfl) (fun _ _ _ h => h) (Or.inl ⟨by rfl, ?_⟩) (by assumption) ?_; rotate_left; (intro w hSw; (try dsimp only at hSw); go_split_ands; go_simp; (try with_reducible rfl)); (try simp only [Act.put, List.setIfInBounds_toArray, List.set_cons_zero, List.set_cons_succ]))
              (refine WG.take (i := 3) (v := ?_) rfl (by kernel_rfl) (by kernel_rfl) (by kernel_rfl) (by kernel_rfl) (fun _ _ _ h => h) (Or.inl ⟨by rfl, ?_⟩) (by assumption) ?_; rotate_left; (intro w hSw; (try dsimp only at hSw); go_split_ands; go_simp; (try with_reducible rfl)); (try simp only [Act.put, List.setIfInBounds_toArray, List.set_cons_zero, List.set_cons_succ]))
              (refine WG.take (i := 4) (v := ?_) rfl (by kernel_rfl) (by kernel_rfl) (by kernel_rfl) (by kernel_rfl) (fun _ _ _ h => h) (Or.inl ⟨by rfl, ?_⟩) (by assumption) ?_; rotate_left; (intro w hSw; (try dsimp only at hSw); go_split_ands; go_simp; (try with_reducible rfl)); (try simp only [Act.put, List.setIfInBounds_toArray, List.set_cons_zero, List.set_cons_succ]))
              (refine WG.take (i := 5) (v := ?_) rfl (by kernel_rfl) (by kernel_rfl) (by kernel_rfl) (by kernel_rfl) (fun _ _ _ h => h) (Or.inl ⟨by rfl, ?_⟩) (by assumption) ?_; rotate_left; (intro w hSw; (try dsimp only at hSw); go_split_ands; go_simp; (try with_reducible rfl)); (try simp only [Act.put, List.setIfInBounds_toArray, List.set_cons_zero, List.set_cons_succ]))
              (refine WG.take (i := 6) (v := ?_) rfl (by kernel_rfl) (by kernel_rfl) (by kernel_rfl) (by kernel_rfl) (fun _ _ _ h => h) (Or.inl ⟨by rfl, ?_⟩) (by assumption) ?_; rotate_left; (intro w hSw; (try dsimp only at hSw); go_split_ands; go_simp; (try with_reducible rfl)); (try simp only [Act.put, List.setIfInBounds_toArray, List.set_cons_zero, List.set_cons_succ]))
              (refine WG.take (i := 7) (v := ?_) rfl (by kernel_rfl) (by kernel_rfl) (by kernel_rfl) (by kernel_rfl) (fun _ _ _ h => h) (Or.inl ⟨by rfl, ?_⟩) (by assumption) ?_; rotate_left; (intro w hSw; (try dsimp only at hSw); go_split_ands; go_simp; (try with_reducible rfl)); (try simp only [Act.put, List.setIfInBounds_toArray, List.set_cons_zero, List.set_cons_succ]))
              (refine WG.take (i := 8) (v := ?_) rfl (by kernel_rfl) (by kernel_rfl) (by kernel_rfl) (by kernel_rfl) (fun _ _ _ h => h) (Or.inl ⟨by rfl, ?_⟩) (by assumption) ?_; rotate_left; (intro w hSw; (try dsimp only at hSw); go_split_ands; go_simp; (try with_reducible rfl)); (try simp only [Act.put, List.setIfInBounds_toArray, List.set_cons_zero, List.set_cons_succ]))
              (refine WG.take (i := 9) (v := ?_) rfl (by kernel_rfl) (by kernel_rfl) (by kernel_rfl) (by kernel_rfl) (fun _ _ _ h => h) (Or.inl ⟨by rfl, ?_⟩) (by assumption) ?_; rotate_left; (intro w hSw; (try dsimp only at hSw); go_split_ands; go_simp; (try with_reducible rfl)); (try simp only [Act.put, List.setIfInBounds_toArray, List.set_cons_zero, List.set_cons_succ]))
              (refine WG.take (i := 10) (v := ?_) rfl (by kernel_rfl) (by kernel_rfl) (by kernel_rfl) (by kernel_rfl) (fun _ _ _ h => h) (Or.inl ⟨by rfl, ?_⟩) (by assumption) ?_; rotate_left; (intro w hSw; (try dsimp only at hSw); go_split_ands; go_simp; (try with_reducible rfl)); (try simp only [Act.put, List.setIfInBounds_toArray, List.set_cons_zero, List.set_cons_succ]))
              (refine WG.take (i := 11) (v := ?_) rfl (by kernel_rfl) (by kernel_rfl) (by kernel_rfl) (by kernel_rfl) (fun _ _ _ h => h) (Or.inl ⟨by rfl, ?_⟩) (by assumption) ?_; rotate_left; (intro w hSw; (try dsimp only at hSw); go_split_ands; go_simp; (try with_reducible rfl)); (try simp only [Act.put, List.setIfInBounds_toArray, List.set_cons_zero, List.set_cons_succ]))
              (refine WG.take (i := 12) (v := ?_) rfl (by kernel_rfl) (by kernel_rfl) (by kernel_rfl) (by kernel_rfl) (fun _ _ _ h => h) (Or.inl ⟨by rfl, ?_⟩) (by assumption) ?_; rotate_left; (intro w hSw; (try dsimp only at hSw); go_split_ands; go_simp; (try with_reducible rfl)); (try simp only [Act.put, List.setIfInBounds_toArray, List.set_cons_zero, List.set_cons_succ]))
              (refine WG.take (i := 13) (v := ?_) rfl (by kernel_rfl) (by kernel_rfl) (by kernel_rfl) (by kernel_rfl) (fun _ _ _ h => h) (Or.inl ⟨by rfl, ?_⟩) (by assumption) ?_; rotate_left; (intro w hSw; (try dsimp only at hSw); go_split_ands; go_simp; (try with_reducible rfl)); (try simp only [Act.put, List.setIfInBounds_toArray, List.set_cons_zero, List.set_cons_succ]))
              (refine WG.take (i := 14) (v := ?_) rfl (by kernel_rfl) (by kernel_rfl) (by kernel_rfl) (by kernel_rfl) (fun _ _ _ h => h) (Or.inl ⟨by rfl, ?_⟩) (by assumption) ?_; rotate_left; (intro w hSw; (try dsimp only at hSw); go_split_ands; go_simp; (try with_reducible rfl)); (try simp only [Act.put, List.setIfInBounds_toArray, List.set_cons_zero, List.set_cons_succ]))
              (refine WG.take (i := 17) (v := ?_) rfl (by kernel_rfl) (by kernel_rfl) (by kernel_rfl) (by kernel_rfl) (fun _ _ _ h => h) (Or.inl ⟨by rfl, ?_⟩) (by assumption) ?_; rotate_left; (intro w hSw; (try dsimp only at hSw); go_split_ands; go_simp; (try with_reducible rfl)); (try simp only [Act.put, List.setIfInBounds_toArray, List.set_cons_zero, List.set_cons_succ]))
              refine WG.one (i := 15) rfl (by kernel_rfl) (fun K hK => ?_)
              go_simp; refine (iChosen _ ts p _ (RT.ext HT.out (H2.out.2.2.2.2.2.trans HDr.out)) HL7.out (Nat.lt_of_le_of_lt HP.out.le HS2.out) (HTB.out.ext (H2.out.2.2.2.2.2.trans HDr.out))).mono ?_; rintro e3 w3 ⟨v3, rfl, hO3, hE3⟩; have HO3 := hid hO3.read; have HE3 := hid (HDr.out.trans hE3); clear hO3 hE3; (try dsimp only)
              refine hK.out _ _ (by exact KB.out _ HE3.out) (fun hHeld => ?_)
              clear hK K
              (try simp only [Act.put, List.setIfInBounds_toArray, List.set_cons_zero, List.set_cons_succ])
              refine WG.one (i := 16) rfl (by kernel_rfl) (fun K hK => ?_)
              go_simp; refine (iLoad _ (pickL ts p) _ HO3.out HGP.out).mono ?_; rintro e4 w4 ⟨v4, rfl, hO4, hE4⟩; have HO4 := hid (Own.read hO4); have HE4 := hid (HE3.out.trans hE4); clear hO4 hE4; (try dsimp only)
              refine hK.out _ _ (by exact KB.out _ HE4.out) (fun hHeld => ?_)
              clear hK K
              (try simp only [Act.put, List.setIfInBounds_toArray, List.set_cons_zero, List.set_cons_succ])
              refine WG.last (i := 18) rfl (by kernel_rfl) (by kernel_rfl) (fun K hK => ?_)
              go_simp; refine (iFits _ _ (loadL (pickL ts p)) room _ HO4.out (RI.ext HR.out (H2.out.2.2.2.2.2.trans HE4.out)) (loadL_len _) HLR.out).mono ?_; rw [hf]; rintro e5 w5 ⟨rfl, n5, hw5⟩; have HE5 : Hid (Ext wr w5) := hid (by rw [hw5]; exact HE4.out.trans (Ext.drewN _ _)); clear hw5; (try dsimp only)
              refine hK.out _ _ ?_
              clear hK K
              (try simp only [Act.put, List.setIfInBounds_toArray, List.set_cons_zero, List.set_cons_succ])
              refine WG.last (i := 19) rfl (by kernel_rfl) (by kernel_rfl) (fun K hK => ?_)
              go_simp
              refine hK.out _ _ ?_
              clear hK K
              (try simp only [Act.put, List.setIfInBounds_toArray, List.set_cons_zero, List.set_cons_succ])
              refine WG.done (by kernel_rfl) ?_
              go_wp2
              go_roundw
              case rel => exact ⟨(p - 1) &&& s, v, L', rfl, HPA, hid ⟨H2.out.1.ext EI.ok HE5.out, H2.out.2.1, H2.out.2.2.1, HNV.out ▸ HNX.out, H2.out.2.2.2.2.1, H2.out.2.2.2.2.2.trans HE5.out⟩⟩
              case measure => have hz := HME.out; clear hwl hwm; simp [intOf]; omega
            | true =>
              have HNV : Hid (nextV room ts s p v = l + 1) := hid (by unfold nextV; rw [← HD.out, ← HLL.out, if_pos ⟨hc, hf⟩])
              go_wp2
              refine WG.start (fun w' => w'.cell? ⟨w.heap.size, d, none⟩ = some (.int .i64 l) ∧ w'.cell? ⟨w.heap.size, s, none⟩ = some (.int .i64 v)) [18,19] (by kernel_rfl) (by exact KB.out _ HDr.out) (fun hHeld => ?_)
              obtain ⟨pz, hpz⟩ : ∃ x, x = wr.drew := ⟨_, rfl⟩
              rw [← hpz] at hHeld HDr ⊢
              clear hpz
              (refine WG.take (i := 0) (v := ?_) rfl (by kernel_rfl) (by kernel_rfl) (by kernel_rfl) (by kernel_rfl) (fun _ _ _ h => h) (Or.inl ⟨by rfl, ?_⟩) (by assumption) ?_; rotate_left; (intro w hSw; (try dsimp only at hSw); go_split_ands; go_simp; (try with_reducible rfl)); (try simp only [Act.put, List.setIfInBounds_toArray, List.set_cons_zero, List.set_cons_succ]))
              (refine WG.take (i := 1) (v := ?_) rfl (by kernel_rfl) (by kernel_rfl) (by kernel_rfl) (by kernel_rfl) (fun _ _ _ h => h) (Or.inl ⟨by rfl, ?_⟩) (by assumption) ?_; rotate_left; (intro w hSw; (try dsimp only at hSw); go_split_ands; go_simp; (try with_reducible rfl)); (try simp only [Act.put, List.setIfInBounds_toArray, List.set_cons_zero, List.set_cons_succ]))
              (refine WG.take (i := 2) (v := ?_) rfl (by kernel_rfl) (by kernel_rfl) (by kernel_rfl) (by kernel_rfl) (fun _ _ _ h => h) (Or.inl ⟨by rfl, ?_⟩) (by assumption) ?_; rotate_left; (intro w hSw; (try dsimp only at hSw); go_split_ands; go_simp; (try with_reducible rfl)); (try simp only [Act.put, List.setIfInBounds_toArray, List.set_cons_zero, List.set_cons_succ]))
              (refine WG.take (i := 3) (v := ?_) rfl (by kernel_rfl) (by kernel_rfl) (by kernel_rfl) (by kernel_rfl) (fun _ _ _ h => h) (Or.inl ⟨by rfl, ?_⟩) (by assumption) ?_; rotate_left; (intro w hSw; (try dsimp only at hSw); go_split_ands; go_simp; (try with_reducible rfl)); (try simp only [Act.put, List.setIfInBounds_toArray, List.set_cons_zero, List.set_cons_succ]))
              (refine WG.take (i := 4) (v := ?_) rfl (by kernel_rfl) (by kernel_rfl) (by kernel_rfl) (by kernel_rfl) (fun _ _ _ h => h) (Or.inl ⟨by rfl, ?_⟩) (by assumption) ?_; rotate_left; (intro w hSw; (try dsimp only at hSw); go_split_ands; go_simp; (try with_reducible rfl)); (try simp only [Act.put, List.setIfInBounds_toArray, List.set_cons_zero, List.set_cons_succ]))
              (refine WG.take (i := 5) (v := ?_) rfl (by kernel_rfl) (by kernel_rfl) (by kernel_rfl) (by kernel_rfl) (fun _ _ _ h => h) (Or.inl ⟨by rfl, ?_⟩) (by assumption) ?_; rotate_left; (intro w hSw; (try dsimp only at hSw); go_split_ands; go_simp; (try with_reducible rfl)); (try simp only [Act.put, List.setIfInBounds_toArray, List.set_cons_zero, List.set_cons_succ]))
              (refine WG.take (i := 6) (v := ?_) rfl (by kernel_rfl) (by kernel_rfl) (by kernel_rfl) (by kernel_rfl) (fun _ _ _ h => h) (Or.inl ⟨by rfl, ?_⟩) (by assumption) ?_; rotate_left; (intro w hSw; (try dsimp only at hSw); go_split_ands; go_simp; (try with_reducible rfl)); (try simp only [Act.put, List.setIfInBounds_toArray, List.set_cons_zero, List.set_cons_succ]))
              (refine WG.take (i := 7) (v := ?_) rfl (by kernel_rfl) (by kernel_rfl) (by kernel_rfl) (by kernel_rfl) (fun _ _ _ h => h) (Or.inl ⟨by rfl, ?_⟩) (by assumption) ?_; rotate_left; (intro w hSw; (try dsimp only at hSw); go_split_ands; go_simp; (try with_reducible rfl)); (try simp only [Act.put, List.setIfInBounds_toArray, List.set_cons_zero, List.set_cons_succ]))
              (refine WG.take (i := 8) (v := ?_) rfl (by kernel_rfl) (by kernel_rfl) (by kernel_rfl) (by kernel_rfl) (fun _ _ _ h => h) (Or.inl ⟨by rfl, ?_⟩) (by assumption) ?_; rotate_left; (intro w hSw; (try dsimp only at hSw); go_split_ands; go_simp; (try with_reducible rfl)); (try simp only [Act.put, List.setIfInBounds_toArray, List.set_cons_zero, List.set_cons_succ]))
              (refine WG.take (i := 9) (v := ?_) rfl (by kernel_rfl) (by kernel_rfl) (by kernel_rfl) (by kernel_rfl) (fun _ _ _ h => h) (Or.inl ⟨by rfl, ?_⟩) (by assumption) ?_; rotate_left; (intro w hSw; (try dsimp only at hSw); go_split_ands; go_simp; (try with_reducible rfl)); (try simp only [Act.put, List.setIfInBounds_toArray, List.set_cons_zero, List.set_cons_succ]))
              (refine WG.take (i := 10) (v := ?_) rfl (by kernel_rfl) (by kernel_rfl) (by kernel_rfl) (by kernel_rfl) (fun _ _ _ h => h) (Or.inl ⟨by rfl, ?_⟩) (by assumption) ?_; rotate_left; (intro w hSw; (try dsimp only at hSw); go_split_ands; go_simp; (try with_reducible rfl)); (try simp only [Act.put, List.setIfInBounds_toArray, List.set_cons_zero, List.set_cons_succ]))
              (refine WG.take (i := 11) (v := ?_) rfl (by kernel_rfl) (by kernel_rfl) (by kernel_rfl) (by kernel_rfl) (fun _ _ _ h => h) (Or.inl ⟨by rfl, ?_⟩) (by assumption) ?_; rotate_left; (intro w hSw; (try dsimp only at hSw); go_split_ands; go_simp; (try with_reducible rfl)); (try simp only [Act.put, List.setIfInBounds_toArray, List.set_cons_zero, List.set_cons_succ]))
              (refine WG.take (i := 12) (v := ?_) rfl (by kernel_rfl) (by kernel_rfl) (by kernel_rfl) (by kernel_rfl) (fun _ _ _ h => h) (Or.inl ⟨by rfl, ?_⟩) (by assumption) ?_; rotate_left; (intro w hSw; (try dsimp only at hSw); go_split_ands; go_simp; (try with_reducible rfl)); (try simp only [Act.put, List.setIfInBounds_toArray, List.set_cons_zero, List.set_cons_succ]))
              (refine WG.take (i := 13) (v := ?_) rfl (by kernel_rfl) (by kernel_rfl) (by kernel_rfl) (by kernel_rfl) (fun _ _ _ h => h) (Or.inl ⟨by rfl, ?_⟩) (by assumption) ?_; rotate_left; (intro w hSw; (try dsimp only at hSw); go_split_ands; go_simp; (try with_reducible rfl)); (try simp only [Act.put, List.setIfInBounds_toArray, List.set_cons_zero, List.set_cons_succ]))
              (refine WG.take (i := 14) (v := ?_) rfl (by kernel_rfl) (by kernel_rfl) (by kernel_rfl) (by kernel_rfl) (fun _ _ _ h => h) (Or.inl ⟨by rfl, ?_⟩) (by assumption) ?_; rotate_left; (intro w hSw; (try dsimp only at hSw); go_split_ands; go_simp; (try with_reducible rfl)); (try simp only [Act.put, List.setIfInBounds_toArray, List.set_cons_zero, List.set_cons_succ]))
              (refine WG.take (i := 17) (v := ?_) rfl (by kernel_rfl) (by kernel_rfl) (by kernel_rfl) (by kernel_rfl) (fun _ _ _ h => h) (Or.inl ⟨by rfl, ?_⟩) (by assumption) ?_; rotate_left; (intro w hSw; (try dsimp only at hSw); go_split_ands; go_simp; (try with_reducible rfl)); (try simp only [Act.put, List.setIfInBounds_toArray, List.set_cons_zero, List.set_cons_succ]))
              refine WG.one (i := 15) rfl (by kernel_rfl) (fun K hK => ?_)
              go_simp; refine (iChosen _ ts p _ (RT.ext HT.out (H2.out.2.2.2.2.2.trans HDr.out)) HL7.out (Nat.lt_of_le_of_lt HP.out.le HS2.out) (HTB.out.ext (H2.out.2.2.2.2.2.trans HDr.out))).mono ?_; rintro e3 w3 ⟨v3, rfl, hO3, hE3⟩; have HO3 := hid hO3.read; have HE3 := hid (HDr.out.trans hE3); clear hO3 hE3; (try dsimp only)
              refine hK.out _ _ (by exact KB.out _ HE3.out) (fun hHeld => ?_)
              clear hK K
              (try simp only [Act.put, List.setIfInBounds_toArray, List.set_cons_zero, List.set_cons_succ])
              refine WG.one (i := 16) rfl (by kernel_rfl) (fun K hK => ?_)
              go_simp; refine (iLoad _ (pickL ts p) _ HO3.out HGP.out).mono ?_; rintro e4 w4 ⟨v4, rfl, hO4, hE4⟩; have HO4 := hid (Own.read hO4); have HE4 := hid (HE3.out.trans hE4); clear hO4 hE4; (try dsimp only)
              refine hK.out _ _ (by exact KB.out _ HE4.out) (fun hHeld => ?_)
              clear hK K
              (try simp only [Act.put, List.setIfInBounds_toArray, List.set_cons_zero, List.set_cons_succ])
              refine WG.last (i := 18) rfl (by kernel_rfl) (by kernel_rfl) (fun K hK => ?_)
              go_simp; refine (iFits _ _ (loadL (pickL ts p)) room _ HO4.out (RI.ext HR.out (H2.out.2.2.2.2.2.trans HE4.out)) (loadL_len _) HLR.out).mono ?_; rw [hf]; rintro e5 w5 ⟨rfl, n5, hw5⟩; have HE5 : Hid (Ext wr w5) := hid (by rw [hw5]; exact HE4.out.trans (Ext.drewN _ _)); clear hw5; (try dsimp only)
              refine hK.out _ _ ?_
              clear hK K
              (try simp only [Act.put, List.setIfInBounds_toArray, List.set_cons_zero, List.set_cons_succ])
              refine WG.last (i := 19) rfl (by kernel_rfl) (by kernel_rfl) (fun K hK => ?_)
              go_simp
              refine hK.out _ _ ?_
              clear hK K
              (try simp only [Act.put, List.setIfInBounds_toArray, List.set_cons_zero, List.set_cons_succ])
              refine WG.done (by kernel_rfl) ?_
              have HO5 := hid (H2.out.1.ext EI.ok HE5.out)
              obtain ⟨d1, _⟩ := KB.out _ HE5.out
              obtain ⟨d2, d2f, _⟩ := OI.at_ HO5.out H2.out.2.2.1
              clear hHeld
              go_wp2
              go_roundw
              case rel =>
                have hlt : s < L'.length := by rw [H2.out.2.1.len]; clear hwl hwm; omega
                exact ⟨(p - 1) &&& s, l + 1, L'.set s (((l + 1 : Nat)) : Int), rfl, HPA, hid ⟨by have := (OI.set HO5.out hlt (((l + 1 : Nat)) : Int)).1; simpa using this, H2.out.2.1.set _, List.getElem?_set_self hlt, HNV.out ▸ HNX.out, hl7, Below.setCell (H2.out.2.2.2.2.2.trans HE5.out) (Nat.le_refl _) _⟩⟩
              case measure => have hz := HME.out; clear hwl hwm; simp [intOf]; omega
          · have hcI : ¬ (l : Int) + 1 < (v : Int) := by omega
            have HCD : Hid (decide ((l : Int) + 1 < (v : Int)) = false) := hid (decide_eq_false hcI)
            have HME : Hid ((p - 1) &&& s < p) := hid hlt'
            clear hlt'
            have hwl : wrap64 ((l : Int) + 1) = (l : Int) + 1 := wrap_l hl8
            have hwm : IntKind.i64.wrap ((l : Int) + 1) = (l : Int) + 1 := wrap_li hl8
            have HNV : Hid (nextV room ts s p v = v) := hid (by unfold nextV; rw [← HD.out, ← HLL.out, if_neg (fun h => hc h.1)])
            go_wp2
            refine WG.start (fun w' => w'.cell? ⟨w.heap.size, d, none⟩ = some (.int .i64 l) ∧ w'.cell? ⟨w.heap.size, s, none⟩ = some (.int .i64 v)) [] (by kernel_rfl) (by exact KB.out _ HDr.out) (fun hHeld => ?_)
            obtain ⟨pz, hpz⟩ : ∃ x, x = wr.drew := ⟨_, rfl⟩
            rw [← hpz] at hHeld HDr ⊢
            clear hpz
            (refine WG.take (i := 0) (v := ?_) rfl (by kernel_rfl) (by kernel_rfl) (by kernel_rfl) (by kernel_rfl) (fun _ _ _ h => h) (Or.inl ⟨by rfl, ?_⟩) (by assumption) ?_; rotate_left; (intro w hSw; (try dsimp only at hSw); go_split_ands; go_simp; (try with_reducible rfl)); (try simp only [Act.put, List.setIfInBounds_toArray, List.set_cons_zero, List.set_cons_succ]))
            (refine WG.take (i := 1) (v := ?_) rfl (by kernel_rfl) (by kernel_rfl) (by kernel_rfl) (by kernel_rfl) (fun _ _ _ h => h) (Or.inl ⟨by rfl, ?_⟩) (by assumption) ?_; rotate_left; (intro w hSw; (try dsimp only at hSw); go_split_ands; go_simp; (try with_reducible rfl)); (try simp only [Act.put, List.setIfInBounds_toArray, List.set_cons_zero, List.set_cons_succ]))
            (refine WG.take (i := 2) (v := ?_) rfl (by kernel_rfl) (by kernel_rfl) (by kernel_rfl) (by kernel_rfl) (fun _ _ _ h => h) (Or.inl ⟨by rfl, ?_⟩) (by assumption) ?_; rotate_left; (intro w hSw; (try dsimp only at hSw); go_split_ands; go_simp; (try with_reducible rfl)); (try simp only [Act.put, List.setIfInBounds_toArray, List.set_cons_zero, List.set_cons_succ]))
            (refine WG.take (i := 3) (v := ?_) rfl (by kernel_rfl) (by kernel_rfl) (by kernel_rfl) (by kernel_rfl) (fun _ _ _ h => h) (Or.inl ⟨by rfl, ?_⟩) (by assumption) ?_; rotate_left; (intro w hSw; (try dsimp only at hSw); go_split_ands; go_simp; (try with_reducible rfl)); (try simp only [Act.put, List.setIfInBounds_toArray, List.set_cons_zero, List.set_cons_succ]))
            (refine WG.take (i := 4) (v := ?_) rfl (by kernel_rfl) (by kernel_rfl) (by kernel_rfl) (by kernel_rfl) (fun _ _ _ h => h) (Or.inl ⟨by rfl, ?_⟩) (by assumption) ?_; rotate_left; (intro w hSw; (try dsimp only at hSw); go_split_ands; go_simp; (try with_reducible rfl)); (try simp only [Act.put, List.setIfInBounds_toArray, List.set_cons_zero, List.set_cons_succ]))
            (refine WG.take (i := 5) (v := ?_) rfl (by kernel_rfl) (by kernel_rfl) (by kernel_rfl) (by kernel_rfl) (fun _ _ _ h => h) (Or.inl ⟨by rfl, ?_⟩) (by assumption) ?_; rotate_left; (intro w hSw; (try dsimp only at hSw); go_split_ands; go_simp; (try with_reducible rfl)); (try simp only [Act.put, List.setIfInBounds_toArray, List.set_cons_zero, List.set_cons_succ]))
            (refine WG.take (i := 6) (v := ?_) rfl (by kernel_rfl) (by kernel_rfl) (by kernel_rfl) (by kernel_rfl) (fun _ _ _ h => h) (Or.inl ⟨by rfl, ?_⟩) (by assumption) ?_; rotate_left; (intro w hSw; (try dsimp only at hSw); go_split_ands; go_simp; (try with_reducible rfl)); (try simp only [Act.put, List.setIfInBounds_toArray, List.set_cons_zero, List.set_cons_succ]))
            (refine WG.take (i := 7) (v := ?_) rfl (by kernel_rfl) (by kernel_rfl) (by kernel_rfl) (by kernel_rfl) (fun _ _ _ h => h) (Or.inl ⟨by rfl, ?_⟩) (by assumption) ?_; rotate_left; (intro w hSw; (try dsimp only at hSw); go_split_ands; go_simp; (try with_reducible rfl)); (try simp only [Act.put, List.setIfInBounds_toArray, List.set_cons_zero, List.set_cons_succ]))
            (refine WG.take (i := 8) (v := ?_) rfl (by kernel_rfl) (by kernel_rfl) (by kernel_rfl) (by kernel_rfl) (fun _ _ _ h => h) (Or.inl ⟨by rfl, ?_⟩) (by assumption) ?_; rotate_left; (intro w hSw; (try dsimp only at hSw); go_split_ands; go_simp; (try with_reducible rfl)); (try simp only [Act.put, List.setIfInBounds_toArray, List.set_cons_zero, List.set_cons_succ]))
            (refine WG.take (i := 9) (v := ?_) rfl (by kernel_rfl) (by kernel_rfl) (by kernel_rfl) (by kernel_rfl) (fun _ _ _ h => h) (Or.inl ⟨by rfl, ?_⟩) (by assumption) ?_; rotate_left; (intro w hSw; (try dsimp only at hSw); go_split_ands; go_simp; (try with_reducible rfl)); (try simp only [Act.put, List.setIfInBounds_toArray, List.set_cons_zero, List.set_cons_succ]))
            (refine WG.take (i := 10) (v := ?_) rfl (by kernel_rfl) (by kernel_rfl) (by kernel_rfl) (by kernel_rfl) (fun _ _ _ h => h) (Or.inl ⟨by rfl, ?_⟩) (by assumption) ?_; rotate_left; (intro w hSw; (try dsimp only at hSw); go_split_ands; go_simp; (try with_reducible rfl)); (try simp only [Act.put, List.setIfInBounds_toArray, List.set_cons_zero, List.set_cons_succ]))
            (refine WG.take (i := 11) (v := ?_) rfl (by kernel_rfl) (by kernel_rfl) (by kernel_rfl) (by kernel_rfl) (fun _ _ _ h => h) (Or.inl ⟨by rfl, ?_⟩) (by assumption) ?_; rotate_left; (intro w hSw; (try dsimp only at hSw); go_split_ands; go_simp; (try with_reducible rfl)); (try simp only [Act.put, List.setIfInBounds_toArray, List.set_cons_zero, List.set_cons_succ]))
            rw [HCD.out]
            (refine WG.take (i := 12) (v := ?_) rfl (by kernel_rfl) (by kernel_rfl) (by kernel_rfl) (by kernel_rfl) (fun _ _ _ h => h) (Or.inl ⟨by rfl, ?_⟩) (by assumption) ?_; rotate_left; (intro w hSw; (try dsimp only at hSw); go_split_ands; go_simp; (try with_reducible rfl)); (try simp only [Act.put, List.setIfInBounds_toArray, List.set_cons_zero, List.set_cons_succ]))
            (refine WG.take (i := 13) rfl (by kernel_rfl) (by kernel_rfl) (by kernel_rfl) (by kernel_rfl) (fun _ _ _ h => h) (Or.inr ⟨?_, rfl⟩) (by assumption) ?_; go_simp; (try simp only [Act.put, List.setIfInBounds_toArray, List.set_cons_zero, List.set_cons_succ]))
            (refine WG.take (i := 14) rfl (by kernel_rfl) (by kernel_rfl) (by kernel_rfl) (by kernel_rfl) (fun _ _ _ h => h) (Or.inr ⟨?_, rfl⟩) (by assumption) ?_; go_simp; (try simp only [Act.put, List.setIfInBounds_toArray, List.set_cons_zero, List.set_cons_succ]))
            (refine WG.take (i := 15) rfl (by kernel_rfl) (by kernel_rfl) (by kernel_rfl) (by kernel_rfl) (fun _ _ _ h => h) (Or.inr ⟨?_, rfl⟩) (by assumption) ?_; go_simp; (try simp only [Act.put, List.setIfInBounds_toArray, List.set_cons_zero, List.set_cons_succ]))
            (refine WG.take (i := 16) rfl (by kernel_rfl) (by kernel_rfl) (by kernel_rfl) (by kernel_rfl) (fun _ _ _ h => h) (Or.inr ⟨?_, rfl⟩) (by assumption) ?_; go_simp; (try simp only [Act.put, List.setIfInBounds_toArray, List.set_cons_zero, List.set_cons_succ]))
            (refine WG.take (i := 17) rfl (by kernel_rfl) (by kernel_rfl) (by kernel_rfl) (by kernel_rfl) (fun _ _ _ h => h) (Or.inr ⟨?_, rfl⟩) (by assumption) ?_; go_simp; (try simp only [Act.put, List.setIfInBounds_toArray, List.set_cons_zero, List.set_cons_succ]))
            (refine WG.take (i := 18) rfl (by kernel_rfl) (by kernel_rfl) (by kernel_rfl) (by kernel_rfl) (fun _ _ _ h => h) (Or.inr ⟨?_, rfl⟩) (by assumption) ?_; go_simp; (try simp only [Act.put, List.setIfInBounds_toArray, List.set_cons_zero, List.set_cons_succ]))
            (refine WG.take (i := 19) (v := ?_) rfl (by kernel_rfl) (by kernel_rfl) (by kernel_rfl) (by kernel_rfl) (fun _ _ _ h => h) (Or.inl ⟨by rfl, ?_⟩) (by assumption) ?_; rotate_left; (intro w hSw; (try dsimp only at hSw); go_split_ands; go_simp; (try with_reducible rfl)); (try simp only [Act.put, List.setIfInBounds_toArray, List.set_cons_zero, List.set_cons_succ]))
            refine WG.done (by kernel_rfl) ?_
            go_wp2
            go_roundw
            case rel => exact ⟨(p - 1) &&& s, v, L', rfl, HPA, hid ⟨H2.out.1.ext EI.ok HDr.out, H2.out.2.1, H2.out.2.2.1, HNV.out ▸ HNX.out, H2.out.2.2.2.2.1, H2.out.2.2.2.2.2.trans HDr.out⟩⟩
            case measure => have hz := HME.out; clear hwl hwm; simp [intOf]; omega
    · have i1 : ¬ (s : Int) ≤ (M : Int) := by omega
      have i2 : (M : Int) < (M : Int) + 1 := by omega
      have i3 : (0 : Int) ≤ (M : Int) := by omega
      obtain ⟨c1, _, _⟩ := OI.at_ H.out.1 (H.out.2.1.val M (by omega))
      rw [HALL.out] at c1
      go_wp2
      go_ret
      exact ⟨rfl, H.out.2.2⟩
end Go.Proofs.YtllchacophapoaaDoor
