/- The reference's ways: l14Try walked. (Not built yet.) -/
import Derived.Test.YtllchacophapoaaDoorK44
namespace Go.Proofs.YtllchacophapoaaDoor
open Go.RowKit
set_option maxRecDepth 4000

def RetTry (w : World) (o : Option (List (List TaskD))) (e : Ending) (w' : World) : Prop := match o with
  | some r => ∃ v, e = .returned (.tuple #[v, .bool true]) ∧ RB w' v r ∧ Ext w w'
  | none => ∃ v, e = .returned (.tuple #[v, .bool false]) ∧ Ext w w'
/-- nodes that hold tasks of the list, at most so many -/
structure Held14 (ts : List TaskD) (bs : List (List TaskD)) (m : Nat) : Prop where
  len : bs.length ≤ m
  row : ∀ b ∈ bs, b.length ≤ m ∧ ∀ t ∈ b, t ∈ ts
theorem Held14.new {ts : List TaskD} {bs : List (List TaskD)} {m : Nat} (h : Held14 ts bs m) {x : TaskD} (hx : x ∈ ts) : Held14 ts (putL bs (-1) x) (m + 1) := by
  rw [putL_neg]
  refine ⟨by rw [List.length_append]; have := h.len; simp; omega, fun b hb => ?_⟩
  rcases List.mem_append.1 hb with hb | hb
  · exact ⟨Nat.le_succ_of_le (h.row b hb).1, (h.row b hb).2⟩
  · rw [List.mem_singleton.1 hb]
    exact ⟨by simp, fun t ht => by rw [List.mem_singleton.1 ht]; exact hx⟩
theorem Held14.put {ts : List TaskD} {bs : List (List TaskD)} {m k : Nat} (h : Held14 ts bs m) {x : TaskD} (hx : x ∈ ts) {b : List TaskD} (hb : bs[k]? = some b) : Held14 ts (putL bs (k : Int) x) (m + 1) := by
  rw [putL_at hb]
  refine ⟨by rw [List.length_set]; exact Nat.le_succ_of_le h.len, fun c hc => ?_⟩
  rcases List.mem_or_eq_of_mem_set hc with hc | rfl
  · exact ⟨Nat.le_succ_of_le (h.row c hc).1, (h.row c hc).2⟩
  · have h2 := h.row b (List.mem_of_getElem? hb)
    refine ⟨by rw [List.length_append]; simp; exact h2.1, fun t ht => ?_⟩
    rcases List.mem_append.1 ht with ht | ht
    · exact h2.2 t ht
    · rw [List.mem_singleton.1 ht]; exact hx

set_option maxHeartbeats 4000000 in
theorem sTry14 (room : List Int) (ts : List TaskD) (most : Nat) (hok : tasksOk room ts = true) : ∀ (n at' : Nat) (bs : List (List TaskD)) (rv bv tv : Value) (w : World), at' + n = ts.length → RI w rv room → RB w bv bs → RT w tv ts → Held14 ts bs at' →
    Calls Tryd.prog 31 #[rv, bv, tv, .int .i64 (at' : Int), .int .i64 (most : Int)] w (RetTry w (tryL room most (ts.drop at') bs)) := by
  have HLR := hid (vecOk_len (roomOk_vec (tasksOk_room hok)))
  have HGT := hid (tasksOk_good hok)
  have hl14 := tasksOk_len hok
  intro n
  induction n with
  | zero =>
    intro at' bs rv bv tv w hat hR hB hT hH
    have e : ts.drop at' = [] := List.drop_of_length_le (by omega)
    rw [e]
    have HB := hid hB
    obtain ⟨Ar, cr, rfl, _⟩ := RI.get hR
    obtain ⟨Ab, cb, rfl⟩ := bin_row hB
    obtain ⟨At, ct, rfl, _⟩ := RT.get hT
    have hq : ((at' : Int) == (ts.length : Int)) = true := by rw [show at' = ts.length by omega]; simp
    clear hR hB hT e
    go_enter Tryd.func31, Tryd.ntmps31
    go_wp2
    refine bodyPost_ret (results_tmp2 rfl _ _ _) rfl ?_
    exact ⟨_, rfl, HB.out, Ext.refl _⟩
  | succ n ih =>
    intro at' bs rv bv tv w hat hR hB hT hH
    have hlt : at' < ts.length := by omega
    have hR0 := hR
    have hB0 := hB
    have hT0 := hT
    obtain ⟨Ar, cr, rfl, _⟩ := RI.get hR
    obtain ⟨Ab, cb, rfl, _, _, hgb⟩ := RB.get hB
    obtain ⟨At, ct, rfl, _, _, hgt⟩ := RT.get hT
    obtain ⟨bt, ot, x, Ax, cx, rfl, ex, cx1, cx2, hxn⟩ := hgt at' hlt
    have hxm := List.mem_of_getElem? ex.out
    have ed : ts.drop at' = x :: ts.drop (at' + 1) := by
      have h2 := (List.getElem?_eq_some_iff.1 ex.out)
      rw [List.drop_eq_getElem_cons hlt, h2.2]
    rw [ed]
    obtain ⟨xs, hxs⟩ : ∃ xs, xs = ts.drop (at' + 1) := ⟨_, rfl⟩
    have ih' := fun (cs : List (List TaskD)) (u : Value) (w' : World) (h1 : RI w' (.slice Ar room.length cr) room) (h2 : RB w' u cs) (h3 : RT w' (.slice (some ⟨bt, ot, none⟩) ts.length ct) ts) (h4 : Held14 ts cs (at' + 1)) => ih (at' + 1) cs (.slice Ar room.length cr) u (.slice (some ⟨bt, ot, none⟩) ts.length ct) w' (by omega) h1 h2 h3 h4
    rw [← hxs] at ih' ⊢
    have IH := hid ih'
    have HR := hid hR0
    have HB := hid hB0
    have HT := hid hT0
    have HGB := hid hgb
    have HH := hid hH
    have HX := hid hxm
    have HXN := hid hxn
    have HXG := hid (HGT.out.2 x hxm)
    have HBG : Hid (∀ b ∈ bs, GoodTs b) := hid (fun b hb => ⟨by have := (hH.row b hb).1; omega, fun t ht => HGT.out.2 t ((hH.row b hb).2 t ht)⟩)
    have HBR : Hid (bs.length ≤ 3000000 ∧ ∀ b ∈ bs, b.length ≤ 4000000 ∧ ∀ t ∈ b, t.need.length ≤ 4000000) := hid ⟨by have := hH.len; omega, fun b hb => ⟨by have := (hH.row b hb).1; omega, fun t ht => by have := (HGT.out.2 t ((hH.row b hb).2 t ht)).1; omega⟩⟩
    have hq : ((at' : Int) == (ts.length : Int)) = false := by simp; omega
    have i0 : (at' : Int) < (ts.length : Int) := by omega
    have i1 : (0 : Int) ≤ (at' : Int) := by omega
    have hw1 : ((at' + 1 : Nat) : Int) = (at' : Int) + 1 := by omega
    have KX : Hid (∀ w', Ext w w' → w'.cell? ⟨bt, ot + at' * 2, none⟩ = some (.int .i64 x.id) ∧ w'.cell? ⟨bt, ot + at' * 2 + 1, none⟩ = some (.slice Ax x.need.length cx)) := hid fun w' hw => ⟨hw.cell cx1, hw.cell cx2⟩
    clear hR hB hT hR0 hB0 hT0 hgb hgt cx1 cx2 hxn ed ih ih' hxs hH hxm
    go_enter Tryd.func31, Tryd.ntmps31
    go_wp2
    go_loopw [12] (fun i wr => ∃ k : Nat, k ≤ bs.length ∧ i = .int .i64 k ∧ Hid (tryFrom room most x xs bs 0 = tryFrom room most x xs bs k) ∧ Hid (Ext w wr)) (fun i _ => bs.length - (intOf i).toNat)
    case atStart => exact ⟨0, Nat.zero_le _, rfl, hid rfl, hid (Ext.refl _)⟩
    case round =>
      obtain ⟨k, hk, rfl, HF, HE⟩ := hrel
      by_cases hkl : k < bs.length
      · obtain ⟨b, o, y, Ay, cy, rfl, ey, cy1, hyn⟩ := HGB.out k hkl
        have i2 : (k : Int) < (bs.length : Int) := by omega
        have i3 : (0 : Int) ≤ (k : Int) := by omega
        have HYG := hid (HBG.out y (List.mem_of_getElem? ey.out))
        have HYN := hid (RT.ext hyn HE.out)
        have KC : Hid (∀ w', Ext wr w' → w'.cell? ⟨bt, ot + at' * 2, none⟩ = some (.int .i64 x.id) ∧ w'.cell? ⟨bt, ot + at' * 2 + 1, none⟩ = some (.slice Ax x.need.length cx) ∧ w'.cell? ⟨b, o + k, none⟩ = some (.slice Ay y.length cy)) := hid fun w' hw => ⟨(KX.out _ (HE.out.trans hw)).1, (KX.out _ (HE.out.trans hw)).2, (HE.out.trans hw).cell cy1⟩
        have HS := hid (tryFrom_step (room := room) (most := most) (x := x) (xs := xs) ey.out)
        have HDr : Hid (Ext wr wr.drew) := hid (Below.drew (Below.refl _ _))
        clear cy1 hyn
        cases hf : l11fits room y x with
        | false =>
          go_wp2
          refine WG.start (fun w' => w'.cell? ⟨bt, ot + at' * 2, none⟩ = some (.int .i64 x.id) ∧ w'.cell? ⟨bt, ot + at' * 2 + 1, none⟩ = some (.slice Ax x.need.length cx) ∧ w'.cell? ⟨b, o + k, none⟩ = some (.slice Ay y.length cy)) [9] (by kernel_rfl) (by exact KC.out _ HDr.out) (fun hHeld => ?_)
          obtain ⟨pz, hpz⟩ : ∃ x, x = wr.drew := ⟨_, rfl⟩
          rw [← hpz] at hHeld HDr ⊢
          clear hpz
          (refine WG.take (i := 0) (v := ?_) rfl (by kernel_rfl) (by kernel_rfl) (by kernel_rfl) (by kernel_rfl) (fun _ _ _ h => h) (Or.inl ⟨by rfl, ?_⟩) (by assumption) ?_; rotate_left; (intro w hSw; (try dsimp only at hSw); go_split_ands; go_simp; (try with_reducible rfl)); (try simp only [Act.put, List.setIfInBounds_toArray, List.set_cons_zero, List.set_cons_succ]))
          (refine WG.take (i := 1) (v := ?_) rfl (by kernel_rfl) (by kernel_rfl) (by kernel_rfl) (by kernel_rfl) (fun _ _ _ h => h) (Or.inl ⟨by rfl, ?_⟩) (by assumption) ?_; rotate_left; (intro w hSw; (try dsimp only at hSw); go_split_ands; go_simp; (try with_reducible rfl)); (try simp only [Act.put, List.setIfInBounds_toArray, List.set_cons_zero, List.set_cons_succ]))
          (refine WG.take (i := 2) (v := ?_) rfl (by kernel_rfl) (by kernel_rfl) (by kernel_rfl) (by kernel_rfl) (fun _ _ _ h => h) (Or.inl ⟨by rfl, ?_⟩) (by assumption) ?_; rotate_left; (intro w hSw; (try dsimp only at hSw); go_split_ands; go_simp; (try with_reducible rfl)); (try simp only [Act.put, List.setIfInBounds_toArray, List.set_cons_zero, List.set_cons_succ]))
          (refine WG.take (i := 3) (v := ?_) rfl (by kernel_rfl) (by kernel_rfl) (by kernel_rfl) (by kernel_rfl) (fun _ _ _ h => h) (Or.inl ⟨by rfl, ?_⟩) (by assumption) ?_; rotate_left; (intro w hSw; (try dsimp only at hSw); go_split_ands; go_simp; (try with_reducible rfl)); (try simp only [Act.put, List.setIfInBounds_toArray, List.set_cons_zero, List.set_cons_succ]))
          (refine WG.take (i := 4) (v := ?_) rfl (by kernel_rfl) (by kernel_rfl) (by kernel_rfl) (by kernel_rfl) (fun _ _ _ h => h) (Or.inl ⟨by rfl, ?_⟩) (by assumption) ?_; rotate_left; (intro w hSw; (try dsimp only at hSw); go_split_ands; go_simp; (try with_reducible rfl)); (try simp only [Act.put, List.setIfInBounds_toArray, List.set_cons_zero, List.set_cons_succ]))
          (refine WG.take (i := 5) (v := ?_) rfl (by kernel_rfl) (by kernel_rfl) (by kernel_rfl) (by kernel_rfl) (fun _ _ _ h => h) (Or.inl ⟨by rfl, ?_⟩) (by assumption) ?_; rotate_left; (intro w hSw; (try dsimp only at hSw); go_split_ands; go_simp; (try with_reducible rfl)); (try simp only [Act.put, List.setIfInBounds_toArray, List.set_cons_zero, List.set_cons_succ]))
          (refine WG.take (i := 6) (v := ?_) rfl (by kernel_rfl) (by kernel_rfl) (by kernel_rfl) (by kernel_rfl) (fun _ _ _ h => h) (Or.inl ⟨by rfl, ?_⟩) (by assumption) ?_; rotate_left; (intro w hSw; (try dsimp only at hSw); go_split_ands; go_simp; (try with_reducible rfl)); (try simp only [Act.put, List.setIfInBounds_toArray, List.set_cons_zero, List.set_cons_succ]))
          (refine WG.take (i := 7) (v := ?_) rfl (by kernel_rfl) (by kernel_rfl) (by kernel_rfl) (by kernel_rfl) (fun _ _ _ h => h) (Or.inl ⟨by rfl, ?_⟩) (by assumption) ?_; rotate_left; (intro w hSw; (try dsimp only at hSw); go_split_ands; go_simp; (try with_reducible rfl)); (try simp only [Act.put, List.setIfInBounds_toArray, List.set_cons_zero, List.set_cons_succ]))
          (refine WG.take (i := 8) (v := ?_) rfl (by kernel_rfl) (by kernel_rfl) (by kernel_rfl) (by kernel_rfl) (fun _ _ _ h => h) (Or.inl ⟨by rfl, ?_⟩) (by assumption) ?_; rotate_left; (intro w hSw; (try dsimp only at hSw); go_split_ands; go_simp; (try with_reducible rfl)); (try simp only [Act.put, List.setIfInBounds_toArray, List.set_cons_zero, List.set_cons_succ]))
          refine WG.last (i := 9) rfl (by kernel_rfl) (by kernel_rfl) (fun K hK => ?_)
          go_simp; refine (sL11Fits _ _ _ room y x _ (RI.ext HR.out (HE.out.trans HDr.out)) (RT.ext HYN.out HDr.out) ⟨_, rfl, RI.ext HXN.out (HE.out.trans HDr.out)⟩ HLR.out HYG.out HXG.out).mono ?_; rw [hf]; rintro e6 w6 ⟨rfl, hE6⟩; have HE6 := hid (HDr.out.trans hE6); clear hE6; (try dsimp only)
          refine hK.out _ _ ?_
          clear hK K
          (try simp only [Act.put, List.setIfInBounds_toArray, List.set_cons_zero, List.set_cons_succ])
          refine WG.done (by kernel_rfl) ?_
          go_wp2
          go_roundw
          case rel => exact ⟨k + 1, by omega, by go_num, hid (by rw [HF.out, HS.out, hf]; rfl), hid (HE.out.trans HE6.out)⟩
          case measure => simp [intOf]; omega
        | true =>
          obtain ⟨oo, hoo⟩ : ∃ oo, oo = tryL room most xs (putL bs (k : Int) x) := ⟨_, rfl⟩
          have HOO := hid hoo
          clear hoo
          go_wp2
          refine WG.start (fun w' => w'.cell? ⟨bt, ot + at' * 2, none⟩ = some (.int .i64 x.id) ∧ w'.cell? ⟨bt, ot + at' * 2 + 1, none⟩ = some (.slice Ax x.need.length cx) ∧ w'.cell? ⟨b, o + k, none⟩ = some (.slice Ay y.length cy)) [9] (by kernel_rfl) (by exact KC.out _ HDr.out) (fun hHeld => ?_)
          obtain ⟨pz, hpz⟩ : ∃ x, x = wr.drew := ⟨_, rfl⟩
          rw [← hpz] at hHeld HDr ⊢
          clear hpz
          (refine WG.take (i := 0) (v := ?_) rfl (by kernel_rfl) (by kernel_rfl) (by kernel_rfl) (by kernel_rfl) (fun _ _ _ h => h) (Or.inl ⟨by rfl, ?_⟩) (by assumption) ?_; rotate_left; (intro w hSw; (try dsimp only at hSw); go_split_ands; go_simp; (try with_reducible rfl)); (try simp only [Act.put, List.setIfInBounds_toArray, List.set_cons_zero, List.set_cons_succ]))
          (refine WG.take (i := 1) (v := ?_) rfl (by kernel_rfl) (by kernel_rfl) (by kernel_rfl) (by kernel_rfl) (fun _ _ _ h => h) (Or.inl ⟨by rfl, ?_⟩) (by assumption) ?_; rotate_left; (intro w hSw; (try dsimp only at hSw); go_split_ands; go_simp; (try with_reducible rfl)); (try simp only [Act.put, List.setIfInBounds_toArray, List.set_cons_zero, List.set_cons_succ]))
          (refine WG.take (i := 2) (v := ?_) rfl (by kernel_rfl) (by kernel_rfl) (by kernel_rfl) (by kernel_rfl) (fun _ _ _ h => h) (Or.inl ⟨by rfl, ?_⟩) (by assumption) ?_; rotate_left; (intro w hSw; (try dsimp only at hSw); go_split_ands; go_simp; (try with_reducible rfl)); (try simp only [Act.put, List.setIfInBounds_toArray, List.set_cons_zero, List.set_cons_succ]))
          (refine WG.take (i := 3) (v := ?_) rfl (by kernel_rfl) (by kernel_rfl) (by kernel_rfl) (by kernel_rfl) (fun _ _ _ h => h) (Or.inl ⟨by rfl, ?_⟩) (by assumption) ?_; rotate_left; (intro w hSw; (try dsimp only at hSw); go_split_ands; go_simp; (try with_reducible rfl)); (try simp only [Act.put, List.setIfInBounds_toArray, List.set_cons_zero, List.set_cons_succ]))
          (refine WG.take (i := 4) (v := ?_) rfl (by kernel_rfl) (by kernel_rfl) (by kernel_rfl) (by kernel_rfl) (fun _ _ _ h => h) (Or.inl ⟨by rfl, ?_⟩) (by assumption) ?_; rotate_left; (intro w hSw; (try dsimp only at hSw); go_split_ands; go_simp; (try with_reducible rfl)); (try simp only [Act.put, List.setIfInBounds_toArray, List.set_cons_zero, List.set_cons_succ]))
          (refine WG.take (i := 5) (v := ?_) rfl (by kernel_rfl) (by kernel_rfl) (by kernel_rfl) (by kernel_rfl) (fun _ _ _ h => h) (Or.inl ⟨by rfl, ?_⟩) (by assumption) ?_; rotate_left; (intro w hSw; (try dsimp only at hSw); go_split_ands; go_simp; (try with_reducible rfl)); (try simp only [Act.put, List.setIfInBounds_toArray, List.set_cons_zero, List.set_cons_succ]))
          (refine WG.take (i := 6) (v := ?_) rfl (by kernel_rfl) (by kernel_rfl) (by kernel_rfl) (by kernel_rfl) (fun _ _ _ h => h) (Or.inl ⟨by rfl, ?_⟩) (by assumption) ?_; rotate_left; (intro w hSw; (try dsimp only at hSw); go_split_ands; go_simp; (try with_reducible rfl)); (try simp only [Act.put, List.setIfInBounds_toArray, List.set_cons_zero, List.set_cons_succ]))
          (refine WG.take (i := 7) (v := ?_) rfl (by kernel_rfl) (by kernel_rfl) (by kernel_rfl) (by kernel_rfl) (fun _ _ _ h => h) (Or.inl ⟨by rfl, ?_⟩) (by assumption) ?_; rotate_left; (intro w hSw; (try dsimp only at hSw); go_split_ands; go_simp; (try with_reducible rfl)); (try simp only [Act.put, List.setIfInBounds_toArray, List.set_cons_zero, List.set_cons_succ]))
          (refine WG.take (i := 8) (v := ?_) rfl (by kernel_rfl) (by kernel_rfl) (by kernel_rfl) (by kernel_rfl) (fun _ _ _ h => h) (Or.inl ⟨by rfl, ?_⟩) (by assumption) ?_; rotate_left; (intro w hSw; (try dsimp only at hSw); go_split_ands; go_simp; (try with_reducible rfl)); (try simp only [Act.put, List.setIfInBounds_toArray, List.set_cons_zero, List.set_cons_succ]))
          refine WG.last (i := 9) rfl (by kernel_rfl) (by kernel_rfl) (fun K hK => ?_)
          go_simp; refine (sL11Fits _ _ _ room y x _ (RI.ext HR.out (HE.out.trans HDr.out)) (RT.ext HYN.out HDr.out) ⟨_, rfl, RI.ext HXN.out (HE.out.trans HDr.out)⟩ HLR.out HYG.out HXG.out).mono ?_; rw [hf]; rintro e6 w6 ⟨rfl, hE6⟩; have HE6 := hid (HDr.out.trans hE6); clear hE6; (try dsimp only)
          refine hK.out _ _ ?_
          clear hK K
          (try simp only [Act.put, List.setIfInBounds_toArray, List.set_cons_zero, List.set_cons_succ])
          refine WG.done (by kernel_rfl) ?_
          obtain ⟨q0, q1, q2⟩ := KC.out _ HE6.out
          clear hHeld
          cases ho : oo with
          | some r =>
            go_wp2_with (first
              | (go_at_call 60; refine (sPut _ _ room bs (k : Int) x _ (RB.ext HB.out (HE.out.trans HE6.out)) ⟨_, rfl, RI.ext HXN.out (HE.out.trans HE6.out)⟩ (.inr ⟨k, y, rfl, ey.out, hf⟩) HBR.out.1 HBR.out.2 (by have := HXG.out.1; omega)).mono ?_; rintro e7 w7 ⟨v7, rfl, hB7, hE7⟩; have HB7 := hid hB7; have HE7 := hid (HE6.out.trans hE7); clear hB7 hE7)
              | (go_at_call 31; rw [← hw1]; refine (IH.out (putL bs (k : Int) x) _ _ (RI.ext HR.out (HE.out.trans HE7.out)) HB7.out (RT.ext HT.out (HE.out.trans HE7.out)) (HH.out.put HX.out ey.out)).mono ?_; rw [← HOO.out, ho]; rintro e8 w8 ⟨v8, rfl, hB8, hE8⟩; have HB8 := hid hB8; have HE8 := hid (HE7.out.trans hE8); clear hB8 hE8))
            refine bodyPost_ret (results_tmp2 rfl _ _ _) rfl ?_
            have hres : tryL room most (x :: xs) bs = some r := by rw [tryFrom_zero, HF.out, HS.out, hf]; simp only [if_true]; rw [← HOO.out, ho]
            rw [hres]
            exact ⟨_, rfl, HB8.out, HE.out.trans HE8.out⟩
          | none =>
            go_wp2_with (first
              | (go_at_call 60; refine (sPut _ _ room bs (k : Int) x _ (RB.ext HB.out (HE.out.trans HE6.out)) ⟨_, rfl, RI.ext HXN.out (HE.out.trans HE6.out)⟩ (.inr ⟨k, y, rfl, ey.out, hf⟩) HBR.out.1 HBR.out.2 (by have := HXG.out.1; omega)).mono ?_; rintro e7 w7 ⟨v7, rfl, hB7, hE7⟩; have HB7 := hid hB7; have HE7 := hid (HE6.out.trans hE7); clear hB7 hE7)
              | (go_at_call 31; rw [← hw1]; refine (IH.out (putL bs (k : Int) x) _ _ (RI.ext HR.out (HE.out.trans HE7.out)) HB7.out (RT.ext HT.out (HE.out.trans HE7.out)) (HH.out.put HX.out ey.out)).mono ?_; rw [← HOO.out, ho]; rintro e8 w8 ⟨v8, rfl, hE8⟩; have HE8 := hid (HE7.out.trans hE8); clear hE8))
            go_roundw
            case rel => exact ⟨k + 1, by omega, by go_num, hid (by rw [HF.out, HS.out, hf]; simp only [if_true]; rw [← HOO.out, ho]), hid (HE.out.trans HE8.out)⟩
            case measure => simp [intOf]; omega
      · have hk' : k = bs.length := by omega
        have HN : Hid (tryFrom room most x xs bs 0 = none) := hid (by rw [HF.out, hk', tryFrom_end])
        obtain ⟨q0, q1⟩ := KX.out _ HE.out
        have hge : ¬ (k : Int) < (bs.length : Int) := by omega
        clear hk'
        by_cases hm : bs.length < most
        · have i2 : (bs.length : Int) < (most : Int) := by omega
          have hres : Hid (tryL room most (x :: xs) bs = tryL room most xs (putL bs (-1) x)) := hid (by rw [tryFrom_zero, HN.out]; exact if_pos hm)
          obtain ⟨oo, hoo⟩ : ∃ oo, oo = tryL room most xs (putL bs (-1) x) := ⟨_, rfl⟩
          have HOO := hid hoo
          clear hoo hm
          cases ho : oo with
          | some r =>
            go_wp2_with (first
              | (go_at_call 60; refine (sPut _ _ room bs (-1) x _ (RB.ext HB.out HE.out) ⟨_, rfl, RI.ext HXN.out HE.out⟩ (.inl (by omega)) HBR.out.1 HBR.out.2 (by have := HXG.out.1; omega)).mono ?_; rintro e7 w7 ⟨v7, rfl, hB7, hE7⟩; have HB7 := hid hB7; have HE7 := hid (HE.out.trans hE7); clear hB7 hE7)
              | (go_at_call 31; rw [← hw1]; refine (IH.out (putL bs (-1) x) _ _ (RI.ext HR.out HE7.out) HB7.out (RT.ext HT.out HE7.out) (HH.out.new HX.out)).mono ?_; rw [← HOO.out, ho]; rintro e8 w8 ⟨v8, rfl, hB8, hE8⟩; have HB8 := hid hB8; have HE8 := hid (HE7.out.trans hE8); clear hB8 hE8))
            refine bodyPost_ret (results_tmp2 rfl _ _ _) rfl ?_
            rw [show tryL room most (x :: xs) bs = some r by rw [hres.out, ← HOO.out, ho]]
            exact ⟨_, rfl, HB8.out, HE8.out⟩
          | none =>
            go_wp2_with (first
              | (go_at_call 60; refine (sPut _ _ room bs (-1) x _ (RB.ext HB.out HE.out) ⟨_, rfl, RI.ext HXN.out HE.out⟩ (.inl (by omega)) HBR.out.1 HBR.out.2 (by have := HXG.out.1; omega)).mono ?_; rintro e7 w7 ⟨v7, rfl, hB7, hE7⟩; have HB7 := hid hB7; have HE7 := hid (HE.out.trans hE7); clear hB7 hE7)
              | (go_at_call 31; rw [← hw1]; refine (IH.out (putL bs (-1) x) _ _ (RI.ext HR.out HE7.out) HB7.out (RT.ext HT.out HE7.out) (HH.out.new HX.out)).mono ?_; rw [← HOO.out, ho]; rintro e8 w8 ⟨v8, rfl, hE8⟩; have HE8 := hid (HE7.out.trans hE8); clear hE8))
            refine bodyPost_ret (results_tmp2 rfl _ _ _) rfl ?_
            rw [show tryL room most (x :: xs) bs = none by rw [hres.out, ← HOO.out, ho]]
            exact ⟨_, rfl, HE8.out⟩
        · have i2 : ¬ (bs.length : Int) < (most : Int) := by omega
          have hres : Hid (tryL room most (x :: xs) bs = none) := hid (by rw [tryFrom_zero, HN.out]; exact if_neg hm)
          clear hm
          go_wp2
          refine bodyPost_ret (results_tmp2 rfl _ _ _) rfl ?_
          rw [hres.out]
          exact ⟨_, rfl, HE.out.trans (Ext.alloc _ _)⟩

end Go.Proofs.YtllchacophapoaaDoor

/- The reference's LeastAll and LeastCount. -/
namespace Go.Proofs.YtllchacophapoaaDoor
open Go.RowKit
set_option maxRecDepth 4000

theorem leastOk_iff {room : List Int} {ts : List TaskD} (h : leastOkB room ts = true) : tasksOk room ts = true ∧ ts.length ≤ 7 := by simpa [leastOkB] using h

theorem sOk14 (rv tv : Value) (room : List Int) (ts : List TaskD) (w : World) (hR : RI w rv room) (h : RT w tv ts) :
    Calls Tryd.prog 30 #[rv, tv] w (RetB w (leastOkB room ts)) := by
  have HR := hid hR
  have HT := hid h
  obtain ⟨Ar, cr, rfl, _⟩ := hR
  obtain ⟨At, ct, rfl, _⟩ := RT.get h
  clear h
  cases hq : tasksOk room ts with
  | true =>
    have HRS : Hid (leastOkB room ts = decide ((ts.length : Int) ≤ 7)) := hid (by unfold leastOkB; rw [hq]; simp only [Bool.true_and]; exact decide_eq_decide.2 (by omega))
    go_enter Tryd.func30, Tryd.ntmps30
    go_wp2_with (go_at_call 20; refine (sTasksValid _ _ room ts _ HR.out HT.out).mono ?_; rw [hq]; rintro e w1 ⟨rfl, n1, hw1⟩; have HE1 : Hid (Ext w w1) := hid (by rw [hw1]; exact Ext.drewN _ _); clear hw1)
    go_ret
    rw [HRS.out]; exact ⟨rfl, HE1.out⟩
  | false =>
    have HRS : Hid (leastOkB room ts = false) := hid (by unfold leastOkB; rw [hq]; rfl)
    go_enter Tryd.func30, Tryd.ntmps30
    go_wp2_with (go_at_call 20; refine (sTasksValid _ _ room ts _ HR.out HT.out).mono ?_; rw [hq]; rintro e w1 ⟨rfl, n1, hw1⟩; have HE1 : Hid (Ext w w1) := hid (by rw [hw1]; exact Ext.drewN _ _); clear hw1)
    go_ret
    rw [HRS.out]; exact ⟨rfl, HE1.out⟩

theorem sTry0 (room : List Int) (ts : List TaskD) (most : Nat) (rv tv bv : Value) (w : World) (hok : tasksOk room ts = true) (hR : RI w rv room) (hB : RB w bv []) (hT : RT w tv ts) :
    Calls Tryd.prog 31 #[rv, bv, tv, .int .i64 0, .int .i64 (most : Int)] w (RetTry w (tryL room most ts [])) :=
  sTry14 room ts most hok ts.length 0 [] rv bv tv w (by omega) hR hB hT ⟨Nat.le_refl _, fun b hb => by cases hb⟩

set_option maxHeartbeats 4000000 in
theorem sLeastAll (rv tv : Value) (room : List Int) (ts : List TaskD) (w : World) (hR : RI w rv room) (h : RT w tv ts) :
    Calls Tryd.prog 7 #[rv, tv] w (RetRB w (leastAllN room ts)) := by
  have HR := hid hR
  have HT := hid h
  obtain ⟨Ar, cr, rfl, _⟩ := hR
  obtain ⟨At, ct, rfl, _⟩ := RT.get h
  clear h
  cases hq : leastOkB room ts with
  | true =>
    have HOK := hid (leastOk_iff hq).1
    have HSP := hid (least_spec (fit_of_ok (leastOk_iff hq).1))
    have HRS : Hid (leastAllN room ts = leastR room ts) := hid (by unfold leastAllN; rw [hq]; rfl)
    obtain ⟨L, hL⟩ : ∃ L, L = (leastR room ts).length := ⟨_, rfl⟩
    rw [← hL] at HSP
    have HL := hid hL
    clear hL
    go_enter Tryd.func7, Tryd.ntmps7
    go_wp2
    go_loopw [5] (fun i wr => ∃ k : Nat, k ≤ L ∧ i = .int .i64 k ∧ Hid (Ext w wr)) (fun i _ => L + 1 - (intOf i).toNat)
    case atStart => exact ⟨0, Nat.zero_le _, rfl, hid (Ext.refl _)⟩
    case round =>
      obtain ⟨k, hk, rfl, HE⟩ := hrel
      have i1 : (k : Int) ≤ (ts.length : Int) := by have := HSP.out.2.2.1; omega
      have hl7 : ts.length ≤ 7 := (leastOk_iff hq).2
      by_cases hkl : k < L
      · have HN := hid (HSP.out.2.2.2.2 k hkl)
        go_wp2_with (first
          | (go_at_call 30; refine (sOk14 _ _ room ts _ (RI.ext HR.out HE.out) (RT.ext HT.out HE.out)).mono ?_; rw [hq]; rintro e w1 ⟨rfl, hE1⟩; have HE1 := hid hE1; clear hE1)
          | (go_at_call 31; have hx := (HE.out.trans HE1.out).trans (Ext.alloc w1 (.cells #[] 28)); refine (sTry0 room ts k _ _ _ _ HOK.out (RI.ext HR.out hx) (RSl.nil_ _ _ _ _ _ _ (by omega)) (RT.ext HT.out hx)).mono ?_; rw [HN.out]; rintro e w2 ⟨v2, rfl, hE2⟩; have HE2 := hid (hx.trans hE2); clear hE2 hx))
        go_roundw
        case rel => exact ⟨k + 1, hkl, by go_num, hid HE2.out⟩
        case measure => simp [intOf]; omega
      · have hk' : k = L := by omega
        have HN : Hid (tryL room k ts [] = some (leastR room ts)) := hid (by rw [hk']; exact HSP.out.2.1)
        clear hk'
        go_wp2_with (first
          | (go_at_call 30; refine (sOk14 _ _ room ts _ (RI.ext HR.out HE.out) (RT.ext HT.out HE.out)).mono ?_; rw [hq]; rintro e w1 ⟨rfl, hE1⟩; have HE1 := hid hE1; clear hE1)
          | (go_at_call 31; have hx := (HE.out.trans HE1.out).trans (Ext.alloc w1 (.cells #[] 28)); refine (sTry0 room ts k _ _ _ _ HOK.out (RI.ext HR.out hx) (RSl.nil_ _ _ _ _ _ _ (by omega)) (RT.ext HT.out hx)).mono ?_; rw [HN.out]; rintro e w2 ⟨v2, rfl, hB2, hE2⟩; have HB2 := hid hB2; have HE2 := hid (hx.trans hE2); clear hE2 hB2 hx))
        go_ret
        exact ⟨_, rfl, by rw [HRS.out]; exact HB2.out, HE2.out⟩
  | false =>
    have HRS : Hid (leastAllN room ts = []) := hid (by unfold leastAllN; rw [hq]; rfl)
    go_enter Tryd.func7, Tryd.ntmps7
    go_wp2
    go_loopw [5] (fun i wr => i = .int .i64 0 ∧ Hid (Ext w wr)) (fun i _ => 0)
    case atStart => exact ⟨rfl, hid (Ext.refl _)⟩
    case round =>
      obtain ⟨rfl, HE⟩ := hrel
      have i1 : (0 : Int) ≤ (ts.length : Int) := by omega
      go_wp2_with (go_at_call 30; refine (sOk14 _ _ room ts _ (RI.ext HR.out HE.out) (RT.ext HT.out HE.out)).mono ?_; rw [hq]; rintro e w1 ⟨rfl, hE1⟩; have HE1 := hid (HE.out.trans hE1); clear hE1)
      go_ret
      exact ⟨_, rfl, by rw [HRS.out]; exact RSl.nil_ _ _ _ _ _ _ (by omega), HE1.out.trans (Ext.alloc _ _)⟩

theorem sLeastCount (rv tv : Value) (room : List Int) (ts : List TaskD) (w : World) (hR : RI w rv room) (h : RT w tv ts) :
    Calls Tryd.prog 26 #[rv, tv] w (RetN w (leastCountN room ts)) := by
  have HR := hid hR
  have HT := hid h
  obtain ⟨Ar, cr, rfl, _⟩ := hR
  obtain ⟨At, ct, rfl, _⟩ := RT.get h
  clear h
  cases hq : leastOkB room ts with
  | true =>
    have HRS : Hid (leastAllN room ts = leastR room ts ∧ leastCountN room ts = ((leastR room ts).length : Int)) := hid (by unfold leastAllN leastCountN; rw [hq]; exact ⟨rfl, rfl⟩)
    go_enter Tryd.func26, Tryd.ntmps26
    go_wp2_with (first
      | (go_at_call 30; refine (sOk14 _ _ room ts _ HR.out HT.out).mono ?_; rw [hq]; rintro e w1 ⟨rfl, hE1⟩; have HE1 := hid hE1; clear hE1)
      | (go_at_call 7; refine (sLeastAll _ _ room ts _ (RI.ext HR.out HE1.out) (RT.ext HT.out HE1.out)).mono ?_; rw [HRS.out.1]; rintro e w2 ⟨v2, rfl, hB2, hE2⟩; obtain ⟨A2, c2, rfl⟩ := bin_row hB2; have HE2 := hid (HE1.out.trans hE2); clear hE2 hB2))
    go_ret
    rw [HRS.out.2]; exact ⟨rfl, HE2.out⟩
  | false =>
    have HRS : Hid (leastCountN room ts = -1) := hid (by unfold leastCountN; rw [hq]; rfl)
    go_enter Tryd.func26, Tryd.ntmps26
    go_wp2_with (go_at_call 30; refine (sOk14 _ _ room ts _ HR.out HT.out).mono ?_; rw [hq]; rintro e w1 ⟨rfl, hE1⟩; have HE1 := hid hE1; clear hE1)
    go_ret
    rw [HRS.out]; exact ⟨rfl, HE1.out⟩

end Go.Proofs.YtllchacophapoaaDoor
