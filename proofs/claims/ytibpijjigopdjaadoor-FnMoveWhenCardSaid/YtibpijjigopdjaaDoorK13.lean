/- The reference's first node with room, and the next move. -/
import Derived.Test.YtibpijjigopdjaaDoorK10
namespace Go.Proofs.YtibpijjigopdjaaDoor
open Go.RowKit
set_option maxRecDepth 4000

set_option maxHeartbeats 4000000 in
theorem sAt11 (rv v xv : Value) (room : List Int) (bs : List (List TaskD)) (x : TaskD) (w : World) (hR : RI w rv room) (h : RB w v bs) (hx : TaskV w xv x) (hlr : room.length = 3) (hg : ∀ b ∈ bs, GoodTs b) (hn : x.need.length = 3 ∧ Bd 1000 x.need) :
    Calls Tryd.prog 87 #[rv, v, xv] w (RetN w (firstAt room bs x)) := by
  have HR0 := hid hR
  have HB0 := hid h
  obtain ⟨Ar, cr, rfl, _⟩ := hR
  obtain ⟨A, c, rfl, hc, hc', hr⟩ := RB.get h
  have HXV := hid hx
  obtain ⟨nv, rfl, hnv⟩ := hx
  obtain ⟨An, cn, rfl, _⟩ := hnv
  obtain ⟨W, hW⟩ : ∃ W, W = w.alloc (.cells #[.int .i64 x.id, .slice An x.need.length cn] 44) := ⟨_, rfl⟩
  have hEW : Ext w W := by rw [hW]; exact Ext.alloc _ _
  have hbx : W.heap[w.heap.size]? = some (.cells #[.int .i64 x.id, .slice An x.need.length cn] 44 (0, 0)) := by rw [hW]; exact heap_alloc_new _ _
  have KB : Hid (∀ w', Ext W w' → w'.cell? ⟨w.heap.size, 0, none⟩ = some (.int .i64 x.id) ∧ w'.cell? ⟨w.heap.size, 1, none⟩ = some (.slice An x.need.length cn)) := hid fun w' hw => ⟨obj_cell (hw.obj hbx) (i := 0) rfl, obj_cell (hw.obj hbx) (i := 1) rfl⟩
  have HEW := hid hEW
  have HG := hid hr
  have HGD := hid hg
  have HN := hid hn
  have HLR := hid hlr
  clear hbx hEW h hr hg hn hlr
  go_enter Tryd.func87, Tryd.ntmps87
  go_wp2
  rw [← hW]
  clear hW
  go_loopw [7] (fun i wr => ∃ k : Nat, k ≤ bs.length ∧ i = .int .i64 k ∧ Hid ((∀ (j : Nat) c, j < k → bs[j]? = some c → l11fits room c x = false) ∧ Ext W wr)) (fun i _ => bs.length - (intOf i).toNat)
  case atStart => exact ⟨0, Nat.zero_le _, rfl, hid ⟨fun j c hj => absurd hj (by omega), Ext.refl _⟩⟩
  case round =>
    obtain ⟨k, hk, rfl, H⟩ := hrel
    by_cases hlt : k < bs.length
    · obtain ⟨b, o, d, Ad, cd, rfl, e, c1, hd⟩ := HG.out k hlt
      have i1 : (k : Int) < (bs.length : Int) := by omega
      have i0 : (0 : Int) ≤ (k : Int) := by omega
      have HE := hid H.out.2
      have KS : Hid (∀ w', Ext wr w' → w'.cell? ⟨b, o + k, none⟩ = some (.slice Ad d.length cd) ∧ w'.cell? ⟨w.heap.size, 0, none⟩ = some (.int .i64 x.id) ∧ w'.cell? ⟨w.heap.size, 1, none⟩ = some (.slice An x.need.length cn)) :=
        hid fun w' hw => ⟨(HEW.out.trans (HE.out.trans hw)).cell c1, (KB.out _ (HE.out.trans hw)).1, (KB.out _ (HE.out.trans hw)).2⟩
      have HD : Hid (Ext wr wr.drew) := hid (Below.drew (Below.refl _ _))
      have HDD := hid hd
      have HGO := hid (HGD.out d (List.mem_of_getElem? e.out))
      clear c1 hd
      go_wp2
      refine WG.start (fun w' => w'.cell? ⟨b, o + k, none⟩ = some (.slice Ad d.length cd) ∧ w'.cell? ⟨w.heap.size, 0, none⟩ = some (.int .i64 x.id) ∧ w'.cell? ⟨w.heap.size, 1, none⟩ = some (.slice An x.need.length cn)) [6] (by kernel_rfl) (by exact KS.out _ HD.out) (fun hHeld => ?_)
      (refine WG.take (i := 0) (v := ?_) rfl (by kernel_rfl) (by kernel_rfl) (by kernel_rfl) (by kernel_rfl) (fun _ _ _ h => h) (Or.inl ⟨by rfl, ?_⟩) (by assumption) ?_; rotate_left; (intro w hSw; (try dsimp only at hSw); go_split_ands; go_simp; (try with_reducible rfl)); (try simp only [Act.put, List.setIfInBounds_toArray, List.set_cons_zero, List.set_cons_succ]))
      (refine WG.take (i := 1) (v := ?_) rfl (by kernel_rfl) (by kernel_rfl) (by kernel_rfl) (by kernel_rfl) (fun _ _ _ h => h) (Or.inl ⟨by rfl, ?_⟩) (by assumption) ?_; rotate_left; (intro w hSw; (try dsimp only at hSw); go_split_ands; go_simp; (try with_reducible rfl)); (try simp only [Act.put, List.setIfInBounds_toArray, List.set_cons_zero, List.set_cons_succ]))
      (refine WG.take (i := 2) (v := ?_) rfl (by kernel_rfl) (by kernel_rfl) (by kernel_rfl) (by kernel_rfl) (fun _ _ _ h => h) (Or.inl ⟨by rfl, ?_⟩) (by assumption) ?_; rotate_left; (intro w hSw; (try dsimp only at hSw); go_split_ands; go_simp; (try with_reducible rfl)); (try simp only [Act.put, List.setIfInBounds_toArray, List.set_cons_zero, List.set_cons_succ]))
      (refine WG.take (i := 3) (v := ?_) rfl (by kernel_rfl) (by kernel_rfl) (by kernel_rfl) (by kernel_rfl) (fun _ _ _ h => h) (Or.inl ⟨by rfl, ?_⟩) (by assumption) ?_; rotate_left; (intro w hSw; (try dsimp only at hSw); go_split_ands; go_simp; (try with_reducible rfl)); (try simp only [Act.put, List.setIfInBounds_toArray, List.set_cons_zero, List.set_cons_succ]))
      (refine WG.take (i := 4) (v := ?_) rfl (by kernel_rfl) (by kernel_rfl) (by kernel_rfl) (by kernel_rfl) (fun _ _ _ h => h) (Or.inl ⟨by rfl, ?_⟩) (by assumption) ?_; rotate_left; (intro w hSw; (try dsimp only at hSw); go_split_ands; go_simp; (try with_reducible rfl)); (try simp only [Act.put, List.setIfInBounds_toArray, List.set_cons_zero, List.set_cons_succ]))
      (refine WG.take (i := 5) (v := ?_) rfl (by kernel_rfl) (by kernel_rfl) (by kernel_rfl) (by kernel_rfl) (fun _ _ _ h => h) (Or.inl ⟨by rfl, ?_⟩) (by assumption) ?_; rotate_left; (intro w hSw; (try dsimp only at hSw); go_split_ands; go_simp; (try with_reducible rfl)); (try simp only [Act.put, List.setIfInBounds_toArray, List.set_cons_zero, List.set_cons_succ]))
      refine WG.last (i := 6) rfl (by kernel_rfl) (by kernel_rfl) (fun K hK => ?_)
      go_simp; refine (sL11Fits _ _ _ room d x _ (RI.ext HR0.out (HEW.out.trans (HE.out.trans HD.out))) (RT.ext HDD.out (HEW.out.trans (HE.out.trans HD.out))) (HXV.out.ext (HEW.out.trans (HE.out.trans HD.out))) HLR.out HGO.out HN.out).mono ?_; rintro e5 w5 ⟨rfl, hE5⟩; have HE5 := hid (HD.out.trans hE5); clear hE5; (try dsimp only)
      refine hK.out _ _ ?_
      clear hK K
      (try simp only [Act.put, List.setIfInBounds_toArray, List.set_cons_zero, List.set_cons_succ])
      refine WG.done (by kernel_rfl) ?_
      by_cases hf : l11fits room d x = true
      · rw [hf]
        go_wp2
        go_ret
        exact ⟨ret_i (firstAt_hit e.out hf H.out.1).symm, HEW.out.trans (HE.out.trans HE5.out)⟩
      · have hf : l11fits room d x = false := by simpa using hf
        rw [hf]
        go_wp2
        go_roundw
        case rel =>
          refine ⟨k + 1, by omega, by go_num, hid ⟨fun j c hj hc => ?_, HE.out.trans HE5.out⟩⟩
          by_cases hjk : j = k
          · subst hjk
            have := e.out
            rw [hc] at this
            injection this with this
            rw [this]; exact hf
          · exact H.out.1 j c (by omega) hc
        case measure => simp [intOf]; omega
    · go_wp2
      go_ret
      have hk' : k = bs.length := by omega
      subst hk'
      exact ⟨ret_i (firstAt_miss fun j c hj => H.out.1 j c (List.getElem?_eq_some_iff.1 hj).1 hj).symm, HEW.out.trans H.out.2⟩

/-- the next move out of the first n nodes -/
def nextTo (room : List Int) (bs : List (List TaskD)) (n : Nat) : Option MoveD := ((List.range n).reverse.flatMap fun i => (bs.getD i []).map fun t => (t, i)).findSome? (tryOne room bs)
theorem nextTo_all (room : List Int) (bs : List (List TaskD)) : nextTo room bs bs.length = nextMv room bs := rfl
theorem nextTo_succ (room : List Int) (bs : List (List TaskD)) (n : Nat) : nextTo room bs (n + 1) = (((bs.getD n []).map fun t => (t, n)).findSome? (tryOne room bs)).or (nextTo room bs n) := by
  unfold nextTo
  rw [List.range_succ, List.reverse_append, List.reverse_singleton, List.singleton_append, List.flatMap_cons, List.findSome?_append]
theorem nextTo_zero (room : List Int) (bs : List (List TaskD)) : nextTo room bs 0 = none := rfl
theorem tryOne_zero (room : List Int) (bs : List (List TaskD)) (t : TaskD) : tryOne room bs (t, 0) = none := by
  unfold tryOne
  rw [if_neg]
  show ¬ 0 ≤ firstAt room (bs.take 0) t
  rw [List.take_zero]
  unfold firstAt
  simp
theorem nextTo_one (room : List Int) (bs : List (List TaskD)) : nextTo room bs 1 = none := by
  rw [nextTo_succ, nextTo_zero, Option.or_none, List.findSome?_eq_none_iff]
  intro p hp
  obtain ⟨t, _, rfl⟩ := List.mem_map.1 hp
  exact tryOne_zero room bs t
theorem row_none {room : List Int} {bs : List (List TaskD)} {n : Nat} {b : List TaskD} (hb : bs[n]? = some b) (h : ∀ (j : Nat) t, b[j]? = some t → firstAt room (bs.take n) t < 0) : nextTo room bs (n + 1) = nextTo room bs n := by
  rw [nextTo_succ, List.getD_eq_getElem?_getD, hb]
  have : ((b.map fun t => (t, n)).findSome? (tryOne room bs)) = none := by
    rw [List.findSome?_eq_none_iff]
    intro p hp
    obtain ⟨t, ht, rfl⟩ := List.mem_map.1 hp
    obtain ⟨j, hj⟩ := List.getElem?_of_mem ht
    unfold tryOne
    rw [if_neg (by have := h j t hj; show ¬ 0 ≤ firstAt room (bs.take n) t; omega)]
  show (((b.map fun t => (t, n)).findSome? (tryOne room bs)).or _) = _
  rw [this]
  rfl
theorem row_hit {room : List Int} {bs : List (List TaskD)} {n k : Nat} {b : List TaskD} {x : TaskD} (hb : bs[n]? = some b) (hx : b[k]? = some x) (h : ∀ (j : Nat) t, j < k → b[j]? = some t → firstAt room (bs.take n) t < 0) (h0 : 0 ≤ firstAt room (bs.take n) x) : nextTo room bs (n + 1) = some ⟨x.id, firstAt room (bs.take n) x⟩ := by
  rw [nextTo_succ, List.getD_eq_getElem?_getD, hb]
  have hk := (List.getElem?_eq_some_iff.1 hx).1
  have : ((b.map fun t => (t, n)).findSome? (tryOne room bs)) = some ⟨x.id, firstAt room (bs.take n) x⟩ := by
    have e : b = b.take k ++ x :: b.drop (k + 1) := by
      have h2 := (List.getElem?_eq_some_iff.1 hx).2
      rw [← h2, ← List.drop_eq_getElem_cons hk, List.take_append_drop]
    have e1 : ((b.take k).map fun t => (t, n)).findSome? (tryOne room bs) = none := by
      rw [List.findSome?_eq_none_iff]
      intro p hp
      obtain ⟨t, ht, rfl⟩ := List.mem_map.1 hp
      obtain ⟨j, hj⟩ := List.getElem?_of_mem ht
      rw [List.getElem?_take] at hj
      split at hj
      · rename_i hjk
        unfold tryOne
        rw [if_neg (by have := h j t hjk hj; show ¬ 0 ≤ firstAt room (bs.take n) t; omega)]
      · cases hj
    rw [e, List.map_append, List.findSome?_append, e1]
    show (List.findSome? (tryOne room bs) ((x, n) :: _)) = _
    rw [List.findSome?_cons]
    unfold tryOne
    simp only
    rw [if_pos h0]
  show (((b.map fun t => (t, n)).findSome? (tryOne room bs)).or _) = _
  rw [this]
  rfl

end Go.Proofs.YtibpijjigopdjaaDoor

/- The reference's next move; a plan. -/
namespace Go.Proofs.YtibpijjigopdjaaDoor
open Go.RowKit
set_option maxRecDepth 4000

/-- a move and whether there is one -/
def nxV : Option MoveD → Value
  | some m => .tuple #[.agg #[.int .i64 m.id, .int .i64 m.to], .bool true]
  | none => .tuple #[.agg #[.int .i64 0, .int .i64 0], .bool false]
def RetNx (w : World) (o : Option MoveD) (e : Ending) (w' : World) : Prop := e = .returned (nxV o) ∧ Ext w w'
theorem RB.head {w : World} {A : Option Addr} {n c : Nat} {xs : List (List TaskD)} (h : RB w (.slice A n c) xs) {k : Nat} (hk : k ≤ xs.length) : RB w (.slice A k c) (xs.take k) := RSl.head_ h hk

set_option maxHeartbeats 8000000 in
theorem sNext16 (rv v : Value) (room : List Int) (bs : List (List TaskD)) (w : World) (hR : RI w rv room) (h : RB w v bs) (hv : binsOk room bs = true) :
    Calls Tryd.prog 56 #[rv, v] w (RetNx w (nextMv room bs)) := by
  have HR0 := hid hR
  have HB0 := hid h
  obtain ⟨Ar, cr, rfl, _⟩ := hR
  obtain ⟨A, c, rfl, hc, hc', hr⟩ := RB.get h
  have HG := hid hr
  have HV := hid hv
  have HS := hid (bins_small hv)
  obtain ⟨W, hW⟩ : ∃ W, W = w.alloc (.cells #[.int .i64 0, .int .i64 0] 32) := ⟨_, rfl⟩
  have hEW : Ext w W := by rw [hW]; exact Ext.alloc _ _
  have hbx : W.heap[w.heap.size]? = some (.cells #[.int .i64 0, .int .i64 0] 32 (0, 0)) := by rw [hW]; exact heap_alloc_new _ _
  have HBX := hid hbx
  have HEW := hid hEW
  have hl14 : bs.length ≤ 14 := (bins_small hv).2.1
  clear hbx hEW h hr hv
  go_enter Tryd.func56, Tryd.ntmps56
  go_wp2
  rw [← hW]
  clear hW
  go_loopw [6] (fun i wr => ∃ n : Nat, n ≤ bs.length ∧ i = .int .i64 ((n : Int) - 1) ∧ Hid (nextMv room bs = nextTo room bs n ∧ Ext W wr)) (fun i _ => (intOf i).toNat)
  case atStart => exact ⟨bs.length, Nat.le_refl _, rfl, hid ⟨(nextTo_all room bs).symm, Ext.refl _⟩⟩
  case round =>
    obtain ⟨n1, hn1, rfl, H⟩ := hrel
    by_cases h2 : 2 ≤ n1
    · obtain ⟨n, rfl⟩ : ∃ n, n1 = n + 1 := ⟨n1 - 1, by omega⟩
      have e1 : ((n + 1 : Nat) : Int) - 1 = (n : Int) := by omega
      have hn0 : 0 < n := by omega
      have hnl : n < bs.length := by omega
      rw [e1]
      clear e1 h2
      obtain ⟨b, o, d, Ad, cd, rfl, e, c1, hd⟩ := HG.out n hnl
      have i1 : (n : Int) < (bs.length : Int) := by omega
      have i0 : (0 : Int) ≤ (n : Int) := by omega
      have ip : (0 : Int) < (n : Int) := by omega
      have HDD := hid hd
      have HC1 := hid c1
      have HDL : Hid (d.length ≤ 900) := hid ((HS.out.2.2.2 d (List.mem_of_getElem? e.out)).2.1)
      have hdl : d.length ≤ 900 := HDL.out
      obtain ⟨A', c', hv', hdc, hdc', hgt⟩ := RT.get hd
      injection hv' with e1 _ e3
      subst e1 e3
      have HGT := hid hgt
      have HNX := hid H.out.1
      have HE := hid H.out.2
      have HTK : Hid ((bs.take n).length = n) := hid (by rw [List.length_take]; omega)
      have icap : (n : Int) ≤ (c : Int) := by omega
      have HHD := hid (RB.head HB0.out (k := n) (by omega))
      clear c1 hd hgt H
      go_wp2
      go_loopw [7] (fun i w2 => ∃ k : Nat, k ≤ d.length ∧ i = .int .i64 k ∧ Hid ((∀ (j : Nat) t, j < k → d[j]? = some t → firstAt room (bs.take n) t < 0) ∧ Ext W w2)) (fun i _ => d.length - (intOf i).toNat)
      case atStart => exact ⟨0, Nat.zero_le _, rfl, hid ⟨fun j t hj => absurd hj (by omega), HE.out⟩⟩
      case round =>
        obtain ⟨k, hk, rfl, H⟩ := hrel
        have HE2 := hid H.out.2
        have HN2 := hid H.out.1
        have c1r := (HEW.out.trans HE2.out).cell HC1.out
        by_cases hkt : k < d.length
        · obtain ⟨b2, o2, x, Ax, cx, rfl, e2, d1, d2, hxr⟩ := HGT.out k hkt
          have k1 : (k : Int) < (d.length : Int) := by omega
          have k0 : (0 : Int) ≤ (k : Int) := by omega
          have KS : Hid (∀ w', Ext wr w' → w'.cell? ⟨b, o + n, none⟩ = some (.slice (some ⟨b2, o2, none⟩) d.length cd) ∧ w'.cell? ⟨b2, o2 + k * 2, none⟩ = some (.int .i64 x.id) ∧ w'.cell? ⟨b2, o2 + k * 2 + 1, none⟩ = some (.slice Ax x.need.length cx)) :=
            hid fun w' hw => ⟨(HEW.out.trans (HE2.out.trans hw)).cell HC1.out, (HEW.out.trans (HE2.out.trans hw)).cell d1, (HEW.out.trans (HE2.out.trans hw)).cell d2⟩
          have HD : Hid (Ext wr wr.drew) := hid (Below.drew (Below.refl _ _))
          have HXR := hid hxr
          have HXG := hid ((HS.out.2.2.2 d (List.mem_of_getElem? e.out)).2.2 x (List.mem_of_getElem? e2.out))
          have HGB : Hid (∀ q ∈ bs.take n, GoodTs q) := hid (fun q hq => (HS.out.2.2.2 q (List.mem_of_mem_take hq)).1)
          clear d1 d2 hxr H
          obtain ⟨fa, hfa⟩ : ∃ fa, firstAt room (bs.take n) x = fa := ⟨_, rfl⟩
          have hfg : -1 ≤ fa := by rw [← hfa]; exact firstAt_ge _ _ _
          have HFA := hid hfa
          clear hfa
          go_wp2
          refine WG.start (fun w' => w'.cell? ⟨b, o + n, none⟩ = some (.slice (some ⟨b2, o2, none⟩) d.length cd) ∧ w'.cell? ⟨b2, o2 + k * 2, none⟩ = some (.int .i64 x.id) ∧ w'.cell? ⟨b2, o2 + k * 2 + 1, none⟩ = some (.slice Ax x.need.length cx)) [11,12] (by kernel_rfl) (by exact KS.out _ HD.out) (fun hHeld => ?_)
          (refine WG.take (i := 0) (v := ?_) rfl (by kernel_rfl) (by kernel_rfl) (by kernel_rfl) (by kernel_rfl) (fun _ _ _ h => h) (Or.inl ⟨by rfl, ?_⟩) (by assumption) ?_; rotate_left; (intro w hSw; (try dsimp only at hSw); go_split_ands; go_simp; (try with_reducible rfl)); (try simp only [Act.put, List.setIfInBounds_toArray, List.set_cons_zero, List.set_cons_succ]))
          (refine WG.take (i := 1) (v := ?_) rfl (by kernel_rfl) (by kernel_rfl) (by kernel_rfl) (by kernel_rfl) (fun _ _ _ h => h) (Or.inl ⟨by rfl, ?_⟩) (by assumption) ?_; rotate_left; (intro w hSw; (try dsimp only at hSw); go_split_ands; go_simp; (try with_reducible rfl)); (try simp only [Act.put, List.setIfInBounds_toArray, List.set_cons_zero, List.set_cons_succ]))
          (refine WG.take (i := 2) (v := ?_) rfl (by kernel_rfl) (by kernel_rfl) (by kernel_rfl) (by kernel_rfl) (fun _ _ _ h => h) (Or.inl ⟨by rfl, ?_⟩) (by assumption) ?_; rotate_left; (intro w hSw; (try dsimp only at hSw); go_split_ands; go_simp; (try with_reducible rfl)); (try simp only [Act.put, List.setIfInBounds_toArray, List.set_cons_zero, List.set_cons_succ]))
          (refine WG.take (i := 3) (v := ?_) rfl (by kernel_rfl) (by kernel_rfl) (by kernel_rfl) (by kernel_rfl) (fun _ _ _ h => h) (Or.inl ⟨by rfl, ?_⟩) (by assumption) ?_; rotate_left; (intro w hSw; (try dsimp only at hSw); go_split_ands; go_simp; (try with_reducible rfl)); (try simp only [Act.put, List.setIfInBounds_toArray, List.set_cons_zero, List.set_cons_succ]))
          (refine WG.take (i := 4) (v := ?_) rfl (by kernel_rfl) (by kernel_rfl) (by kernel_rfl) (by kernel_rfl) (fun _ _ _ h => h) (Or.inl ⟨by rfl, ?_⟩) (by assumption) ?_; rotate_left; (intro w hSw; (try dsimp only at hSw); go_split_ands; go_simp; (try with_reducible rfl)); (try simp only [Act.put, List.setIfInBounds_toArray, List.set_cons_zero, List.set_cons_succ]))
          (refine WG.take (i := 5) (v := ?_) rfl (by kernel_rfl) (by kernel_rfl) (by kernel_rfl) (by kernel_rfl) (fun _ _ _ h => h) (Or.inl ⟨by rfl, ?_⟩) (by assumption) ?_; rotate_left; (intro w hSw; (try dsimp only at hSw); go_split_ands; go_simp; (try with_reducible rfl)); (try simp only [Act.put, List.setIfInBounds_toArray, List.set_cons_zero, List.set_cons_succ]))
          (refine WG.take (i := 6) (v := ?_) rfl (by kernel_rfl) (by kernel_rfl) (by kernel_rfl) (by kernel_rfl) (fun _ _ _ h => h) (Or.inl ⟨by rfl, ?_⟩) (by assumption) ?_; rotate_left; (intro w hSw; (try dsimp only at hSw); go_split_ands; go_simp; (try with_reducible rfl)); (try simp only [Act.put, List.setIfInBounds_toArray, List.set_cons_zero, List.set_cons_succ]))
          (refine WG.take (i := 7) (v := ?_) rfl (by kernel_rfl) (by kernel_rfl) (by kernel_rfl) (by kernel_rfl) (fun _ _ _ h => h) (Or.inl ⟨by rfl, ?_⟩) (by assumption) ?_; rotate_left; (intro w hSw; (try dsimp only at hSw); go_split_ands; go_simp; (try with_reducible rfl)); (try simp only [Act.put, List.setIfInBounds_toArray, List.set_cons_zero, List.set_cons_succ]))
          (refine WG.take (i := 8) (v := ?_) rfl (by kernel_rfl) (by kernel_rfl) (by kernel_rfl) (by kernel_rfl) (fun _ _ _ h => h) (Or.inl ⟨by rfl, ?_⟩) (by assumption) ?_; rotate_left; (intro w hSw; (try dsimp only at hSw); go_split_ands; go_simp; (try with_reducible rfl)); (try simp only [Act.put, List.setIfInBounds_toArray, List.set_cons_zero, List.set_cons_succ]))
          (refine WG.take (i := 9) (v := ?_) rfl (by kernel_rfl) (by kernel_rfl) (by kernel_rfl) (by kernel_rfl) (fun _ _ _ h => h) (Or.inl ⟨by rfl, ?_⟩) (by assumption) ?_; rotate_left; (intro w hSw; (try dsimp only at hSw); go_split_ands; go_simp; (try with_reducible rfl)); (try simp only [Act.put, List.setIfInBounds_toArray, List.set_cons_zero, List.set_cons_succ]))
          (refine WG.take (i := 10) (v := ?_) rfl (by kernel_rfl) (by kernel_rfl) (by kernel_rfl) (by kernel_rfl) (fun _ _ _ h => h) (Or.inl ⟨by rfl, ?_⟩) (by assumption) ?_; rotate_left; (intro w hSw; (try dsimp only at hSw); go_split_ands; go_simp; (try with_reducible rfl)); (try simp only [Act.put, List.setIfInBounds_toArray, List.set_cons_zero, List.set_cons_succ]))
          refine WG.last (i := 11) rfl (by kernel_rfl) (by kernel_rfl) (fun K hK => ?_)
          go_simp; have HH2 := hid (RB.ext HHD.out (HEW.out.trans (HE2.out.trans HD.out))); have hq := sAt11 _ _ _ room (bs.take n) x _ (RI.ext HR0.out (HEW.out.trans (HE2.out.trans HD.out))) HH2.out ⟨_, rfl, RI.ext HXR.out (HEW.out.trans (HE2.out.trans HD.out))⟩ HS.out.1 HGB.out HXG.out; refine hq.mono ?_; clear hq; rintro e5 w5 ⟨rfl, hE5⟩; rw [HFA.out]; have HE5 := hid (HD.out.trans hE5); clear hE5; (try dsimp only)
          refine hK.out _ _ ?_
          clear hK K
          (try simp only [Act.put, List.setIfInBounds_toArray, List.set_cons_zero, List.set_cons_succ])
          refine WG.last (i := 12) rfl (by kernel_rfl) (by kernel_rfl) (fun K hK => ?_)
          go_simp
          refine hK.out _ _ ?_
          clear hK K
          (try simp only [Act.put, List.setIfInBounds_toArray, List.set_cons_zero, List.set_cons_succ])
          refine WG.done (by kernel_rfl) ?_
          obtain ⟨c1s, d1s, d2s⟩ := KS.out _ HE5.out
          by_cases hf : 0 ≤ fa
          · obtain ⟨y0, y1, y0f, y1f, k1', k1f, hkk, hsm⟩ := box2 ((HE2.out.trans HE5.out).obj HBX.out) (.int .i64 x.id) (.int .i64 fa)
            have r0 := obj_cell hkk (i := 0) rfl
            have r1 := obj_cell hkk (i := 1) rfl
            clear hkk hsm
            go_wp2
            refine bodyPost_ret (v := .tuple #[.agg #[.int .i64 x.id, .int .i64 fa], .bool true]) (by simp [results, Tryd.results56, go_sem, r0, r1]) rfl ?_
            have hh : nextMv room bs = some ⟨x.id, fa⟩ := by
              rw [HNX.out, row_hit e.out e2.out HN2.out (by rw [HFA.out]; exact hf), HFA.out]
            exact ⟨by rw [hh]; rfl, Below.setCell (Below.setCell (HEW.out.trans (HE2.out.trans HE5.out)) (Nat.le_refl _) _) (Nat.le_refl _) _⟩
          · go_wp2
            go_roundw
            case rel =>
              refine ⟨k + 1, by omega, by go_num, hid ⟨fun j t hj ht => ?_, HE2.out.trans HE5.out⟩⟩
              by_cases hjk : j = k
              · subst hjk
                have h3 := e2.out
                rw [ht] at h3
                injection h3 with h3
                rw [h3, HFA.out]
                omega
              · exact HN2.out j t (by omega) ht
            case measure => simp [intOf]; omega
        · have hk' : k = d.length := by omega
          have HK := hid hk'
          clear hk'
          go_wp2
          go_roundw
          case rel => exact ⟨n, by omega, rfl, hid ⟨by rw [HNX.out]; exact row_none e.out (fun j t ht => HN2.out j t (by rw [HK.out]; exact (List.getElem?_eq_some_iff.1 ht).1) ht), HE2.out⟩⟩
          case measure => simp [intOf]; omega
    · have hneg : ¬ (0 : Int) < (n1 : Int) - 1 := by omega
      obtain ⟨y0, y1, y0f, y1f, k1', k1f, hkk, hsm⟩ := box2 (H.out.2.obj HBX.out) (.int .i64 0) (.int .i64 0)
      have r0 := obj_cell hkk (i := 0) rfl
      have r1 := obj_cell hkk (i := 1) rfl
      have HN1 : Hid (nextMv room bs = none) := hid (by
        rw [H.out.1]
        match n1, h2 with
        | 0, _ => exact nextTo_zero _ _
        | 1, _ => exact nextTo_one _ _
        | n + 2, h2 => exact absurd (by omega) h2)
      clear hkk hsm
      go_wp2
      refine bodyPost_ret (v := .tuple #[.agg #[.int .i64 0, .int .i64 0], .bool false]) (by simp [results, Tryd.results56, go_sem, r0, r1]) rfl ?_
      exact ⟨by rw [HN1.out]; rfl, Below.setCell (Below.setCell (HEW.out.trans H.out.2) (Nat.le_refl _) _) (Nat.le_refl _) _⟩

end Go.Proofs.YtibpijjigopdjaaDoor

/- The reference's plan. -/
namespace Go.Proofs.YtibpijjigopdjaaDoor
open Go.RowKit
set_option maxRecDepth 4000

theorem plan_none {room : List Int} {bs : List (List TaskD)} (h : nextMv room bs = none) : ∀ n, plan room n bs = []
  | 0 => rfl
  | n + 1 => by unfold plan; rw [h]
theorem plan_some {room : List Int} {bs : List (List TaskD)} {m : MoveD} (h : nextMv room bs = some m) (n : Nat) : plan room (n + 1) bs = m :: plan room n (doMove bs m) := by
  show (match nextMv room bs with | none => [] | some m => m :: plan room n (doMove bs m)) = _
  rw [h]

def lenOf : Value → Nat | .slice _ n _ => n | _ => 0
theorem notMove : ∀ t, (t = 41 ∨ t = 44 ∨ t = 3) → t ≠ 32 := by rintro t (rfl | rfl | rfl) <;> decide

set_option maxHeartbeats 8000000 in
theorem sGatherPlan (rv v : Value) (room : List Int) (bs : List (List TaskD)) (most : Int) (w : World) (hR : RI w rv room) (h : RB w v bs) (hfl : bs.flatten.length ≤ 4000000) :
    Calls Tryd.prog 18 #[rv, v, .int .i64 most] w (RetRM w (gatherPlan room bs most)) := by
  have HX0 := hid (Ext.alloc w (.cells #[] 32))
  have HRW := hid hR
  have HBW := hid h
  have HR := hid (RI.ext hR HX0.out)
  have HB := hid (RB.ext h HX0.out)
  have HM0 : Hid (OM (w.alloc (.cells #[] 32)) w.heap.size (.slice (some ⟨w.heap.size, 0, none⟩) 0 0) []) := hid (Own.made #[] 0 (Nat.le_refl _) (by omega) rfl)
  obtain ⟨Ar, cr, rfl, _⟩ := hR
  obtain ⟨A, c, rfl, _⟩ := h
  by_cases h1 : binsOk room bs = true
  · have HV := hid h1
    by_cases h2 : inB most 0 20 = true
    · have hm2 : 0 ≤ most ∧ most ≤ 20 := by simpa [inB] using h2
      obtain ⟨M, rfl⟩ : ∃ M : Nat, most = (M : Int) := ⟨most.toNat, by omega⟩
      have HRS : Hid (gatherPlan room bs (M : Int) = plan room M bs) := hid (by unfold gatherPlan; rw [h1, h2]; simp)
      have hm20 : M ≤ 20 := by omega
      obtain ⟨i0_move, hi0_move, hz0_move, hz1_move, hz2_move⟩ := info_parts info_move
      clear hm2
      go_enter Tryd.func18, Tryd.ntmps18
      go_wp2_with (first
        | (go_at_call 20; refine (sBinsValid _ _ room bs _ HR.out HB.out hfl).mono ?_; rintro e w1 ⟨rfl, hE1⟩; rw [h1]; have HE1 := hid hE1; clear hE1)
        | (go_at_call 55; refine (sIn _ _ _ _).mono ?_; rintro e w2 ⟨rfl, n2, hw2⟩; rw [h2]; have HE2 := hid (show Ext _ w2 by rw [hw2]; exact HE1.out.trans (Ext.drewN _ _)); clear hw2))
      have HM2 := hid (HM0.out.ext EM.ok HE2.out)
      have HEW2 := hid (HX0.out.trans HE2.out)
      have HBN := hid (RB.ext HB.out HE2.out)
      go_loopw [7, 8] (fun o now wr => ∃ (u nv : Value) (xs : List MoveD) (cur : List (List TaskD)), u = o ∧ nv = now ∧ xs.length ≤ M ∧ Hid (OM wr w.heap.size u xs ∧ RB wr nv cur ∧ binsOk room cur = true ∧ plan room M bs = xs ++ plan room (M - xs.length) cur ∧ Ext w wr)) (fun o _ _ => M - lenOf o)
      case atStart => exact ⟨_, _, [], bs, rfl, rfl, Nat.zero_le _, hid ⟨HM2.out, HBN.out, HV.out, rfl, HEW2.out⟩⟩
      case round =>
        obtain ⟨u, nv, xs, cur, rfl, rfl, hk, H⟩ := hrel
        have HO := hid H.out.1
        have HN := hid H.out.2.1
        have HVC := hid H.out.2.2.1
        have HP := hid H.out.2.2.2.1
        have HE := hid H.out.2.2.2.2
        clear H
        obtain ⟨Au, cu, hu, _, _⟩ := HO.out.form
        subst hu
        obtain ⟨An, cn, hn, _⟩ := HN.out
        subst hn
        by_cases hlt : xs.length < M
        · have i1 : (xs.length : Int) < (M : Int) := by omega
          obtain ⟨om, hom⟩ : ∃ om, nextMv room cur = om := ⟨_, rfl⟩
          cases om with
          | none =>
            have HOM := hid hom
            clear hom
            go_wp2_with (go_at_call 56; refine (sNext16 _ _ room cur _ (RI.ext HRW.out HE.out) HN.out HVC.out).mono ?_; rw [HOM.out]; rintro e w4 ⟨rfl, hE4⟩; simp only [nxV]; have HE4 := hid hE4; clear hE4)
            go_ret
            have hr := HO.out.read
            exact ⟨_, rfl, by rw [HRS.out, HP.out, plan_none HOM.out, List.append_nil]; exact RM.ext hr (HE4.out.trans (Ext.alloc _ _)), HE.out.trans (HE4.out.trans (Ext.alloc _ _))⟩
          | some m =>
            obtain ⟨mid, mto⟩ := m
            have HOM := hid hom
            have HNP := hid (next_parts HVC.out hom)
            have HTO := hid (can_to HNP.out.1)
            have HLL : Hid (xs.length ≤ 100) := hid (by omega)
            clear hom
            go_wp2_with (first
              | (go_at_call 56; refine (sNext16 _ _ room cur _ (RI.ext HRW.out HE.out) HN.out HVC.out).mono ?_; rw [HOM.out]; rintro e w4 ⟨rfl, hE4⟩; simp only [nxV]; have HX5 := hid (heap_alloc_new w4 (.cells #[.int .i64 mid, .int .i64 mto] 32)); have HE5 := hid (hE4.trans (Ext.alloc w4 (.cells #[.int .i64 mid, .int .i64 mto] 32))); have b0 := obj_cell HX5.out (i := 0) rfl; have b1 := obj_cell HX5.out (i := 1) rfl; have HE6 := hid (HE5.out.trans (Ext.alloc (w4.alloc (.cells #[.int .i64 mid, .int .i64 mto] 32)) (.cells #[.int .i64 mid, .int .i64 mto] 32))); have HO6 := hid (HO.out.ext EM.ok HE6.out); have HX6 := hid ((Ext.alloc (w4.alloc (.cells #[.int .i64 mid, .int .i64 mto] 32)) (.cells #[.int .i64 mid, .int .i64 mto] 32)).obj HX5.out); have HRW4 : Hid (wr.heap.size ≤ w4.heap.size) := hid hE4.size; have hsz6 : w.heap.size ≤ w4.heap.size := (HE.out.trans hE4).size; clear hE4)
              | (at_builtin; refine wpList_append_sl _ (by rfl) _ _ 27 (by rfl) EM.ok EM.flat (w.heap.size) 32 EM.ne i0_move _ 2 16 Tryd.underlying27 hi0_move hz0_move hz1_move hz2_move rfl (by omega) _ (by rfl) _ (HO6.out) _ (by rfl) _ (RSl.laid (cs := [.int .i64 mid, .int .i64 mto]) (heap_new (H := w4.heap.size + 1) (by simp)) rfl (EM.mk _ mid mto)) (by have := HLL.out; simp; omega) (by have := HLL.out; simp; omega) ?_ ?_; (focus (first | exact Nat.le_refl _ | (simp; done) | (simp; omega) | omega)); intro v6 w6 hO6 hg6 hat6 hs6; have HO7 := hid hO6; have HG7 := hid hg6; have HS7 := hid hs6; have hx7 := (hg6.block w4.heap.size (obj_lt HX6.out) (fun e => by have h3 := Own.lt HO.out _ e.symm; have := HRW4.out; omega)).trans HX6.out; have b0 := obj_cell hx7 (i := 0) rfl; have b1 := obj_cell hx7 (i := 1) rfl; have HN7 := hid (RB.same (RB.ext HN.out HE6.out) (HS7.out.mono notMove)); have HEE7 := hid (Ext.grown (HE.out.trans HE6.out) hg6 (fun q hq => Own.lt HO6.out q hq)); clear hO6 hg6 hat6 hs6 hx7)
              | (go_at_call 57; refine (sDo _ cur mid mto _ HN7.out (bins_rows HVC.out).1 (bins_rows HVC.out).2.2 HTO.out.1 HTO.out.2).mono ?_; rintro e w8 ⟨v8, rfl, hr8, hE8⟩; have HR8 := hid hr8; have HE8 := hid hE8; clear hr8 hE8))
            obtain ⟨A7, c7, hv7, _, _⟩ := HO7.out.form_app
            subst hv7
            go_roundw
            case rel => exact ⟨_, _, xs ++ [⟨mid, mto⟩], doMove cur ⟨mid, mto⟩, rfl, rfl, by rw [List.length_append]; simp; omega, hid ⟨HO7.out.ext EM.ok HE8.out, HR8.out, move_valid HVC.out HNP.out.1, by rw [HP.out, List.append_assoc, show M - xs.length = (M - (xs ++ [(⟨mid, mto⟩ : MoveD)]).length) + 1 by rw [List.length_append]; simp; omega, plan_some HOM.out]; rfl, HEE7.out.trans HE8.out⟩⟩
            case measure => simp [lenOf]; omega
        · have hk' : xs.length = M := by omega
          have HK := hid hk'
          clear hk'
          go_wp2
          go_ret
          have hr := HO.out.read
          exact ⟨_, rfl, by rw [HRS.out, HP.out, show M - xs.length = 0 by have := HK.out; omega]; show RM _ _ (xs ++ []); rw [List.append_nil]; exact hr, HE.out⟩
    · have h2 : inB most 0 20 = false := by simpa using h2
      have HRS : Hid (gatherPlan room bs most = []) := hid (by unfold gatherPlan; rw [h1, h2]; rfl)
      go_enter Tryd.func18, Tryd.ntmps18
      go_wp2_with (first
        | (go_at_call 20; refine (sBinsValid _ _ room bs _ HR.out HB.out hfl).mono ?_; rintro e w1 ⟨rfl, hE1⟩; rw [h1]; have HE1 := hid hE1; clear hE1)
        | (go_at_call 55; refine (sIn _ _ _ _).mono ?_; rintro e w2 ⟨rfl, n2, hw2⟩; rw [h2]; have HE2 := hid (show Ext _ w2 by rw [hw2]; exact HE1.out.trans (Ext.drewN _ _)); clear hw2))
      go_ret
      exact ⟨_, rfl, by rw [HRS.out]; exact RM.ext HM0.out.read HE2.out, HX0.out.trans HE2.out⟩
  · have h1 : binsOk room bs = false := by simpa using h1
    have HRS : Hid (gatherPlan room bs most = []) := hid (by unfold gatherPlan; rw [h1]; rfl)
    go_enter Tryd.func18, Tryd.ntmps18
    go_wp2_with (go_at_call 20; refine (sBinsValid _ _ room bs _ HR.out HB.out hfl).mono ?_; rintro e w1 ⟨rfl, hE1⟩; rw [h1]; have HE1 := hid hE1; clear hE1)
    go_ret
    exact ⟨_, rfl, by rw [HRS.out]; exact RM.ext HM0.out.read HE1.out, HX0.out.trans HE1.out⟩

end Go.Proofs.YtibpijjigopdjaaDoor
