/- The reference's first node with room, and the next move. -/
import Derived.Test.YtllchacophapoaaK10
namespace Go.Proofs.Ytllchacophapoaa
open Go.RowKit
set_option maxRecDepth 4000

set_option maxHeartbeats 4000000 in
theorem sAt11 (rv v xv : Value) (room : List Int) (bs : List (List TaskD)) (x : TaskD) (w : World) (hR : RI w rv room) (h : RB w v bs) (hx : TaskV w xv x) (hlr : room.length = 3) (hg : ∀ b ∈ bs, GoodTs b) (hn : x.need.length = 3 ∧ Bd 1000 x.need) :
    Calls Try.prog 95 #[rv, v, xv] w (RetN w (firstAt room bs x)) := by
  have HR0 := hid hR
  have HB0 := hid h
  obtain ⟨Ar, cr, rfl, _⟩ := hR
  obtain ⟨A, c, rfl, hc, hc', hr⟩ := RB.get h
  have HXV := hid hx
  obtain ⟨nv, rfl, hnv⟩ := hx
  obtain ⟨An, cn, rfl, _⟩ := hnv
  obtain ⟨W, hW⟩ : ∃ W, W = w.alloc (.cells #[.int .i64 x.id, .slice An x.need.length cn] 43) := ⟨_, rfl⟩
  have hEW : Ext w W := by rw [hW]; exact Ext.alloc _ _
  have hbx : W.heap[w.heap.size]? = some (.cells #[.int .i64 x.id, .slice An x.need.length cn] 43 (0, 0)) := by rw [hW]; exact heap_alloc_new _ _
  have KB : Hid (∀ w', Ext W w' → w'.cell? ⟨w.heap.size, 0, none⟩ = some (.int .i64 x.id) ∧ w'.cell? ⟨w.heap.size, 1, none⟩ = some (.slice An x.need.length cn)) := hid fun w' hw => ⟨obj_cell (hw.obj hbx) (i := 0) rfl, obj_cell (hw.obj hbx) (i := 1) rfl⟩
  have HEW := hid hEW
  have HG := hid hr
  have HGD := hid hg
  have HN := hid hn
  have HLR := hid hlr
  clear hbx hEW h hr hg hn hlr
  go_enter Try.func95, Try.ntmps95
  go_wp2
  rw [← hW]
  clear hW
  go_loopw [7] (fun i wr => ∃ k : Nat, k ≤ bs.length ∧ i = .int .i64 k ∧ Hid ((∀ (j : Nat) c, j < k → bs[j]? = some c → l11fits room c x = false) ∧ Ext W wr)) (fun i _ => bs.length - (intOf i).toNat)
  case atStart => exact ⟨0, Nat.zero_le _, rfl, hid ⟨fun j c hj => absurd hj (by omega), Ext.refl _⟩⟩
  case round =>
    obtain ⟨k, hk, rfl, H⟩ := hrel
    by_cases hlt : k < bs.length
    · obtain ⟨b, o, d, Ad, cd, rfl, e, c1, hd⟩ := HG.out k hlt
      have i1 : (k : Int) < (bs.length : Int) := by omega
      have i0 : (0 : Int) ≤ (k : Int) := by omega
      have HE := hid H.out.2
      have KS : Hid (∀ w', Ext wr w' → w'.cell? ⟨b, o + k, none⟩ = some (.slice Ad d.length cd) ∧ w'.cell? ⟨w.heap.size, 0, none⟩ = some (.int .i64 x.id) ∧ w'.cell? ⟨w.heap.size, 1, none⟩ = some (.slice An x.need.length cn)) :=
        hid fun w' hw => ⟨(HEW.out.trans (HE.out.trans hw)).cell c1, (KB.out _ (HE.out.trans hw)).1, (KB.out _ (HE.out.trans hw)).2⟩
      have HD : Hid (Ext wr wr.drew) := hid (Below.drew (Below.refl _ _))
      have HDD := hid hd
      have HGO := hid (HGD.out d (List.mem_of_getElem? e.out))
      clear c1 hd
      go_wp2
      refine WG.start (fun w' => w'.cell? ⟨b, o + k, none⟩ = some (.slice Ad d.length cd) ∧ w'.cell? ⟨w.heap.size, 0, none⟩ = some (.int .i64 x.id) ∧ w'.cell? ⟨w.heap.size, 1, none⟩ = some (.slice An x.need.length cn)) [6] (by kernel_rfl) (by exact KS.out _ HD.out) (fun hHeld => ?_)
      (refine WG.take (i := 0) (v := ?_) rfl (by kernel_rfl) (by kernel_rfl) (by kernel_rfl) (by kernel_rfl) (fun _ _ _ h => h) (Or.inl ⟨by rfl, ?_⟩) (by assumption) ?_; rotate_left; (intro w hSw; (try dsimp only at hSw); go_split_ands; go_simp; (try with_reducible rfl)); (try simp only [Act.put, List.setIfInBounds_toArray, List.set_cons_zero, List.set_cons_succ]))
      (refine WG.take (i := 1) (v := ?_) rfl (by kernel_rfl) (by kernel_rfl) (by kernel_rfl) (by kernel_rfl) (fun _ _ _ h => h) (Or.inl ⟨by rfl, ?_⟩) (by assumption) ?_; rotate_left; (intro w hSw; (try dsimp only at hSw); go_split_ands; go_simp; (try with_reducible rfl)); (try simp only [Act.put, List.setIfInBounds_toArray, List.set_cons_zero, List.set_cons_succ]))
      (refine WG.take (i := 2) (v := ?_) rfl (by kernel_rfl) (by kernel_rfl) (by kernel_rfl) (by kernel_rfl) (fun _ _ _ h => h) (Or.inl ⟨by rfl, ?_⟩) (by assumption) ?_; rotate_left; (intro w hSw; (try dsimp only at hSw); go_split_ands; go_simp; (try with_reducible rfl)); (try simp only [Act.put, List.setIfInBounds_toArray, List.set_cons_zero, List.set_cons_succ]))
      (refine WG.take (i := 3) (v := ?_) rfl (by kernel_rfl) (by kernel_rfl) (by kernel_rfl) (by kernel_rfl) (fun _ _ _ h => h) (Or.inl ⟨by rfl, ?_⟩) (by assumption) ?_; rotate_left; (intro w hSw; (try dsimp only at hSw); go_split_ands; go_simp; (try with_reducible rfl)); (try simp only [Act.put, List.setIfInBounds_toArray, List.set_cons_zero, List.set_cons_succ]))
      (refine WG.take (i := 4) (v := ?_) rfl (by kernel_rfl) (by kernel_rfl) (by kernel_rfl) (by kernel_rfl) (fun _ _ _ h => h) (Or.inl ⟨by rfl, ?_⟩) (by assumption) ?_; rotate_left; (intro w hSw; (try dsimp only at hSw); go_split_ands; go_simp; (try with_reducible rfl)); (try simp only [Act.put, List.setIfInBounds_toArray, List.set_cons_zero, List.set_cons_succ]))
      (refine WG.take (i := 5) (v := ?_) rfl (by kernel_rfl) (by kernel_rfl) (by kernel_rfl) (by kernel_rfl) (fun _ _ _ h => h) (Or.inl ⟨by rfl, ?_⟩) (by assumption) ?_; rotate_left; (intro w hSw; (try dsimp only at hSw); go_split_ands; go_simp; (try with_reducible rfl)); (try simp only [Act.put, List.setIfInBounds_toArray, List.set_cons_zero, List.set_cons_succ]))
      refine WG.last (i := 6) rfl (by kernel_rfl) (by kernel_rfl) (fun K hK => ?_)
      go_simp; refine (sL11Fits _ _ _ room d x _ (RI.ext HR0.out (HEW.out.trans (HE.out.trans HD.out))) (RT.ext HDD.out (HEW.out.trans (HE.out.trans HD.out))) (HXV.out.ext (HEW.out.trans (HE.out.trans HD.out))) HLR.out HGO.out HN.out).mono ?_; rintro e5 w5 ⟨rfl, hE5⟩; have HE5 := hid (HD.out.trans hE5); clear hE5; (try dsimp only)
      refine hK.out _ _ ?_
      clear hK K
      (try simp only [Act.put, List.setIfInBounds_toArray, List.set_cons_zero, List.set_cons_succ])
      refine WG.done (by kernel_rfl) ?_
      by_cases hf : l11fits room d x = true
      · rw [hf]
        go_wp2
        go_ret
        exact ⟨ret_i (firstAt_hit e.out hf H.out.1).symm, HEW.out.trans (HE.out.trans HE5.out)⟩
      · have hf : l11fits room d x = false := by simpa using hf
        rw [hf]
        go_wp2
        go_roundw
        case rel =>
          refine ⟨k + 1, by omega, by go_num, hid ⟨fun j c hj hc => ?_, HE.out.trans HE5.out⟩⟩
          by_cases hjk : j = k
          · subst hjk
            have := e.out
            rw [hc] at this
            injection this with this
            rw [this]; exact hf
          · exact H.out.1 j c (by omega) hc
        case measure => simp [intOf]; omega
    · go_wp2
      go_ret
      have hk' : k = bs.length := by omega
      subst hk'
      exact ⟨ret_i (firstAt_miss fun j c hj => H.out.1 j c (List.getElem?_eq_some_iff.1 hj).1 hj).symm, HEW.out.trans H.out.2⟩

/-- the next move out of the first n nodes -/
def nextTo (room : List Int) (bs : List (List TaskD)) (n : Nat) : Option MoveD := ((List.range n).reverse.flatMap fun i => (bs.getD i []).map fun t => (t, i)).findSome? (tryOne room bs)
theorem nextTo_all (room : List Int) (bs : List (List TaskD)) : nextTo room bs bs.length = nextMv room bs := rfl
theorem nextTo_succ (room : List Int) (bs : List (List TaskD)) (n : Nat) : nextTo room bs (n + 1) = (((bs.getD n []).map fun t => (t, n)).findSome? (tryOne room bs)).or (nextTo room bs n) := by
  unfold nextTo
  rw [List.range_succ, List.reverse_append, List.reverse_singleton, List.singleton_append, List.flatMap_cons, List.findSome?_append]
theorem nextTo_zero (room : List Int) (bs : List (List TaskD)) : nextTo room bs 0 = none := rfl
theorem tryOne_zero (room : List Int) (bs : List (List TaskD)) (t : TaskD) : tryOne room bs (t, 0) = none := by
  unfold tryOne
  rw [if_neg]
  show ¬ 0 ≤ firstAt room (bs.take 0) t
  rw [List.take_zero]
  unfold firstAt
  simp
theorem nextTo_one (room : List Int) (bs : List (List TaskD)) : nextTo room bs 1 = none := by
  rw [nextTo_succ, nextTo_zero, Option.or_none, List.findSome?_eq_none_iff]
  intro p hp
  obtain ⟨t, _, rfl⟩ := List.mem_map.1 hp
  exact tryOne_zero room bs t
theorem row_none {room : List Int} {bs : List (List TaskD)} {n : Nat} {b : List TaskD} (hb : bs[n]? = some b) (h : ∀ (j : Nat) t, b[j]? = some t → firstAt room (bs.take n) t < 0) : nextTo room bs (n + 1) = nextTo room bs n := by
  rw [nextTo_succ, List.getD_eq_getElem?_getD, hb]
  have : ((b.map fun t => (t, n)).findSome? (tryOne room bs)) = none := by
    rw [List.findSome?_eq_none_iff]
    intro p hp
    obtain ⟨t, ht, rfl⟩ := List.mem_map.1 hp
    obtain ⟨j, hj⟩ := List.getElem?_of_mem ht
    unfold tryOne
    rw [if_neg (by have := h j t hj; show ¬ 0 ≤ firstAt room (bs.take n) t; omega)]
  show (((b.map fun t => (t, n)).findSome? (tryOne room bs)).or _) = _
  rw [this]
  rfl
theorem row_hit {room : List Int} {bs : List (List TaskD)} {n k : Nat} {b : List TaskD} {x : TaskD} (hb : bs[n]? = some b) (hx : b[k]? = some x) (h : ∀ (j : Nat) t, j < k → b[j]? = some t → firstAt room (bs.take n) t < 0) (h0 : 0 ≤ firstAt room (bs.take n) x) : nextTo room bs (n + 1) = some ⟨x.id, firstAt room (bs.take n) x⟩ := by
  rw [nextTo_succ, List.getD_eq_getElem?_getD, hb]
  have hk := (List.getElem?_eq_some_iff.1 hx).1
  have : ((b.map fun t => (t, n)).findSome? (tryOne room bs)) = some ⟨x.id, firstAt room (bs.take n) x⟩ := by
    have e : b = b.take k ++ x :: b.drop (k + 1) := by
      have h2 := (List.getElem?_eq_some_iff.1 hx).2
      rw [← h2, ← List.drop_eq_getElem_cons hk, List.take_append_drop]
    have e1 : ((b.take k).map fun t => (t, n)).findSome? (tryOne room bs) = none := by
      rw [List.findSome?_eq_none_iff]
      intro p hp
      obtain ⟨t, ht, rfl⟩ := List.mem_map.1 hp
      obtain ⟨j, hj⟩ := List.getElem?_of_mem ht
      rw [List.getElem?_take] at hj
      split at hj
      · rename_i hjk
        unfold tryOne
        rw [if_neg (by have := h j t hjk hj; show ¬ 0 ≤ firstAt room (bs.take n) t; omega)]
      · cases hj
    rw [e, List.map_append, List.findSome?_append, e1]
    show (List.findSome? (tryOne room bs) ((x, n) :: _)) = _
    rw [List.findSome?_cons]
    unfold tryOne
    simp only
    rw [if_pos h0]
  show (((b.map fun t => (t, n)).findSome? (tryOne room bs)).or _) = _
  rw [this]
  rfl

end Go.Proofs.Ytllchacophapoaa
