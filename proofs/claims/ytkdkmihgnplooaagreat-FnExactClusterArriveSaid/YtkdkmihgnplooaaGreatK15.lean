/- The program's host puts a task: what is needed of memory. -/
import Derived.Test.YtkdkmihgnplooaaGreatK14
import Derived.Test.YtkdkmihgnplooaaGreatK8
namespace Go.Proofs.YtkdkmihgnplooaaGreat
open Go.RowKit
set_option maxRecDepth 4000

theorem idxI_congr {α : Type} {p q : α → Bool} : ∀ {xs : List α}, (∀ x ∈ xs, p x = q x) → idxI p xs = idxI q xs := by
  intro xs h
  have : xs.findIdx? p = xs.findIdx? q := by
    induction xs with
    | nil => rfl
    | cons x xs ih =>
      rw [List.findIdx?_cons, List.findIdx?_cons, h x (by simp), ih (fun y hy => h y (by simp [hy]))]
  unfold idxI
  rw [this]
theorem find_where (us : List UnitD) (id : Int) : (findU us id).1 = whereL (us.map (·.tasks)) id := by
  unfold findU whereL
  rw [List.findIdx?_map]
  have : ((fun b => hasId b id) ∘ fun u : UnitD => u.tasks) = fun u : UnitD => hasId u.tasks id := rfl
  rw [this]
  cases us.findIdx? fun u => hasId u.tasks id <;> rfl
theorem fits_alone {room : List Int} {x : TaskD} (h : tasksOk room [x] = true) : l11fits room [] x = true := by
  have ht := (vecFits_ok (tasksOk_mem h (List.mem_singleton.2 rfl)).2)
  have hv := (tasksOk_mem h (List.mem_singleton.2 rfl)).2
  simp only [vecFits, Bool.and_eq_true] at hv
  unfold l11fits
  refine fitsL_of fun i hi => ?_
  have hf := fitsL_at hv.2.2 hi
  rw [addTo_getD _ _ _ _ hi]
  have h0 : (loadL []).getD i 0 = 0 := by
    unfold loadL
    match i, hi with
    | 0, _ => rfl
    | 1, _ => rfl
    | 2, _ => rfl
  rw [h0]
  omega
theorem place_at {C : ClusD} {x : TaskD} (h : clusOk C = true) (hx : tasksOk C.room [x] = true) (grant : Bool) : placeU C x grant = atB C x grant := by
  have hc : atC C x false = idxI (fun u : UnitD => !u.opened) C.units := by
    unfold atC
    refine idxI_congr fun u hu => ?_
    unfold canC
    rcases ((clus_iff C).1 h).1 u hu with ho | ho
    · rw [ho]; rfl
    · rw [ho, fits_alone hx]; cases u.opened <;> rfl
  have hge : -1 ≤ atC C x true := by unfold atC idxI; split <;> omega
  unfold placeU atB
  rw [← hc]
  by_cases h1 : 0 ≤ atC C x true
  · rw [if_pos h1, if_neg (by omega)]
  · rw [if_neg h1]
    cases grant
    · rw [if_neg (by simp)]; simp; omega
    · rw [if_pos (show (atC C x true < 0 ∧ true = true) from ⟨by omega, rfl⟩)]; rfl
/-- a host puts a task; the code -/
def arriveH (C : ClusD) (x : TaskD) (grant : Bool) : ClusD × Int :=
  if tasksOk C.room [x] then
    if 0 ≤ whereL (C.units.map (·.tasks)) x.id then (C, 2) else arrC C x grant
  else (C, 1)
theorem arriveC_ok {C : ClusD} (h : clusOk C = true) (x : TaskD) (grant : Bool) : arriveC C x grant = arriveH C x grant := by unfold arriveC arriveH; rw [if_pos h]
theorem Own.type_ {α : Type} {e : TypeId} {size : Nat} {E : Enc α} {w : World} {base : Nat} {v : Value} {xs : List α} (h : Own e size E w base v xs) {a : Nat} (ha : v.ownBlock = some a) : ∃ cur, w.heap[a]? = some (.cells cur e (0, 0)) := by
  obtain ⟨c, ho, _⟩ := h
  rcases ho.2 with ⟨rfl, _⟩ | ⟨g, cap, cur, rfl, _, hh, _⟩
  · simp [Value.ownBlock] at ha
  have e1 : g = a := by simpa [Value.ownBlock] using ha
  subst e1
  exact ⟨cur, hh⟩
/-- a node's row of tasks is another one (in place or in a block that is new), and the node takes it -/
theorem HostV.turn {w w' : World} {H base : Nat} {C : ClusD} {ps : List (UnitD × Value)} {rv : Value} {cells : List Value} {l : Int} (h : HostV w H base C ps rv cells l) {k : Nat} {x : UnitD} {tv : Value} (hx : C.units[k]? = some x) (hk : ps[k]? = some (x, tv))
    (hb : ∀ a, a < w.heap.size → tv.ownBlock ≠ some a → w'.heap[a]? = w.heap[a]?) (hs : SameT (fun t => t ≠ 36) w w') {ts : List TaskD} {v' : Value} (ht : OT w' base v' ts) (hnd : (blocksOf (ps.set k (⟨x.opened, ts⟩, v'))).Nodup) :
    ∃ cells', HostV (w'.setCell ⟨H, 4 + k * 2 + 1, none⟩ v') H base ⟨C.room, C.units.set k ⟨x.opened, ts⟩⟩ (ps.set k (⟨x.opened, ts⟩, v')) rv cells' l := by
  have hh' := hs _ _ _ _ (by decide) h.blk
  have hs2 : SameT (fun t => t ≠ 86) w' (w'.setCell ⟨H, 4 + k * 2 + 1, none⟩ v') := SameT.setCell (p := ⟨H, 4 + k * 2 + 1, none⟩) hh' v' (fun t ht => ht)
  have hlt := (List.getElem?_eq_some_iff.1 hx).1
  have hint : SameT (fun t => t = 3) w (w'.setCell ⟨H, 4 + k * 2 + 1, none⟩ v') := (hs.mono (by rintro t rfl; decide)).trans (hs2.mono (by rintro t rfl; decide))
  refine ⟨cells.set (k * 2 + 1) v', ?_, ?_, RI.same h.room hint, by rw [List.length_set]; exact h.len, ?_, hnd, h.hi, by rw [List.length_set]; exact h.n10⟩
  · rw [obj_set hh' (4 + k * 2 + 1)]
    simp only [List.length_set, Option.some.injEq, Obj.cells.injEq, and_true, List.setIfInBounds_toArray]
    congr 1
    rw [List.set_append_right _ _ (by show 4 ≤ _; omega), show 4 + k * 2 + 1 - ([Value.int .i32 l, .int .u32 0, rv, .int .i64 (C.units.length : Int)] : List Value).length = k * 2 + 1 by show 4 + k * 2 + 1 - 4 = _; omega]
  · refine Cells.setx (i := 1) h.cel hk (by omega) (fun i y cs hik hy ⟨he, hty⟩ => ⟨he, ?_⟩) (fun cs hl ⟨he, _⟩ => ⟨by rw [he]; rfl, ht.same ET.ok (hs2.mono (by rintro t (rfl | rfl) <;> decide))⟩)
    refine OT.far hty (fun a ha => ?_) hint
    have hag : a ≠ H := fun e => by
      obtain ⟨cur, hc⟩ := hty.type_ ha
      rw [e, h.blk] at hc
      injection hc with hc
      injection hc with _ h2 _
      revert h2
      decide
    exact (Below.heap_setCell _ _ _ _ hag).trans (hb a (hty.lt a ha).2 (fun e => blocks_apart h.nd hy hk hik ha e))
  · show ((ps.set k (⟨x.opened, ts⟩, v')).take (C.units.set k ⟨x.opened, ts⟩).length).map (·.1) = C.units.set k ⟨x.opened, ts⟩
    rw [List.length_set, List.take_set, List.map_set, h.units]
theorem HostV.lt {w : World} {H base : Nat} {C : ClusD} {ps : List (UnitD × Value)} {rv : Value} {cells : List Value} {l : Int} (h : HostV w H base C ps rv cells l) : ∀ g ∈ blocksOf ps, base ≤ g ∧ g < w.heap.size := by
  intro g hg
  obtain ⟨p, hp, hb⟩ := List.mem_filterMap.1 hg
  obtain ⟨k, hk⟩ := List.getElem?_of_mem hp
  exact (h.unit (x := p.1) (v := p.2) hk).2.2.lt g hb
/-- a node is opened or closed -/
theorem HostV.open2 {w : World} {H base : Nat} {C : ClusD} {ps : List (UnitD × Value)} {rv : Value} {cells : List Value} {l : Int} (h : HostV w H base C ps rv cells l) {j : Nat} {x : UnitD} {v : Value} (hj : C.units[j]? = some x) (hv : ps[j]? = some (x, v)) (op : Bool) : ∃ cells', HostV (w.setCell ⟨H, 4 + j * 2, none⟩ (.bool op)) H base ⟨C.room, C.units.set j ⟨op, x.tasks⟩⟩ (ps.set j (⟨op, x.tasks⟩, v)) rv cells' l := by
  have hs : SameT (fun t => t ≠ 86) w (w.setCell ⟨H, 4 + j * 2, none⟩ (.bool op)) := SameT.setCell (p := ⟨H, 4 + j * 2, none⟩) h.blk _ (fun t ht => ht)
  have hs2 := hs.mono (T' := fun t => t = 36 ∨ t = 3) (by rintro t (rfl | rfl) <;> decide)
  have hlt := (List.getElem?_eq_some_iff.1 hj).1
  refine ⟨cells.set (j * 2 + 0) (.bool op), ?_, ?_, RI.same h.room (hs.mono (by rintro t rfl; decide)), by rw [List.length_set]; exact h.len, ?_, ?_, h.hi, by rw [List.length_set]; exact h.n10⟩
  · rw [obj_set h.blk (4 + j * 2)]
    simp only [List.length_set, Option.some.injEq, Obj.cells.injEq, and_true, List.setIfInBounds_toArray]
    congr 1
    rw [List.set_append_right _ _ (by show 4 ≤ _; omega), show 4 + j * 2 - ([Value.int .i32 l, .int .u32 0, rv, .int .i64 (C.units.length : Int)] : List Value).length = j * 2 + 0 by show 4 + j * 2 - 4 = _; omega]
  · exact Cells.setx (i := 0) h.cel hv (by omega) (fun k y cs _ _ hy => EUV.ok _ _ _ _ _ hy hs2) (fun cs hl ⟨he, ht⟩ => ⟨by rw [he]; rfl, ht.same ET.ok (hs2.mono (fun t ht => ht))⟩)
  · show ((ps.set j (⟨op, x.tasks⟩, v)).take (C.units.set j ⟨op, x.tasks⟩).length).map (·.1) = C.units.set j ⟨op, x.tasks⟩
    rw [List.length_set, List.take_set, List.map_set, h.units]
  · rw [blocksOf_set hv]; exact h.nd
/-- what a host's function leaves: the host of another cluster, and a code -/
def RetH (w : World) (H base : Nat) (rv : Value) (r : ClusD × Int) (e : Ending) (w' : World) : Prop := ∃ ps' cells', e = .returned (.int .i64 r.2) ∧ HostV w' H base r.1 ps' rv cells' 0 ∧ Below base w w'

end Go.Proofs.YtkdkmihgnplooaaGreat

/- The program's host puts a task: the walk. -/
namespace Go.Proofs.YtkdkmihgnplooaaGreat
open Go.RowKit Go.MuLone

set_option maxHeartbeats 8000000 in
theorem iHostArrive (H base : Nat) (C : ClusD) (ps : List (UnitD × Value)) (rv : Value) (cells : List Value) (xv : Value) (x : TaskD) (grant : Bool) (w : World) (h : HostV w H base C ps rv cells 0) (hbz : base ≤ w.heap.size) (hx : TaskV w xv x) (hC : clusOk C = true) (hxi : IdR x.id) :
    Calls Tryz.prog 27 #[.pointer (some ⟨H, 0, none⟩), xv, .bool grant] w (RetH w H base rv (arriveH C x grant)) := by
  have HTX := hid hx
  obtain ⟨nv, rfl, hnv⟩ := hx
  obtain ⟨An, cn, rfl, _⟩ := hnv
  have hHw : H < w.heap.size := obj_lt h.blk
  obtain ⟨W, hW⟩ : ∃ W, W = w.alloc (.cells #[.int .i64 x.id, .slice An x.need.length cn] 36) := ⟨_, rfl⟩
  have hEW : Ext w W := by rw [hW]; exact Ext.alloc _ _
  have hz : W.heap[w.heap.size]? = some (.cells #[.int .i64 x.id, .slice An x.need.length cn] 36 (0, 0)) := by rw [hW]; exact heap_alloc_new _ _
  have HW := hid (h.ext hEW)
  have c0 := HW.out.at.1
  have f0 := HW.out.at.2.2.2 0
  have hHb := h.hi
  have hn10 := h.n10
  have HX0 := hid (HTX.out.ext hEW)
  have hs1 : SameT (fun t => t ≠ 86) W (W.setCell ⟨H, 0, none⟩ (.int .i32 1)) := SameT.setCell (p := ⟨H, 0, none⟩) HW.out.blk _ (fun t ht => ht)
  have HX1 : Hid (TaskV (W.setCell ⟨H, 0, none⟩ (.int .i32 1)) (.agg #[.int .i64 x.id, .slice An x.need.length cn]) x) := hid (by obtain ⟨nv', he, hn'⟩ := HX0.out; exact ⟨nv', he, RI.same hn' (hs1.mono (by rintro t rfl; decide))⟩)
  have H1 := hid (HW.out.lock 1)
  have Z1 := hid (obj_far hz (p := ⟨H, 0, none⟩) (by show w.heap.size ≠ H; omega) (.int .i32 1))
  have HB1 : Hid (Below base w (W.setCell ⟨H, 0, none⟩ (.int .i32 1))) := hid (Below.setCell (hEW.mono hbz) hHb _)
  obtain ⟨Ar, cr, rfl, _⟩ := h.room
  have HLT0 := hid h.lt
  have HC := hid hC
  have HXI := hid hxi
  have HFL : Hid ((C.units.map (·.tasks)).flatten.length ≤ 14) := hid (by have := tasksOk_len (binsOk_tk (clusOk_bins hC)); omega)
  clear h hz hEW hC hxi HTX HX0 hs1
  by_cases htv : tasksOk C.room [x] = true
  · have HN : Hid (x.need.length = 3 ∧ Bd 1000 x.need) := hid (by have h3 := (vecFits_ok (tasksOk_mem htv (List.mem_singleton.2 rfl)).2).1; exact ⟨vecOk_len h3, (vecOk_bd h3).mono (by omega)⟩)
    have HPA := hid (place_at HC.out htv grant)
    have hfw := hid (find_where C.units x.id)
    by_cases hw0 : 0 ≤ whereL (C.units.map (·.tasks)) x.id
    · have HA : Hid (arriveH C x grant = (C, 2)) := hid (by unfold arriveH; rw [if_pos htv, if_pos hw0])
      go_enter_defers Tryz.func27, Tryz.ntmps27
      go_wp2_with (go_at_call 47; rw [← hW]; refine (lock_free muLib ⟨H, 0, none⟩ _ c0 f0).mono ?_; rintro e w1 ⟨rfl, rfl⟩; clear hW)
      obtain ⟨W1, hW1⟩ : ∃ W1, W1 = W.setCell ⟨H, 0, none⟩ (.int .i32 1) := ⟨_, rfl⟩
      rw [← hW1] at H1 HX1 Z1 HB1 ⊢
      clear hW1 c0 f0 HW
      have hz1 : w.heap.size < W1.heap.size := obj_lt Z1.out
      have KS : Hid (∀ w', Ext W1 w' → w'.cell? ⟨H, 2, none⟩ = some (.slice Ar C.room.length cr) ∧ w'.cell? ⟨w.heap.size, 0, none⟩ = some (.int .i64 x.id) ∧ w'.cell? ⟨w.heap.size, 1, none⟩ = some (.slice An x.need.length cn)) := hid fun w' hw => ⟨(H1.out.ext hw).at.2.1, obj_cell (hw.obj Z1.out) (i := 0) rfl, obj_cell (hw.obj Z1.out) (i := 1) rfl⟩
      have HD0 : Hid (Ext W1 W1.drew) := hid (Below.drew (Below.refl _ _))
      have HBE : Hid (∀ w', Ext W1 w' → Below base w w') := hid fun w' hw => Below.trans HB1.out (hw.mono (by have := HB1.out.size; omega))
      refine wp_region_noPanic ?_
      refine WG.start (fun w' => w'.cell? ⟨H, 2, none⟩ = some (.slice Ar C.room.length cr) ∧ w'.cell? ⟨w.heap.size, 0, none⟩ = some (.int .i64 x.id) ∧ w'.cell? ⟨w.heap.size, 1, none⟩ = some (.slice An x.need.length cn)) [6,7] (by kernel_rfl) (by exact KS.out _ HD0.out) (fun hHeld => ?_)
      (refine WG.take (i := 0) (v := ?_) rfl (by kernel_rfl) (by kernel_rfl) (by kernel_rfl) (by kernel_rfl) (fun _ _ _ h => h) (Or.inl ⟨by rfl, ?_⟩) (by assumption) ?_; rotate_left; (intro w hSw; (try dsimp only at hSw); go_split_ands; go_simp; (try with_reducible rfl)); (try simp only [Act.put, List.setIfInBounds_toArray, List.set_cons_zero, List.set_cons_succ]))
      (refine WG.take (i := 1) (v := ?_) rfl (by kernel_rfl) (by kernel_rfl) (by kernel_rfl) (by kernel_rfl) (fun _ _ _ h => h) (Or.inl ⟨by rfl, ?_⟩) (by assumption) ?_; rotate_left; (intro w hSw; (try dsimp only at hSw); go_split_ands; go_simp; (try with_reducible rfl)); (try simp only [Act.put, List.setIfInBounds_toArray, List.set_cons_zero, List.set_cons_succ]))
      (refine WG.take (i := 2) (v := ?_) rfl (by kernel_rfl) (by kernel_rfl) (by kernel_rfl) (by kernel_rfl) (fun _ _ _ h => h) (Or.inl ⟨by rfl, ?_⟩) (by assumption) ?_; rotate_left; (intro w hSw; (try dsimp only at hSw); go_split_ands; go_simp; (try with_reducible rfl)); (try simp only [Act.put, List.setIfInBounds_toArray, List.set_cons_zero, List.set_cons_succ]))
      (refine WG.take (i := 3) (v := ?_) rfl (by kernel_rfl) (by kernel_rfl) (by kernel_rfl) (by kernel_rfl) (fun _ _ _ h => h) (Or.inl ⟨by rfl, ?_⟩) (by assumption) ?_; rotate_left; (intro w hSw; (try dsimp only at hSw); go_split_ands; go_simp; (try with_reducible rfl)); (try simp only [Act.put, List.setIfInBounds_toArray, List.set_cons_zero, List.set_cons_succ]))
      (refine WG.take (i := 4) (v := ?_) rfl (by kernel_rfl) (by kernel_rfl) (by kernel_rfl) (by kernel_rfl) (fun _ _ _ h => h) (Or.inl ⟨by rfl, ?_⟩) (by assumption) ?_; rotate_left; (intro w hSw; (try dsimp only at hSw); go_split_ands; go_simp; (try with_reducible rfl)); (try simp only [Act.put, List.setIfInBounds_toArray, List.set_cons_zero, List.set_cons_succ]))
      refine WG.one (i := 5) rfl (by kernel_rfl) (fun K hK => ?_)
      go_simp
      refine hK.out _ _ (by exact KS.out _ (HD0.out.trans (Ext.alloc _ _))) (fun hHeld => ?_)
      clear hK K
      (try simp only [Act.put, List.setIfInBounds_toArray, List.set_cons_zero, List.set_cons_succ])
      have hE2 : Ext W1 (W1.drew.alloc (.cells #[.int .i64 x.id, .slice An x.need.length cn] 36)) := HD0.out.trans (Ext.alloc _ _)
      have HRX : Hid (RT (W1.drew.alloc (.cells #[.int .i64 x.id, .slice An x.need.length cn] 36)) (.slice (some ⟨W1.heap.size, 0, none⟩) 1 1) [x]) := hid (RSl.laid (cs := [.int .i64 x.id, .slice An x.need.length cn]) (heap_new rfl) rfl ⟨_, rfl, by obtain ⟨nv', he, hn'⟩ := HX1.out; injection he with he; injection he with he; injection he with _ he; injection he with he _; subst he; exact RI.ext hn' hE2⟩)
      have HRV := hid (RI.ext H1.out.room hE2)
      have HE2 := hid hE2
      clear hE2
      refine WG.last (i := 6) rfl (by kernel_rfl) (by kernel_rfl) (fun K hK => ?_)
      go_simp; refine (iTasksValid _ _ C.room [x] _ HRV.out HRX.out (fun t ht => by rw [List.mem_singleton.1 ht]; exact HXI.out)).mono ?_; rintro e w3 ⟨rfl, hE3⟩; rw [htv]; have HE3 := hid (HE2.out.trans hE3); clear hE3; (try dsimp only)
      refine hK.out _ _ ?_
      clear hK K
      (try simp only [Act.put, List.setIfInBounds_toArray, List.set_cons_zero, List.set_cons_succ])
      refine WG.last (i := 7) rfl (by kernel_rfl) (by kernel_rfl) (fun K hK => ?_)
      go_simp
      refine hK.out _ _ ?_
      clear hK K
      (try simp only [Act.put, List.setIfInBounds_toArray, List.set_cons_zero, List.set_cons_succ])
      refine WG.done (by kernel_rfl) ?_
      refine NoPanic.normal ?_
      obtain ⟨s0, s1, s2⟩ := KS.out _ HE3.out
      have hfw' : 0 ≤ (findU C.units x.id).1 := by rw [hfw.out]; exact hw0
      clear hw0
      go_wp2_with (go_at_call 50; refine (iFind H base C ps _ cells 1 x.id _ (H1.out.ext HE3.out)).mono ?_; rintro e w4 ⟨rfl, hE4⟩; obtain ⟨q1, hq1⟩ : ∃ q1, q1 = (findU C.units x.id).1 := ⟨_, rfl⟩; obtain ⟨q2, hq2⟩ : ∃ q2, q2 = (findU C.units x.id).2 := ⟨_, rfl⟩; rw [← hq1, ← hq2]; rw [← hq1] at hfw'; have HE4 := hid (HE3.out.trans hE4); obtain ⟨s0, s1, s2⟩ := KS.out _ HE4.out; clear hE4 hq1 hq2)
      have HD := hid (H1.out.ext HE4.out)
      have HB := hid (HBE.out _ HE4.out)
      refine leaves_cons (f := 48) (args := #[.pointer (some ⟨H, 0, none⟩)]) (by simp) (by simp [go_sem]) ?_
      refine (unlock_deferred muLib ⟨H, 0, none⟩ .returning _ HD.out.at.1 (HD.out.at.2.2.2 0)).mono ?_
      rintro e u' w'' ⟨rfl, rfl, rfl⟩
      refine ⟨_, results_tmp rfl _ _ _, ?_⟩
      unfold RetH
      exact ⟨_, _, by rw [HA.out]; rfl, by rw [HA.out]; exact HD.out.lock 0, Below.setCell HB.out hHb _⟩
    · have HNW : Hid (¬ 0 ≤ (findU C.units x.id).1) := hid (by rw [hfw.out]; exact hw0)
      have HA0 : Hid (arriveH C x grant = arrC C x grant) := hid (by unfold arriveH; rw [if_pos htv, if_neg hw0])
      clear hw0
      by_cases hp0 : atB C x grant < 0
      · have HA : Hid (arriveH C x grant = (C, 3)) := hid (by rw [HA0.out]; unfold arrC; rw [if_pos (.inl hp0)])
        obtain ⟨P, hP⟩ : ∃ P, P = atB C x grant := ⟨_, rfl⟩
        rw [← hP] at hp0 HPA
        clear hP
        go_enter_defers Tryz.func27, Tryz.ntmps27
        go_wp2_with (go_at_call 47; rw [← hW]; refine (lock_free muLib ⟨H, 0, none⟩ _ c0 f0).mono ?_; rintro e w1 ⟨rfl, rfl⟩; clear hW)
        obtain ⟨W1, hW1⟩ : ∃ W1, W1 = W.setCell ⟨H, 0, none⟩ (.int .i32 1) := ⟨_, rfl⟩
        rw [← hW1] at H1 HX1 Z1 HB1 ⊢
        clear hW1 c0 f0 HW
        have hz1 : w.heap.size < W1.heap.size := obj_lt Z1.out
        have KS : Hid (∀ w', Ext W1 w' → w'.cell? ⟨H, 2, none⟩ = some (.slice Ar C.room.length cr) ∧ w'.cell? ⟨w.heap.size, 0, none⟩ = some (.int .i64 x.id) ∧ w'.cell? ⟨w.heap.size, 1, none⟩ = some (.slice An x.need.length cn)) := hid fun w' hw => ⟨(H1.out.ext hw).at.2.1, obj_cell (hw.obj Z1.out) (i := 0) rfl, obj_cell (hw.obj Z1.out) (i := 1) rfl⟩
        have HD0 : Hid (Ext W1 W1.drew) := hid (Below.drew (Below.refl _ _))
        have HBE : Hid (∀ w', Ext W1 w' → Below base w w') := hid fun w' hw => Below.trans HB1.out (hw.mono (by have := HB1.out.size; omega))
        refine wp_region_noPanic ?_
        refine WG.start (fun w' => w'.cell? ⟨H, 2, none⟩ = some (.slice Ar C.room.length cr) ∧ w'.cell? ⟨w.heap.size, 0, none⟩ = some (.int .i64 x.id) ∧ w'.cell? ⟨w.heap.size, 1, none⟩ = some (.slice An x.need.length cn)) [6,7] (by kernel_rfl) (by exact KS.out _ HD0.out) (fun hHeld => ?_)
        (refine WG.take (i := 0) (v := ?_) rfl (by kernel_rfl) (by kernel_rfl) (by kernel_rfl) (by kernel_rfl) (fun _ _ _ h => h) (Or.inl ⟨by rfl, ?_⟩) (by assumption) ?_; rotate_left; (intro w hSw; (try dsimp only at hSw); go_split_ands; go_simp; (try with_reducible rfl)); (try simp only [Act.put, List.setIfInBounds_toArray, List.set_cons_zero, List.set_cons_succ]))
        (refine WG.take (i := 1) (v := ?_) rfl (by kernel_rfl) (by kernel_rfl) (by kernel_rfl) (by kernel_rfl) (fun _ _ _ h => h) (Or.inl ⟨by rfl, ?_⟩) (by assumption) ?_; rotate_left; (intro w hSw; (try dsimp only at hSw); go_split_ands; go_simp; (try with_reducible rfl)); (try simp only [Act.put, List.setIfInBounds_toArray, List.set_cons_zero, List.set_cons_succ]))
        (refine WG.take (i := 2) (v := ?_) rfl (by kernel_rfl) (by kernel_rfl) (by kernel_rfl) (by kernel_rfl) (fun _ _ _ h => h) (Or.inl ⟨by rfl, ?_⟩) (by assumption) ?_; rotate_left; (intro w hSw; (try dsimp only at hSw); go_split_ands; go_simp; (try with_reducible rfl)); (try simp only [Act.put, List.setIfInBounds_toArray, List.set_cons_zero, List.set_cons_succ]))
        (refine WG.take (i := 3) (v := ?_) rfl (by kernel_rfl) (by kernel_rfl) (by kernel_rfl) (by kernel_rfl) (fun _ _ _ h => h) (Or.inl ⟨by rfl, ?_⟩) (by assumption) ?_; rotate_left; (intro w hSw; (try dsimp only at hSw); go_split_ands; go_simp; (try with_reducible rfl)); (try simp only [Act.put, List.setIfInBounds_toArray, List.set_cons_zero, List.set_cons_succ]))
        (refine WG.take (i := 4) (v := ?_) rfl (by kernel_rfl) (by kernel_rfl) (by kernel_rfl) (by kernel_rfl) (fun _ _ _ h => h) (Or.inl ⟨by rfl, ?_⟩) (by assumption) ?_; rotate_left; (intro w hSw; (try dsimp only at hSw); go_split_ands; go_simp; (try with_reducible rfl)); (try simp only [Act.put, List.setIfInBounds_toArray, List.set_cons_zero, List.set_cons_succ]))
        refine WG.one (i := 5) rfl (by kernel_rfl) (fun K hK => ?_)
        go_simp
        refine hK.out _ _ (by exact KS.out _ (HD0.out.trans (Ext.alloc _ _))) (fun hHeld => ?_)
        clear hK K
        (try simp only [Act.put, List.setIfInBounds_toArray, List.set_cons_zero, List.set_cons_succ])
        have hE2 : Ext W1 (W1.drew.alloc (.cells #[.int .i64 x.id, .slice An x.need.length cn] 36)) := HD0.out.trans (Ext.alloc _ _)
        have HRX : Hid (RT (W1.drew.alloc (.cells #[.int .i64 x.id, .slice An x.need.length cn] 36)) (.slice (some ⟨W1.heap.size, 0, none⟩) 1 1) [x]) := hid (RSl.laid (cs := [.int .i64 x.id, .slice An x.need.length cn]) (heap_new rfl) rfl ⟨_, rfl, by obtain ⟨nv', he, hn'⟩ := HX1.out; injection he with he; injection he with he; injection he with _ he; injection he with he _; subst he; exact RI.ext hn' hE2⟩)
        have HRV := hid (RI.ext H1.out.room hE2)
        have HE2 := hid hE2
        clear hE2
        refine WG.last (i := 6) rfl (by kernel_rfl) (by kernel_rfl) (fun K hK => ?_)
        go_simp; refine (iTasksValid _ _ C.room [x] _ HRV.out HRX.out (fun t ht => by rw [List.mem_singleton.1 ht]; exact HXI.out)).mono ?_; rintro e w3 ⟨rfl, hE3⟩; rw [htv]; have HE3 := hid (HE2.out.trans hE3); clear hE3; (try dsimp only)
        refine hK.out _ _ ?_
        clear hK K
        (try simp only [Act.put, List.setIfInBounds_toArray, List.set_cons_zero, List.set_cons_succ])
        refine WG.last (i := 7) rfl (by kernel_rfl) (by kernel_rfl) (fun K hK => ?_)
        go_simp
        refine hK.out _ _ ?_
        clear hK K
        (try simp only [Act.put, List.setIfInBounds_toArray, List.set_cons_zero, List.set_cons_succ])
        refine WG.done (by kernel_rfl) ?_
        refine NoPanic.normal ?_
        obtain ⟨s0, s1, s2⟩ := KS.out _ HE3.out
        have hfw' := HNW.out
        go_wp2_with (first
          | (go_at_call 50; refine (iFind H base C ps _ cells 1 x.id _ (H1.out.ext HE3.out)).mono ?_; rintro e w4 ⟨rfl, hE4⟩; obtain ⟨q1, hq1⟩ : ∃ q1, q1 = (findU C.units x.id).1 := ⟨_, rfl⟩; obtain ⟨q2, hq2⟩ : ∃ q2, q2 = (findU C.units x.id).2 := ⟨_, rfl⟩; rw [← hq1, ← hq2]; rw [← hq1] at hfw'; have HE4 := hid (HE3.out.trans hE4); obtain ⟨s0, s1, s2⟩ := KS.out _ HE4.out; clear hE4 hq1 hq2)
          | (go_at_call 51; refine (iPlace H base C ps _ cells 1 _ x grant _ (H1.out.ext HE4.out) (HX1.out.ext HE4.out) HC.out HN.out).mono ?_; rintro e w5 ⟨rfl, hE5⟩; rw [HPA.out]; have HE5 := hid (HE4.out.trans hE5); obtain ⟨s0, s1, s2⟩ := KS.out _ HE5.out; clear hE5))
        have HD := hid (H1.out.ext HE5.out)
        have HB := hid (HBE.out _ HE5.out)
        refine leaves_cons (f := 48) (args := #[.pointer (some ⟨H, 0, none⟩)]) (by simp) (by simp [go_sem]) ?_
        refine (unlock_deferred muLib ⟨H, 0, none⟩ .returning _ HD.out.at.1 (HD.out.at.2.2.2 0)).mono ?_
        rintro e u' w'' ⟨rfl, rfl, rfl⟩
        refine ⟨_, results_tmp rfl _ _ _, ?_⟩
        unfold RetH
        exact ⟨_, _, by rw [HA.out]; rfl, by rw [HA.out]; exact HD.out.lock 0, Below.setCell HB.out hHb _⟩
      · obtain ⟨k, hk⟩ : ∃ k : Nat, atB C x grant = k := ⟨_, (Int.toNat_of_nonneg (by omega)).symm⟩
        have hkl : k < C.units.length := by
          have h1 := idxI_lt (canC C x true) C.units
          have h2 := idxI_lt (canC C x false) C.units
          unfold atB atC at hk
          split at hk <;> omega
        have ik : (k : Int) < 10 := by omega
        have i0 : (0 : Int) ≤ (k : Int) := by omega
        have i00 : ¬ (k : Int) < 0 := by omega
        obtain ⟨u, ex⟩ : ∃ u, Hid (C.units[k]? = some u) := ⟨_, hid (List.getElem?_eq_getElem hkl)⟩
        obtain ⟨L, hL⟩ : ∃ L, L = (C.units.map (·.tasks)).flatten.length := ⟨_, rfl⟩
        have HL := hid hL
        rw [← hL] at HFL
        have HFL2 := HFL.out
        clear hp0
        by_cases hf : L = 14
        · have hf1 : (14 : Int) ≤ (L : Int) := by omega
          have HA : Hid (arriveH C x grant = (C, 3)) := hid (by rw [HA0.out]; unfold arrC; rw [if_pos (.inr (hL.symm.trans hf))])
          rw [hk] at HPA
          clear hf hL HFL2
          go_enter_defers Tryz.func27, Tryz.ntmps27
          go_wp2_with (go_at_call 47; rw [← hW]; refine (lock_free muLib ⟨H, 0, none⟩ _ c0 f0).mono ?_; rintro e w1 ⟨rfl, rfl⟩; clear hW)
          obtain ⟨W1, hW1⟩ : ∃ W1, W1 = W.setCell ⟨H, 0, none⟩ (.int .i32 1) := ⟨_, rfl⟩
          rw [← hW1] at H1 HX1 Z1 HB1 ⊢
          clear hW1 c0 f0 HW
          have hz1 : w.heap.size < W1.heap.size := obj_lt Z1.out
          have KS : Hid (∀ w', Ext W1 w' → w'.cell? ⟨H, 2, none⟩ = some (.slice Ar C.room.length cr) ∧ w'.cell? ⟨w.heap.size, 0, none⟩ = some (.int .i64 x.id) ∧ w'.cell? ⟨w.heap.size, 1, none⟩ = some (.slice An x.need.length cn)) := hid fun w' hw => ⟨(H1.out.ext hw).at.2.1, obj_cell (hw.obj Z1.out) (i := 0) rfl, obj_cell (hw.obj Z1.out) (i := 1) rfl⟩
          have HD0 : Hid (Ext W1 W1.drew) := hid (Below.drew (Below.refl _ _))
          have HBE : Hid (∀ w', Ext W1 w' → Below base w w') := hid fun w' hw => Below.trans HB1.out (hw.mono (by have := HB1.out.size; omega))
          refine wp_region_noPanic ?_
          refine WG.start (fun w' => w'.cell? ⟨H, 2, none⟩ = some (.slice Ar C.room.length cr) ∧ w'.cell? ⟨w.heap.size, 0, none⟩ = some (.int .i64 x.id) ∧ w'.cell? ⟨w.heap.size, 1, none⟩ = some (.slice An x.need.length cn)) [6,7] (by kernel_rfl) (by exact KS.out _ HD0.out) (fun hHeld => ?_)
          (refine WG.take (i := 0) (v := ?_) rfl (by kernel_rfl) (by kernel_rfl) (by kernel_rfl) (by kernel_rfl) (fun _ _ _ h => h) (Or.inl ⟨by rfl, ?_⟩) (by assumption) ?_; rotate_left; (intro w hSw; (try dsimp only at hSw); go_split_ands; go_simp; (try with_reducible rfl)); (try simp only [Act.put, List.setIfInBounds_toArray, List.set_cons_zero, List.set_cons_succ]))
          (refine WG.take (i := 1) (v := ?_) rfl (by kernel_rfl) (by kernel_rfl) (by kernel_rfl) (by kernel_rfl) (fun _ _ _ h => h) (Or.inl ⟨by rfl, ?_⟩) (by assumption) ?_; rotate_left; (intro w hSw; (try dsimp only at hSw); go_split_ands; go_simp; (try with_reducible rfl)); (try simp only [Act.put, List.setIfInBounds_toArray, List.set_cons_zero, List.set_cons_succ]))
          (refine WG.take (i := 2) (v := ?_) rfl (by kernel_rfl) (by kernel_rfl) (by kernel_rfl) (by kernel_rfl) (fun _ _ _ h => h) (Or.inl ⟨by rfl, ?_⟩) (by assumption) ?_; rotate_left; (intro w hSw; (try dsimp only at hSw); go_split_ands; go_simp; (try with_reducible rfl)); (try simp only [Act.put, List.setIfInBounds_toArray, List.set_cons_zero, List.set_cons_succ]))
          (refine WG.take (i := 3) (v := ?_) rfl (by kernel_rfl) (by kernel_rfl) (by kernel_rfl) (by kernel_rfl) (fun _ _ _ h => h) (Or.inl ⟨by rfl, ?_⟩) (by assumption) ?_; rotate_left; (intro w hSw; (try dsimp only at hSw); go_split_ands; go_simp; (try with_reducible rfl)); (try simp only [Act.put, List.setIfInBounds_toArray, List.set_cons_zero, List.set_cons_succ]))
          (refine WG.take (i := 4) (v := ?_) rfl (by kernel_rfl) (by kernel_rfl) (by kernel_rfl) (by kernel_rfl) (fun _ _ _ h => h) (Or.inl ⟨by rfl, ?_⟩) (by assumption) ?_; rotate_left; (intro w hSw; (try dsimp only at hSw); go_split_ands; go_simp; (try with_reducible rfl)); (try simp only [Act.put, List.setIfInBounds_toArray, List.set_cons_zero, List.set_cons_succ]))
          refine WG.one (i := 5) rfl (by kernel_rfl) (fun K hK => ?_)
          go_simp
          refine hK.out _ _ (by exact KS.out _ (HD0.out.trans (Ext.alloc _ _))) (fun hHeld => ?_)
          clear hK K
          (try simp only [Act.put, List.setIfInBounds_toArray, List.set_cons_zero, List.set_cons_succ])
          have hE2 : Ext W1 (W1.drew.alloc (.cells #[.int .i64 x.id, .slice An x.need.length cn] 36)) := HD0.out.trans (Ext.alloc _ _)
          have HRX : Hid (RT (W1.drew.alloc (.cells #[.int .i64 x.id, .slice An x.need.length cn] 36)) (.slice (some ⟨W1.heap.size, 0, none⟩) 1 1) [x]) := hid (RSl.laid (cs := [.int .i64 x.id, .slice An x.need.length cn]) (heap_new rfl) rfl ⟨_, rfl, by obtain ⟨nv', he, hn'⟩ := HX1.out; injection he with he; injection he with he; injection he with _ he; injection he with he _; subst he; exact RI.ext hn' hE2⟩)
          have HRV := hid (RI.ext H1.out.room hE2)
          have HE2 := hid hE2
          clear hE2
          refine WG.last (i := 6) rfl (by kernel_rfl) (by kernel_rfl) (fun K hK => ?_)
          go_simp; refine (iTasksValid _ _ C.room [x] _ HRV.out HRX.out (fun t ht => by rw [List.mem_singleton.1 ht]; exact HXI.out)).mono ?_; rintro e w3 ⟨rfl, hE3⟩; rw [htv]; have HE3 := hid (HE2.out.trans hE3); clear hE3; (try dsimp only)
          refine hK.out _ _ ?_
          clear hK K
          (try simp only [Act.put, List.setIfInBounds_toArray, List.set_cons_zero, List.set_cons_succ])
          refine WG.last (i := 7) rfl (by kernel_rfl) (by kernel_rfl) (fun K hK => ?_)
          go_simp
          refine hK.out _ _ ?_
          clear hK K
          (try simp only [Act.put, List.setIfInBounds_toArray, List.set_cons_zero, List.set_cons_succ])
          refine WG.done (by kernel_rfl) ?_
          refine NoPanic.normal ?_
          obtain ⟨s0, s1, s2⟩ := KS.out _ HE3.out
          have hfw' := HNW.out
          go_wp2_with (first
            | (go_at_call 50; refine (iFind H base C ps _ cells 1 x.id _ (H1.out.ext HE3.out)).mono ?_; rintro e w4 ⟨rfl, hE4⟩; obtain ⟨q1, hq1⟩ : ∃ q1, q1 = (findU C.units x.id).1 := ⟨_, rfl⟩; obtain ⟨q2, hq2⟩ : ∃ q2, q2 = (findU C.units x.id).2 := ⟨_, rfl⟩; rw [← hq1, ← hq2]; rw [← hq1] at hfw'; have HE4 := hid (HE3.out.trans hE4); obtain ⟨s0, s1, s2⟩ := KS.out _ HE4.out; clear hE4 hq1 hq2)
            | (go_at_call 51; refine (iPlace H base C ps _ cells 1 _ x grant _ (H1.out.ext HE4.out) (HX1.out.ext HE4.out) HC.out HN.out).mono ?_; rintro e w5 ⟨rfl, hE5⟩; rw [HPA.out]; have HE5 := hid (HE4.out.trans hE5); obtain ⟨s0, s1, s2⟩ := KS.out _ HE5.out; clear hE5)
            | (go_at_call 52; refine (iHostTasks H base C ps _ cells 1 _ (H1.out.ext HE5.out) (by rw [← HL.out]; have := HFL.out; omega)).mono ?_; rintro e w6 ⟨rfl, hE6⟩; rw [← HL.out]; have HE6 := hid (HE5.out.trans hE6); obtain ⟨s0, s1, s2⟩ := KS.out _ HE6.out; clear hE6))
          have HD := hid (H1.out.ext HE6.out)
          have HB := hid (HBE.out _ HE6.out)
          refine leaves_cons (f := 48) (args := #[.pointer (some ⟨H, 0, none⟩)]) (by simp) (by simp [go_sem]) ?_
          refine (unlock_deferred muLib ⟨H, 0, none⟩ .returning _ HD.out.at.1 (HD.out.at.2.2.2 0)).mono ?_
          rintro e u' w'' ⟨rfl, rfl, rfl⟩
          refine ⟨_, results_tmp rfl _ _ _, ?_⟩
          unfold RetH
          exact ⟨_, _, by rw [HA.out]; rfl, by rw [HA.out]; exact HD.out.lock 0, Below.setCell HB.out hHb _⟩
        · have hf1 : ¬ (14 : Int) ≤ (L : Int) := by omega
          have HA : Hid (arriveH C x grant = (⟨C.room, C.units.set k ⟨true, u.tasks ++ [x]⟩⟩, 0)) := hid (by rw [HA0.out]; unfold arrC; rw [if_neg (by rw [hk, ← hL]; omega), hk, Int.toNat_natCast, ex.out])
          rw [hk] at HPA
          obtain ⟨tv, HPK0⟩ : ∃ tv, Hid (ps[k]? = some (u, tv)) := by obtain ⟨tv, hpk⟩ := H1.out.pair ex.out; exact ⟨tv, hid hpk⟩
          clear hf hL HFL2
          go_enter_defers Tryz.func27, Tryz.ntmps27
          go_wp2_with (go_at_call 47; rw [← hW]; refine (lock_free muLib ⟨H, 0, none⟩ _ c0 f0).mono ?_; rintro e w1 ⟨rfl, rfl⟩; clear hW)
          obtain ⟨W1, hW1⟩ : ∃ W1, W1 = W.setCell ⟨H, 0, none⟩ (.int .i32 1) := ⟨_, rfl⟩
          rw [← hW1] at H1 HX1 Z1 HB1 ⊢
          clear hW1 c0 f0 HW
          have hz1 : w.heap.size < W1.heap.size := obj_lt Z1.out
          have KS : Hid (∀ w', Ext W1 w' → w'.cell? ⟨H, 2, none⟩ = some (.slice Ar C.room.length cr) ∧ w'.cell? ⟨w.heap.size, 0, none⟩ = some (.int .i64 x.id) ∧ w'.cell? ⟨w.heap.size, 1, none⟩ = some (.slice An x.need.length cn)) := hid fun w' hw => ⟨(H1.out.ext hw).at.2.1, obj_cell (hw.obj Z1.out) (i := 0) rfl, obj_cell (hw.obj Z1.out) (i := 1) rfl⟩
          have HD0 : Hid (Ext W1 W1.drew) := hid (Below.drew (Below.refl _ _))
          have HBE : Hid (∀ w', Ext W1 w' → Below base w w') := hid fun w' hw => Below.trans HB1.out (hw.mono (by have := HB1.out.size; omega))
          refine wp_region_noPanic ?_
          refine WG.start (fun w' => w'.cell? ⟨H, 2, none⟩ = some (.slice Ar C.room.length cr) ∧ w'.cell? ⟨w.heap.size, 0, none⟩ = some (.int .i64 x.id) ∧ w'.cell? ⟨w.heap.size, 1, none⟩ = some (.slice An x.need.length cn)) [6,7] (by kernel_rfl) (by exact KS.out _ HD0.out) (fun hHeld => ?_)
          (refine WG.take (i := 0) (v := ?_) rfl (by kernel_rfl) (by kernel_rfl) (by kernel_rfl) (by kernel_rfl) (fun _ _ _ h => h) (Or.inl ⟨by rfl, ?_⟩) (by assumption) ?_; rotate_left; (intro w hSw; (try dsimp only at hSw); go_split_ands; go_simp; (try with_reducible rfl)); (try simp only [Act.put, List.setIfInBounds_toArray, List.set_cons_zero, List.set_cons_succ]))
          (refine WG.take (i := 1) (v := ?_) rfl (by kernel_rfl) (by kernel_rfl) (by kernel_rfl) (by kernel_rfl) (fun _ _ _ h => h) (Or.inl ⟨by rfl, ?_⟩) (by assumption) ?_; rotate_left; (intro w hSw; (try dsimp only at hSw); go_split_ands; go_simp; (try with_reducible rfl)); (try simp only [Act.put, List.setIfInBounds_toArray, List.set_cons_zero, List.set_cons_succ]))
          (refine WG.take (i := 2) (v := ?_) rfl (by kernel_rfl) (by kernel_rfl) (by kernel_rfl) (by kernel_rfl) (fun _ _ _ h => h) (Or.inl ⟨by rfl, ?_⟩) (by assumption) ?_; rotate_left; (intro w hSw; (try dsimp only at hSw); go_split_ands; go_simp; (try with_reducible rfl)); (try simp only [Act.put, List.setIfInBounds_toArray, List.set_cons_zero, List.set_cons_succ]))
          (refine WG.take (i := 3) (v := ?_) rfl (by kernel_rfl) (by kernel_rfl) (by kernel_rfl) (by kernel_rfl) (fun _ _ _ h => h) (Or.inl ⟨by rfl, ?_⟩) (by assumption) ?_; rotate_left; (intro w hSw; (try dsimp only at hSw); go_split_ands; go_simp; (try with_reducible rfl)); (try simp only [Act.put, List.setIfInBounds_toArray, List.set_cons_zero, List.set_cons_succ]))
          (refine WG.take (i := 4) (v := ?_) rfl (by kernel_rfl) (by kernel_rfl) (by kernel_rfl) (by kernel_rfl) (fun _ _ _ h => h) (Or.inl ⟨by rfl, ?_⟩) (by assumption) ?_; rotate_left; (intro w hSw; (try dsimp only at hSw); go_split_ands; go_simp; (try with_reducible rfl)); (try simp only [Act.put, List.setIfInBounds_toArray, List.set_cons_zero, List.set_cons_succ]))
          refine WG.one (i := 5) rfl (by kernel_rfl) (fun K hK => ?_)
          go_simp
          refine hK.out _ _ (by exact KS.out _ (HD0.out.trans (Ext.alloc _ _))) (fun hHeld => ?_)
          clear hK K
          (try simp only [Act.put, List.setIfInBounds_toArray, List.set_cons_zero, List.set_cons_succ])
          have hE2 : Ext W1 (W1.drew.alloc (.cells #[.int .i64 x.id, .slice An x.need.length cn] 36)) := HD0.out.trans (Ext.alloc _ _)
          have HRX : Hid (RT (W1.drew.alloc (.cells #[.int .i64 x.id, .slice An x.need.length cn] 36)) (.slice (some ⟨W1.heap.size, 0, none⟩) 1 1) [x]) := hid (RSl.laid (cs := [.int .i64 x.id, .slice An x.need.length cn]) (heap_new rfl) rfl ⟨_, rfl, by obtain ⟨nv', he, hn'⟩ := HX1.out; injection he with he; injection he with he; injection he with _ he; injection he with he _; subst he; exact RI.ext hn' hE2⟩)
          have HRV := hid (RI.ext H1.out.room hE2)
          have HE2 := hid hE2
          clear hE2
          refine WG.last (i := 6) rfl (by kernel_rfl) (by kernel_rfl) (fun K hK => ?_)
          go_simp; refine (iTasksValid _ _ C.room [x] _ HRV.out HRX.out (fun t ht => by rw [List.mem_singleton.1 ht]; exact HXI.out)).mono ?_; rintro e w3 ⟨rfl, hE3⟩; rw [htv]; have HE3 := hid (HE2.out.trans hE3); clear hE3; (try dsimp only)
          refine hK.out _ _ ?_
          clear hK K
          (try simp only [Act.put, List.setIfInBounds_toArray, List.set_cons_zero, List.set_cons_succ])
          refine WG.last (i := 7) rfl (by kernel_rfl) (by kernel_rfl) (fun K hK => ?_)
          go_simp
          refine hK.out _ _ ?_
          clear hK K
          (try simp only [Act.put, List.setIfInBounds_toArray, List.set_cons_zero, List.set_cons_succ])
          refine WG.done (by kernel_rfl) ?_
          refine NoPanic.normal ?_
          obtain ⟨s0, s1, s2⟩ := KS.out _ HE3.out
          have hfw' := HNW.out
          go_wp2_with (first
            | (go_at_call 50; refine (iFind H base C ps _ cells 1 x.id _ (H1.out.ext HE3.out)).mono ?_; rintro e w4 ⟨rfl, hE4⟩; obtain ⟨q1, hq1⟩ : ∃ q1, q1 = (findU C.units x.id).1 := ⟨_, rfl⟩; obtain ⟨q2, hq2⟩ : ∃ q2, q2 = (findU C.units x.id).2 := ⟨_, rfl⟩; rw [← hq1, ← hq2]; rw [← hq1] at hfw'; have HE4 := hid (HE3.out.trans hE4); obtain ⟨s0, s1, s2⟩ := KS.out _ HE4.out; clear hE4 hq1 hq2)
            | (go_at_call 51; refine (iPlace H base C ps _ cells 1 _ x grant _ (H1.out.ext HE4.out) (HX1.out.ext HE4.out) HC.out HN.out).mono ?_; rintro e w5 ⟨rfl, hE5⟩; rw [HPA.out]; have HE5 := hid (HE4.out.trans hE5); obtain ⟨s0, s1, s2⟩ := KS.out _ HE5.out; clear hE5)
            | (go_at_call 52; refine (iHostTasks H base C ps _ cells 1 _ (H1.out.ext HE5.out) (by rw [← HL.out]; have := HFL.out; omega)).mono ?_; rintro e w6 ⟨rfl, hE6⟩; rw [← HL.out]; have HE6 := hid (HE5.out.trans hE6); obtain ⟨s0, s1, s2⟩ := KS.out _ HE6.out; obtain ⟨cu0, cu1, htu⟩ := (H1.out.ext HE6.out).unit HPK0.out; have fu := (H1.out.ext HE6.out).at.2.2.2 (4 + k * 2); clear htu hE6))
          obtain ⟨W7, hW7⟩ : ∃ W7, W7 = w6.setCell ⟨H, 4 + k * 2, none⟩ (.bool true) := ⟨_, rfl⟩
          obtain ⟨cells7, H7'⟩ := (H1.out.ext HE6.out).open2 ex.out HPK0.out true
          have hs7 : SameT (fun t => t ≠ 86) w6 (w6.setCell ⟨H, 4 + k * 2, none⟩ (.bool true)) := SameT.setCell (p := ⟨H, 4 + k * 2, none⟩) (H1.out.ext HE6.out).blk _ (fun t ht => ht)
          have hz7 := obj_far (HE6.out.obj Z1.out) (p := ⟨H, 4 + k * 2, none⟩) (by show w.heap.size ≠ H; omega) (.bool true)
          have hB7 : Below base w (w6.setCell ⟨H, 4 + k * 2, none⟩ (.bool true)) := Below.setCell (HBE.out _ HE6.out) hHb _
          have hx7 : TaskV (w6.setCell ⟨H, 4 + k * 2, none⟩ (.bool true)) (.agg #[.int .i64 x.id, .slice An x.need.length cn]) x := by obtain ⟨nv', he, hn'⟩ := HX1.out.ext HE6.out; exact ⟨nv', he, RI.same hn' (hs7.mono (by rintro t rfl; decide))⟩
          rw [← hW7] at H7' hz7 hB7 hx7 ⊢
          clear hW7 hs7 cu0 cu1 fu s0 s1 s2
          have H7 := hid H7'
          have Z7 := hid hz7
          have HB7 := hid hB7
          have HX7 := hid hx7
          clear H7' hz7 hB7 hx7
          have hex7 : (C.units.set k ⟨true, u.tasks⟩)[k]? = some ⟨true, u.tasks⟩ := List.getElem?_set_self hkl
          have hpk : (ps.set k (⟨true, u.tasks⟩, tv))[k]? = some (⟨true, u.tasks⟩, tv) := List.getElem?_set_self (List.getElem?_eq_some_iff.1 HPK0.out).1
          have htn : ∀ a, tv.ownBlock = some a → a < w.heap.size := fun a ha => (HLT0.out a (List.mem_filterMap.2 ⟨_, List.mem_of_getElem? HPK0.out, ha⟩)).2
          have HEX7 := hid hex7
          have HPK := hid hpk
          obtain ⟨_, cu1, htu⟩ := H7.out.unit hpk
          have htu : OT W7 base tv u.tasks := htu
          obtain ⟨At, ct, rfl, _, _⟩ := htu.form
          have HTU := hid htu
          have HTN := hid htn
          have HC1 := hid cu1
          clear htu hpk hex7 cu1 htn
          have hHz : H < W7.heap.size := obj_lt H7.out.blk
          have hzz : w.heap.size < W7.heap.size := obj_lt Z7.out
          have KT : Hid (∀ w' : World, w'.heap[H]? = W7.heap[H]? → w'.heap[w.heap.size]? = W7.heap[w.heap.size]? → w'.cell? ⟨H, 4 + k * 2 + 1, none⟩ = some (.slice At u.tasks.length ct) ∧ w'.cell? ⟨w.heap.size, 0, none⟩ = some (.int .i64 x.id) ∧ w'.cell? ⟨w.heap.size, 1, none⟩ = some (.slice An x.need.length cn)) := hid fun w' h0 h1 => ⟨(World.cell?_of_block (w := W7) (a := ⟨H, 4 + k * 2 + 1, none⟩) h0).trans HC1.out, obj_cell (h1.trans Z7.out) (i := 0) rfl, obj_cell (h1.trans Z7.out) (i := 1) rfl⟩
          have KE : Hid (∀ w', Ext W7 w' → w'.cell? ⟨H, 4 + k * 2 + 1, none⟩ = some (.slice At u.tasks.length ct) ∧ w'.cell? ⟨w.heap.size, 0, none⟩ = some (.int .i64 x.id) ∧ w'.cell? ⟨w.heap.size, 1, none⟩ = some (.slice An x.need.length cn)) := hid fun w' hw => KT.out w' (hw.block _ hHz) (hw.block _ hzz)
          have HED : Hid (Ext W7 W7.drew) := hid (Below.drew (Below.refl _ _))
          have HUT : Hid (u.tasks.length ≤ 900) := hid (clusOk_unit HC.out (List.mem_of_getElem? ex.out)).1.1
          obtain ⟨i0_task, hi0_task, hz0_task, hz1_task, hz2_task⟩ := info_parts info_task
          refine wp_region_noPanic ?_
          refine WG.start (fun w' => w'.cell? ⟨H, 4 + k * 2 + 1, none⟩ = some (.slice At u.tasks.length ct) ∧ w'.cell? ⟨w.heap.size, 0, none⟩ = some (.int .i64 x.id) ∧ w'.cell? ⟨w.heap.size, 1, none⟩ = some (.slice An x.need.length cn)) [17] (by kernel_rfl) (by exact KE.out _ HED.out) (fun hHeld => ?_)
          (refine WG.take (i := 0) (v := ?_) rfl (by kernel_rfl) (by kernel_rfl) (by kernel_rfl) (by kernel_rfl) (fun _ _ _ h => h) (Or.inl ⟨by rfl, ?_⟩) (by assumption) ?_; rotate_left; (intro w hSw; (try dsimp only at hSw); go_split_ands; go_simp; (try with_reducible rfl)); (try simp only [Act.put, List.setIfInBounds_toArray, List.set_cons_zero, List.set_cons_succ]))
          (refine WG.take (i := 1) (v := ?_) rfl (by kernel_rfl) (by kernel_rfl) (by kernel_rfl) (by kernel_rfl) (fun _ _ _ h => h) (Or.inl ⟨by rfl, ?_⟩) (by assumption) ?_; rotate_left; (intro w hSw; (try dsimp only at hSw); go_split_ands; go_simp; (try with_reducible rfl)); (try simp only [Act.put, List.setIfInBounds_toArray, List.set_cons_zero, List.set_cons_succ]))
          (refine WG.take (i := 2) (v := ?_) rfl (by kernel_rfl) (by kernel_rfl) (by kernel_rfl) (by kernel_rfl) (fun _ _ _ h => h) (Or.inl ⟨by rfl, ?_⟩) (by assumption) ?_; rotate_left; (intro w hSw; (try dsimp only at hSw); go_split_ands; go_simp; (try with_reducible rfl)); (try simp only [Act.put, List.setIfInBounds_toArray, List.set_cons_zero, List.set_cons_succ]))
          (refine WG.take (i := 3) (v := ?_) rfl (by kernel_rfl) (by kernel_rfl) (by kernel_rfl) (by kernel_rfl) (fun _ _ _ h => h) (Or.inl ⟨by rfl, ?_⟩) (by assumption) ?_; rotate_left; (intro w hSw; (try dsimp only at hSw); go_split_ands; go_simp; (try with_reducible rfl)); (try simp only [Act.put, List.setIfInBounds_toArray, List.set_cons_zero, List.set_cons_succ]))
          (refine WG.take (i := 4) (v := ?_) rfl (by kernel_rfl) (by kernel_rfl) (by kernel_rfl) (by kernel_rfl) (fun _ _ _ h => h) (Or.inl ⟨by rfl, ?_⟩) (by assumption) ?_; rotate_left; (intro w hSw; (try dsimp only at hSw); go_split_ands; go_simp; (try with_reducible rfl)); (try simp only [Act.put, List.setIfInBounds_toArray, List.set_cons_zero, List.set_cons_succ]))
          (refine WG.take (i := 5) (v := ?_) rfl (by kernel_rfl) (by kernel_rfl) (by kernel_rfl) (by kernel_rfl) (fun _ _ _ h => h) (Or.inl ⟨by rfl, ?_⟩) (by assumption) ?_; rotate_left; (intro w hSw; (try dsimp only at hSw); go_split_ands; go_simp; (try with_reducible rfl)); (try simp only [Act.put, List.setIfInBounds_toArray, List.set_cons_zero, List.set_cons_succ]))
          (refine WG.take (i := 6) (v := ?_) rfl (by kernel_rfl) (by kernel_rfl) (by kernel_rfl) (by kernel_rfl) (fun _ _ _ h => h) (Or.inl ⟨by rfl, ?_⟩) (by assumption) ?_; rotate_left; (intro w hSw; (try dsimp only at hSw); go_split_ands; go_simp; (try with_reducible rfl)); (try simp only [Act.put, List.setIfInBounds_toArray, List.set_cons_zero, List.set_cons_succ]))
          (refine WG.take (i := 7) (v := ?_) rfl (by kernel_rfl) (by kernel_rfl) (by kernel_rfl) (by kernel_rfl) (fun _ _ _ h => h) (Or.inl ⟨by rfl, ?_⟩) (by assumption) ?_; rotate_left; (intro w hSw; (try dsimp only at hSw); go_split_ands; go_simp; (try with_reducible rfl)); (try simp only [Act.put, List.setIfInBounds_toArray, List.set_cons_zero, List.set_cons_succ]))
          (refine WG.take (i := 8) (v := ?_) rfl (by kernel_rfl) (by kernel_rfl) (by kernel_rfl) (by kernel_rfl) (fun _ _ _ h => h) (Or.inl ⟨by rfl, ?_⟩) (by assumption) ?_; rotate_left; (intro w hSw; (try dsimp only at hSw); go_split_ands; go_simp; (try with_reducible rfl)); (try simp only [Act.put, List.setIfInBounds_toArray, List.set_cons_zero, List.set_cons_succ]))
          (refine WG.take (i := 9) (v := ?_) rfl (by kernel_rfl) (by kernel_rfl) (by kernel_rfl) (by kernel_rfl) (fun _ _ _ h => h) (Or.inl ⟨by rfl, ?_⟩) (by assumption) ?_; rotate_left; (intro w hSw; (try dsimp only at hSw); go_split_ands; go_simp; (try with_reducible rfl)); (try simp only [Act.put, List.setIfInBounds_toArray, List.set_cons_zero, List.set_cons_succ]))
          (refine WG.take (i := 13) (v := ?_) rfl (by kernel_rfl) (by kernel_rfl) (by kernel_rfl) (by kernel_rfl) (fun _ _ _ h => h) (Or.inl ⟨by rfl, ?_⟩) (by assumption) ?_; rotate_left; (intro w hSw; (try dsimp only at hSw); go_split_ands; go_simp; (try with_reducible rfl)); (try simp only [Act.put, List.setIfInBounds_toArray, List.set_cons_zero, List.set_cons_succ]))
          (refine WG.take (i := 14) (v := ?_) rfl (by kernel_rfl) (by kernel_rfl) (by kernel_rfl) (by kernel_rfl) (fun _ _ _ h => h) (Or.inl ⟨by rfl, ?_⟩) (by assumption) ?_; rotate_left; (intro w hSw; (try dsimp only at hSw); go_split_ands; go_simp; (try with_reducible rfl)); (try simp only [Act.put, List.setIfInBounds_toArray, List.set_cons_zero, List.set_cons_succ]))
          refine WG.one (i := 10) rfl (by kernel_rfl) (fun K hK => ?_)
          go_simp; refine (iTaskCopy _ x _ (HX7.out.ext HED.out) (by have := HN.out.1; omega)).mono ?_; rintro e w8 ⟨A8, c8, rfl, hO8, hE8⟩; have hE8 : Ext W7 w8 := HED.out.trans hE8; have HO8 := hid hO8.read; have HE8 := hid hE8; clear hO8 hE8; (try dsimp only)
          refine hK.out _ _ (by exact KE.out _ HE8.out) (fun hHeld => ?_)
          clear hK K
          (try simp only [Act.put, List.setIfInBounds_toArray, List.set_cons_zero, List.set_cons_succ])
          refine WG.one (i := 11) rfl (by kernel_rfl) (fun K hK => ?_)
          go_simp
          refine hK.out _ _ (by exact KE.out _ (HE8.out.trans (Ext.alloc _ _))) (fun hHeld => ?_)
          clear hK K
          (try simp only [Act.put, List.setIfInBounds_toArray, List.set_cons_zero, List.set_cons_succ])
          have hE9 : Ext W7 (w8.alloc (.cells #[.int .i64 x.id, .slice A8 x.need.length c8] 36)) := HE8.out.trans (Ext.alloc _ _)
          have HT9 := hid (Own.ext ET.ok HTU.out hE9)
          have H9 := hid (H7.out.ext hE9)
          have HB9 := hid (Below.trans HB7.out (hE9.mono (by have := HB7.out.size; omega)))
          have HE9 := hid hE9
          have hz9 := hE9.size
          clear hE9
          refine WG.one (i := 12) rfl (by kernel_rfl) (fun K hK => ?_)
          refine step_append_sl _ (by rfl) _ _ 48 (by rfl) ET.ok ET.flat (base) 36 ET.ne i0_task _ 2 32 Tryz.underlying48 hi0_task hz0_task hz1_task hz2_task rfl (by omega) _ (by rfl) _ (HT9.out) _ (by rfl) _ (RSl.laid (cs := [.int .i64 x.id, .slice A8 x.need.length c8]) (heap_alloc_new _ _) rfl ⟨_, rfl, RI.ext HO8.out (Ext.alloc _ _)⟩) (by have := HUT.out; simp; omega) (by have := HUT.out; simp; omega) ?_ ?_; (focus (first | exact Nat.le_refl _ | (simp; done) | (simp; omega) | omega)); intro va wa hOa hga hata hsa; obtain ⟨Aa, ca, rfl, _, _⟩ := hOa.form_app; have HOa := hid hOa; have HGa := hid hga; have HATa := hid hata; have HSa := hid hsa; clear hOa hga hata hsa
          refine hK.out _ _ (by exact KT.out _ ((HSa.out _ _ _ _ (by decide) H9.out.blk).trans H7.out.blk.symm) ((HGa.out.block _ (by have := HE9.out.size; omega) (fun e => by exact absurd (HTN.out _ e.symm) (by omega))).trans (HE9.out.block _ hzz))) (fun hHeld => ?_)
          clear hK K
          (try simp only [Act.put, List.setIfInBounds_toArray, List.set_cons_zero, List.set_cons_succ])
          (refine WG.take (i := 15) (v := ?_) rfl (by kernel_rfl) (by kernel_rfl) (by kernel_rfl) (by kernel_rfl) (fun _ _ _ h => h) (Or.inl ⟨by rfl, ?_⟩) (by assumption) ?_; rotate_left; (intro w hSw; (try dsimp only at hSw); go_split_ands; go_simp; (try with_reducible rfl)); (try simp only [Act.put, List.setIfInBounds_toArray, List.set_cons_zero, List.set_cons_succ]))
          (refine WG.take (i := 16) (v := ?_) rfl (by kernel_rfl) (by kernel_rfl) (by kernel_rfl) (by kernel_rfl) (fun _ _ _ h => h) (Or.inl ⟨by rfl, ?_⟩) (by assumption) ?_; rotate_left; (intro w hSw; (try dsimp only at hSw); go_split_ands; go_simp; (try with_reducible rfl)); (try simp only [Act.put, List.setIfInBounds_toArray, List.set_cons_zero, List.set_cons_succ]))
          have cxa := (KT.out wa ((HSa.out _ _ _ _ (by decide) H9.out.blk).trans H7.out.blk.symm) ((HGa.out.block _ (by have := HE9.out.size; omega) (fun e => absurd (HTN.out _ e.symm) (by omega))).trans (HE9.out.block _ hzz))).1
          have fxa := obj_frozen (HSa.out _ _ _ _ (by decide) H9.out.blk) (4 + k * 2 + 1)
          refine WG.last (i := 17) rfl (by kernel_rfl) (by kernel_rfl) (fun K hK => ?_)
          go_simp
          refine hK.out _ _ ?_
          clear hK K
          (try simp only [Act.put, List.setIfInBounds_toArray, List.set_cons_zero, List.set_cons_succ])
          refine WG.done (by kernel_rfl) ?_
          refine NoPanic.normal ?_
          go_wp2
          obtain ⟨cellsB, HT'⟩ := H9.out.turn HEX7.out HPK.out (fun a ha hne => HGa.out.block a ha (fun e => hne e.symm)) HSa.out HOa.out (nodup_app H9.out.nd HPK.out HATa.out (fun g hg => (H9.out.lt g hg).2))
          have HBB : Below base w wa := Below.grown HB9.out HGa.out (by have := HB9.out.size; omega) (fun a ha => (Own.lt HT9.out a ha).1)
          rw [List.set_set] at HT'
          have HD := hid HT'
          have HB : Hid (Below base w (wa.setCell ⟨H, 4 + k * 2 + 1, none⟩ (.slice Aa (u.tasks.length + 1) ca))) := hid (Below.setCell HBB hHb _)
          clear HT' HBB
          refine leaves_cons (f := 48) (args := #[.pointer (some ⟨H, 0, none⟩)]) (by simp) (by simp [go_sem]) ?_
          refine (unlock_deferred muLib ⟨H, 0, none⟩ .returning _ HD.out.at.1 (HD.out.at.2.2.2 0)).mono ?_
          rintro e u' w'' ⟨rfl, rfl, rfl⟩
          refine ⟨_, results_tmp rfl _ _ _, ?_⟩
          unfold RetH
          exact ⟨_, _, by rw [HA.out]; rfl, by rw [HA.out]; exact HD.out.lock 0, Below.setCell HB.out hHb _⟩
  · have htv : tasksOk C.room [x] = false := by simpa using htv
    have HA : Hid (arriveH C x grant = (C, 1)) := hid (by unfold arriveH; rw [htv]; rfl)
    go_enter_defers Tryz.func27, Tryz.ntmps27
    go_wp2_with (go_at_call 47; rw [← hW]; refine (lock_free muLib ⟨H, 0, none⟩ _ c0 f0).mono ?_; rintro e w1 ⟨rfl, rfl⟩; clear hW)
    obtain ⟨W1, hW1⟩ : ∃ W1, W1 = W.setCell ⟨H, 0, none⟩ (.int .i32 1) := ⟨_, rfl⟩
    rw [← hW1] at H1 HX1 Z1 HB1 ⊢
    clear hW1 c0 f0 HW
    have hz1 : w.heap.size < W1.heap.size := obj_lt Z1.out
    have KS : Hid (∀ w', Ext W1 w' → w'.cell? ⟨H, 2, none⟩ = some (.slice Ar C.room.length cr) ∧ w'.cell? ⟨w.heap.size, 0, none⟩ = some (.int .i64 x.id) ∧ w'.cell? ⟨w.heap.size, 1, none⟩ = some (.slice An x.need.length cn)) := hid fun w' hw => ⟨(H1.out.ext hw).at.2.1, obj_cell (hw.obj Z1.out) (i := 0) rfl, obj_cell (hw.obj Z1.out) (i := 1) rfl⟩
    have HD0 : Hid (Ext W1 W1.drew) := hid (Below.drew (Below.refl _ _))
    have HBE : Hid (∀ w', Ext W1 w' → Below base w w') := hid fun w' hw => Below.trans HB1.out (hw.mono (by have := HB1.out.size; omega))
    refine wp_region_noPanic ?_
    refine WG.start (fun w' => w'.cell? ⟨H, 2, none⟩ = some (.slice Ar C.room.length cr) ∧ w'.cell? ⟨w.heap.size, 0, none⟩ = some (.int .i64 x.id) ∧ w'.cell? ⟨w.heap.size, 1, none⟩ = some (.slice An x.need.length cn)) [6,7] (by kernel_rfl) (by exact KS.out _ HD0.out) (fun hHeld => ?_)
    (refine WG.take (i := 0) (v := ?_) rfl (by kernel_rfl) (by kernel_rfl) (by kernel_rfl) (by kernel_rfl) (fun _ _ _ h => h) (Or.inl ⟨by rfl, ?_⟩) (by assumption) ?_; rotate_left; (intro w hSw; (try dsimp only at hSw); go_split_ands; go_simp; (try with_reducible rfl)); (try simp only [Act.put, List.setIfInBounds_toArray, List.set_cons_zero, List.set_cons_succ]))
    (refine WG.take (i := 1) (v := ?_) rfl (by kernel_rfl) (by kernel_rfl) (by kernel_rfl) (by kernel_rfl) (fun _ _ _ h => h) (Or.inl ⟨by rfl, ?_⟩) (by assumption) ?_; rotate_left; (intro w hSw; (try dsimp only at hSw); go_split_ands; go_simp; (try with_reducible rfl)); (try simp only [Act.put, List.setIfInBounds_toArray, List.set_cons_zero, List.set_cons_succ]))
    (refine WG.take (i := 2) (v := ?_) rfl (by kernel_rfl) (by kernel_rfl) (by kernel_rfl) (by kernel_rfl) (fun _ _ _ h => h) (Or.inl ⟨by rfl, ?_⟩) (by assumption) ?_; rotate_left; (intro w hSw; (try dsimp only at hSw); go_split_ands; go_simp; (try with_reducible rfl)); (try simp only [Act.put, List.setIfInBounds_toArray, List.set_cons_zero, List.set_cons_succ]))
    (refine WG.take (i := 3) (v := ?_) rfl (by kernel_rfl) (by kernel_rfl) (by kernel_rfl) (by kernel_rfl) (fun _ _ _ h => h) (Or.inl ⟨by rfl, ?_⟩) (by assumption) ?_; rotate_left; (intro w hSw; (try dsimp only at hSw); go_split_ands; go_simp; (try with_reducible rfl)); (try simp only [Act.put, List.setIfInBounds_toArray, List.set_cons_zero, List.set_cons_succ]))
    (refine WG.take (i := 4) (v := ?_) rfl (by kernel_rfl) (by kernel_rfl) (by kernel_rfl) (by kernel_rfl) (fun _ _ _ h => h) (Or.inl ⟨by rfl, ?_⟩) (by assumption) ?_; rotate_left; (intro w hSw; (try dsimp only at hSw); go_split_ands; go_simp; (try with_reducible rfl)); (try simp only [Act.put, List.setIfInBounds_toArray, List.set_cons_zero, List.set_cons_succ]))
    refine WG.one (i := 5) rfl (by kernel_rfl) (fun K hK => ?_)
    go_simp
    refine hK.out _ _ (by exact KS.out _ (HD0.out.trans (Ext.alloc _ _))) (fun hHeld => ?_)
    clear hK K
    (try simp only [Act.put, List.setIfInBounds_toArray, List.set_cons_zero, List.set_cons_succ])
    have hE2 : Ext W1 (W1.drew.alloc (.cells #[.int .i64 x.id, .slice An x.need.length cn] 36)) := HD0.out.trans (Ext.alloc _ _)
    have HRX : Hid (RT (W1.drew.alloc (.cells #[.int .i64 x.id, .slice An x.need.length cn] 36)) (.slice (some ⟨W1.heap.size, 0, none⟩) 1 1) [x]) := hid (RSl.laid (cs := [.int .i64 x.id, .slice An x.need.length cn]) (heap_new rfl) rfl ⟨_, rfl, by obtain ⟨nv', he, hn'⟩ := HX1.out; injection he with he; injection he with he; injection he with _ he; injection he with he _; subst he; exact RI.ext hn' hE2⟩)
    have HRV := hid (RI.ext H1.out.room hE2)
    have HE2 := hid hE2
    clear hE2
    refine WG.last (i := 6) rfl (by kernel_rfl) (by kernel_rfl) (fun K hK => ?_)
    go_simp; refine (iTasksValid _ _ C.room [x] _ HRV.out HRX.out (fun t ht => by rw [List.mem_singleton.1 ht]; exact HXI.out)).mono ?_; rintro e w3 ⟨rfl, hE3⟩; rw [htv]; have HE3 := hid (HE2.out.trans hE3); clear hE3; (try dsimp only)
    refine hK.out _ _ ?_
    clear hK K
    (try simp only [Act.put, List.setIfInBounds_toArray, List.set_cons_zero, List.set_cons_succ])
    refine WG.last (i := 7) rfl (by kernel_rfl) (by kernel_rfl) (fun K hK => ?_)
    go_simp
    refine hK.out _ _ ?_
    clear hK K
    (try simp only [Act.put, List.setIfInBounds_toArray, List.set_cons_zero, List.set_cons_succ])
    refine WG.done (by kernel_rfl) ?_
    refine NoPanic.normal ?_
    obtain ⟨s0, s1, s2⟩ := KS.out _ HE3.out
    go_wp2
    have HD := hid (H1.out.ext HE3.out)
    have HB := hid (HBE.out _ HE3.out)
    refine leaves_cons (f := 48) (args := #[.pointer (some ⟨H, 0, none⟩)]) (by simp) (by simp [go_sem]) ?_
    refine (unlock_deferred muLib ⟨H, 0, none⟩ .returning _ HD.out.at.1 (HD.out.at.2.2.2 0)).mono ?_
    rintro e u' w'' ⟨rfl, rfl, rfl⟩
    refine ⟨_, results_tmp rfl _ _ _, ?_⟩
    unfold RetH
    exact ⟨_, _, by rw [HA.out]; rfl, by rw [HA.out]; exact HD.out.lock 0, Below.setCell HB.out hHb _⟩

end Go.Proofs.YtkdkmihgnplooaaGreat
