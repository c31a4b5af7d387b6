/- The program's host puts a task: what is needed of memory. -/
import Derived.Test.YtfgibhdglbjadaaGreatK14
import Derived.Test.YtfgibhdglbjadaaGreatK8
namespace Go.Proofs.YtfgibhdglbjadaaGreat
open Go.RowKit
set_option maxRecDepth 4000
set_option maxRecDepth 4000

theorem idxI_congr {α : Type} {p q : α → Bool} : ∀ {xs : List α}, (∀ x ∈ xs, p x = q x) → idxI p xs = idxI q xs := by
  intro xs h
  have : xs.findIdx? p = xs.findIdx? q := by
    induction xs with
    | nil => rfl
    | cons x xs ih =>
      rw [List.findIdx?_cons, List.findIdx?_cons, h x (by simp), ih (fun y hy => h y (by simp [hy]))]
  unfold idxI
  rw [this]
theorem find_where (us : List UnitD) (id : Int) : (findU us id).1 = whereL (us.map (·.tasks)) id := by
  unfold findU whereL
  rw [List.findIdx?_map]
  have : ((fun b => hasId b id) ∘ fun u : UnitD => u.tasks) = fun u : UnitD => hasId u.tasks id := rfl
  rw [this]
  cases us.findIdx? fun u => hasId u.tasks id <;> rfl
theorem fits_alone {room : List Int} {x : TaskD} (h : tasksOk room [x] = true) : l11fits room [] x = true := by
  have ht := (vecFits_ok (tasksOk_mem h (List.mem_singleton.2 rfl)).2)
  have hv := (tasksOk_mem h (List.mem_singleton.2 rfl)).2
  simp only [vecFits, Bool.and_eq_true] at hv
  unfold l11fits
  refine fitsL_of fun i hi => ?_
  have hf := fitsL_at hv.2.2 hi
  rw [addTo_getD _ _ _ _ hi]
  have h0 : (loadL []).getD i 0 = 0 := by
    unfold loadL
    match i, hi with
    | 0, _ => rfl
    | 1, _ => rfl
    | 2, _ => rfl
  rw [h0]
  omega
theorem place_at {C : ClusD} {x : TaskD} (h : clusOk C = true) (hx : tasksOk C.room [x] = true) (grant : Bool) : placeU C x grant = atB C x grant := by
  have hc : atC C x false = idxI (fun u : UnitD => !u.opened) C.units := by
    unfold atC
    refine idxI_congr fun u hu => ?_
    unfold canC
    rcases ((clus_iff C).1 h).1 u hu with ho | ho
    · rw [ho]; rfl
    · rw [ho, fits_alone hx]; cases u.opened <;> rfl
  have hge : -1 ≤ atC C x true := by unfold atC idxI; split <;> omega
  unfold placeU atB
  rw [← hc]
  by_cases h1 : 0 ≤ atC C x true
  · rw [if_pos h1, if_neg (by omega)]
  · rw [if_neg h1]
    cases grant
    · rw [if_neg (by simp)]; simp; omega
    · rw [if_pos (show (atC C x true < 0 ∧ true = true) from ⟨by omega, rfl⟩)]; rfl
/-- a host puts a task; the code -/
def arriveH (C : ClusD) (x : TaskD) (grant : Bool) : ClusD × Int :=
  if tasksOk C.room [x] then
    if 0 ≤ whereL (C.units.map (·.tasks)) x.id then (C, 2) else arrC C x grant
  else (C, 1)
theorem arriveC_ok {C : ClusD} (h : clusOk C = true) (x : TaskD) (grant : Bool) : arriveC C x grant = arriveH C x grant := by unfold arriveC arriveH; rw [if_pos h]
theorem Own.type_ {α : Type} {e : TypeId} {size : Nat} {E : Enc α} {w : World} {base : Nat} {v : Value} {xs : List α} (h : Own e size E w base v xs) {a : Nat} (ha : v.ownBlock = some a) : ∃ cur, w.heap[a]? = some (.cells cur e (0, 0)) := by
  obtain ⟨c, ho, _⟩ := h
  rcases ho.2 with ⟨rfl, _⟩ | ⟨g, cap, cur, rfl, _, hh, _⟩
  · simp [Value.ownBlock] at ha
  have e1 : g = a := by simpa [Value.ownBlock] using ha
  subst e1
  exact ⟨cur, hh⟩
/-- a node's row of tasks is another one (in place or in a block that is new), and the node takes it -/
theorem HostV.turn {w w' : World} {H base : Nat} {C : ClusD} {ps : List (UnitD × Value)} {rv : Value} {cells : List Value} {l : Int} (h : HostV w H base C ps rv cells l) {k : Nat} {x : UnitD} {tv : Value} (hx : C.units[k]? = some x) (hk : ps[k]? = some (x, tv))
    (hb : ∀ a, a < w.heap.size → tv.ownBlock ≠ some a → w'.heap[a]? = w.heap[a]?) (hs : SameT (fun t => t ≠ 34) w w') {ts : List TaskD} {v' : Value} (ht : OT w' base v' ts) (hnd : (blocksOf (ps.set k (⟨x.opened, ts⟩, v'))).Nodup) :
    ∃ cells', HostV (w'.setCell ⟨H, 4 + k * 2 + 1, none⟩ v') H base ⟨C.room, C.units.set k ⟨x.opened, ts⟩⟩ (ps.set k (⟨x.opened, ts⟩, v')) rv cells' l := by
  have hh' := hs _ _ _ _ (by decide) h.blk
  have hs2 : SameT (fun t => t ≠ 132) w' (w'.setCell ⟨H, 4 + k * 2 + 1, none⟩ v') := SameT.setCell (p := ⟨H, 4 + k * 2 + 1, none⟩) hh' v' (fun t ht => ht)
  have hlt := (List.getElem?_eq_some_iff.1 hx).1
  have hint : SameT (fun t => t = 3) w (w'.setCell ⟨H, 4 + k * 2 + 1, none⟩ v') := (hs.mono (by rintro t rfl; decide)).trans (hs2.mono (by rintro t rfl; decide))
  refine ⟨cells.set (k * 2 + 1) v', ?_, ?_, RI.same h.room hint, by rw [List.length_set]; exact h.len, ?_, hnd, h.hi, by rw [List.length_set]; exact h.n10⟩
  · rw [obj_set hh' (4 + k * 2 + 1)]
    simp only [List.length_set, Option.some.injEq, Obj.cells.injEq, and_true, List.setIfInBounds_toArray]
    congr 1
    rw [List.set_append_right _ _ (by show 4 ≤ _; omega), show 4 + k * 2 + 1 - ([Value.int .i32 l, .int .u32 0, rv, .int .i64 (C.units.length : Int)] : List Value).length = k * 2 + 1 by show 4 + k * 2 + 1 - 4 = _; omega]
  · refine Cells.setx (i := 1) h.cel hk (by omega) (fun i y cs hik hy ⟨he, hty⟩ => ⟨he, ?_⟩) (fun cs hl ⟨he, _⟩ => ⟨by rw [he]; rfl, ht.same ET.ok (hs2.mono (by rintro t (rfl | rfl) <;> decide))⟩)
    refine OT.far hty (fun a ha => ?_) hint
    have hag : a ≠ H := fun e => by
      obtain ⟨cur, hc⟩ := hty.type_ ha
      rw [e, h.blk] at hc
      injection hc with hc
      injection hc with _ h2 _
      revert h2
      decide
    exact (Below.heap_setCell _ _ _ _ hag).trans (hb a (hty.lt a ha).2 (fun e => blocks_apart h.nd hy hk hik ha e))
  · show ((ps.set k (⟨x.opened, ts⟩, v')).take (C.units.set k ⟨x.opened, ts⟩).length).map (·.1) = C.units.set k ⟨x.opened, ts⟩
    rw [List.length_set, List.take_set, List.map_set, h.units]
theorem HostV.lt {w : World} {H base : Nat} {C : ClusD} {ps : List (UnitD × Value)} {rv : Value} {cells : List Value} {l : Int} (h : HostV w H base C ps rv cells l) : ∀ g ∈ blocksOf ps, base ≤ g ∧ g < w.heap.size := by
  intro g hg
  obtain ⟨p, hp, hb⟩ := List.mem_filterMap.1 hg
  obtain ⟨k, hk⟩ := List.getElem?_of_mem hp
  exact (h.unit (x := p.1) (v := p.2) hk).2.2.lt g hb
/-- a node is opened or closed -/
theorem HostV.open2 {w : World} {H base : Nat} {C : ClusD} {ps : List (UnitD × Value)} {rv : Value} {cells : List Value} {l : Int} (h : HostV w H base C ps rv cells l) {j : Nat} {x : UnitD} {v : Value} (hj : C.units[j]? = some x) (hv : ps[j]? = some (x, v)) (op : Bool) : ∃ cells', HostV (w.setCell ⟨H, 4 + j * 2, none⟩ (.bool op)) H base ⟨C.room, C.units.set j ⟨op, x.tasks⟩⟩ (ps.set j (⟨op, x.tasks⟩, v)) rv cells' l := by
  have hs : SameT (fun t => t ≠ 132) w (w.setCell ⟨H, 4 + j * 2, none⟩ (.bool op)) := SameT.setCell (p := ⟨H, 4 + j * 2, none⟩) h.blk _ (fun t ht => ht)
  have hs2 := hs.mono (T' := fun t => t = 34 ∨ t = 3) (by rintro t (rfl | rfl) <;> decide)
  have hlt := (List.getElem?_eq_some_iff.1 hj).1
  refine ⟨cells.set (j * 2 + 0) (.bool op), ?_, ?_, RI.same h.room (hs.mono (by rintro t rfl; decide)), by rw [List.length_set]; exact h.len, ?_, ?_, h.hi, by rw [List.length_set]; exact h.n10⟩
  · rw [obj_set h.blk (4 + j * 2)]
    simp only [List.length_set, Option.some.injEq, Obj.cells.injEq, and_true, List.setIfInBounds_toArray]
    congr 1
    rw [List.set_append_right _ _ (by show 4 ≤ _; omega), show 4 + j * 2 - ([Value.int .i32 l, .int .u32 0, rv, .int .i64 (C.units.length : Int)] : List Value).length = j * 2 + 0 by show 4 + j * 2 - 4 = _; omega]
  · exact Cells.setx (i := 0) h.cel hv (by omega) (fun k y cs _ _ hy => EUV.ok _ _ _ _ _ hy hs2) (fun cs hl ⟨he, ht⟩ => ⟨by rw [he]; rfl, ht.same ET.ok (hs2.mono (fun t ht => ht))⟩)
  · show ((ps.set j (⟨op, x.tasks⟩, v)).take (C.units.set j ⟨op, x.tasks⟩).length).map (·.1) = C.units.set j ⟨op, x.tasks⟩
    rw [List.length_set, List.take_set, List.map_set, h.units]
  · rw [blocksOf_set hv]; exact h.nd
/-- what a host's function leaves: the host of another cluster, and a code -/
def RetH (w : World) (H base : Nat) (rv : Value) (r : ClusD × Int) (e : Ending) (w' : World) : Prop := ∃ ps' cells', e = .returned (.int .i64 r.2) ∧ HostV w' H base r.1 ps' rv cells' 0 ∧ Below base w w'

end Go.Proofs.YtfgibhdglbjadaaGreat

/- The program's host puts a task: the walk. -/
namespace Go.Proofs.YtfgibhdglbjadaaGreat
open Go.RowKit Go.MuLone

set_option maxHeartbeats 8000000 in
theorem iHostArrive (H base : Nat) (C : ClusD) (ps : List (UnitD × Value)) (rv : Value) (cells : List Value) (xv : Value) (x : TaskD) (grant : Bool) (w : World) (h : HostV w H base C ps rv cells 0) (hbz : base ≤ w.heap.size) (hx : TaskV w xv x) (hC : clusOk C = true) (hxi : IdR x.id) :
    Calls Tryz.prog 59 #[.pointer (some ⟨H, 0, none⟩), xv, .bool grant] w (RetH w H base rv (arriveH C x grant)) := by
  have HTX := hid hx
  obtain ⟨nv, rfl, hnv⟩ := hx
  obtain ⟨An, cn, rfl, _⟩ := hnv
  have hHw : H < w.heap.size := obj_lt h.blk
  obtain ⟨W, hW⟩ : ∃ W, W = w.alloc (.cells #[.int .i64 x.id, .slice An x.need.length cn] 34) := ⟨_, rfl⟩
  have hEW : Ext w W := by rw [hW]; exact Ext.alloc _ _
  have hz : W.heap[w.heap.size]? = some (.cells #[.int .i64 x.id, .slice An x.need.length cn] 34 (0, 0)) := by rw [hW]; exact heap_alloc_new _ _
  have HW := hid (h.ext hEW)
  have c0 := HW.out.at.1
  have f0 := HW.out.at.2.2.2 0
  have hHb := h.hi
  have hn10 := h.n10
  have HX0 := hid (HTX.out.ext hEW)
  have hs1 : SameT (fun t => t ≠ 132) W (W.setCell ⟨H, 0, none⟩ (.int .i32 1)) := SameT.setCell (p := ⟨H, 0, none⟩) HW.out.blk _ (fun t ht => ht)
  have HX1 : Hid (TaskV (W.setCell ⟨H, 0, none⟩ (.int .i32 1)) (.agg #[.int .i64 x.id, .slice An x.need.length cn]) x) := hid (by obtain ⟨nv', he, hn'⟩ := HX0.out; exact ⟨nv', he, RI.same hn' (hs1.mono (by rintro t rfl; decide))⟩)
  have H1 := hid (HW.out.lock 1)
  have Z1 := hid (obj_far hz (p := ⟨H, 0, none⟩) (by show w.heap.size ≠ H; omega) (.int .i32 1))
  have HB1 : Hid (Below base w (W.setCell ⟨H, 0, none⟩ (.int .i32 1))) := hid (Below.setCell (hEW.mono hbz) hHb _)
  obtain ⟨Ar, cr, rfl, _⟩ := h.room
  have HLT0 := hid h.lt
  have HC := hid hC
  have HXI := hid hxi
  have HFL : Hid ((C.units.map (·.tasks)).flatten.length ≤ 14) := hid (by have := tasksOk_len (binsOk_tk (clusOk_bins hC)); omega)
  clear h hz hEW hC hxi HTX HX0 hs1
  by_cases htv : tasksOk C.room [x] = true
  · have HN : Hid (x.need.length = 3 ∧ Bd 1000 x.need) := hid (by have h3 := (vecFits_ok (tasksOk_mem htv (List.mem_singleton.2 rfl)).2).1; exact ⟨vecOk_len h3, (vecOk_bd h3).mono (by omega)⟩)
    have HPA := hid (place_at HC.out htv grant)
    have hfw := hid (find_where C.units x.id)
    by_cases hw0 : 0 ≤ whereL (C.units.map (·.tasks)) x.id
    · have HA : Hid (arriveH C x grant = (C, 2)) := hid (by unfold arriveH; rw [if_pos htv, if_pos hw0])
      go_enter_defers Tryz.func59, Tryz.ntmps59
      go_wp2_with (go_at_call 113; rw [← hW]; refine (lock_free muLib ⟨H, 0, none⟩ _ c0 f0).mono ?_; rintro e w1 ⟨rfl, rfl⟩; clear hW)
      obtain ⟨W1, hW1⟩ : ∃ W1, W1 = W.setCell ⟨H, 0, none⟩ (.int .i32 1) := ⟨_, rfl⟩
      rw [← hW1] at H1 HX1 Z1 HB1 ⊢
      clear hW1 c0 f0 HW
      have hz1 : w.heap.size < W1.heap.size := obj_lt Z1.out
      have KS : Hid (∀ w', Ext W1 w' → w'.cell? ⟨H, 2, none⟩ = some (.slice Ar C.room.length cr) ∧ w'.cell? ⟨w.heap.size, 0, none⟩ = some (.int .i64 x.id) ∧ w'.cell? ⟨w.heap.size, 1, none⟩ = some (.slice An x.need.length cn)) := hid fun w' hw => ⟨(H1.out.ext hw).at.2.1, obj_cell (hw.obj Z1.out) (i := 0) rfl, obj_cell (hw.obj Z1.out) (i := 1) rfl⟩
      have HD0 : Hid (Ext W1 W1.drew) := hid (Below.drew (Below.refl _ _))
      have HBE : Hid (∀ w', Ext W1 w' → Below base w w') := hid fun w' hw => Below.trans HB1.out (hw.mono (by have := HB1.out.size; omega))
      refine wp_region_noPanic ?_
      refine WG.start (fun w' => w'.cell? ⟨H, 2, none⟩ = some (.slice Ar C.room.length cr) ∧ w'.cell? ⟨w.heap.size, 0, none⟩ = some (.int .i64 x.id) ∧ w'.cell? ⟨w.heap.size, 1, none⟩ = some (.slice An x.need.length cn)) [6,7] (by kernel_rfl) (by exact KS.out _ HD0.out) (fun hHeld => ?_)
      (refine WG.take (i := 0) (v := ?_) rfl (by kernel_rfl) (by kernel_rfl) (by kernel_rfl) (by kernel_rfl) (fun _ _ _ h => h) (Or.inl ⟨by rfl, ?_⟩) (by assumption) ?_; rotate_left; (intro w hSw; (try dsimp only at hSw); go_split_ands; go_simp; (try with_reducible rfl)); (try simp only [Act.put, List.setIfInBounds_toArray, List.set_cons_zero, List.set_cons_succ]))
      (refine WG.take (i := 1) (v := ?_) rfl (by kernel_rfl) (by kernel_rfl) (by kernel_rfl) (by kernel_rfl) (fun _ _ _ h => h) (Or.inl ⟨by rfl, ?_⟩) (by assumption) ?_; rotate_left; (intro w hSw; (try dsimp only at hSw); go_split_ands; go_simp; (try with_reducible rfl)); (try simp only [Act.put, List.setIfInBounds_toArray, List.set_cons_zero, List.set_cons_succ]))
      (refine WG.take (i := 2) (v := ?_) rfl (by kernel_rfl) (by kernel_rfl) (by kernel_rfl) (by kernel_rfl) (fun _ _ _ h => h) (Or.inl ⟨by rfl, ?_⟩) (by assumption) ?_; rotate_left; (intro w hSw; (try dsimp only at hSw); go_split_ands; go_simp; (try with_reducible rfl)); (try simp only [Act.put, List.setIfInBounds_toArray, List.set_cons_zero, List.set_cons_succ]))
      (refine WG.take (i := 3) (v := ?_) rfl (by kernel_rfl) (by kernel_rfl) (by kernel_rfl) (by kernel_rfl) (fun _ _ _ h => h) (Or.inl ⟨by rfl, ?_⟩) (by assumption) ?_; rotate_left; (intro w hSw; (try dsimp only at hSw); go_split_ands; go_simp; (try with_reducible rfl)); (try simp only [Act.put, List.setIfInBounds_toArray, List.set_cons_zero, List.set_cons_succ]))
      (refine WG.take (i := 4) (v := ?_) rfl (by kernel_rfl) (by kernel_rfl) (by kernel_rfl) (by kernel_rfl) (fun _ _ _ h => h) (Or.inl ⟨by rfl, ?_⟩) (by assumption) ?_; rotate_left; (intro w hSw; (try dsimp only at hSw); go_split_ands; go_simp; (try with_reducible rfl)); (try simp only [Act.put, List.setIfInBounds_toArray, List.set_cons_zero, List.set_cons_succ]))
      refine WG.one (i := 5) rfl (by kernel_rfl) (fun K hK => ?_)
      go_simp
      refine hK.out _ _ (by exact KS.out _ (HD0.out.trans (Ext.alloc _ _))) (fun hHeld => ?_)
      clear hK K
      (try simp only [Act.put, List.setIfInBounds_toArray, List.set_cons_zero, List.set_cons_succ])
      have hE2 : Ext W1 (W1.drew.alloc (.cells #[.int .i64 x.id, .slice An x.need.length cn] 34)) := HD0.out.trans (Ext.alloc _ _)
      have HRX : Hid (RT (W1.drew.alloc (.cells #[.int .i64 x.id, .slice An x.need.length cn] 34)) (.slice (some ⟨W1.heap.size, 0, none⟩) 1 1) [x]) := hid (RSl.laid (cs := [.int .i64 x.id, .slice An x.need.length cn]) (heap_new rfl) rfl ⟨_, rfl, by obtain ⟨nv', he, hn'⟩ := HX1.out; injection he with he; injection he with he; injection he with _ he; injection he with he _; subst he; exact RI.ext hn' hE2⟩)
      have HRV := hid (RI.ext H1.out.room hE2)
      have HE2 := hid hE2
      clear hE2
      refine WG.last (i := 6) rfl (by kernel_rfl) (by kernel_rfl) (fun K hK => ?_)
      go_simp; refine (iTasksValid _ _ C.room [x] _ HRV.out HRX.out (fun t ht => by rw [List.mem_singleton.1 ht]; exact HXI.out)).mono ?_; rintro e w3 ⟨rfl, hE3⟩; rw [htv]; have HE3 := hid (HE2.out.trans hE3); clear hE3; (try dsimp only)
      refine hK.out _ _ ?_
      clear hK K
      (try simp only [Act.put, List.setIfInBounds_toArray, List.set_cons_zero, List.set_cons_succ])
      refine WG.last (i := 7) rfl (by kernel_rfl) (by kernel_rfl) (fun K hK => ?_)
      go_simp
      refine hK.out _ _ ?_
      clear hK K
      (try simp only [Act.put, List.setIfInBounds_toArray, List.set_cons_zero, List.set_cons_succ])
      refine WG.done (by kernel_rfl) ?_
      refine NoPanic.normal ?_
      obtain ⟨s0, s1, s2⟩ := KS.out _ HE3.out
      have hfw' : 0 ≤ (findU C.units x.id).1 := by rw [hfw.out]; exact hw0
      clear hw0
      go_wp2_with (go_at_call 115; refine (iFind H base C ps _ cells 1 x.id _ (H1.out.ext HE3.out)).mono ?_; rintro e w4 ⟨rfl, hE4⟩; obtain ⟨q1, hq1⟩ : ∃ q1, q1 = (findU C.units x.id).1 := ⟨_, rfl⟩; obtain ⟨q2, hq2⟩ : ∃ q2, q2 = (findU C.units x.id).2 := ⟨_, rfl⟩; rw [← hq1, ← hq2]; rw [← hq1] at hfw'; have HE4 := hid (HE3.out.trans hE4); obtain ⟨s0, s1, s2⟩ := KS.out _ HE4.out; clear hE4 hq1 hq2)
      have HD := hid (H1.out.ext HE4.out)
      have HB := hid (HBE.out _ HE4.out)
      refine leaves_cons (f := 114) (args := #[.pointer (some ⟨H, 0, none⟩)]) (by simp) (by simp [go_sem]) ?_
      refine (unlock_deferred muLib ⟨H, 0, none⟩ .returning _ HD.out.at.1 (HD.out.at.2.2.2 0)).mono ?_
      rintro e u' w'' ⟨rfl, rfl, rfl⟩
      refine ⟨_, results_tmp rfl _ _ _, ?_⟩
      unfold RetH
      exact ⟨_, _, by rw [HA.out]; rfl, by rw [HA.out]; exact HD.out.lock 0, Below.setCell HB.out hHb _⟩
    · have HNW : Hid (¬ 0 ≤ (findU C.units x.id).1) := hid (by rw [hfw.out]; exact hw0)
      have HA0 : Hid (arriveH C x grant = arrC C x grant) := hid (by unfold arriveH; rw [if_pos htv, if_neg hw0])
      clear hw0
      by_cases hp0 : atB C x grant < 0
      · have HA : Hid (arriveH C x grant = (C, 3)) := hid (by rw [HA0.out]; unfold arrC; rw [if_pos (.inl hp0)])
        obtain ⟨P, hP⟩ : ∃ P, P = atB C x grant := ⟨_, rfl⟩
        rw [← hP] at hp0 HPA
        clear hP
        go_enter_defers Tryz.func59, Tryz.ntmps59
        go_wp2_with (go_at_call 113; rw [← hW]; refine (lock_free muLib ⟨H, 0, none⟩ _ c0 f0).mono ?_; rintro e w1 ⟨rfl, rfl⟩; clear hW)
        obtain ⟨W1, hW1⟩ : ∃ W1, W1 = W.setCell ⟨H, 0, none⟩ (.int .i32 1) := ⟨_, rfl⟩
        rw [← hW1] at H1 HX1 Z1 HB1 ⊢
        clear hW1 c0 f0 HW
        have hz1 : w.heap.size < W1.heap.size := obj_lt Z1.out
        have KS : Hid (∀ w', Ext W1 w' → w'.cell? ⟨H, 2, none⟩ = some (.slice Ar C.room.length cr) ∧ w'.cell? ⟨w.heap.size, 0, none⟩ = some (.int .i64 x.id) ∧ w'.cell? ⟨w.heap.size, 1, none⟩ = some (.slice An x.need.length cn)) := hid fun w' hw => ⟨(H1.out.ext hw).at.2.1, obj_cell (hw.obj Z1.out) (i := 0) rfl, obj_cell (hw.obj Z1.out) (i := 1) rfl⟩
        have HD0 : Hid (Ext W1 W1.drew) := hid (Below.drew (Below.refl _ _))
        have HBE : Hid (∀ w', Ext W1 w' → Below base w w') := hid fun w' hw => Below.trans HB1.out (hw.mono (by have := HB1.out.size; omega))
        refine wp_region_noPanic ?_
        refine WG.start (fun w' => w'.cell? ⟨H, 2, none⟩ = some (.slice Ar C.room.length cr) ∧ w'.cell? ⟨w.heap.size, 0, none⟩ = some (.int .i64 x.id) ∧ w'.cell? ⟨w.heap.size, 1, none⟩ = some (.slice An x.need.length cn)) [6,7] (by kernel_rfl) (by exact KS.out _ HD0.out) (fun hHeld => ?_)
        (refine WG.take (i := 0) (v := ?_) rfl (by kernel_rfl) (by kernel_rfl) (by kernel_rfl) (by kernel_rfl) (fun _ _ _ h => h) (Or.inl ⟨by rfl, ?_⟩) (by assumption) ?_; rotate_left; (intro w hSw; (try dsimp only at hSw); go_split_ands; go_simp; (try with_reducible rfl)); (try simp only [Act.put, List.setIfInBounds_toArray, List.set_cons_zero, List.set_cons_succ]))
        (refine WG.take (i := 1) (v := ?_) rfl (by kernel_rfl) (by kernel_rfl) (by kernel_rfl) (by kernel_rfl) (fun _ _ _ h => h) (Or.inl ⟨by rfl, ?_⟩) (by assumption) ?_; rotate_left; (intro w hSw; (try dsimp only at hSw); go_split_ands; go_simp; (try with_reducible rfl)); (try simp only [Act.put, List.setIfInBounds_toArray, List.set_cons_zero, List.set_cons_succ]))
        (refine WG.take (i := 2) (v := ?_) rfl (by kernel_rfl) (by kernel_rfl) (by kernel_rfl) (by kernel_rfl) (fun _ _ _ h => h) (Or.inl ⟨by rfl, ?_⟩) (by assumption) ?_; rotate_left; (intro w hSw; (try dsimp only at hSw); go_split_ands; go_simp; (try with_reducible rfl)); (try simp only [Act.put, List.setIfInBounds_toArray, List.set_cons_zero, List.set_cons_succ]))
        (refine WG.take (i := 3) (v := ?_) rfl (by kernel_rfl) (by kernel_rfl) (by kernel_rfl) (by kernel_rfl) (fun _ _ _ h => h) (Or.inl ⟨by rfl, ?_⟩) (by assumption) ?_; rotate_left; (intro w hSw; (try dsimp only at hSw); go_split_ands; go_simp; (try with_reducible rfl)); (try simp only [Act.put, List.setIfInBounds_toArray, List.set_cons_zero, List.set_cons_succ]))
        (refine WG.take (i := 4) (v := ?_) rfl (by kernel_rfl) (by kernel_rfl) (by kernel_rfl) (by kernel_rfl) (fun _ _ _ h => h) (Or.inl ⟨by rfl, ?_⟩) (by assumption) ?_; rotate_left; (intro w hSw; (try dsimp only at hSw); go_split_ands; go_simp; (try with_reducible rfl)); (try simp only [Act.put, List.setIfInBounds_toArray, List.set_cons_zero, List.set_cons_succ]))
        refine WG.one (i := 5) rfl (by kernel_rfl) (fun K hK => ?_)
        go_simp
        refine hK.out _ _ (by exact KS.out _ (HD0.out.trans (Ext.alloc _ _))) (fun hHeld => ?_)
        clear hK K
        (try simp only [Act.put, List.setIfInBounds_toArray, List.set_cons_zero, List.set_cons_succ])
        have hE2 : Ext W1 (W1.drew.alloc (.cells #[.int .i64 x.id, .slice An x.need.length cn] 34)) := HD0.out.trans (Ext.alloc _ _)
        have HRX : Hid (RT (W1.drew.alloc (.cells #[.int .i64 x.id, .slice An x.need.length cn] 34)) (.slice (some ⟨W1.heap.size, 0, none⟩) 1 1) [x]) := hid (RSl.laid (cs := [.int .i64 x.id, .slice An x.need.length cn]) (heap_new rfl) rfl ⟨_, rfl, by obtain ⟨nv', he, hn'⟩ := HX1.out; injection he with he; injection he with he; injection he with _ he; injection he with he _; subst he; exact RI.ext hn' hE2⟩)
        have HRV := hid (RI.ext H1.out.room hE2)
        have HE2 := hid hE2
        clear hE2
        refine WG.last (i := 6) rfl (by kernel_rfl) (by kernel_rfl) (fun K hK => ?_)
        go_simp; refine (iTasksValid _ _ C.room [x] _ HRV.out HRX.out (fun t ht => by rw [List.mem_singleton.1 ht]; exact HXI.out)).mono ?_; rintro e w3 ⟨rfl, hE3⟩; rw [htv]; have HE3 := hid (HE2.out.trans hE3); clear hE3; (try dsimp only)
        refine hK.out _ _ ?_
        clear hK K
        (try simp only [Act.put, List.setIfInBounds_toArray, List.set_cons_zero, List.set_cons_succ])
        refine WG.last (i := 7) rfl (by kernel_rfl) (by kernel_rfl) (fun K hK => ?_)
        go_simp
        refine hK.out _ _ ?_
        clear hK K
        (try simp only [Act.put, List.setIfInBounds_toArray, List.set_cons_zero, List.set_cons_succ])
        refine WG.done (by kernel_rfl) ?_
        refine NoPanic.normal ?_
        obtain ⟨s0, s1, s2⟩ := KS.out _ HE3.out
        have hfw' := HNW.out
        go_wp2_with (first
          | (go_at_call 115; refine (iFind H base C ps _ cells 1 x.id _ (H1.out.ext HE3.out)).mono ?_; rintro e w4 ⟨rfl, hE4⟩; obtain ⟨q1, hq1⟩ : ∃ q1, q1 = (findU C.units x.id).1 := ⟨_, rfl⟩; obtain ⟨q2, hq2⟩ : ∃ q2, q2 = (findU C.units x.id).2 := ⟨_, rfl⟩; rw [← hq1, ← hq2]; rw [← hq1] at hfw'; have HE4 := hid (HE3.out.trans hE4); obtain ⟨s0, s1, s2⟩ := KS.out _ HE4.out; clear hE4 hq1 hq2)
          | (go_at_call 116; refine (iPlace H base C ps _ cells 1 _ x grant _ (H1.out.ext HE4.out) (HX1.out.ext HE4.out) HC.out HN.out).mono ?_; rintro e w5 ⟨rfl, hE5⟩; rw [HPA.out]; have HE5 := hid (HE4.out.trans hE5); obtain ⟨s0, s1, s2⟩ := KS.out _ HE5.out; clear hE5))
        have HD := hid (H1.out.ext HE5.out)
        have HB := hid (HBE.out _ HE5.out)
        refine leaves_cons (f := 114) (args := #[.pointer (some ⟨H, 0, none⟩)]) (by simp) (by simp [go_sem]) ?_
        refine (unlock_deferred muLib ⟨H, 0, none⟩ .returning _ HD.out.at.1 (HD.out.at.2.2.2 0)).mono ?_
        rintro e u' w'' ⟨rfl, rfl, rfl⟩
        refine ⟨_, results_tmp rfl _ _ _, ?_⟩
        unfold RetH
        exact ⟨_, _, by rw [HA.out]; rfl, by rw [HA.out]; exact HD.out.lock 0, Below.setCell HB.out hHb _⟩
      · obtain ⟨k, hk⟩ : ∃ k : Nat, atB C x grant = k := ⟨_, (Int.toNat_of_nonneg (by omega)).symm⟩
        have hkl : k < C.units.length := by
          have h1 := idxI_lt (canC C x true) C.units
          have h2 := idxI_lt (canC C x false) C.units
          unfold atB atC at hk
          split at hk <;> omega
        have ik : (k : Int) < 10 := by omega
        have i0 : (0 : Int) ≤ (k : Int) := by omega
        have i00 : ¬ (k : Int) < 0 := by omega
        obtain ⟨u, ex⟩ : ∃ u, Hid (C.units[k]? = some u) := ⟨_, hid (List.getElem?_eq_getElem hkl)⟩
        obtain ⟨L, hL⟩ : ∃ L, L = (C.units.map (·.tasks)).flatten.length := ⟨_, rfl⟩
        have HL := hid hL
        rw [← hL] at HFL
        have HFL2 := HFL.out
        clear hp0
        by_cases hf : L = 14
        · have hf1 : (14 : Int) ≤ (L : Int) := by omega
          have HA : Hid (arriveH C x grant = (C, 3)) := hid (by rw [HA0.out]; unfold arrC; rw [if_pos (.inr (hL.symm.trans hf))])
          rw [hk] at HPA
          clear hf hL HFL2
          go_enter_defers Tryz.func59, Tryz.ntmps59
          go_wp2_with (go_at_call 113; rw [← hW]; refine (lock_free muLib ⟨H, 0, none⟩ _ c0 f0).mono ?_; rintro e w1 ⟨rfl, rfl⟩; clear hW)
          obtain ⟨W1, hW1⟩ : ∃ W1, W1 = W.setCell ⟨H, 0, none⟩ (.int .i32 1) := ⟨_, rfl⟩
          rw [← hW1] at H1 HX1 Z1 HB1 ⊢
          clear hW1 c0 f0 HW
          have hz1 : w.heap.size < W1.heap.size := obj_lt Z1.out
          have KS : Hid (∀ w', Ext W1 w' → w'.cell? ⟨H, 2, none⟩ = some (.slice Ar C.room.length cr) ∧ w'.cell? ⟨w.heap.size, 0, none⟩ = some (.int .i64 x.id) ∧ w'.cell? ⟨w.heap.size, 1, none⟩ = some (.slice An x.need.length cn)) := hid fun w' hw => ⟨(H1.out.ext hw).at.2.1, obj_cell (hw.obj Z1.out) (i := 0) rfl, obj_cell (hw.obj Z1.out) (i := 1) rfl⟩
          have HD0 : Hid (Ext W1 W1.drew) := hid (Below.drew (Below.refl _ _))
          have HBE : Hid (∀ w', Ext W1 w' → Below base w w') := hid fun w' hw => Below.trans HB1.out (hw.mono (by have := HB1.out.size; omega))
          refine wp_region_noPanic ?_
          refine WG.start (fun w' => w'.cell? ⟨H, 2, none⟩ = some (.slice Ar C.room.length cr) ∧ w'.cell? ⟨w.heap.size, 0, none⟩ = some (.int .i64 x.id) ∧ w'.cell? ⟨w.heap.size, 1, none⟩ = some (.slice An x.need.length cn)) [6,7] (by kernel_rfl) (by exact KS.out _ HD0.out) (fun hHeld => ?_)
          (refine WG.take (i := 0) (v := ?_) rfl (by kernel_rfl) (by kernel_rfl) (by kernel_rfl) (by kernel_rfl) (fun _ _ _ h => h) (Or.inl ⟨by rfl, ?_⟩) (by assumption) ?_; rotate_left; (intro w hSw; (try dsimp only at hSw); go_split_ands; go_simp; (try with_reducible rfl)); (try simp only [Act.put, List.setIfInBounds_toArray, List.set_cons_zero, List.set_cons_succ]))
          (refine WG.take (i := 1) (v := ?_) rfl (by kernel_rfl) (by kernel_rfl) (by kernel_rfl) (by kernel_rfl) (fun _ _ _ h => h) (Or.inl ⟨by rfl, ?_⟩) (by assumption) ?_; rotate_left; (intro w hSw; (try dsimp only at hSw); go_split_ands; go_simp; (try with_reducible rfl)); (try simp only [Act.put, List.setIfInBounds_toArray, List.set_cons_zero, List.set_cons_succ]))
          (refine WG.take (i := 2) (v := ?_) rfl (by kernel_rfl) (by kernel_rfl) (by kernel_rfl) (by kernel_rfl) (fun _ _ _ h => h) (Or.inl ⟨by rfl, ?_⟩) (by assumption) ?_; rotate_left; (intro w hSw; (try dsimp only at hSw); go_split_ands; go_simp; (try with_reducible rfl)); (try simp only [Act.put, List.setIfInBounds_toArray, List.set_cons_zero, List.set_cons_succ]))
          (refine WG.take (i := 3) (v := ?_) rfl (by kernel_rfl) (by kernel_rfl) (by kernel_rfl) (by kernel_rfl) (fun _ _ _ h => h) (Or.inl ⟨by rfl, ?_⟩) (by assumption) ?_; rotate_left; (intro w hSw; (try dsimp only at hSw); go_split_ands; go_simp; (try with_reducible rfl)); (try simp only [Act.put, List.setIfInBounds_toArray, List.set_cons_zero, List.set_cons_succ]))
          (refine WG.take (i := 4) (v := ?_) rfl (by kernel_rfl) (by kernel_rfl) (by kernel_rfl) (by kernel_rfl) (fun _ _ _ h => h) (Or.inl ⟨by rfl, ?_⟩) (by assumption) ?_; rotate_left; (intro w hSw; (try dsimp only at hSw); go_split_ands; go_simp; (try with_reducible rfl)); (try simp only [Act.put, List.setIfInBounds_toArray, List.set_cons_zero, List.set_cons_succ]))
          refine WG.one (i := 5) rfl (by kernel_rfl) (fun K hK => ?_)
          go_simp
          refine hK.out _ _ (by exact KS.out _ (HD0.out.trans (Ext.alloc _ _))) (fun hHeld => ?_)
          clear hK K
          (try simp only [Act.put, List.setIfInBounds_toArray, List.set_cons_zero, List.set_cons_succ])
          have hE2 : Ext W1 (W1.drew.alloc (.cells #[.int .i64 x.id, .slice An x.need.length cn] 34)) := HD0.out.trans (Ext.alloc _ _)
          have HRX : Hid (RT (W1.drew.alloc (.cells #[.int .i64 x.id, .slice An x.need.length cn] 34)) (.slice (some ⟨W1.heap.size, 0, none⟩) 1 1) [x]) := hid (RSl.laid (cs := [.int .i64 x.id, .slice An x.need.length cn]) (heap_new rfl) rfl ⟨_, rfl, by obtain ⟨nv', he, hn'⟩ := HX1.out; injection he with he; injection he with he; injection he with _ he; injection he with he _; subst he; exact RI.ext hn' hE2⟩)
          have HRV := hid (RI.ext H1.out.room hE2)
          have HE2 := hid hE2
          clear hE2
          refine WG.last (i := 6) rfl (by kernel_rfl) (by kernel_rfl) (fun K hK => ?_)
          go_simp; refine (iTasksValid _ _ C.room [x] _ HRV.out HRX.out (fun t ht => by rw [List.mem_singleton.1 ht]; exact HXI.out)).mono ?_; rintro e w3 ⟨rfl, hE3⟩; rw [htv]; have HE3 := hid (HE2.out.trans hE3); clear hE3; (try dsimp only)
          refine hK.out _ _ ?_
          clear hK K
          (try simp only [Act.put, List.setIfInBounds_toArray, List.set_cons_zero, List.set_cons_succ])
          refine WG.last (i := 7) rfl (by kernel_rfl) (by kernel_rfl) (fun K hK => ?_)
          go_simp
          refine hK.out _ _ ?_
          clear hK K
          (try simp only [Act.put, List.setIfInBounds_toArray, List.set_cons_zero, List.set_cons_succ])
          refine WG.done (by kernel_rfl) ?_
          refine NoPanic.normal ?_
          obtain ⟨s0, s1, s2⟩ := KS.out _ HE3.out
          have hfw' := HNW.out
          go_wp2_with (first
            | (go_at_call 115; refine (iFind H base C ps _ cells 1 x.id _ (H1.out.ext HE3.out)).mono ?_; rintro e w4 ⟨rfl, hE4⟩; obtain ⟨q1, hq1⟩ : ∃ q1, q1 = (findU C.units x.id).1 := ⟨_, rfl⟩; obtain ⟨q2, hq2⟩ : ∃ q2, q2 = (findU C.units x.id).2 := ⟨_, rfl⟩; rw [← hq1, ← hq2]; rw [← hq1] at hfw'; have HE4 := hid (HE3.out.trans hE4); obtain ⟨s0, s1, s2⟩ := KS.out _ HE4.out; clear hE4 hq1 hq2)
            | (go_at_call 116; refine (iPlace H base C ps _ cells 1 _ x grant _ (H1.out.ext HE4.out) (HX1.out.ext HE4.out) HC.out HN.out).mono ?_; rintro e w5 ⟨rfl, hE5⟩; rw [HPA.out]; have HE5 := hid (HE4.out.trans hE5); obtain ⟨s0, s1, s2⟩ := KS.out _ HE5.out; clear hE5)
            | (go_at_call 117; refine (iHostTasks H base C ps _ cells 1 _ (H1.out.ext HE5.out) (by rw [← HL.out]; have := HFL.out; omega)).mono ?_; rintro e w6 ⟨rfl, hE6⟩; rw [← HL.out]; have HE6 := hid (HE5.out.trans hE6); obtain ⟨s0, s1, s2⟩ := KS.out _ HE6.out; clear hE6))
          have HD := hid (H1.out.ext HE6.out)
          have HB := hid (HBE.out _ HE6.out)
          refine leaves_cons (f := 114) (args := #[.pointer (some ⟨H, 0, none⟩)]) (by simp) (by simp [go_sem]) ?_
          refine (unlock_deferred muLib ⟨H, 0, none⟩ .returning _ HD.out.at.1 (HD.out.at.2.2.2 0)).mono ?_
          rintro e u' w'' ⟨rfl, rfl, rfl⟩
          refine ⟨_, results_tmp rfl _ _ _, ?_⟩
          unfold RetH
          exact ⟨_, _, by rw [HA.out]; rfl, by rw [HA.out]; exact HD.out.lock 0, Below.setCell HB.out hHb _⟩
        · have hf1 : ¬ (14 : Int) ≤ (L : Int) := by omega
          have HA : Hid (arriveH C x grant = (⟨C.room, C.units.set k ⟨true, u.tasks ++ [x]⟩⟩, 0)) := hid (by rw [HA0.out]; unfold arrC; rw [if_neg (by rw [hk, ← hL]; omega), hk, Int.toNat_natCast, ex.out])
          rw [hk] at HPA
          obtain ⟨tv, HPK0⟩ : ∃ tv, Hid (ps[k]? = some (u, tv)) := by obtain ⟨tv, hpk⟩ := H1.out.pair ex.out; exact ⟨tv, hid hpk⟩
          clear hf hL HFL2
          go_enter_defers Tryz.func59, Tryz.ntmps59
          go_wp2_with (go_at_call 113; rw [← hW]; refine (lock_free muLib ⟨H, 0, none⟩ _ c0 f0).mono ?_; rintro e w1 ⟨rfl, rfl⟩; clear hW)
          obtain ⟨W1, hW1⟩ : ∃ W1, W1 = W.setCell ⟨H, 0, none⟩ (.int .i32 1) := ⟨_, rfl⟩
          rw [← hW1] at H1 HX1 Z1 HB1 ⊢
          clear hW1 c0 f0 HW
          have hz1 : w.heap.size < W1.heap.size := obj_lt Z1.out
          have KS : Hid (∀ w', Ext W1 w' → w'.cell? ⟨H, 2, none⟩ = some (.slice Ar C.room.length cr) ∧ w'.cell? ⟨w.heap.size, 0, none⟩ = some (.int .i64 x.id) ∧ w'.cell? ⟨w.heap.size, 1, none⟩ = some (.slice An x.need.length cn)) := hid fun w' hw => ⟨(H1.out.ext hw).at.2.1, obj_cell (hw.obj Z1.out) (i := 0) rfl, obj_cell (hw.obj Z1.out) (i := 1) rfl⟩
          have HD0 : Hid (Ext W1 W1.drew) := hid (Below.drew (Below.refl _ _))
          have HBE : Hid (∀ w', Ext W1 w' → Below base w w') := hid fun w' hw => Below.trans HB1.out (hw.mono (by have := HB1.out.size; omega))
          refine wp_region_noPanic ?_
          refine WG.start (fun w' => w'.cell? ⟨H, 2, none⟩ = some (.slice Ar C.room.length cr) ∧ w'.cell? ⟨w.heap.size, 0, none⟩ = some (.int .i64 x.id) ∧ w'.cell? ⟨w.heap.size, 1, none⟩ = some (.slice An x.need.length cn)) [6,7] (by kernel_rfl) (by exact KS.out _ HD0.out) (fun hHeld => ?_)
          (refine WG.take (i := 0) (v := ?_) rfl (by kernel_rfl) (by kernel_rfl) (by kernel_rfl) (by kernel_rfl) (fun _ _ _ h => h) (Or.inl ⟨by rfl, ?_⟩) (by assumption) ?_; rotate_left; (intro w hSw; (try dsimp only at hSw); go_split_ands; go_simp; (try with_reducible rfl)); (try simp only [Act.put, List.setIfInBounds_toArray, List.set_cons_zero, List.set_cons_succ]))
          (refine WG.take (i := 1) (v := ?_) rfl (by kernel_rfl) (by kernel_rfl) (by kernel_rfl) (by kernel_rfl) (fun _ _ _ h => h) (Or.inl ⟨by rfl, ?_⟩) (by assumption) ?_; rotate_left; (intro w hSw; (try dsimp only at hSw); go_split_ands; go_simp; (try with_reducible rfl)); (try simp only [Act.put, List.setIfInBounds_toArray, List.set_cons_zero, List.set_cons_succ]))
          (refine WG.take (i := 2) (v := ?_) rfl (by kernel_rfl) (by kernel_rfl) (by kernel_rfl) (by kernel_rfl) (fun _ _ _ h => h) (Or.inl ⟨by rfl, ?_⟩) (by assumption) ?_; rotate_left; (intro w hSw; (try dsimp only at hSw); go_split_ands; go_simp; (try with_reducible rfl)); (try simp only [Act.put, List.setIfInBounds_toArray, List.set_cons_zero, List.set_cons_succ]))
          (refine WG.take (i := 3) (v := ?_) rfl (by kernel_rfl) (by kernel_rfl) (by kernel_rfl) (by kernel_rfl) (fun _ _ _ h => h) (Or.inl ⟨by rfl, ?_⟩) (by assumption) ?_; rotate_left; (intro w hSw; (try dsimp only at hSw); go_split_ands; go_simp; (try with_reducible rfl)); (try simp only [Act.put, List.setIfInBounds_toArray, List.set_cons_zero, List.set_cons_succ]))
          (refine WG.take (i := 4) (v := ?_) rfl (by kernel_rfl) (by kernel_rfl) (by kernel_rfl) (by kernel_rfl) (fun _ _ _ h => h) (Or.inl ⟨by rfl, ?_⟩) (by assumption) ?_; rotate_left; (intro w hSw; (try dsimp only at hSw); go_split_ands; go_simp; (try with_reducible rfl)); (try simp only [Act.put, List.setIfInBounds_toArray, List.set_cons_zero, List.set_cons_succ]))
          refine WG.one (i := 5) rfl (by kernel_rfl) (fun K hK => ?_)
          go_simp
          refine hK.out _ _ (by exact KS.out _ (HD0.out.trans (Ext.alloc _ _))) (fun hHeld => ?_)
          clear hK K
          (try simp only [Act.put, List.setIfInBounds_toArray, List.set_cons_zero, List.set_cons_succ])
          have hE2 : Ext W1 (W1.drew.alloc (.cells #[.int .i64 x.id, .slice An x.need.length cn] 34)) := HD0.out.trans (Ext.alloc _ _)
          have HRX : Hid (RT (W1.drew.alloc (.cells #[.int .i64 x.id, .slice An x.need.length cn] 34)) (.slice (some ⟨W1.heap.size, 0, none⟩) 1 1) [x]) := hid (RSl.laid (cs := [.int .i64 x.id, .slice An x.need.length cn]) (heap_new rfl) rfl ⟨_, rfl, by obtain ⟨nv', he, hn'⟩ := HX1.out; injection he with he; injection he with he; injection he with _ he; injection he with he _; subst he; exact RI.ext hn' hE2⟩)
          have HRV := hid (RI.ext H1.out.room hE2)
          have HE2 := hid hE2
          clear hE2
          refine WG.last (i := 6) rfl (by kernel_rfl) (by kernel_rfl) (fun K hK => ?_)
          go_simp; refine (iTasksValid _ _ C.room [x] _ HRV.out HRX.out (fun t ht => by rw [List.mem_singleton.1 ht]; exact HXI.out)).mono ?_; rintro e w3 ⟨rfl, hE3⟩; rw [htv]; have HE3 := hid (HE2.out.trans hE3); clear hE3; (try dsimp only)
          refine hK.out _ _ ?_
          clear hK K
          (try simp only [Act.put, List.setIfInBounds_toArray, List.set_cons_zero, List.set_cons_succ])
          refine WG.last (i := 7) rfl (by kernel_rfl) (by kernel_rfl) (fun K hK => ?_)
          go_simp
          refine hK.out _ _ ?_
          clear hK K
          (try simp only [Act.put, List.setIfInBounds_toArray, List.set_cons_zero, List.set_cons_succ])
          refine WG.done (by kernel_rfl) ?_
          refine NoPanic.normal ?_
          obtain ⟨s0, s1, s2⟩ := KS.out _ HE3.out
          have hfw' := HNW.out
          go_wp2_with (first
            | (go_at_call 115; refine (iFind H base C ps _ cells 1 x.id _ (H1.out.ext HE3.out)).mono ?_; rintro e w4 ⟨rfl, hE4⟩; obtain ⟨q1, hq1⟩ : ∃ q1, q1 = (findU C.units x.id).1 := ⟨_, rfl⟩; obtain ⟨q2, hq2⟩ : ∃ q2, q2 = (findU C.units x.id).2 := ⟨_, rfl⟩; rw [← hq1, ← hq2]; rw [← hq1] at hfw'; have HE4 := hid (HE3.out.trans hE4); obtain ⟨s0, s1, s2⟩ := KS.out _ HE4.out; clear hE4 hq1 hq2)
            | (go_at_call 116; refine (iPlace H base C ps _ cells 1 _ x grant _ (H1.out.ext HE4.out) (HX1.out.ext HE4.out) HC.out HN.out).mono ?_; rintro e w5 ⟨rfl, hE5⟩; rw [HPA.out]; have HE5 := hid (HE4.out.trans hE5); obtain ⟨s0, s1, s2⟩ := KS.out _ HE5.out; clear hE5)
            | (go_at_call 117; refine (iHostTasks H base C ps _ cells 1 _ (H1.out.ext HE5.out) (by rw [← HL.out]; have := HFL.out; omega)).mono ?_; rintro e w6 ⟨rfl, hE6⟩; rw [← HL.out]; have HE6 := hid (HE5.out.trans hE6); obtain ⟨s0, s1, s2⟩ := KS.out _ HE6.out; obtain ⟨cu0, cu1, htu⟩ := (H1.out.ext HE6.out).unit HPK0.out; have fu := (H1.out.ext HE6.out).at.2.2.2 (4 + k * 2); clear htu hE6))
          obtain ⟨W7, hW7⟩ : ∃ W7, W7 = w6.setCell ⟨H, 4 + k * 2, none⟩ (.bool true) := ⟨_, rfl⟩
          obtain ⟨cells7, H7'⟩ := (H1.out.ext HE6.out).open2 ex.out HPK0.out true
          have hs7 : SameT (fun t => t ≠ 132) w6 (w6.setCell ⟨H, 4 + k * 2, none⟩ (.bool true)) := SameT.setCell (p := ⟨H, 4 + k * 2, none⟩) (H1.out.ext HE6.out).blk _ (fun t ht => ht)
          have hz7 := obj_far (HE6.out.obj Z1.out) (p := ⟨H, 4 + k * 2, none⟩) (by show w.heap.size ≠ H; omega) (.bool true)
          have hB7 : Below base w (w6.setCell ⟨H, 4 + k * 2, none⟩ (.bool true)) := Below.setCell (HBE.out _ HE6.out) hHb _
          have hx7 : TaskV (w6.setCell ⟨H, 4 + k * 2, none⟩ (.bool true)) (.agg #[.int .i64 x.id, .slice An x.need.length cn]) x := by obtain ⟨nv', he, hn'⟩ := HX1.out.ext HE6.out; exact ⟨nv', he, RI.same hn' (hs7.mono (by rintro t rfl; decide))⟩
          rw [← hW7] at H7' hz7 hB7 hx7 ⊢
          clear hW7 hs7 cu0 cu1 fu s0 s1 s2
          have H7 := hid H7'
          have Z7 := hid hz7
          have HB7 := hid hB7
          have HX7 := hid hx7
          clear H7' hz7 hB7 hx7
          have hex7 : (C.units.set k ⟨true, u.tasks⟩)[k]? = some ⟨true, u.tasks⟩ := List.getElem?_set_self hkl
          have hpk : (ps.set k (⟨true, u.tasks⟩, tv))[k]? = some (⟨true, u.tasks⟩, tv) := List.getElem?_set_self (List.getElem?_eq_some_iff.1 HPK0.out).1
          have htn : ∀ a, tv.ownBlock = some a → a < w.heap.size := fun a ha => (HLT0.out a (List.mem_filterMap.2 ⟨_, List.mem_of_getElem? HPK0.out, ha⟩)).2
          have HEX7 := hid hex7
          have HPK := hid hpk
          obtain ⟨_, cu1, htu⟩ := H7.out.unit hpk
          have htu : OT W7 base tv u.tasks := htu
          obtain ⟨At, ct, rfl, _, _⟩ := htu.form
          have HTU := hid htu
          have HTN := hid htn
          have HC1 := hid cu1
          clear htu hpk hex7 cu1 htn
          have hHz : H < W7.heap.size := obj_lt H7.out.blk
          have hzz : w.heap.size < W7.heap.size := obj_lt Z7.out
          have KT : Hid (∀ w' : World, w'.heap[H]? = W7.heap[H]? → w'.heap[w.heap.size]? = W7.heap[w.heap.size]? → w'.cell? ⟨H, 4 + k * 2 + 1, none⟩ = some (.slice At u.tasks.length ct) ∧ w'.cell? ⟨w.heap.size, 0, none⟩ = some (.int .i64 x.id) ∧ w'.cell? ⟨w.heap.size, 1, none⟩ = some (.slice An x.need.length cn)) := hid fun w' h0 h1 => ⟨(World.cell?_of_block (w := W7) (a := ⟨H, 4 + k * 2 + 1, none⟩) h0).trans HC1.out, obj_cell (h1.trans Z7.out) (i := 0) rfl, obj_cell (h1.trans Z7.out) (i := 1) rfl⟩
          have KE : Hid (∀ w', Ext W7 w' → w'.cell? ⟨H, 4 + k * 2 + 1, none⟩ = some (.slice At u.tasks.length ct) ∧ w'.cell? ⟨w.heap.size, 0, none⟩ = some (.int .i64 x.id) ∧ w'.cell? ⟨w.heap.size, 1, none⟩ = some (.slice An x.need.length cn)) := hid fun w' hw => KT.out w' (hw.block _ hHz) (hw.block _ hzz)
          have HED : Hid (Ext W7 W7.drew) := hid (Below.drew (Below.refl _ _))
          have HUT : Hid (u.tasks.length ≤ 900) := hid (clusOk_unit HC.out (List.mem_of_getElem? ex.out)).1.1
          obtain ⟨i0_task, hi0_task, hz0_task, hz1_task, hz2_task⟩ := info_parts info_task
          refine wp_region_noPanic ?_
          refine WG.start (fun w' => w'.cell? ⟨H, 4 + k * 2 + 1, none⟩ = some (.slice At u.tasks.length ct) ∧ w'.cell? ⟨w.heap.size, 0, none⟩ = some (.int .i64 x.id) ∧ w'.cell? ⟨w.heap.size, 1, none⟩ = some (.slice An x.need.length cn)) [17] (by kernel_rfl) (by exact KE.out _ HED.out) (fun hHeld => ?_)
          (refine WG.take (i := 0) (v := ?_) rfl (by kernel_rfl) (by kernel_rfl) (by kernel_rfl) (by kernel_rfl) (fun _ _ _ h => h) (Or.inl ⟨by rfl, ?_⟩) (by assumption) ?_; rotate_left; (intro w hSw; (try dsimp only at hSw); go_split_ands; go_simp; (try with_reducible rfl)); (try simp only [Act.put, List.setIfInBounds_toArray, List.set_cons_zero, List.set_cons_succ]))
          (refine WG.take (i := 1) (v := ?_) rfl (by kernel_rfl) (by kernel_rfl) (by kernel_rfl) (by kernel_rfl) (fun _ _ _ h => h) (Or.inl ⟨by rfl, ?_⟩) (by assumption) ?_; rotate_left; (intro w hSw; (try dsimp only at hSw); go_split_ands; go_simp; (try with_reducible rfl)); (try simp only [Act.put, List.setIfInBounds_toArray, List.set_cons_zero, List.set_cons_succ]))
          (refine WG.take (i := 2) (v := ?_) rfl (by kernel_rfl) (by kernel_rfl) (by kernel_rfl) (by kernel_rfl) (fun _ _ _ h => h) (Or.inl ⟨by rfl, ?_⟩) (by assumption) ?_; rotate_left; (intro w hSw; (try dsimp only at hSw); go_split_ands; go_simp; (try with_reducible rfl)); (try simp only [Act.put, List.setIfInBounds_toArray, List.set_cons_zero, List.set_cons_succ]))
          (refine WG.take (i := 3) (v := ?_) rfl (by kernel_rfl) (by kernel_rfl) (by kernel_rfl) (by kernel_rfl) (fun _ _ _ h => h) (Or.inl ⟨by rfl, ?_⟩) (by assumption) ?_; rotate_left; (intro w hSw; (try dsimp only at hSw); go_split_ands; go_simp; (try with_reducible rfl)); (try simp only [Act.put, List.setIfInBounds_toArray, List.set_cons_zero, List.set_cons_succ]))
          (refine WG.take (i := 4) (v := ?_) rfl (by kernel_rfl) (by kernel_rfl) (by kernel_rfl) (by kernel_rfl) (fun _ _ _ h => h) (Or.inl ⟨by rfl, ?_⟩) (by assumption) ?_; rotate_left; (intro w hSw; (try dsimp only at hSw); go_split_ands; go_simp; (try with_reducible rfl)); (try simp only [Act.put, List.setIfInBounds_toArray, List.set_cons_zero, List.set_cons_succ]))
          (refine WG.take (i := 5) (v := ?_) rfl (by kernel_rfl) (by kernel_rfl) (by kernel_rfl) (by kernel_rfl) (fun _ _ _ h => h) (Or.inl ⟨by rfl, ?_⟩) (by assumption) ?_; rotate_left; (intro w hSw; (try dsimp only at hSw); go_split_ands; go_simp; (try with_reducible rfl)); (try simp only [Act.put, List.setIfInBounds_toArray, List.set_cons_zero, List.set_cons_succ]))
          (refine WG.take (i := 6) (v := ?_) rfl (by kernel_rfl) (by kernel_rfl) (by kernel_rfl) (by kernel_rfl) (fun _ _ _ h => h) (Or.inl ⟨by rfl, ?_⟩) (by assumption) ?_; rotate_left; (intro w hSw; (try dsimp only at hSw); go_split_ands; go_simp; (try with_reducible rfl)); (try simp only [Act.put, List.setIfInBounds_toArray, List.set_cons_zero, List.set_cons_succ]))
          (refine WG.take (i := 7) (v := ?_) rfl (by kernel_rfl) (by kernel_rfl) (by kernel_rfl) (by kernel_rfl) (fun _ _ _ h => h) (Or.inl ⟨by rfl, ?_⟩) (by assumption) ?_; rotate_left; (intro w hSw; (try dsimp only at hSw); go_split_ands; go_simp; (try with_reducible rfl)); (try simp only [Act.put, List.setIfInBounds_toArray, List.set_cons_zero, List.set_cons_succ]))
          (refine WG.take (i := 8) (v := ?_) rfl (by kernel_rfl) (by kernel_rfl) (by kernel_rfl) (by kernel_rfl) (fun _ _ _ h => h) (Or.inl ⟨by rfl, ?_⟩) (by assumption) ?_; rotate_left; (intro w hSw; (try dsimp only at hSw); go_split_ands; go_simp; (try with_reducible rfl)); (try simp only [Act.put, List.setIfInBounds_toArray, List.set_cons_zero, List.set_cons_succ]))
          (refine WG.take (i := 9) (v := ?_) rfl (by kernel_rfl) (by kernel_rfl) (by kernel_rfl) (by kernel_rfl) (fun _ _ _ h => h) (Or.inl ⟨by rfl, ?_⟩) (by assumption) ?_; rotate_left; (intro w hSw; (try dsimp only at hSw); go_split_ands; go_simp; (try with_reducible rfl)); (try simp only [Act.put, List.setIfInBounds_toArray, List.set_cons_zero, List.set_cons_succ]))
          (refine WG.take (i := 13) (v := ?_) rfl (by kernel_rfl) (by kernel_rfl) (by kernel_rfl) (by kernel_rfl) (fun _ _ _ h => h) (Or.inl ⟨by rfl, ?_⟩) (by assumption) ?_; rotate_left; (intro w hSw; (try dsimp only at hSw); go_split_ands; go_simp; (try with_reducible rfl)); (try simp only [Act.put, List.setIfInBounds_toArray, List.set_cons_zero, List.set_cons_succ]))
          (refine WG.take (i := 14) (v := ?_) rfl (by kernel_rfl) (by kernel_rfl) (by kernel_rfl) (by kernel_rfl) (fun _ _ _ h => h) (Or.inl ⟨by rfl, ?_⟩) (by assumption) ?_; rotate_left; (intro w hSw; (try dsimp only at hSw); go_split_ands; go_simp; (try with_reducible rfl)); (try simp only [Act.put, List.setIfInBounds_toArray, List.set_cons_zero, List.set_cons_succ]))
          refine WG.one (i := 10) rfl (by kernel_rfl) (fun K hK => ?_)
          go_simp; refine (iTaskCopy _ x _ (HX7.out.ext HED.out) (by have := HN.out.1; omega)).mono ?_; rintro e w8 ⟨A8, c8, rfl, hO8, hE8⟩; have hE8 : Ext W7 w8 := HED.out.trans hE8; have HO8 := hid hO8.read; have HE8 := hid hE8; clear hO8 hE8; (try dsimp only)
          refine hK.out _ _ (by exact KE.out _ HE8.out) (fun hHeld => ?_)
          clear hK K
          (try simp only [Act.put, List.setIfInBounds_toArray, List.set_cons_zero, List.set_cons_succ])
          refine WG.one (i := 11) rfl (by kernel_rfl) (fun K hK => ?_)
          go_simp
          refine hK.out _ _ (by exact KE.out _ (HE8.out.trans (Ext.alloc _ _))) (fun hHeld => ?_)
          clear hK K
          (try simp only [Act.put, List.setIfInBounds_toArray, List.set_cons_zero, List.set_cons_succ])
          have hE9 : Ext W7 (w8.alloc (.cells #[.int .i64 x.id, .slice A8 x.need.length c8] 34)) := HE8.out.trans (Ext.alloc _ _)
          have HT9 := hid (Own.ext ET.ok HTU.out hE9)
          have H9 := hid (H7.out.ext hE9)
          have HB9 := hid (Below.trans HB7.out (hE9.mono (by have := HB7.out.size; omega)))
          have HE9 := hid hE9
          have hz9 := hE9.size
          clear hE9
          refine WG.one (i := 12) rfl (by kernel_rfl) (fun K hK => ?_)
          refine step_append_sl _ (by rfl) _ _ 55 (by rfl) ET.ok ET.flat (base) 34 ET.ne i0_task _ 2 32 Tryz.underlying55 hi0_task hz0_task hz1_task hz2_task rfl (by omega) _ (by rfl) _ (HT9.out) _ (by rfl) _ (RSl.laid (cs := [.int .i64 x.id, .slice A8 x.need.length c8]) (heap_alloc_new _ _) rfl ⟨_, rfl, RI.ext HO8.out (Ext.alloc _ _)⟩) (by have := HUT.out; simp; omega) (by have := HUT.out; simp; omega) ?_ ?_; (focus (first | exact Nat.le_refl _ | (simp; done) | (simp; omega) | omega)); intro va wa hOa hga hata hsa; obtain ⟨Aa, ca, rfl, _, _⟩ := hOa.form_app; have HOa := hid hOa; have HGa := hid hga; have HATa := hid hata; have HSa := hid hsa; clear hOa hga hata hsa
          refine hK.out _ _ (by exact KT.out _ ((HSa.out _ _ _ _ (by decide) H9.out.blk).trans H7.out.blk.symm) ((HGa.out.block _ (by have := HE9.out.size; omega) (fun e => by exact absurd (HTN.out _ e.symm) (by omega))).trans (HE9.out.block _ hzz))) (fun hHeld => ?_)
          clear hK K
          (try simp only [Act.put, List.setIfInBounds_toArray, List.set_cons_zero, List.set_cons_succ])
          (refine WG.take (i := 15) (v := ?_) rfl (by kernel_rfl) (by kernel_rfl) (by kernel_rfl) (by kernel_rfl) (fun _ _ _ h => h) (Or.inl ⟨by rfl, ?_⟩) (by assumption) ?_; rotate_left; (intro w hSw; (try dsimp only at hSw); go_split_ands; go_simp; (try with_reducible rfl)); (try simp only [Act.put, List.setIfInBounds_toArray, List.set_cons_zero, List.set_cons_succ]))
          (refine WG.take (i := 16) (v := ?_) rfl (by kernel_rfl) (by kernel_rfl) (by kernel_rfl) (by kernel_rfl) (fun _ _ _ h => h) (Or.inl ⟨by rfl, ?_⟩) (by assumption) ?_; rotate_left; (intro w hSw; (try dsimp only at hSw); go_split_ands; go_simp; (try with_reducible rfl)); (try simp only [Act.put, List.setIfInBounds_toArray, List.set_cons_zero, List.set_cons_succ]))
          have cxa := (KT.out wa ((HSa.out _ _ _ _ (by decide) H9.out.blk).trans H7.out.blk.symm) ((HGa.out.block _ (by have := HE9.out.size; omega) (fun e => absurd (HTN.out _ e.symm) (by omega))).trans (HE9.out.block _ hzz))).1
          have fxa := obj_frozen (HSa.out _ _ _ _ (by decide) H9.out.blk) (4 + k * 2 + 1)
          refine WG.last (i := 17) rfl (by kernel_rfl) (by kernel_rfl) (fun K hK => ?_)
          go_simp
          refine hK.out _ _ ?_
          clear hK K
          (try simp only [Act.put, List.setIfInBounds_toArray, List.set_cons_zero, List.set_cons_succ])
          refine WG.done (by kernel_rfl) ?_
          refine NoPanic.normal ?_
          go_wp2
          obtain ⟨cellsB, HT'⟩ := H9.out.turn HEX7.out HPK.out (fun a ha hne => HGa.out.block a ha (fun e => hne e.symm)) HSa.out HOa.out (nodup_app H9.out.nd HPK.out HATa.out (fun g hg => (H9.out.lt g hg).2))
          have HBB : Below base w wa := Below.grown HB9.out HGa.out (by have := HB9.out.size; omega) (fun a ha => (Own.lt HT9.out a ha).1)
          rw [List.set_set] at HT'
          have HD := hid HT'
          have HB : Hid (Below base w (wa.setCell ⟨H, 4 + k * 2 + 1, none⟩ (.slice Aa (u.tasks.length + 1) ca))) := hid (Below.setCell HBB hHb _)
          clear HT' HBB
          refine leaves_cons (f := 114) (args := #[.pointer (some ⟨H, 0, none⟩)]) (by simp) (by simp [go_sem]) ?_
          refine (unlock_deferred muLib ⟨H, 0, none⟩ .returning _ HD.out.at.1 (HD.out.at.2.2.2 0)).mono ?_
          rintro e u' w'' ⟨rfl, rfl, rfl⟩
          refine ⟨_, results_tmp rfl _ _ _, ?_⟩
          unfold RetH
          exact ⟨_, _, by rw [HA.out]; rfl, by rw [HA.out]; exact HD.out.lock 0, Below.setCell HB.out hHb _⟩
  · have htv : tasksOk C.room [x] = false := by simpa using htv
    have HA : Hid (arriveH C x grant = (C, 1)) := hid (by unfold arriveH; rw [htv]; rfl)
    go_enter_defers Tryz.func59, Tryz.ntmps59
    go_wp2_with (go_at_call 113; rw [← hW]; refine (lock_free muLib ⟨H, 0, none⟩ _ c0 f0).mono ?_; rintro e w1 ⟨rfl, rfl⟩; clear hW)
    obtain ⟨W1, hW1⟩ : ∃ W1, W1 = W.setCell ⟨H, 0, none⟩ (.int .i32 1) := ⟨_, rfl⟩
    rw [← hW1] at H1 HX1 Z1 HB1 ⊢
    clear hW1 c0 f0 HW
    have hz1 : w.heap.size < W1.heap.size := obj_lt Z1.out
    have KS : Hid (∀ w', Ext W1 w' → w'.cell? ⟨H, 2, none⟩ = some (.slice Ar C.room.length cr) ∧ w'.cell? ⟨w.heap.size, 0, none⟩ = some (.int .i64 x.id) ∧ w'.cell? ⟨w.heap.size, 1, none⟩ = some (.slice An x.need.length cn)) := hid fun w' hw => ⟨(H1.out.ext hw).at.2.1, obj_cell (hw.obj Z1.out) (i := 0) rfl, obj_cell (hw.obj Z1.out) (i := 1) rfl⟩
    have HD0 : Hid (Ext W1 W1.drew) := hid (Below.drew (Below.refl _ _))
    have HBE : Hid (∀ w', Ext W1 w' → Below base w w') := hid fun w' hw => Below.trans HB1.out (hw.mono (by have := HB1.out.size; omega))
    refine wp_region_noPanic ?_
    refine WG.start (fun w' => w'.cell? ⟨H, 2, none⟩ = some (.slice Ar C.room.length cr) ∧ w'.cell? ⟨w.heap.size, 0, none⟩ = some (.int .i64 x.id) ∧ w'.cell? ⟨w.heap.size, 1, none⟩ = some (.slice An x.need.length cn)) [6,7] (by kernel_rfl) (by exact KS.out _ HD0.out) (fun hHeld => ?_)
    (refine WG.take (i := 0) (v := ?_) rfl (by kernel_rfl) (by kernel_rfl) (by kernel_rfl) (by kernel_rfl) (fun _ _ _ h => h) (Or.inl ⟨by rfl, ?_⟩) (by assumption) ?_; rotate_left; (intro w hSw; (try dsimp only at hSw); go_split_ands; go_simp; (try with_reducible rfl)); (try simp only [Act.put, List.setIfInBounds_toArray, List.set_cons_zero, List.set_cons_succ]))
    (refine WG.take (i := 1) (v := ?_) rfl (by kernel_rfl) (by kernel_rfl) (by kernel_rfl) (by kernel_rfl) (fun _ _ _ h => h) (Or.inl ⟨by rfl, ?_⟩) (by assumption) ?_; rotate_left; (intro w hSw; (try dsimp only at hSw); go_split_ands; go_simp; (try with_reducible rfl)); (try simp only [Act.put, List.setIfInBounds_toArray, List.set_cons_zero, List.set_cons_succ]))
    (refine WG.take (i := 2) (v := ?_) rfl (by kernel_rfl) (by kernel_rfl) (by kernel_rfl) (by kernel_rfl) (fun _ _ _ h => h) (Or.inl ⟨by rfl, ?_⟩) (by assumption) ?_; rotate_left; (intro w hSw; (try dsimp only at hSw); go_split_ands; go_simp; (try with_reducible rfl)); (try simp only [Act.put, List.setIfInBounds_toArray, List.set_cons_zero, List.set_cons_succ]))
    (refine WG.take (i := 3) (v := ?_) rfl (by kernel_rfl) (by kernel_rfl) (by kernel_rfl) (by kernel_rfl) (fun _ _ _ h => h) (Or.inl ⟨by rfl, ?_⟩) (by assumption) ?_; rotate_left; (intro w hSw; (try dsimp only at hSw); go_split_ands; go_simp; (try with_reducible rfl)); (try simp only [Act.put, List.setIfInBounds_toArray, List.set_cons_zero, List.set_cons_succ]))
    (refine WG.take (i := 4) (v := ?_) rfl (by kernel_rfl) (by kernel_rfl) (by kernel_rfl) (by kernel_rfl) (fun _ _ _ h => h) (Or.inl ⟨by rfl, ?_⟩) (by assumption) ?_; rotate_left; (intro w hSw; (try dsimp only at hSw); go_split_ands; go_simp; (try with_reducible rfl)); (try simp only [Act.put, List.setIfInBounds_toArray, List.set_cons_zero, List.set_cons_succ]))
    refine WG.one (i := 5) rfl (by kernel_rfl) (fun K hK => ?_)
    go_simp
    refine hK.out _ _ (by exact KS.out _ (HD0.out.trans (Ext.alloc _ _))) (fun hHeld => ?_)
    clear hK K
    (try simp only [Act.put, List.setIfInBounds_toArray, List.set_cons_zero, List.set_cons_succ])
    have hE2 : Ext W1 (W1.drew.alloc (.cells #[.int .i64 x.id, .slice An x.need.length cn] 34)) := HD0.out.trans (Ext.alloc _ _)
    have HRX : Hid (RT (W1.drew.alloc (.cells #[.int .i64 x.id, .slice An x.need.length cn] 34)) (.slice (some ⟨W1.heap.size, 0, none⟩) 1 1) [x]) := hid (RSl.laid (cs := [.int .i64 x.id, .slice An x.need.length cn]) (heap_new rfl) rfl ⟨_, rfl, by obtain ⟨nv', he, hn'⟩ := HX1.out; injection he with he; injection he with he; injection he with _ he; injection he with he _; subst he; exact RI.ext hn' hE2⟩)
    have HRV := hid (RI.ext H1.out.room hE2)
    have HE2 := hid hE2
    clear hE2
    refine WG.last (i := 6) rfl (by kernel_rfl) (by kernel_rfl) (fun K hK => ?_)
    go_simp; refine (iTasksValid _ _ C.room [x] _ HRV.out HRX.out (fun t ht => by rw [List.mem_singleton.1 ht]; exact HXI.out)).mono ?_; rintro e w3 ⟨rfl, hE3⟩; rw [htv]; have HE3 := hid (HE2.out.trans hE3); clear hE3; (try dsimp only)
    refine hK.out _ _ ?_
    clear hK K
    (try simp only [Act.put, List.setIfInBounds_toArray, List.set_cons_zero, List.set_cons_succ])
    refine WG.last (i := 7) rfl (by kernel_rfl) (by kernel_rfl) (fun K hK => ?_)
    go_simp
    refine hK.out _ _ ?_
    clear hK K
    (try simp only [Act.put, List.setIfInBounds_toArray, List.set_cons_zero, List.set_cons_succ])
    refine WG.done (by kernel_rfl) ?_
    refine NoPanic.normal ?_
    obtain ⟨s0, s1, s2⟩ := KS.out _ HE3.out
    go_wp2
    have HD := hid (H1.out.ext HE3.out)
    have HB := hid (HBE.out _ HE3.out)
    refine leaves_cons (f := 114) (args := #[.pointer (some ⟨H, 0, none⟩)]) (by simp) (by simp [go_sem]) ?_
    refine (unlock_deferred muLib ⟨H, 0, none⟩ .returning _ HD.out.at.1 (HD.out.at.2.2.2 0)).mono ?_
    rintro e u' w'' ⟨rfl, rfl, rfl⟩
    refine ⟨_, results_tmp rfl _ _ _, ?_⟩
    unfold RetH
    exact ⟨_, _, by rw [HA.out]; rfl, by rw [HA.out]; exact HD.out.lock 0, Below.setCell HB.out hHb _⟩

end Go.Proofs.YtfgibhdglbjadaaGreat

/- slices.Delete of one task. -/
namespace Go.Proofs.YtfgibhdglbjadaaGreat
open Go.RowKit
set_option maxRecDepth 4000

theorem step_append_row {P : Program} {ops : Array Oper} {o : Oper} {a : Act} {w : World} {K : Act → World → Prop} {Q : Exit → Act → World → Prop} {X : Prop} (hgd : o.guard = none) (s x : Operand) (t : TypeId)
    (ho : o.op = .call { callee := .builtin .append, args := #[s, x], argTypes := #[t, t] }) (e : TypeId) (i : TypeInfo) (size : Nat) (h1 : P.underlying t = some (.slice e)) (h2 : P.info? e = some i) (h4 : i.size = size)
    (g n cap : Nat) (hs : a.eval s = .slice (some ⟨g, 0, none⟩) n cap) (ad : Addr) (m c : Nat) (news : List Value) (hx : a.eval x = .slice (some ad) m c) (hl : news.length = m * size) (hc : ∀ j u, news[j]? = some u → w.cell? (ad.add j) = some u) (h1c : ∀ u ∈ news, u.oneCell' = true)
    (hroom : n + m ≤ cap) (cur : List Value) (hg : w.heap[g]? = some (.cells cur.toArray e (0, 0))) (hfit : n * size + news.length ≤ cur.length)
    (hK : K (a.put o.dst (.slice (some ⟨g, 0, none⟩) (n + m) cap)) (w.setRow g (cur.take (n * size) ++ news ++ cur.drop (n * size + news.length)).toArray)) :
    if Region.wanted o (yielded ops a.tmps) = true then Oper.wp P o a w K Q else X := by
  have hw : Region.wanted o (yielded ops a.tmps) = true := by simp [Region.wanted, hgd]
  rw [if_pos hw]
  subst h4
  have hrun := run_append_room (P := P) w t o.type e i h1 h2 g n cap cur.toArray hg ad m c news hl hc h1c hroom (by simpa using hfit)
  unfold Oper.wp execOp
  simp only [ho, resolve, invoke, builtin, Sem.run_bind, Sem.run_pure, Result.andThen_ok, List.map_toArray, List.map_cons, List.map_nil, hs, hx, hrun]
  exact hK
theorem run_clear_row {P : Program} (w : World) (t e ty : TypeId) (z : Value) (ht : P.underlying t = some (.slice e)) (hv : ∀ w, (zeroValue e).run P w = .ok z w) (zs : List Value) (hz : (Builtin.zeroCells z.cells 1).toList = zs) (h1 : ∀ v ∈ zs, v.oneCell' = true) (g off c : Nat) (cur : List Value)
    (hg : w.heap[g]? = some (.cells cur.toArray e (0, 0))) (hfit : off + zs.length ≤ cur.length) :
    (Builtin.clear_ #[t] ty #[.slice (some ⟨g, off, none⟩) 1 c]).run P w = .ok (.tuple #[]) (w.setRow g (cur.take off ++ zs ++ cur.drop (off + zs.length)).toArray) := by
  have hst := run_storeCells_at P g off e zs 0 cur.toArray w hg (by simpa using hfit) h1
  simp only [Nat.add_zero] at hst
  simp [Builtin.clear_, run_underlying ht, hv, hz, hst]
theorem Cells.take {α : Type} {size : Nat} {E : Enc α} {w : World} {cells : List Value} {xs : List α} (h : Cells size E w cells xs) (k : Nat) : Cells size E w (cells.take (k * size)) (xs.take k) := by
  refine ⟨by rw [List.length_take, List.length_take, h.1]; rcases Nat.le_total k xs.length with hk | hk <;> simp [Nat.min_eq_left, Nat.min_eq_right, hk, Nat.mul_le_mul_right], fun j x hj => ?_⟩
  rw [List.getElem?_take] at hj
  split at hj
  · rename_i hjk
    obtain ⟨cs, hl, he, hc⟩ := h.2 j x hj
    refine ⟨cs, hl, he, fun i u hu => ?_⟩
    have hi : i < size := by rw [← hl]; exact (List.getElem?_eq_some_iff.1 hu).1
    have : j * size + i < k * size := by
      have : (j + 1) * size ≤ k * size := Nat.mul_le_mul_right _ hjk
      rw [Nat.add_mul] at this
      omega
    rw [List.getElem?_take, if_pos this]
    exact hc i u hu
  · cases hj
theorem Cells.drop {α : Type} {size : Nat} {E : Enc α} {w : World} {cells : List Value} {xs : List α} (h : Cells size E w cells xs) (k : Nat) : Cells size E w (cells.drop (k * size)) (xs.drop k) := by
  refine ⟨by rw [List.length_drop, List.length_drop, h.1, Nat.sub_mul], fun j x hj => ?_⟩
  rw [List.getElem?_drop] at hj
  obtain ⟨cs, hl, he, hc⟩ := h.2 (k + j) x hj
  refine ⟨cs, hl, he, fun i u hu => ?_⟩
  rw [List.getElem?_drop, ← hc i u hu, Nat.add_mul, Nat.add_assoc]
/-- a row is set -/
theorem obj_row {w : World} {g : Nat} {cur cs : Array Value} {e : TypeId} (hg : w.heap[g]? = some (.cells cur e (0, 0))) : (w.setRow g cs).heap[g]? = some (.cells cs e (0, 0)) := by
  simp [World.setRow, Array.getElem?_modify, hg]
theorem Gr.row {b : Nat} {w x : World} (h : Gr b w x) (cs : Array Value) : Gr b w (x.setRow b cs) :=
  ⟨by simpa [World.setRow] using h.os, by simpa [World.setRow] using h.tape, by simpa [World.setRow] using h.output, by simpa [World.setRow] using h.size, fun k hk hn => (setRow_other x b k cs (by intro he; exact hn (by rw [he]))).trans (h.block k hk hn)⟩

set_option maxHeartbeats 4000000 in
theorem iDelete (base g c k m : Nat) (ts : List TaskD) (w : World) (hn : ts.length = k + 1 + m) (h : OT w base (.slice (some ⟨g, 0, none⟩) (k + 1 + m) c) ts) :
    Calls Tryz.prog 131 #[.slice (some ⟨g, 0, none⟩) (k + 1 + m) c, .int .i64 (k : Int), .int .i64 ((k + 1 : Nat) : Int)] w fun e w' => e = .returned (.slice (some ⟨g, 0, none⟩) (k + m) c) ∧ OT w' base (.slice (some ⟨g, 0, none⟩) (k + m) c) (ts.eraseIdx k) ∧ Gr g w w' ∧ SameT (fun t => t ≠ 34) w w' := by
  obtain ⟨cells, ho, hc⟩ := h
  obtain ⟨cap, cur, hcap, hb, hg, hl, hm, hsz, ht⟩ : ∃ (cap : Nat) (cur : Array Value), cap = c ∧ base ≤ g ∧ w.heap[g]? = some (.cells cur 34 (0, 0)) ∧ ts.length ≤ c ∧ c ≤ maxLen ∧ cur.size = c * 2 ∧ cur.toList.take (ts.length * 2) = cells := by
    rcases ho.2 with ⟨h1, _⟩ | ⟨g', cap, cur, h1, hb, hh, hl, hm, hsz, ht⟩
    · cases h1
    · injection h1 with h1 h2 h3
      injection h1 with h1
      injection h1 with h1 _ _
      subst h1 h3
      exact ⟨_, cur, rfl, hb, hh, hl, hm, hsz, ht⟩
  clear ho hcap
  obtain ⟨cur, rfl⟩ : ∃ l : List Value, cur = l.toArray := ⟨cur.toList, by simp⟩
  simp only [List.size_toArray] at ht hsz
  unfold maxLen at hm
  rw [hn] at hl ht
  obtain ⟨news, hnews⟩ : ∃ news, news = cells.drop ((k + 1) * 2) := ⟨_, rfl⟩
  have hcl : cells.length = (k + 1 + m) * 2 := by rw [hc.1, hn]
  have hnl : news.length = m * 2 := by rw [hnews, List.length_drop, hcl]; omega
  have hcc : Cells 2 ET w news (ts.drop (k + 1)) := by rw [hnews]; exact hc.drop (k + 1)
  have hct : Cells 2 ET w (cells.take (k * 2)) (ts.take k) := hc.take k
  have hone : ∀ u ∈ news, u.oneCell' = true := Cells.flat ET.flat (by omega) hcc
  have hat : ∀ j u, news[j]? = some u → cur[(k + 1) * 2 + j]? = some u := fun j u hu => by
    rw [hnews, List.getElem?_drop, ← ht, List.getElem?_take] at hu
    split at hu
    · exact hu
    · cases hu
  obtain ⟨Ad, hA, hsrc⟩ : ∃ Ad : Addr, (if c = k + 1 then some (⟨g, 0, none⟩ : Addr) else some ⟨g, (k + 1) * 2, none⟩) = some Ad ∧ Hid (∀ j u, news[j]? = some u → w.drew.cell? (Ad.add j) = some u) := by
    by_cases he : c = k + 1
    · refine ⟨⟨g, 0, none⟩, by simp [he], fun j u hu => ?_⟩
      have h0 : news.length = 0 := by rw [hnl]; omega
      rw [List.length_eq_zero_iff.1 h0] at hu
      simp at hu
    · refine ⟨⟨g, (k + 1) * 2, none⟩, by simp [he], fun j u hu => ?_⟩
      rw [Addr.add_lit, cell_of_row w.drew g _ cur.toArray 34 (0, 0) hg]
      simpa using hat j u hu
  have htk : cur.take (k * 2) = cells.take (k * 2) := by rw [← ht, List.take_take, Nat.min_eq_left (by omega)]
  obtain ⟨R1, hR1⟩ : ∃ R1 : List Value, R1 = cur.take (k * 2) ++ news ++ cur.drop (k * 2 + news.length) := ⟨_, rfl⟩
  have hR1l : R1.length = c * 2 := by
    rw [hR1]
    simp only [List.length_append, List.length_take, List.length_drop, hsz, hnl]
    omega
  have hR1t : R1.take ((k + m) * 2) = cells.take (k * 2) ++ news := by
    rw [hR1, htk, List.take_append_of_le_length (by rw [List.length_append, List.length_take, hcl, hnl]; omega), List.take_of_length_le (by rw [List.length_append, List.length_take, hcl, hnl]; omega)]
  obtain ⟨W2, hW2⟩ : ∃ W2, W2 = w.drew.setRow g R1.toArray := ⟨_, rfl⟩
  have hg2 : W2.heap[g]? = some (.cells R1.toArray 34 (0, 0)) := by rw [hW2]; exact obj_row (cur := cur.toArray) hg
  obtain ⟨R2, hR2⟩ : ∃ R2 : List Value, R2 = R1.take ((k + m) * 2) ++ [.int .i64 0, .slice none 0 0] ++ R1.drop ((k + m) * 2 + 2) := ⟨_, rfl⟩
  have hR2l : R2.length = c * 2 := by
    rw [hR2]
    simp only [List.length_append, List.length_take, List.length_drop, hR1l, List.length_cons, List.length_nil]
    omega
  have hR2t : R2.take ((k + m) * 2) = cells.take (k * 2) ++ news := by
    rw [hR2, List.append_assoc, List.take_append_of_le_length (by rw [List.length_take, hR1l]; omega), List.take_take, Nat.min_self, hR1t]
  obtain ⟨W3, hW3⟩ : ∃ W3, W3 = W2.setRow g R2.toArray := ⟨_, rfl⟩
  have hzv : ∀ w : World, (zeroValue 34).run Tryz.prog w = .ok (.agg #[.int .i64 0, .slice none 0 0]) w := fun _ => by kernel_rfl
  have hclr : ∀ ty, (Builtin.clear_ #[55] ty #[.slice (some ⟨g, (k + m) * 2, none⟩) (k + 1 + m - (k + m)) (c - (k + m))]).run Tryz.prog W2 = .ok (.tuple #[]) W3 := fun ty => by
    rw [show k + 1 + m - (k + m) = 1 by omega, hW3, hR2]
    exact run_clear_row W2 _ 34 ty _ Tryz.underlying55 hzv [.int .i64 0, .slice none 0 0] (by kernel_rfl) (by intro v hv; simp at hv; rcases hv with rfl | rfl <;> rfl) g _ _ R1 hg2 (by rw [hR1l]; simp; omega)
  have hgr : Gr g w W3 := by rw [hW3, hW2]; exact ((Gr.of_ext (Below.drew (Below.refl _ _))).row _).row _
  have hsm : SameT (fun t => t ≠ 34) w W3 := by
    rw [hW3]
    refine SameT.trans (b := W2) ?_ (SameT.setRow hg2 (fun t ht => ht))
    rw [hW2]
    exact SameT.trans (b := w.drew) (Ext.same (Below.drew (Below.refl _ _)) _) (SameT.setRow (w := w.drew) (cur := cur.toArray) hg (fun t ht => ht))
  have hown : OT W3 base (.slice (some ⟨g, 0, none⟩) (k + m) c) (ts.eraseIdx k) := by
    have hg3 : W3.heap[g]? = some (.cells R2.toArray 34 (0, 0)) := by rw [hW3]; exact obj_row hg2
    have hle : (ts.eraseIdx k).length = k + m := by rw [List.length_eraseIdx, if_pos (by omega), hn]; omega
    refine ⟨cells.take (k * 2) ++ news, ⟨?_, .inr ⟨g, c, R2.toArray, by rw [hle], hb, hg3, by rw [hle]; omega, by unfold maxLen; omega, by simpa using hR2l, by rw [hle]; simpa using hR2t⟩⟩, ?_⟩
    · rw [hle, List.length_append, List.length_take, hcl, hnl]; omega
    · rw [List.eraseIdx_eq_take_drop_succ]
      exact (hct.app hcc).same ET.ok (hsm.mono (by rintro t rfl; decide))
  have X : Hid (OT W3 base (.slice (some ⟨g, 0, none⟩) (k + m) c) (ts.eraseIdx k) ∧ Gr g w W3 ∧ SameT (fun t => t ≠ 34) w W3) := hid ⟨hown, hgr, hsm⟩
  have HG := hid hg
  have HL := hid hnl
  have HO := hid hone
  have HSZ := hid hsz
  have HW2 := hid hW2
  have HR1 := hid hR1
  have i1 : k ≤ c := by omega
  have i2 : k + 1 ≤ c := by omega
  have i3 : k + 1 + m ≤ c := by omega
  have i5 : (0 : Int) ≤ (k : Int) + 1 := by omega
  have i6 : (k : Int) + 1 ≤ (k : Int) + 1 + (m : Int) := by omega
  have i4 : ((k : Int) == ((k + 1 : Nat) : Int)) = false := by simp; omega
  obtain ⟨i0_task, hi0_task, hz0_task, hz1_task, hz2_task⟩ := info_parts info_task
  clear hown hgr hsm hW3 hR2t hR2l hR2 hg2 hR1t hR1l htk hat hone hct hcc hnews hcl hzv hb hg hc hsz ht hn hnl hW2 hR1
  go_enter Tryz.func131, Tryz.ntmps131
  go_wp2
  refine WG.start (fun w' => True) [6,7] (by kernel_rfl) (by trivial) (fun hHeld => ?_)
  (refine WG.take (i := 0) (v := ?_) rfl (by kernel_rfl) (by kernel_rfl) (by kernel_rfl) (by kernel_rfl) (fun _ _ _ h => h) (Or.inl ⟨by rfl, ?_⟩) (by assumption) ?_; rotate_left; (intro w hSw; (try dsimp only at hSw); go_split_ands; go_simp; (try with_reducible rfl)); (try simp only [Act.put, List.setIfInBounds_toArray, List.set_cons_zero, List.set_cons_succ]))
  (refine WG.take (i := 1) (v := ?_) rfl (by kernel_rfl) (by kernel_rfl) (by kernel_rfl) (by kernel_rfl) (fun _ _ _ h => h) (Or.inl ⟨by rfl, ?_⟩) (by assumption) ?_; rotate_left; (intro w hSw; (try dsimp only at hSw); go_split_ands; go_simp; (try with_reducible rfl)); (try simp only [Act.put, List.setIfInBounds_toArray, List.set_cons_zero, List.set_cons_succ]))
  (refine WG.take (i := 2) (v := ?_) rfl (by kernel_rfl) (by kernel_rfl) (by kernel_rfl) (by kernel_rfl) (fun _ _ _ h => h) (Or.inl ⟨by rfl, ?_⟩) (by assumption) ?_; rotate_left; (intro w hSw; (try dsimp only at hSw); go_split_ands; go_simp; (try with_reducible rfl)); (try simp only [Act.put, List.setIfInBounds_toArray, List.set_cons_zero, List.set_cons_succ]))
  (refine WG.take (i := 3) (v := ?_) rfl (by kernel_rfl) (by kernel_rfl) (by kernel_rfl) (by kernel_rfl) (fun _ _ _ h => h) (Or.inl ⟨by rfl, ?_⟩) (by assumption) ?_; rotate_left; (intro w hSw; (try dsimp only at hSw); go_split_ands; go_simp; (try with_reducible rfl)); (try simp only [Act.put, List.setIfInBounds_toArray, List.set_cons_zero, List.set_cons_succ]))
  (refine WG.take (i := 4) (v := ?_) rfl (by kernel_rfl) (by kernel_rfl) (by kernel_rfl) (by kernel_rfl) (fun _ _ _ h => h) (Or.inl ⟨by rfl, ?_⟩) (by assumption) ?_; rotate_left; (intro w hSw; (try dsimp only at hSw); go_split_ands; go_simp; (try with_reducible rfl)); (try simp only [Act.put, List.setIfInBounds_toArray, List.set_cons_zero, List.set_cons_succ]))
  (refine WG.take (i := 5) (v := ?_) rfl (by kernel_rfl) (by kernel_rfl) (by kernel_rfl) (by kernel_rfl) (fun _ _ _ h => h) (Or.inl ⟨by rfl, ?_⟩) (by assumption) ?_; rotate_left; (intro w hSw; (try dsimp only at hSw); go_split_ands; go_simp; (try with_reducible rfl)); (try simp only [Act.put, List.setIfInBounds_toArray, List.set_cons_zero, List.set_cons_succ]))
  refine WG.last (i := 6) rfl (by kernel_rfl) (by kernel_rfl) (fun K hK => ?_)
  refine step_append_row rfl (.tmp 22) (.tmp 25) 55 rfl 34 i0_task 2 Tryz.underlying55 hi0_task hz1_task g k c (by simp [Act.eval]) Ad m (c - (k + 1)) news (by simp [Act.eval]) HL.out hsrc.out HO.out (by omega) cur HG.out (by rw [HL.out, HSZ.out]; omega) ?_; rw [← HR1.out, ← HW2.out]
  refine hK.out _ _ ?_
  clear hK K
  (try simp only [Act.put, List.setIfInBounds_toArray, List.set_cons_zero, List.set_cons_succ])
  refine WG.last (i := 7) rfl (by kernel_rfl) (by kernel_rfl) (fun K hK => ?_)
  go_simp
  refine hK.out _ _ ?_
  clear hK K
  (try simp only [Act.put, List.setIfInBounds_toArray, List.set_cons_zero, List.set_cons_succ])
  refine WG.done (by kernel_rfl) ?_
  go_wp2
  go_ret
  exact ⟨rfl, X.out⟩

end Go.Proofs.YtfgibhdglbjadaaGreat

/- The program's host lets a task depart. -/
namespace Go.Proofs.YtfgibhdglbjadaaGreat
open Go.RowKit Go.MuLone

theorem iDelete' (base g c k m : Nat) (ts : List TaskD) (w : World) (hn : ts.length = k + 1 + m) (h : OT w base (.slice (some ⟨g, 0, none⟩) (k + 1 + m) c) ts) :
    Calls Tryz.prog 131 #[.slice (some ⟨g, 0, none⟩) (k + 1 + m) c, .int .i64 (k : Int), .int .i64 ((k : Int) + 1)] w fun e w' => e = .returned (.slice (some ⟨g, 0, none⟩) (k + m) c) ∧ OT w' base (.slice (some ⟨g, 0, none⟩) (k + m) c) (ts.eraseIdx k) ∧ Gr g w w' ∧ SameT (fun t => t ≠ 34) w w' := iDelete base g c k m ts w hn h
theorem takeL_erase (id : Int) : ∀ (ts : List TaskD) (j : Nat), ts.findIdx? (fun t => t.id == id) = some j → (ts.map (·.id)).Nodup → ts.eraseIdx j = takeL id ts
  | [], j, h, _ => by simp at h
  | t :: ts, j, h, hn => by
    rw [List.findIdx?_cons] at h
    have hn := List.nodup_cons.1 (show (t.id :: ts.map (·.id)).Nodup from hn)
    by_cases ht : (t.id == id) = true
    · rw [if_pos ht] at h
      injection h with h
      subst h
      show ts = takeL id (t :: ts)
      unfold takeL
      rw [List.filter_cons_of_neg (by simp [ht]), List.filter_eq_self.2 (fun y hy => ?_)]
      have h1 : t.id = id := by simpa using ht
      have h2 : y.id ≠ id := fun e => hn.1 (by rw [h1, ← e]; exact List.mem_map.2 ⟨y, hy, rfl⟩)
      simpa using h2
    · rw [if_neg ht] at h
      obtain ⟨j', hj', rfl⟩ := Option.map_eq_some_iff.1 h
      show t :: ts.eraseIdx j' = takeL id (t :: ts)
      rw [takeL_erase id ts j' hj' hn.2]
      unfold takeL
      rw [List.filter_cons_of_pos (by simpa using ht)]
theorem clus_nodup {C : ClusD} (h : clusOk C = true) {u : UnitD} (hu : u ∈ C.units) : (u.tasks.map (·.id)).Nodup :=
  (((List.sublist_flatten_of_mem (L := C.units.map (·.tasks)) (List.mem_map.2 ⟨u, hu, rfl⟩)).map (fun t : TaskD => t.id)).nodup ((tasksOk_iff _ _).1 ((clus_iff C).1 h).2.2.1).2.2.2)
theorem findU_at {us : List UnitD} {id : Int} {k : Nat} {u : UnitD} (h : whereL (us.map (·.tasks)) id = (k : Int)) (hk : us[k]? = some u) : ∃ j : Nat, findU us id = ((k : Int), (j : Int)) ∧ u.tasks.findIdx? (fun t => t.id == id) = some j := by
  unfold whereL at h
  rw [List.findIdx?_map] at h
  have he : ((fun b => hasId b id) ∘ fun u : UnitD => u.tasks) = fun u : UnitD => hasId u.tasks id := rfl
  rw [he] at h
  cases hf : us.findIdx? (fun u : UnitD => hasId u.tasks id) with
  | none => rw [hf] at h; simp at h
  | some i =>
    rw [hf] at h
    have hi : i = k := by have h : (i : Int) = (k : Int) := h; omega
    subst hi
    obtain ⟨hlt, hp, _⟩ := List.findIdx?_eq_some_iff_getElem.1 hf
    have hu : us[i] = u := by
      have := List.getElem?_eq_getElem hlt
      rw [hk] at this
      injection this with this
      exact this.symm
    rw [hu] at hp
    cases hj : u.tasks.findIdx? (fun t => t.id == id) with
    | none =>
      rw [List.findIdx?_eq_none_iff] at hj
      unfold hasId at hp
      obtain ⟨t, ht, hte⟩ := List.any_eq_true.1 hp
      have := hj t ht
      rw [hte] at this
      cases this
    | some j =>
      refine ⟨j, ?_, rfl⟩
      unfold findU idxI
      rw [hf]
      simp [List.getD, hk, hj]
/-- a host lets a task depart; the code -/
def departH (C : ClusD) (id : Int) : ClusD × Int :=
  if whereL (C.units.map (·.tasks)) id < 0 then (C, 4)
  else match C.units[(whereL (C.units.map (·.tasks)) id).toNat]? with
    | none => (C, 4)
    | some u => (⟨C.room, C.units.set (whereL (C.units.map (·.tasks)) id).toNat ⟨u.opened, takeL id u.tasks⟩⟩, 0)
theorem departC_ok {C : ClusD} (h : clusOk C = true) (id : Int) : departC C id = departH C id := by unfold departC departH; rw [if_pos h]; rfl

set_option maxHeartbeats 4000000 in
theorem iHostDepart (H base : Nat) (C : ClusD) (ps : List (UnitD × Value)) (rv : Value) (cells : List Value) (id : Int) (w : World) (h : HostV w H base C ps rv cells 0) (hbz : base ≤ w.heap.size) (hC : clusOk C = true) :
    Calls Tryz.prog 77 #[.pointer (some ⟨H, 0, none⟩), .int .i64 id] w (RetH w H base rv (departH C id)) := by
  have c0 := h.at.1
  have f0 := h.at.2.2.2 0
  have hHb := h.hi
  have hn10 := h.n10
  have H1 := hid (h.lock 1)
  have HB1 : Hid (Below base w (w.setCell ⟨H, 0, none⟩ (.int .i32 1))) := hid (Below.setCell (Below.refl _ _) hHb _)
  clear h
  by_cases hw0 : whereL (C.units.map (·.tasks)) id < 0
  · have HA : Hid (departH C id = (C, 4)) := hid (by unfold departH; rw [if_pos hw0])
    have hq : (findU C.units id).1 < 0 := by rw [find_where]; exact hw0
    obtain ⟨q1, hq1⟩ : ∃ q1, q1 = (findU C.units id).1 := ⟨_, rfl⟩
    obtain ⟨q2, hq2⟩ : ∃ q2, q2 = (findU C.units id).2 := ⟨_, rfl⟩
    rw [← hq1] at hq
    have HQ1 := hid hq1
    have HQ2 := hid hq2
    clear hw0 hC hq1 hq2
    go_enter_defers Tryz.func77, Tryz.ntmps77
    go_wp2_with (first
      | (go_at_call 115; refine (iFind H base C ps _ cells 1 id _ H1.out).mono ?_; rintro e w2 ⟨rfl, hE2⟩; rw [← HQ1.out, ← HQ2.out]; have H2 := hid (H1.out.ext hE2); have HB2 := hid (HB1.out.trans (hE2.mono (by simpa [World.setCell] using hbz))); clear hE2)
      | (go_at_call 113; refine (lock_free muLib ⟨H, 0, none⟩ _ c0 f0).mono ?_; rintro e w1 ⟨rfl, rfl⟩; skip))
    have HD := H2
    have HB := HB2
    refine leaves_cons (f := 114) (args := #[.pointer (some ⟨H, 0, none⟩)]) (by simp) (by simp [go_sem]) ?_
    refine (unlock_deferred muLib ⟨H, 0, none⟩ .returning _ HD.out.at.1 (HD.out.at.2.2.2 0)).mono ?_
    rintro e u' w'' ⟨rfl, rfl, rfl⟩
    refine ⟨_, results_tmp rfl _ _ _, ?_⟩
    unfold RetH
    exact ⟨_, _, by rw [HA.out]; rfl, by rw [HA.out]; exact HD.out.lock 0, Below.setCell HB.out hHb _⟩
  · obtain ⟨k, hk⟩ : ∃ k : Nat, whereL (C.units.map (·.tasks)) id = k := ⟨_, (Int.toNat_of_nonneg (by omega)).symm⟩
    have hkl : k < C.units.length := by
      have := whereL_lt (C.units.map (·.tasks)) id
      rw [List.length_map] at this
      omega
    have ik : (k : Int) < 10 := by omega
    have i0 : (0 : Int) ≤ (k : Int) := by omega
    have i00 : ¬ (k : Int) < 0 := by omega
    obtain ⟨u, hu⟩ : ∃ u, C.units[k]? = some u := ⟨_, List.getElem?_eq_getElem hkl⟩
    obtain ⟨j, hf, hj⟩ := findU_at hk hu
    have hjl := (List.findIdx?_eq_some_iff_getElem.1 hj).1
    obtain ⟨m, hm⟩ : ∃ m, u.tasks.length = j + 1 + m := ⟨u.tasks.length - (j + 1), by omega⟩
    have hte := takeL_erase id u.tasks j hj (clus_nodup hC (List.mem_of_getElem? hu))
    have hut := (clusOk_unit hC (List.mem_of_getElem? hu)).1.1
    have hj9 : (j : Int) ≤ 900 := by omega
    have hj0 : (0 : Int) ≤ (j : Int) := by omega
    have HA : Hid (departH C id = (⟨C.room, C.units.set k ⟨u.opened, u.tasks.eraseIdx j⟩⟩, 0)) := hid (by unfold departH; rw [if_neg hw0, hk, Int.toNat_natCast, hu, hte])
    have HQ := hid hf
    obtain ⟨tv, hpk⟩ := H1.out.pair hu
    have HPK := hid hpk
    have ex := hid hu
    have hot := (H1.out.unit hpk).2.2
    obtain ⟨g, ct, rfl, hg⟩ := Own.row hot (by omega)
    have HM := hid hm
    have hwr : IntKind.i64.wrap ((j : Int) + 1) = (j : Int) + 1 := by rw [IntKind.wrap_i64]; omega
    clear hw0 hk hf hj hte hC hpk hu hot hut
    go_enter_defers Tryz.func77, Tryz.ntmps77
    go_wp2_with (first
      | (go_at_call 115; refine (iFind H base C ps _ cells 1 id _ H1.out).mono ?_; rintro e w2 ⟨rfl, hE2⟩; rw [HQ.out]; have H2 := hid (H1.out.ext hE2); have HB2 := hid (HB1.out.trans (hE2.mono (by simpa [World.setCell] using hbz))); clear hE2)
      | (go_at_call 113; refine (lock_free muLib ⟨H, 0, none⟩ _ c0 f0).mono ?_; rintro e w1 ⟨rfl, rfl⟩; skip))
    obtain ⟨W2, hW2⟩ : ∃ W2, W2 = w2 := ⟨_, rfl⟩
    subst hW2
    have hHz : H < W2.heap.size := obj_lt H2.out.blk
    have hC1 : W2.cell? ⟨H, 4 + k * 2 + 1, none⟩ = some (.slice (some ⟨g, 0, none⟩) (j + 1 + m) ct) := by rw [← HM.out]; exact (H2.out.unit HPK.out).2.1
    have HC1 := hid hC1
    have KT : Hid (∀ w' : World, w'.heap[H]? = W2.heap[H]? → w'.cell? ⟨H, 4 + k * 2 + 1, none⟩ = some (.slice (some ⟨g, 0, none⟩) (j + 1 + m) ct)) := hid fun w' h0 => (World.cell?_of_block (w := W2) (a := ⟨H, 4 + k * 2 + 1, none⟩) h0).trans HC1.out
    have HED : Hid (Ext W2 W2.drew) := hid (Below.drew (Below.refl _ _))
    have H3 := hid (H2.out.ext HED.out)
    have HB3 := hid (HB2.out.trans (HED.out.mono (by have := HB2.out.size; omega)))
    have HT3 : Hid (OT W2.drew base (.slice (some ⟨g, 0, none⟩) (j + 1 + m) ct) u.tasks) := hid (by rw [← HM.out]; exact (H3.out.unit HPK.out).2.2)
    clear hC1
    refine wp_region_noPanic ?_
    refine WG.start (fun w' => w'.cell? ⟨H, 4 + k * 2 + 1, none⟩ = some (.slice (some ⟨g, 0, none⟩) (j + 1 + m) ct)) [17] (by kernel_rfl) (by exact KT.out _ rfl) (fun hHeld => ?_)
    (refine WG.take (i := 0) (v := ?_) rfl (by kernel_rfl) (by kernel_rfl) (by kernel_rfl) (by kernel_rfl) (fun _ _ _ h => h) (Or.inl ⟨by rfl, ?_⟩) (by assumption) ?_; rotate_left; (intro w hSw; (try dsimp only at hSw); go_split_ands; go_simp; (try with_reducible rfl)); (try simp only [Act.put, List.setIfInBounds_toArray, List.set_cons_zero, List.set_cons_succ]))
    (refine WG.take (i := 1) (v := ?_) rfl (by kernel_rfl) (by kernel_rfl) (by kernel_rfl) (by kernel_rfl) (fun _ _ _ h => h) (Or.inl ⟨by rfl, ?_⟩) (by assumption) ?_; rotate_left; (intro w hSw; (try dsimp only at hSw); go_split_ands; go_simp; (try with_reducible rfl)); (try simp only [Act.put, List.setIfInBounds_toArray, List.set_cons_zero, List.set_cons_succ]))
    (refine WG.take (i := 2) (v := ?_) rfl (by kernel_rfl) (by kernel_rfl) (by kernel_rfl) (by kernel_rfl) (fun _ _ _ h => h) (Or.inl ⟨by rfl, ?_⟩) (by assumption) ?_; rotate_left; (intro w hSw; (try dsimp only at hSw); go_split_ands; go_simp; (try with_reducible rfl)); (try simp only [Act.put, List.setIfInBounds_toArray, List.set_cons_zero, List.set_cons_succ]))
    (refine WG.take (i := 3) (v := ?_) rfl (by kernel_rfl) (by kernel_rfl) (by kernel_rfl) (by kernel_rfl) (fun _ _ _ h => h) (Or.inl ⟨by rfl, ?_⟩) (by assumption) ?_; rotate_left; (intro w hSw; (try dsimp only at hSw); go_split_ands; go_simp; (try with_reducible rfl)); (try simp only [Act.put, List.setIfInBounds_toArray, List.set_cons_zero, List.set_cons_succ]))
    (refine WG.take (i := 4) (v := ?_) rfl (by kernel_rfl) (by kernel_rfl) (by kernel_rfl) (by kernel_rfl) (fun _ _ _ h => h) (Or.inl ⟨by rfl, ?_⟩) (by assumption) ?_; rotate_left; (intro w hSw; (try dsimp only at hSw); go_split_ands; go_simp; (try with_reducible rfl)); (try simp only [Act.put, List.setIfInBounds_toArray, List.set_cons_zero, List.set_cons_succ]))
    (refine WG.take (i := 5) (v := ?_) rfl (by kernel_rfl) (by kernel_rfl) (by kernel_rfl) (by kernel_rfl) (fun _ _ _ h => h) (Or.inl ⟨by rfl, ?_⟩) (by assumption) ?_; rotate_left; (intro w hSw; (try dsimp only at hSw); go_split_ands; go_simp; (try with_reducible rfl)); (try simp only [Act.put, List.setIfInBounds_toArray, List.set_cons_zero, List.set_cons_succ]))
    (refine WG.take (i := 6) (v := ?_) rfl (by kernel_rfl) (by kernel_rfl) (by kernel_rfl) (by kernel_rfl) (fun _ _ _ h => h) (Or.inl ⟨by rfl, ?_⟩) (by assumption) ?_; rotate_left; (intro w hSw; (try dsimp only at hSw); go_split_ands; go_simp; (try with_reducible rfl)); (try simp only [Act.put, List.setIfInBounds_toArray, List.set_cons_zero, List.set_cons_succ]))
    (refine WG.take (i := 7) (v := ?_) rfl (by kernel_rfl) (by kernel_rfl) (by kernel_rfl) (by kernel_rfl) (fun _ _ _ h => h) (Or.inl ⟨by rfl, ?_⟩) (by assumption) ?_; rotate_left; (intro w hSw; (try dsimp only at hSw); go_split_ands; go_simp; (try with_reducible rfl)); (try simp only [Act.put, List.setIfInBounds_toArray, List.set_cons_zero, List.set_cons_succ]))
    (refine WG.take (i := 8) (v := ?_) rfl (by kernel_rfl) (by kernel_rfl) (by kernel_rfl) (by kernel_rfl) (fun _ _ _ h => h) (Or.inl ⟨by rfl, ?_⟩) (by assumption) ?_; rotate_left; (intro w hSw; (try dsimp only at hSw); go_split_ands; go_simp; (try with_reducible rfl)); (try simp only [Act.put, List.setIfInBounds_toArray, List.set_cons_zero, List.set_cons_succ]))
    (refine WG.take (i := 9) (v := ?_) rfl (by kernel_rfl) (by kernel_rfl) (by kernel_rfl) (by kernel_rfl) (fun _ _ _ h => h) (Or.inl ⟨by rfl, ?_⟩) (by assumption) ?_; rotate_left; (intro w hSw; (try dsimp only at hSw); go_split_ands; go_simp; (try with_reducible rfl)); (try simp only [Act.put, List.setIfInBounds_toArray, List.set_cons_zero, List.set_cons_succ]))
    (refine WG.take (i := 10) (v := ?_) rfl (by kernel_rfl) (by kernel_rfl) (by kernel_rfl) (by kernel_rfl) (fun _ _ _ h => h) (Or.inl ⟨by rfl, ?_⟩) (by assumption) ?_; rotate_left; (intro w hSw; (try dsimp only at hSw); go_split_ands; go_simp; (try with_reducible rfl)); (try simp only [Act.put, List.setIfInBounds_toArray, List.set_cons_zero, List.set_cons_succ]))
    (refine WG.take (i := 11) (v := ?_) rfl (by kernel_rfl) (by kernel_rfl) (by kernel_rfl) (by kernel_rfl) (fun _ _ _ h => h) (Or.inl ⟨by rfl, ?_⟩) (by assumption) ?_; rotate_left; (intro w hSw; (try dsimp only at hSw); go_split_ands; go_simp; (try with_reducible rfl)); (try simp only [Act.put, List.setIfInBounds_toArray, List.set_cons_zero, List.set_cons_succ]))
    (refine WG.take (i := 13) (v := ?_) rfl (by kernel_rfl) (by kernel_rfl) (by kernel_rfl) (by kernel_rfl) (fun _ _ _ h => h) (Or.inl ⟨by rfl, ?_⟩) (by assumption) ?_; rotate_left; (intro w hSw; (try dsimp only at hSw); go_split_ands; go_simp; (try with_reducible rfl)); (try simp only [Act.put, List.setIfInBounds_toArray, List.set_cons_zero, List.set_cons_succ]))
    (refine WG.take (i := 14) (v := ?_) rfl (by kernel_rfl) (by kernel_rfl) (by kernel_rfl) (by kernel_rfl) (fun _ _ _ h => h) (Or.inl ⟨by rfl, ?_⟩) (by assumption) ?_; rotate_left; (intro w hSw; (try dsimp only at hSw); go_split_ands; go_simp; (try with_reducible rfl)); (try simp only [Act.put, List.setIfInBounds_toArray, List.set_cons_zero, List.set_cons_succ]))
    refine WG.one (i := 12) rfl (by kernel_rfl) (fun K hK => ?_)
    go_simp; refine (iDelete' base g ct j m u.tasks _ HM.out HT3.out).mono ?_; rintro e w4 ⟨rfl, hO4, hg4, hs4⟩; have HO4 := hid hO4; have HG4 := hid hg4; have HS4 := hid hs4; clear hO4 hg4 hs4; (try dsimp only)
    refine hK.out _ _ (by exact KT.out _ ((HS4.out _ _ _ _ (by decide) H3.out.blk).trans H2.out.blk.symm)) (fun hHeld => ?_)
    clear hK K
    (try simp only [Act.put, List.setIfInBounds_toArray, List.set_cons_zero, List.set_cons_succ])
    (refine WG.take (i := 15) (v := ?_) rfl (by kernel_rfl) (by kernel_rfl) (by kernel_rfl) (by kernel_rfl) (fun _ _ _ h => h) (Or.inl ⟨by rfl, ?_⟩) (by assumption) ?_; rotate_left; (intro w hSw; (try dsimp only at hSw); go_split_ands; go_simp; (try with_reducible rfl)); (try simp only [Act.put, List.setIfInBounds_toArray, List.set_cons_zero, List.set_cons_succ]))
    (refine WG.take (i := 16) (v := ?_) rfl (by kernel_rfl) (by kernel_rfl) (by kernel_rfl) (by kernel_rfl) (fun _ _ _ h => h) (Or.inl ⟨by rfl, ?_⟩) (by assumption) ?_; rotate_left; (intro w hSw; (try dsimp only at hSw); go_split_ands; go_simp; (try with_reducible rfl)); (try simp only [Act.put, List.setIfInBounds_toArray, List.set_cons_zero, List.set_cons_succ]))
    have cx4 := KT.out w4 ((HS4.out _ _ _ _ (by decide) H3.out.blk).trans H2.out.blk.symm)
    have fx4 := obj_frozen (HS4.out _ _ _ _ (by decide) H3.out.blk) (4 + k * 2 + 1)
    refine WG.last (i := 17) rfl (by kernel_rfl) (by kernel_rfl) (fun K hK => ?_)
    go_simp
    refine hK.out _ _ ?_
    clear hK K
    (try simp only [Act.put, List.setIfInBounds_toArray, List.set_cons_zero, List.set_cons_succ])
    refine WG.done (by kernel_rfl) ?_
    refine NoPanic.normal ?_
    go_wp2
    obtain ⟨cellsB, HT'⟩ := H3.out.turn ex.out HPK.out (v' := .slice (some ⟨g, 0, none⟩) (j + m) ct) (fun a ha hne => HG4.out.block a ha (fun e => hne (by rw [e]; rfl))) HS4.out HO4.out (nodup_app H3.out.nd HPK.out (.inl rfl) (fun g hg => (H3.out.lt g hg).2))
    have HBB : Below base w w4 := Below.grown HB3.out HG4.out (by have := HB3.out.size; omega) (fun a ha => by injection ha with ha; omega)
    have HD := hid HT'
    have HB : Hid (Below base w (w4.setCell ⟨H, 4 + k * 2 + 1, none⟩ (.slice (some ⟨g, 0, none⟩) (j + m) ct))) := hid (Below.setCell HBB hHb _)
    clear HT' HBB
    refine leaves_cons (f := 114) (args := #[.pointer (some ⟨H, 0, none⟩)]) (by simp) (by simp [go_sem]) ?_
    refine (unlock_deferred muLib ⟨H, 0, none⟩ .returning _ HD.out.at.1 (HD.out.at.2.2.2 0)).mono ?_
    rintro e u' w'' ⟨rfl, rfl, rfl⟩
    refine ⟨_, results_tmp rfl _ _ _, ?_⟩
    unfold RetH
    exact ⟨_, _, by rw [HA.out]; rfl, by rw [HA.out]; exact HD.out.lock 0, Below.setCell HB.out hHb _⟩

end Go.Proofs.YtfgibhdglbjadaaGreat
