/- The program's list of all moves that are possible. -/
import Derived.Test.YtibpijjigopdjaaDoorK16
import Derived.Test.YtibpijjigopdjaaDoorK10
import Derived.Deep.LoopGhost
namespace Go.Proofs.YtibpijjigopdjaaDoor
open Go.RowKit
set_option maxRecDepth 4000
attribute [local go_sem] Oper.semAt_some

theorem where_is {bs : List (List TaskD)} (hn : (bs.flatten.map (·.id)).Nodup) {f : Nat} {b : List TaskD} {x : TaskD} (hb : bs[f]? = some b) (hx : x ∈ b) : whereL bs x.id = (f : Int) ∧ lastL x.id bs.flatten = x := by
  have hh : hasId b x.id = true := by simp only [hasId, List.any_eq_true, beq_iff_eq]; exact ⟨x, hx, rfl⟩
  have hw : whereL bs x.id = (f : Int) := by
    refine whereL_hit hb hh fun j c hj hc => ?_
    cases hcc : hasId c x.id with
    | false => rfl
    | true => have := only_one hn hc hb hcc hh; omega
  refine ⟨hw, ?_⟩
  obtain ⟨b', k, x', hb', _, hx', hi, hl, _⟩ := where_parts hn hw
  rw [hb] at hb'
  injection hb' with hb'
  subst hb'
  rw [hl]
  have hbn : (b.map (·.id)).Nodup := ((List.sublist_flatten_of_mem (List.mem_of_getElem? hb)).map (fun t : TaskD => t.id)).nodup hn
  obtain ⟨m, hm⟩ := List.getElem?_of_mem hx
  rw [List.nodup_iff_pairwise_ne, List.pairwise_iff_getElem] at hbn
  obtain ⟨hk1, hk2⟩ := List.getElem?_eq_some_iff.1 hx'
  obtain ⟨hm1, hm2⟩ := List.getElem?_eq_some_iff.1 hm
  by_cases hkm : k = m
  · subst hkm; rw [← hk2, ← hm2]
  · rcases Nat.lt_or_gt_of_ne hkm with h | h
    · refine absurd ?_ (hbn k m (by simpa using hk1) (by simpa using hm1) h)
      simp only [List.getElem_map, hk2, hm2, hi]
    · refine absurd ?_ (hbn m k (by simpa using hm1) (by simpa using hk1) h)
      simp only [List.getElem_map, hk2, hm2, hi]
/-- moves of a task of node f to some nodes -/
def stepL (f : Nat) (x : TaskD) (l : List Nat) : List MoveD := (l.filter fun t => decide (t ≠ f)).map fun (t : Nat) => ⟨x.id, (t : Int)⟩
theorem stepL_snoc (f : Nat) (x : TaskD) (l : List Nat) (t : Nat) : stepL f x (l ++ [t]) = if t = f then stepL f x l else stepL f x l ++ [⟨x.id, (t : Int)⟩] := by
  unfold stepL
  rw [List.filter_append, List.map_append]
  by_cases h : t = f <;> simp [h]
theorem stepL_len (f : Nat) (x : TaskD) (l : List Nat) : (stepL f x l).length ≤ l.length := by
  unfold stepL
  rw [List.length_map]
  exact List.length_filter_le _ _
theorem mvRow_step {room : List Int} {bs : List (List TaskD)} (hn : (bs.flatten.map (·.id)).Nodup) {f : Nat} {b : List TaskD} {x : TaskD} (hb : bs[f]? = some b) (hx : x ∈ b) : mvRow room bs x bs.length = stepL f x (haveTo room bs x bs.length) := by
  obtain ⟨hw, hl⟩ := where_is hn hb hx
  unfold mvRow stepL haveTo
  rw [List.filter_filter]
  congr 1
  refine List.filter_congr fun j hj => ?_
  have hj : j < bs.length := by simpa using hj
  rw [can_eq (m := ⟨x.id, (j : Int)⟩) hw hl]
  have h1 : inB (j : Int) 0 ((bs.length : Int) - 1) = true := by simp [inB]; omega
  have h2 : ((j : Int) == (f : Int)) = (j == f) := len_beq j f
  simp only
  rw [h1, h2, Int.toNat_natCast, Bool.true_and]
  congr 1
  by_cases h : j = f <;> simp [h]

def mkD (D : Nat) : Deferred := { target := .collected D, args := #[] }
/-- marks of ranges that are done -/
def Mks (base : Nat) (ds : List Deferred) (w : World) : Prop := ∃ Ds : List Nat, ds = Ds.map mkD ∧ Ds.Nodup ∧ ∀ D ∈ Ds, base ≤ D ∧ D < w.heap.size ∧ w.heap[D]? = some (.deferred (some []))
theorem Mks.others {base : Nat} {ds : List Deferred} {w w' : World} (h : Mks base ds w) (k : KeepsOthers w w') : Mks base ds w' := by
  obtain ⟨Ds, h1, h2, h3⟩ := h
  exact ⟨Ds, h1, h2, fun D hD => ⟨(h3 D hD).1, Nat.lt_of_lt_of_le (h3 D hD).2.1 k.size, k.same D _ (h3 D hD).2.2 rfl⟩⟩
theorem Mks.ext {base : Nat} {ds : List Deferred} {w w' : World} (h : Mks base ds w) (k : Ext w w') : Mks base ds w' := by
  obtain ⟨Ds, h1, h2, h3⟩ := h
  exact ⟨Ds, h1, h2, fun D hD => ⟨(h3 D hD).1, Nat.lt_of_lt_of_le (h3 D hD).2.1 k.size, (k.block D (h3 D hD).2.1).trans (h3 D hD).2.2⟩⟩
theorem Mks.push {base : Nat} {ds : List Deferred} {w : World} (h : Mks base ds w) {D B : Nat} (hB : base ≤ B) (hD : B ≤ D) (hlow : ∀ Ds : List Nat, ds = Ds.map mkD → ∀ E ∈ Ds, E < B) (hw : w.heap[D]? = some (.deferred (some []))) : Mks base (mkD D :: ds) w := by
  obtain ⟨Ds, h1, h2, h3⟩ := h
  refine ⟨D :: Ds, by rw [h1]; rfl, List.nodup_cons.2 ⟨fun hm => ?_, h2⟩, ?_⟩
  · have := hlow Ds h1 D hm; omega
  · intro E hE
    rcases List.mem_cons.1 hE with rfl | hE
    · exact ⟨by omega, (Array.getElem?_eq_some_iff.1 hw).1, hw⟩
    · exact h3 E hE
theorem leave_marks {P : Program} {fn : Func} {tmps : Array Value} {R : Ending → World → Prop} {base : Nat} (J : World → Prop) (hJ : ∀ W (D : Nat), base ≤ D → W.heap[D]? = some (.deferred (some [])) → J W → J (W.putObj D (.deferred none))) (hR : ∀ W, J W → LeavesInM Fence.wide 4 P fn tmps R [] .returning W) :
    ∀ (Ds : List Nat) (w : World), Ds.Nodup → (∀ D ∈ Ds, base ≤ D ∧ w.heap[D]? = some (.deferred (some []))) → J w → LeavesInM Fence.wide 4 P fn tmps R (Ds.map mkD) .returning w
  | [], w, _, _, h => hR w h
  | D :: Ds, w, hn, hd, h => by
    have hD := hd D (by simp)
    refine ⟨by simp, .inl ⟨D, _, rfl, run_takeDeferred hD.2, leave_marks J hJ hR Ds _ (List.nodup_cons.1 hn).2 (fun E hE => ⟨(hd E (by simp [hE])).1, ?_⟩) (hJ w D hD.1 hD.2 h)⟩⟩
    have hne : E ≠ D := fun e => (List.nodup_cons.1 hn).1 (e ▸ hE)
    have hg := grownBy_putObj' w D (.deferred none)
    have hE2 := (hd E (by simp [hE])).2
    exact (hg.block E (Array.getElem?_eq_some_iff.1 hE2).1 (fun e => hne (Option.some.inj e))).trans hE2

/-- the list so far, in its box; the marks -/
def OutM (w wr : World) (ms : List MoveD) (ds : List Deferred) : Prop := (∃ v, wr.heap[w.heap.size + 1]? = some (.cells #[v] 27 (0, 0)) ∧ OM wr w.heap.size v ms) ∧ Mks w.heap.size ds wr ∧ Ext w wr
theorem OutM.ext {w X Y : World} {ms : List MoveD} {ds : List Deferred} (h : OutM w X ms ds) (hE : Ext X Y) : OutM w Y ms ds :=
  let ⟨⟨v, h1, h2⟩, h3, h4⟩ := h
  ⟨⟨v, hE.obj h1, Own.ext EM.ok h2 hE⟩, h3.ext hE, h4.trans hE⟩
/-- the same in a round of the range -/
def RndM (w w0 : World) (room : List Int) (bs : List (List TaskD)) (x : TaskD) (Ar : Option Addr) (cr : Nat) (Ab : Option Addr) (cb : Nat) (Ax : Option Addr) (cx : Nat) (Bw Bf Bx : Nat) (i : Nat) (ms : List MoveD) (ds : List Deferred) (pre : List (BAt bs)) (X : World) : Prop :=
  OutM w X (ms ++ stepL i x (pre.map fun y : BAt bs => y.1.1)) ds ∧ Mks w.heap.size ds w0 ∧ w0.heap.size ≤ X.heap.size ∧ Boxes3 X Bw room bs x Ar cr Ab cb Ax cx ∧ X.heap[Bf]? = some (.cells #[.int .i64 (i : Int)] 3 (0, 0)) ∧ X.heap[Bx]? = some (.cells #[.int .i64 x.id, .slice Ax x.need.length cx] 44 (0, 0))
theorem Mks.low {base : Nat} {ds : List Deferred} {w : World} (h : Mks base ds w) : ∀ Ds : List Nat, ds = Ds.map mkD → ∀ E ∈ Ds, E < w.heap.size := by
  obtain ⟨Es, h1, _, h3⟩ := h
  intro Ds hDs E hE
  have hinj : ∀ a b : Nat, mkD a = mkD b → a = b := fun a b e => by simpa [mkD] using e
  have : E ∈ Es := by
    have hm : mkD E ∈ Ds.map mkD := List.mem_map.2 ⟨E, hE, rfl⟩
    rw [← hDs, h1] at hm
    obtain ⟨E', hE', he⟩ := List.mem_map.1 hm
    rw [← hinj _ _ he]; exact hE'
  exact (h3 E this).2.1
theorem Mks.grown {base : Nat} {ds : List Deferred} {w0 X Y : World} (h0 : Mks base ds w0) (h : Mks base ds X) {row : Option Nat} (hg : X.grownBy Y row) (hr : ∀ r, row = some r → w0.heap.size ≤ r ∧ ∃ o : Obj, X.heap[r]? = some o ∧ o.isCells = false) : Mks base ds Y := by
  have hl := h0.low
  obtain ⟨Ds, h1, h2, h3⟩ := h
  refine ⟨Ds, h1, h2, fun D hD => ⟨(h3 D hD).1, Nat.lt_of_lt_of_le (h3 D hD).2.1 hg.size, (hg.block D (h3 D hD).2.1 (fun e => ?_)).trans (h3 D hD).2.2⟩⟩
  have := (hr D e.symm).1
  have := hl Ds h1 D hD
  omega
theorem RndM.own {w w0 : World} {room : List Int} {bs : List (List TaskD)} {x : TaskD} {Ar : Option Addr} {cr : Nat} {Ab : Option Addr} {cb : Nat} {Ax : Option Addr} {cx : Nat} {Bw Bf Bx : Nat} {i : Nat} {ms : List MoveD} {ds : List Deferred} (hw : w.heap.size ≤ w0.heap.size) : OwnFrom w0.heap.size (RndM w w0 room bs x Ar cr Ab cb Ax cx Bw Bf Bx i ms ds) := fun pre X Y row hs hg hr => by
  obtain ⟨⟨⟨v, h1, h2⟩, h3, h4⟩, h5, h6, ⟨b1, b2, b3⟩, h7, h8⟩ := hs
  exact ⟨⟨⟨v, obj_grown hg hr h1, Own.same EM.ok h2 (SameT.ofGrown hg hr _)⟩, h5.grown h3 hg hr, Below.ofGrown h4 hw hg hr⟩, h5, Nat.le_trans h6 hg.size, ⟨obj_grown hg hr b1, obj_grown hg hr b2, obj_grown hg hr b3⟩, obj_grown hg hr h7, obj_grown hg hr h8⟩
theorem Boxes3.kept {n₀ Bw : Nat} {X Y : World} {room : List Int} {bs : List (List TaskD)} {x : TaskD} {Ar : Option Addr} {cr : Nat} {Ab : Option Addr} {cb : Nat} {Ax : Option Addr} {cx : Nat} (h : Boxes3 X Bw room bs x Ar cr Ab cb Ax cx) (k : Boxes3 Y Bw room bs x Ar cr Ab cb Ax cx) (hb : Below n₀ X Y) : Keep3 n₀ Bw X Y := by
  refine ⟨hb, fun q h1 h2 cur t fr hq => ?_⟩
  obtain ⟨a1, a2, a3⟩ := h
  obtain ⟨c1, c2, c3⟩ := k
  have : q = Bw ∨ q = Bw + 1 ∨ q = Bw + 2 := by omega
  rcases this with rfl | rfl | rfl
  · rw [a1] at hq; rw [c1]; exact hq
  · rw [a2] at hq; rw [c2]; exact hq
  · rw [a3] at hq; rw [c3]; exact hq

set_option maxRecDepth 100000 in
set_option maxHeartbeats 8000000 in
theorem iMovesOf (rv bv : Value) (room : List Int) (bs : List (List TaskD)) (w : World) (hR : RI w rv room) (h : RB w bv bs) (hfl : bs.flatten.length ≤ 4000000) (hid' : ∀ t ∈ bs.flatten, IdR t.id) :
    Calls Tryd.prog 41 #[rv, bv] w fun e w' => ∃ v, e = .returned v ∧ OM w' w.heap.size v (movesOf room bs) ∧ Ext w w' := by
  have hR0 := hR
  have h0 := h
  obtain ⟨Ar, cr, rfl, _⟩ := hR
  obtain ⟨Ab, cb, rfl, _, _, hgb⟩ := RB.get h
  obtain ⟨W, hW⟩ : ∃ W, W = (w.alloc (.cells #[] 32)).alloc (.cells #[.slice (some ⟨w.heap.size, 0, none⟩) 0 0] 27) := ⟨_, rfl⟩
  have hEW : Ext w W := by rw [hW]; exact (Ext.alloc _ _).trans (Ext.alloc _ _)
  have hx5 : W.heap[w.heap.size + 1]? = some (.cells #[.slice (some ⟨w.heap.size, 0, none⟩) 0 0] 27 (0, 0)) := by rw [hW]; exact heap_new (by simp)
  have hO0 : OM W w.heap.size (.slice (some ⟨w.heap.size, 0, none⟩) 0 0) [] := by rw [hW]; exact Own.ext EM.ok (Own.made #[] 0 (Nat.le_refl _) (by omega) rfl) (Ext.alloc _ _)
  have HOUT : Hid (OutM w W [] []) := hid ⟨⟨_, hx5, hO0⟩, ⟨[], rfl, List.nodup_nil, fun _ h => by cases h⟩, hEW⟩
  have HO0 := hid hO0
  have HEW := hid hEW
  have HX5 := hid hx5
  have HR := hid hR0
  have HB := hid h0
  have c5 := obj_cell hx5 (i := 0) rfl
  have HGB := hid hgb
  clear hR0 h0 h hEW hx5 hO0 hgb
  refine (callsIn_wide (n := 4)).1 ?_
  refine callsIn_of_wp_marks Tryd.func41 rfl trivial ?_ rfl
  refine wpIn_wide.2 ?_
  simp only [Tryd.ntmps41, List.size_toArray, List.length_cons, List.length_nil, Nat.reduceAdd, Nat.reduceSub, Array.replicate_succ, Array.replicate_zero, List.push_toArray, List.append_toArray, List.nil_append, List.cons_append]
  by_cases h1 : binsOk room bs = true
  · have HV := hid h1
    have HS := hid (bins_small h1)
    have HND := hid (bins_once h1)
    have hlr : room.length = 3 := HS.out.1
    have HLR := hid hlr
    have hl14 : bs.length ≤ 14 := HS.out.2.1
    clear hlr
    obtain ⟨i0_move, hi0_move, hz0_move, hz1_move, hz2_move⟩ := info_parts info_move
    go_wp2_with (go_at_call 28; rw [← hW]; refine (iBinsValid _ _ room bs _ (RI.ext HR.out HEW.out) (RB.ext HB.out HEW.out) hfl hid').mono ?_; rintro e w1 ⟨rfl, hE1⟩; rw [h1]; have HE1 := hid hE1; clear hE1 hW)
    refine wp_loop_ghost (fun n a wr => ∃ (i : Nat) (z : Int) (ds : List Deferred) (x2 x3 x4 x6 x7 x8 x9 x10 x11 x12 x13 x14 x15 x16 x20 x21 x22 x23 x24 x25 x26 x27 x28 x29 x30 x31 x32 x33 x34 x35 x36 x37 x38 x39 x40 x41 x42 x43 x44 x45 x46 x47 x48 : Value), a = { tmps := #[.slice Ar room.length cr, .slice Ab bs.length cb, x2, x3, x4, .pointer (some ⟨w.heap.size + 1, 0, none⟩), x6, x7, x8, x9, x10, x11, x12, x13, x14, x15, x16, .slice Ab bs.length cb, .int .i64 (bs.length : Int), .int .i64 z, x20, x21, x22, x23, x24, x25, x26, x27, x28, x29, x30, x31, x32, x33, x34, x35, x36, x37, x38, x39, x40, x41, x42, x43, x44, x45, x46, x47, x48], defers := ds } ∧ Hid (z = (i : Int)) ∧ i ≤ bs.length ∧ n = bs.length - i ∧ Hid (OutM w wr (mvTo room bs (bs.take i).flatten) ds)) bs.length ⟨0, 0, [], _, _, _, _, _, _, _, _, _, _, _, _, _, _, _, _, _, _, _, _, _, _, _, _, _, _, _, _, _, _, _, _, _, _, _, _, _, _, _, _, _, _, _, rfl, hid rfl, Nat.zero_le _, rfl, hid (HOUT.out.ext HE1.out)⟩ ?_
    rintro n a wr ⟨i, z, ds, x2, x3, x4, x6, x7, x8, x9, x10, x11, x12, x13, x14, x15, x16, x20, x21, x22, x23, x24, x25, x26, x27, x28, x29, x30, x31, x32, x33, x34, x35, x36, x37, x38, x39, x40, x41, x42, x43, x44, x45, x46, x47, x48, rfl, hz, hi, rfl, HO⟩
    have hz := hz.out
    subst hz
    have HEr := hid HO.out.2.2
    by_cases hlt : i < bs.length
    · obtain ⟨b1, o1, bin, An, cn, rfl, eb, cb1, hts⟩ := HGB.out i hlt
      have i1 : (i : Int) < (bs.length : Int) := by omega
      have i0 : (0 : Int) ≤ (i : Int) := by omega
      have cbr := HEr.out.cell cb1
      have HBIN := hid eb.out
      have HTS := hid hts
      have hbl : bin.length ≤ 14 := Nat.le_trans (List.sublist_flatten_of_mem (List.mem_of_getElem? eb.out)).length_le HS.out.2.2.1
      obtain ⟨Y, hY⟩ : ∃ Y, Y = wr.alloc (.cells #[.int .i64 (i : Int)] 3) := ⟨_, rfl⟩
      obtain ⟨Bf, hBf⟩ : ∃ Bf, Bf = wr.heap.size := ⟨_, rfl⟩
      have HEY : Hid (Ext wr Y) := hid (by rw [hY]; exact Ext.alloc _ _)
      have HYB : Hid (Y.heap[Bf]? = some (.cells #[.int .i64 (i : Int)] 3 (0, 0))) := hid (by rw [hY, hBf]; exact heap_alloc_new _ _)
      clear cb1 hts
      go_wp2
      rw [← hY, ← hBf]
      clear hY hBf
      refine wp_loop_ghost (fun n a wr => ∃ (j : Nat) (u : Int) (ds : List Deferred) (x2 x3 x4 x7 x8 x9 x10 x11 x12 x13 x14 x15 x16 x20 x21 x22 x23 x27 x28 x29 x30 x31 x32 x33 x34 x35 x36 x37 x38 x39 x40 x41 x42 x43 x44 x45 x46 x47 x48 : Value), a = { tmps := #[.slice Ar room.length cr, .slice (some ⟨b1, o1, none⟩) bs.length cb, x2, x3, x4, .pointer (some ⟨w.heap.size + 1, 0, none⟩), .pointer (some ⟨Bf, 0, none⟩), x7, x8, x9, x10, x11, x12, x13, x14, x15, x16, .slice (some ⟨b1, o1, none⟩) bs.length cb, .int .i64 (bs.length : Int), .int .i64 (i : Int), x20, x21, x22, x23, .slice An bin.length cn, .int .i64 (bin.length : Int), .int .i64 u, x27, x28, x29, x30, x31, x32, x33, x34, x35, x36, x37, x38, x39, x40, x41, x42, x43, x44, x45, x46, x47, x48], defers := ds } ∧ Hid (u = (j : Int)) ∧ j ≤ bin.length ∧ n = bin.length - j ∧ Hid (OutM w wr (mvTo room bs ((bs.take i).flatten ++ bin.take j)) ds ∧ wr.heap[Bf]? = some (.cells #[.int .i64 (i : Int)] 3 (0, 0)))) bin.length ⟨0, 0, ds, _, _, _, _, _, _, _, _, _, _, _, _, _, _, _, _, _, _, _, _, _, _, _, _, _, _, _, _, _, _, _, _, _, _, _, _, _, _, _, rfl, hid rfl, Nat.zero_le _, rfl, hid ⟨by rw [List.take_zero, List.append_nil]; exact HO.out.ext HEY.out, HYB.out⟩⟩ ?_
      rintro n a wr ⟨j, u, ds, x2, x3, x4, x7, x8, x9, x10, x11, x12, x13, x14, x15, x16, x20, x21, x22, x23, x27, x28, x29, x30, x31, x32, x33, x34, x35, x36, x37, x38, x39, x40, x41, x42, x43, x44, x45, x46, x47, x48, rfl, hu, hj, rfl, HO⟩
      have hu := hu.out
      subst hu
      have HEr := hid HO.out.1.2.2
      have HO1 := hid HO.out.1
      have HBF := hid HO.out.2
      clear HO
      by_cases hlj : j < bin.length
      · obtain ⟨An', cn', hv', _, _, hgt⟩ := RT.get HTS.out
        injection hv' with e1 _ e3
        subst e1 e3
        obtain ⟨b2, o2, x, Ax, cx, rfl, ex, d1, d2, hxr⟩ := hgt j hlj
        have i2 : (j : Int) < (bin.length : Int) := by omega
        have j0 : (0 : Int) ≤ (j : Int) := by omega
        have d1r := HEr.out.cell d1
        have d2r := HEr.out.cell d2
        have HXR := hid hxr
        have HEX := hid ex.out
        have hxm : x ∈ bin := List.mem_of_getElem? ex.out
        have hgood := (HS.out.2.2.2 bin (List.mem_of_getElem? HBIN.out)).2.2 x hxm
        have HGD := hid hgood
        have HMV : Hid (mvTo room bs ((bs.take i).flatten ++ bin.take (j + 1)) = mvTo room bs ((bs.take i).flatten ++ bin.take j) ++ stepL i x (haveTo room bs x bs.length)) := hid (by
          rw [take_snoc ex.out, ← List.append_assoc]
          show List.flatMap _ _ = _
          rw [List.flatMap_append]
          show mvTo room bs _ ++ _ = _
          rw [List.flatMap_cons, List.flatMap_nil, List.append_nil, mvRow_step HND.out HBIN.out hxm])
        obtain ⟨ms, hms⟩ : ∃ ms, ms = mvTo room bs ((bs.take i).flatten ++ bin.take j) := ⟨_, rfl⟩
        have HML : Hid (ms.length ≤ 400) := hid (by
          have h1 := mvTo_len room bs ((bs.take i).flatten ++ bin.take j)
          rw [← hms] at h1
          have h2 := flatten_take_le bs i
          have h3 := HS.out.2.2.1
          have h4 : ((bs.take i).flatten ++ bin.take j).length ≤ 28 := by rw [List.length_append, List.length_take]; omega
          have h5 : ((bs.take i).flatten ++ bin.take j).length * bs.length ≤ 28 * 14 := Nat.mul_le_mul h4 hl14
          omega)
        rw [← hms] at HO1 HMV
        clear hms hxr d1 d2 hgt hgood
        obtain ⟨Bx, hBx⟩ : ∃ Bx, Bx = wr.heap.size := ⟨_, rfl⟩
        obtain ⟨Yx, hYx⟩ : ∃ Yx, Yx = wr.alloc (.cells #[.int .i64 x.id, .slice Ax x.need.length cx] 44) := ⟨_, rfl⟩
        have HEX1 : Hid (Ext wr Yx) := hid (by rw [hYx]; exact Ext.alloc _ _)
        have HXB : Hid (Yx.heap[Bx]? = some (.cells #[.int .i64 x.id, .slice Ax x.need.length cx] 44 (0, 0))) := hid (by rw [hYx, hBx]; exact heap_alloc_new _ _)
        clear hxm
        go_wp2_with (go_at_call 80; rw [← hYx]; refine (iWithRoom room bs x Ar cr (some ⟨b1, o1, none⟩) cb Ax cx _).mono ?_; rintro e w1 ⟨rfl, hB1, hE1⟩; have HB1 := hid hB1; have HW1 := hid (HEX1.out.trans hE1); have HXB1 := hid (hE1.obj HXB.out); clear hB1 hE1 hYx)
        rw [← hBx]
        clear hBx
        have hE1w : Ext w w1 := HEr.out.trans HW1.out
        have HI0 : Hid (RndM w w1 room bs x Ar cr (some ⟨b1, o1, none⟩) cb Ax cx Yx.heap.size Bf Bx i ms ds [] w1) := hid ⟨by rw [show stepL i x (([] : List (BAt bs)).map fun y : BAt bs => y.1.1) = [] from rfl, List.append_nil]; exact HO1.out.ext HW1.out, HO1.out.2.1.ext HW1.out, Nat.le_refl _, HB1.out, HW1.out.obj HBF.out, HXB1.out⟩
        refine wpIn_wide.1 (wpIn_rangeFunc_ownH (F := Fence.wide) (n := 4) rfl (by omega) (gf := 117) (lb := #[.pointer (some ⟨Yx.heap.size + 1, 0, none⟩), .pointer (some ⟨Yx.heap.size, 0, none⟩), .pointer (some ⟨Yx.heap.size + 2, 0, none⟩)]) rfl trivial (enters_of Tryd.func117 (by kernel_rfl) rfl)
          (withRoom_stops 3 (by omega) Yx.heap.size w.heap.size room bs x Ar cr (some ⟨b1, o1, none⟩) cb Ax cx w w1 HR.out HB.out HXR.out HLR.out (fun b hb => (HS.out.2.2.2 b hb).1) HGD.out (Nat.le_trans hl14 (by omega)) (Nat.le_refl _) hE1w HB1.out)
          Keep3.trans (Keep3.put hE1w.size) (Below.refl _ _) (fun _ => rfl)
          (RndM w w1 room bs x Ar cr (some ⟨b1, o1, none⟩) cb Ax cx Yx.heap.size Bf Bx i ms ds) (fun _ _ _ => False)
          (RndM.own hE1w.size) (fun _ _ _ _ _ hs _ _ => hs) HI0.out
          (fun y a' X => ∃ (x0 x1 x2 x3 x4 x7 x8 x11 x12 x13 x14 x15 x16 x17 x18 x19 x20 x21 x22 x23 x24 x25 x26 x27 x28 x29 x30 x31 x32 x33 x34 x35 x36 x37 x38 x39 x40 x41 x42 x43 x44 x45 x46 x47 x48 : Value), a' = { tmps := #[x0, x1, x2, x3, x4, .pointer (some ⟨w.heap.size + 1, 0, none⟩), .pointer (some ⟨Bf, 0, none⟩), x7, x8, .pointer (some ⟨Bx, 0, none⟩), .int .i64 (y.1.1 : Int), x11, x12, x13, x14, x15, x16, x17, x18, x19, x20, x21, x22, x23, x24, x25, x26, x27, x28, x29, x30, x31, x32, x33, x34, x35, x36, x37, x38, x39, x40, x41, x42, x43, x44, x45, x46, x47, x48], defers := [] })
          (fun y a' s X Y row hs hg hr => hs) ?assign ?body ?done ?stop)
        case assign =>
          rintro l pre ⟨⟨q, d, Ad, cd⟩, hy⟩ X K hi' hK
          dsimp only [encB]
          gi_wp2
          exact hK _ _ (KeepsFrom.refl _ _) ⟨Below.refl _ _, fun _ _ _ _ _ _ hc => hc⟩ hi' ⟨_, _, _, _, _, _, _, _, _, _, _, _, _, _, _, _, _, _, _, _, _, _, _, _, _, _, _, _, _, _, _, _, _, _, _, _, _, _, _, _, _, _, _, _, _, rfl⟩
        case body =>
          rintro l pre ⟨⟨q, d, Ad, cd⟩, hy⟩ a' X hl2 hrec hI ⟨x0, x1, x2, x3, x4, x7, x8, x11, x12, x13, x14, x15, x16, x17, x18, x19, x20, x21, x22, x23, x24, x25, x26, x27, x28, x29, x30, x31, x32, x33, x34, x35, x36, x37, x38, x39, x40, x41, x42, x43, x44, x45, x46, x47, x48, rfl⟩ hlt2
          have HI := hid hI
          have HST := hid (stepL_snoc i x (pre.map fun y : BAt bs => y.1.1) q)
          have hmap : (pre ++ [(⟨(q, d, Ad, cd), hy⟩ : BAt bs)]).map (fun y : BAt bs => y.1.1) = pre.map (fun y : BAt bs => y.1.1) ++ [q] := by rw [List.map_append]; rfl
          have HMP := hid hmap
          obtain ⟨⟨⟨v, g5, gO⟩, gM, gE⟩, gM0, gS, gB, gf, gx⟩ := hI
          obtain ⟨L, hL⟩ : ∃ L, L = ms ++ stepL i x (pre.map fun y : BAt bs => y.1.1) := ⟨_, rfl⟩
          rw [← hL] at gO
          have HLL : Hid (L.length ≤ 1000) := hid (by
            have h1 := stepL_len i x (pre.map fun y : BAt bs => y.1.1)
            have h2 := HML.out
            rw [List.length_map] at h1
            rw [hL, List.length_append]
            omega)
          obtain ⟨Av, cv, rfl, _, _⟩ := gO.form
          have d5 := obj_cell g5 (i := 0) rfl
          have f5 := obj_frozen g5 0
          have df := obj_cell gf (i := 0) rfl
          have dx := obj_cell gx (i := 0) rfl
          have G5 := hid g5
          have GO := hid gO
          have GE := hid gE
          have GM := hid gM
          have GM0 := hid gM0
          have GS := hid gS
          have GB := hid gB
          have GF := hid gf
          have GX := hid gx
          have HL := hid hL
          clear g5 gO gE gM gM0 gS gB gf gx hL hmap
          by_cases hqi : q = i
          · have ht : ((q : Int) != (i : Int)) = false := by simp [hqi]
            have HQI := hid hqi
            clear hqi
            gi_wp2
            have hI2 : RndM w w1 room bs x Ar cr (some ⟨b1, o1, none⟩) cb Ax cx Yx.heap.size Bf Bx i ms ds (pre ++ [⟨(q, d, Ad, cd), hy⟩]) X := by
              refine ⟨?_, HI.out.2⟩
              rw [HMP.out, HST.out, if_pos HQI.out]
              exact HI.out.1
            exact ⟨KeepsFrom.refl _ _, Boxes3.kept GB.out GB.out (Below.refl _ _), hI2⟩
          · have ht : ((q : Int) != (i : Int)) = true := by simp; omega
            have HQI := hid hqi
            obtain ⟨Y, hY⟩ : ∃ Y, Y = X.alloc (.cells #[.int .i64 x.id, .int .i64 (q : Int)] 32) := ⟨_, rfl⟩
            have hEXY : Ext X Y := by rw [hY]; exact Ext.alloc _ _
            have HXY : Hid (Below w.heap.size X Y) := hid (hEXY.mono GE.out.size)
            have HKO : Hid (KeepsOthers X Y) := hid (by rw [hY]; exact KeepsOthers.alloc _ _)
            have HMY : Hid (OM Y w.heap.size (.slice Av L.length cv) L) := hid (Own.ext EM.ok GO.out hEXY)
            have HRY : Hid (RM Y (.slice (some ⟨X.heap.size, 0, none⟩) 1 1) [⟨x.id, (q : Int)⟩]) := hid (by rw [hY]; exact RSl.laid (cs := [.int .i64 x.id, .int .i64 (q : Int)]) (heap_alloc_new _ _) rfl (EM.mk _ _ _))
            have K5 := hid (hEXY.obj G5.out)
            have KF := hid (hEXY.obj GF.out)
            have KX := hid (hEXY.obj GX.out)
            have KB := hid (GB.out.ext hEXY)
            have hszY : w.heap.size ≤ Y.heap.size := Nat.le_trans GE.out.size hEXY.size
            have HYY := hid hY
            clear hqi hEXY hY
            gi_wp2_with (gi_at_builtin; rw [← HYY.out]; refine wpListIn_append_sl _ (by rfl) _ _ 27 (by rfl) EM.ok EM.flat (w.heap.size) 32 EM.ne i0_move _ 2 16 Tryd.underlying27 hi0_move hz0_move hz1_move hz2_move rfl (by omega) _ (by rfl) _ (HMY.out) _ (by rfl) _ (HRY.out) (by have := HLL.out; simp; omega) (by have := HLL.out; simp; omega) ?_ ?_; (focus (first | exact Nat.le_refl _ | (simp; done) | (simp; omega) | omega)); intro v4 w4 hO4 hg4 hat4 hs4; obtain ⟨A4, c4, rfl, _, _⟩ := hO4.form_app; have HO4 := hid hO4; have K5b := hid (hs4 _ _ _ _ (by decide) K5.out); have KFb := hid (hs4 _ _ _ _ (by decide) KF.out); have KXb := hid (hs4 _ _ _ _ (by decide) KX.out); have KBb := hid (show Boxes3 w4 Yx.heap.size room bs x Ar cr (some ⟨b1, o1, none⟩) cb Ax cx from ⟨hs4 _ _ _ _ (by decide) KB.out.1, hs4 _ _ _ _ (by decide) KB.out.2.1, hs4 _ _ _ _ (by decide) KB.out.2.2⟩); have HB4 := hid (Below.grown HXY.out hg4 hszY (fun g hg => (Own.lt HMY.out g hg).1)); have HK4 := hid (HKO.out.trans (KeepsOthers.of_grownBy hg4 (fun j o hj ho => by obtain ⟨cur, hc⟩ := Own.rowty HMY.out hj; rw [hc] at ho; injection ho with ho; rw [← ho]; rfl))); have d5b := obj_cell K5b.out (i := 0) rfl; have f5b := obj_frozen K5b.out 0; clear hO4 hg4 hat4 hs4)
            have hsc : SameT (fun t => t ≠ 27) w4 (w4.setCell ⟨w.heap.size + 1, 0, none⟩ (.slice A4 (L.length + 1) c4)) := SameT.setCell (p := ⟨w.heap.size + 1, 0, none⟩) K5b.out _ (fun t ht => ht)
            have hB5 := Below.setCell HB4.out (show w.heap.size ≤ w.heap.size + 1 from Nat.le_succ _) (p := ⟨w.heap.size + 1, 0, none⟩) (.slice A4 (L.length + 1) c4)
            have hK5 := HK4.out.trans (KeepsOthers.setCell w4 ⟨w.heap.size + 1, 0, none⟩ (.slice A4 (L.length + 1) c4))
            have hI2 : RndM w w1 room bs x Ar cr (some ⟨b1, o1, none⟩) cb Ax cx Yx.heap.size Bf Bx i ms ds (pre ++ [⟨(q, d, Ad, cd), hy⟩]) (w4.setCell ⟨w.heap.size + 1, 0, none⟩ (.slice A4 (L.length + 1) c4)) := by
              refine ⟨⟨⟨_, obj_set1 K5b.out _, ?_⟩, GM.out.others hK5, Below.trans GE.out hB5⟩, GM0.out, Nat.le_trans GS.out hB5.size, ⟨hsc _ _ _ _ (by decide) KBb.out.1, hsc _ _ _ _ (by decide) KBb.out.2.1, hsc _ _ _ _ (by decide) KBb.out.2.2⟩, hsc _ _ _ _ (by decide) KFb.out, hsc _ _ _ _ (by decide) KXb.out⟩
              rw [HMP.out, HST.out, if_neg HQI.out, ← List.append_assoc, ← HL.out]
              exact Own.same EM.ok HO4.out (hsc.mono (by rintro t (rfl | h); decide; exact h.elim))
            exact ⟨hK5.from _, Boxes3.kept GB.out hI2.2.2.2.1 hB5, hI2⟩
        case done =>
          rintro D ys X hD hys hI hK
          have HBF2 := hid hI.2.2.2.2.1
          have HOD : Hid (OutM w X (mvTo room bs ((bs.take i).flatten ++ bin.take (j + 1))) (mkD D :: ds)) := hid (by
            obtain ⟨⟨h1, h2, h3⟩, h4, _⟩ := hI
            rw [hys] at h1
            rw [HMV.out]
            exact ⟨h1, h2.push hE1w.size hD h4.low hK, h3⟩)
          clear hI hK hys
          go_wp2
          exact ⟨bin.length - (j + 1), by omega, j + 1, _, mkD D :: ds, _, _, _, _, _, _, _, _, _, _, _, _, _, _, _, _, _, _, _, _, _, _, _, _, _, _, _, _, _, _, _, _, _, _, _, _, _, _, _, rfl, hid (by omega), by omega, rfl, hid ⟨HOD.out, HBF2.out⟩⟩
        case stop =>
          rintro D c pre X _ _ hf _
          exact hf.elim
      · have i2 : ¬ (j : Int) < (bin.length : Int) := by omega
        have hjb : j = bin.length := by omega
        have HJB := hid hjb
        clear hjb hlj
        go_wp2
        exact ⟨bs.length - (i + 1), by omega, i + 1, _, ds, ⟨rfl, rfl⟩, hid (by omega), by omega, rfl, hid (by have h3 := HO1.out; rw [HJB.out, List.take_length] at h3; rw [flatten_take_succ HBIN.out]; exact h3)⟩
    · have i1 : ¬ (i : Int) < (bs.length : Int) := by omega
      have hib : i = bs.length := by omega
      obtain ⟨⟨v, h5, hO⟩, hM, hE⟩ := HO.out
      have d5 := obj_cell h5 (i := 0) rfl
      have H5 := hid h5
      have HOM := hid hO
      have HM := hid hM
      have HE := hid hE
      have HIB := hid hib
      clear h5 hO hM hE hib
      go_wp2
      obtain ⟨Ds, rfl, hnd, hds⟩ := HM.out
      refine leave_marks (base := w.heap.size) (fun X => OM X w.heap.size v (movesOf room bs) ∧ Ext w X) ?_ ?_ Ds _ hnd (fun D hD => ⟨(hds D hD).1, (hds D hD).2.2⟩) ⟨by have h3 := HOM.out; rw [HIB.out, List.take_length] at h3; rw [movesOf_eq HV.out]; exact h3, HE.out⟩
      · rintro X D hD hK ⟨k1, k2⟩
        have hg := grownBy_putObj' X D (.deferred none)
        have hr : ∀ r, some D = some r → D ≤ r ∧ ∃ o : Obj, X.heap[r]? = some o ∧ o.isCells = false := fun r e => by cases e; exact ⟨Nat.le_refl _, _, hK, rfl⟩
        exact ⟨Own.same EM.ok k1 (SameT.ofGrown hg hr _), Below.ofGrown k2 hD hg hr⟩
      · rintro X ⟨k1, k2⟩
        exact ⟨_, results_tmp rfl _ _ _, _, rfl, by exact k1, k2⟩
  · have h1 : binsOk room bs = false := by simpa using h1
    have HN : Hid (movesOf room bs = []) := hid (by unfold movesOf; rw [h1]; rfl)
    go_wp2_with (go_at_call 28; rw [← hW]; refine (iBinsValid _ _ room bs _ (RI.ext HR.out HEW.out) (RB.ext HB.out HEW.out) hfl hid').mono ?_; rintro e w1 ⟨rfl, hE1⟩; rw [h1]; have c5 := hE1.cell c5; have HE1 := hid hE1; clear hE1 hW)
    exact ⟨_, results_tmp rfl _ _ _, _, rfl, by rw [HN.out]; exact Own.ext EM.ok HO0.out HE1.out, HEW.out.trans HE1.out⟩

end Go.Proofs.YtibpijjigopdjaaDoor
