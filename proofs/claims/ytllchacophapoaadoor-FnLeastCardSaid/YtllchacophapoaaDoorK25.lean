/- The contract of withRoom's function, with what the nodes read as. (Printed by genpc4.py out of XMi8.) -/
import Derived.Test.YtllchacophapoaaDoorK16
import Derived.Test.YtllchacophapoaaDoorK24
namespace Go.Proofs.YtllchacophapoaaDoor
open Go.RowKit
set_option maxRecDepth 4000
attribute [local go_sem] Oper.semAt_some

/-- a node, its index, and where its tasks lie, and that they read so -/
abbrev BAtW (w0 : World) (bs : List (List TaskD)) := { p : Nat × List TaskD × Option Addr × Nat // bs[p.1]? = some p.2.1 ∧ RT w0 (.slice p.2.2.1 p.2.1.length p.2.2.2) p.2.1 }
def encBW {w0 : World} {bs : List (List TaskD)} (x : BAtW w0 bs) : Array Value := #[.int .i64 (x.1.1 : Int), .slice x.1.2.2.1 x.1.2.1.length x.1.2.2.2]

set_option maxRecDepth 100000 in
set_option maxHeartbeats 4000000 in
theorem withRoomW_in (n : Nat) (hn : 1 ≤ n) (l B n₀ H : Nat) (room : List Int) (bs : List (List TaskD)) (x : TaskD) (Ar : Option Addr) (cr : Nat) (Ab : Option Addr) (cb : Nat) (Ax : Option Addr) (cx : Nat) (w0 : World)
    (hr : RI w0 (.slice Ar room.length cr) room) (hb : RB w0 (.slice Ab bs.length cb) bs) (hx : RI w0 (.slice Ax x.need.length cx) x.need) (hlr : room.length = 3) (hg : ∀ b ∈ bs, GoodTs b) (hxn : x.need.length = 3 ∧ Bd 1000 x.need) (_hl : bs.length ≤ 4000000)
    (hn0 : w0.heap.size ≤ n₀) (J Jx : List (BAtW w0 bs) → World → Prop) (hJ : AbidesFrom H J)
    (hY : ∀ pre x W, J pre W → pre.length < bs.length → YieldAt Fence.wide (n - 1) Tryd.prog l (encBW x) W fun e W' =>
      (e = .returned (.bool true) ∧ J (pre ++ [x]) W' ∧ Keep3 n₀ B W W') ∨ (e = .returned (.bool false) ∧ Jx (pre ++ [x]) W'))
    (W : World) (hW : Below w0.heap.size w0 W) (hB : Boxes3 W B room bs x Ar cr Ab cb Ax cx) (h0 : J [] W) :
    CallsIn Fence.wide n Tryd.prog 110 #[.func (.yield l) #[] #[], .pointer (some ⟨B + 1, 0, none⟩), .pointer (some ⟨B, 0, none⟩), .pointer (some ⟨B + 2, 0, none⟩)] W fun e W' => (∃ v, e = .returned v) ∧
      ((∃ ys, (ys.map fun y : BAtW w0 bs => y.1.1) = haveTo room bs x bs.length ∧ J ys W') ∨ (∃ pre, (∃ j, j < bs.length ∧ (pre.map fun y : BAtW w0 bs => y.1.1) = haveTo room bs x (j + 1)) ∧ Jx pre W')) := by
  have HB := hid hB
  have HLR := hid hlr
  have HXN := hid hxn
  have b1 := obj_cell hB.2.1 (i := 0) rfl
  refine callsIn_of_wp Tryd.func110 rfl trivial ?_ rfl
  simp only [Tryd.ntmps110, List.size_toArray, List.length_cons, List.length_nil, Nat.reduceAdd, Nat.reduceSub, Array.replicate_succ, Array.replicate_zero, List.push_toArray, List.append_toArray, List.nil_append, List.cons_append]
  gi_wp2
  clear b1 hB hlr hxn
  gi_loopw [9] (fun i wr => ∃ (k : Nat) (pre : List (BAtW w0 bs)), k ≤ bs.length ∧ i = .int .i64 k ∧ Hid (pre.length ≤ k ∧ (pre.map fun y : BAtW w0 bs => y.1.1) = haveTo room bs x k ∧ J pre wr ∧ Below w0.heap.size w0 wr ∧ Boxes3 wr B room bs x Ar cr Ab cb Ax cx)) (fun i _ => bs.length - (intOf i).toNat)
  case atStart => exact ⟨0, [], Nat.zero_le _, rfl, hid ⟨Nat.le_refl _, rfl, h0, hW, HB.out⟩⟩
  case round =>
    obtain ⟨k, pre, hk, rfl, HH⟩ := hrel
    by_cases hlt : k < bs.length
    · obtain ⟨A', c', hv, _, _, hg'⟩ := RB.get hb
      injection hv with e1 e2 e3
      subst e1 e3
      obtain ⟨b, o, d, Ad, cd, rfl, e, c1w, hd0⟩ := hg' k hlt
      have c1 := Ext.cell HH.out.2.2.2.1 c1w
      have hd := RT.ext hd0 HH.out.2.2.2.1
      have HD0 := hid hd0
      clear c1w hd0
      have i1 : (k : Int) < (bs.length : Int) := by omega
      have i0 : (0 : Int) ≤ (k : Int) := by omega
      have hget : bs.getD k [] = d := by rw [List.getD_eq_getElem?_getD, e.out]; rfl
      have HGET := hid hget
      have q0 := obj_cell HH.out.2.2.2.2.1 (i := 0) rfl
      have q2 := obj_cell HH.out.2.2.2.2.2.2 (i := 0) rfl
      have q3 := obj_cell HH.out.2.2.2.2.2.2 (i := 1) rfl
      have HD := hid hd
      have HGD := hid (hg d (List.mem_of_getElem? e.out))
      clear hg' e2 hd hget
      cases hf : l11fits room d x with
      | true =>
        have HF := hid hf
        clear hf
        gi_wp2_with (refine ⟨trivial, ?_⟩; gi_at_call 35; refine callsIn_wide.2 ((iHasRoom _ _ _ room d x _ (RI.ext hr HH.out.2.2.2.1) HD.out ⟨_, rfl, RI.ext hx HH.out.2.2.2.1⟩ HLR.out HGD.out HXN.out).mono ?_); rintro e3 w3 ⟨rfl, hE3⟩; rw [HF.out]; have HE3 := hid hE3; obtain ⟨fn, tmps, assign, body, hy, hR⟩ := hY pre ⟨(k, d, Ad, cd), e.out, HD0.out⟩ w3 (hJ pre wr w3 none HH.out.2.2.1 (Ext.grown_ hE3) (fun r e => by cases e)) (by have := HH.out.1; omega); dsimp only [encBW] at hy; clear hE3)
        refine hR.mono ?_
        rintro e' W3 (⟨rfl, hJ3, hk3⟩ | ⟨rfl, hJx3⟩)
        · gi_wp2
          go_roundw
          case rel => exact ⟨k + 1, pre ++ [⟨(k, d, Ad, cd), e.out, HD0.out⟩], by omega, by go_num, hid ⟨by rw [List.length_append]; have := HH.out.1; simp; omega, by rw [List.map_append, HH.out.2.1, haveTo_succ, HGET.out, if_pos HF.out]; rfl, hJ3, Below.trans (HH.out.2.2.2.1.trans (HE3.out.mono HH.out.2.2.2.1.size)) (hk3.1.mono hn0), (HH.out.2.2.2.2.ext HE3.out).keep hk3⟩⟩
          case measure => simp [intOf]; omega
        · gi_wp2
          refine bodyPost_ret (results_none rfl _ _ _) rfl ?_
          exact ⟨⟨_, rfl⟩, .inr ⟨_, ⟨k, hlt, by rw [List.map_append, HH.out.2.1, haveTo_succ, HGET.out, if_pos HF.out]; rfl⟩, hJx3⟩⟩
      | false =>
        have HF := hid hf
        clear hf
        gi_wp2_with (refine ⟨trivial, ?_⟩; gi_at_call 35; refine callsIn_wide.2 ((iHasRoom _ _ _ room d x _ (RI.ext hr HH.out.2.2.2.1) HD.out ⟨_, rfl, RI.ext hx HH.out.2.2.2.1⟩ HLR.out HGD.out HXN.out).mono ?_); rintro e3 w3 ⟨rfl, hE3⟩; rw [HF.out]; have HE3 := hid hE3; clear hE3)
        refine ⟨fun _ h => (by cases h), ?_⟩
        gi_wp2
        go_roundw
        case rel => exact ⟨k + 1, pre, by omega, by go_num, hid ⟨by have := HH.out.1; omega, by rw [haveTo_succ, HGET.out, if_neg (by rw [HF.out]; simp)]; exact HH.out.2.1, hJ pre wr w3 none HH.out.2.2.1 (Ext.grown_ HE3.out) (fun r e => by cases e), HH.out.2.2.2.1.trans (HE3.out.mono HH.out.2.2.2.1.size), HH.out.2.2.2.2.ext HE3.out⟩⟩
        case measure => simp [intOf]; omega
    · gi_wp2
      go_end0
      have hk' : k = bs.length := by omega
      subst hk'
      exact ⟨⟨_, rfl⟩, .inl ⟨pre, HH.out.2.1, HH.out.2.2.1⟩⟩


theorem withRoomW_stops (n : Nat) (hn : 1 ≤ n) (B n₀ : Nat) (room : List Int) (bs : List (List TaskD)) (x : TaskD) (Ar : Option Addr) (cr : Nat) (Ab : Option Addr) (cb : Nat) (Ax : Option Addr) (cx : Nat) (w0 w : World)
    (hr : RI w0 (.slice Ar room.length cr) room) (hb : RB w0 (.slice Ab bs.length cb) bs) (hx : RI w0 (.slice Ax x.need.length cx) x.need) (hlr : room.length = 3) (hg : ∀ b ∈ bs, GoodTs b) (hxn : x.need.length = 3 ∧ Bd 1000 x.need) (hl : bs.length ≤ 4000000)
    (hn0 : w0.heap.size ≤ n₀) (hE : Below w0.heap.size w0 w) (hB : Boxes3 w B room bs x Ar cr Ab cb Ax cx) :
    SeqStopsK Fence.wide n Tryd.prog 110 #[.pointer (some ⟨B + 1, 0, none⟩), .pointer (some ⟨B, 0, none⟩), .pointer (some ⟨B + 2, 0, none⟩)] (encBW (w0 := w0) (bs := bs)) (Keep3 n₀ B) (fun ys => (ys.map fun y : BAtW w0 bs => y.1.1) = haveTo room bs x bs.length) (fun pre => ∃ j, j < bs.length ∧ (pre.map fun y : BAtW w0 bs => y.1.1) = haveTo room bs x (j + 1)) bs.length w := fun l J Jx W hW hJ _ hY h0 =>
  withRoomW_in n hn l B n₀ W.heap.size room bs x Ar cr Ab cb Ax cx w0 hr hb hx hlr hg hxn hl hn0 J Jx hJ hY W (Below.trans hE (hW.mono hE.size)) (hB.ext hW) h0

end Go.Proofs.YtllchacophapoaaDoor

/- The program's first node with room and without enemies. (Printed by genpc4.py.) -/
namespace Go.Proofs.YtllchacophapoaaDoor
open Go.RowKit
set_option maxRecDepth 4000
attribute [local go_sem] Oper.semAt_some

theorem foes_none {room : List Int} {bs : List (List TaskD)} {ps : List PairD} {x : TaskD} (hp : ∀ p ∈ ps, p.a < p.b) {w0 : World} {ys : List (BAtW w0 bs)} (h : (ys.map fun y => y.1.1) = haveTo room bs x bs.length) (hy : ∀ y ∈ ys, foesIn (foes ps x.id) y.1.2.1 = true) : apartAt room bs ps x = -1 := by
  refine apartAt_miss fun k c hk => ?_
  cases hf : l11fits room c x with
  | false => rfl
  | true =>
    have hm : k ∈ haveTo room bs x bs.length := have_mem.2 ⟨(List.getElem?_eq_some_iff.1 hk).1, by rw [List.getD_eq_getElem?_getD, hk]; exact hf⟩
    rw [← h] at hm
    obtain ⟨y, hym, hyk⟩ := List.mem_map.1 hm
    have h1 := hy y hym
    have h2 := y.2.1
    rw [hyk, hk] at h2
    injection h2 with h2
    rw [foesIn_free hp, ← h2] at h1
    simpa using h1
theorem foes_hit {room : List Int} {bs : List (List TaskD)} {ps : List PairD} {x : TaskD} (hp : ∀ p ∈ ps, p.a < p.b) {w0 : World} {pre : List (BAtW w0 bs)} {y : BAtW w0 bs} {j : Nat} (_hj : j < bs.length) (h : ((pre ++ [y]).map fun y => y.1.1) = haveTo room bs x (j + 1)) (hpre : ∀ z ∈ pre, foesIn (foes ps x.id) z.1.2.1 = true) (hy : foesIn (foes ps x.id) y.1.2.1 = false) : apartAt room bs ps x = (y.1.1 : Int) := by
  have hi := have_mem.1 (show y.1.1 ∈ haveTo room bs x (j + 1) by rw [← h]; simp)
  have hyb := y.2.1
  have hfit : l11fits room y.1.2.1 x = true := by have := hi.2; rwa [List.getD_eq_getElem?_getD, hyb] at this
  have hfree : freeL ps y.1.2.1 x.id = true := by rw [foesIn_free hp] at hy; simpa using hy
  refine apartAt_hit hyb (by rw [hfit, hfree]; rfl) (fun k c hk hc => ?_)
  cases hf : l11fits room c x with
  | false => rfl
  | true =>
    have hm : k ∈ haveTo room bs x (j + 1) := have_mem.2 ⟨by omega, by rw [List.getD_eq_getElem?_getD, hc]; exact hf⟩
    rw [← h, List.map_append] at hm
    rcases List.mem_append.1 hm with hm | hm
    · obtain ⟨z, hzm, hzk⟩ := List.mem_map.1 hm
      have h1 := hpre z hzm
      have h2 := z.2.1
      rw [hzk, hc] at h2
      injection h2 with h2
      rw [foesIn_free hp, ← h2] at h1
      simpa using h1
    · have : k = y.1.1 := by simpa using hm
      omega
theorem KeepsOthers.ofExt {X Y : World} (h : Ext X Y) : KeepsOthers X Y := ⟨h.size, fun _ _ hk _ => h.obj hk⟩
theorem Keep3.ofExt {n₀ B : Nat} {X Y : World} (h : Ext X Y) (hn : n₀ ≤ X.heap.size) : Keep3 n₀ B X Y := ⟨h.mono hn, fun _ _ _ _ _ _ hi => h.obj hi⟩

end Go.Proofs.YtllchacophapoaaDoor
