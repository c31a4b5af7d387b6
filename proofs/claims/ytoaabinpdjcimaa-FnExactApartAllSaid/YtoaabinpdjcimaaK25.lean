/- The contract of withRoom's function, with what the nodes read as. (Printed by genpc4.py out of XMi8.) -/
import Derived.Test.YtoaabinpdjcimaaK16
import Derived.Test.YtoaabinpdjcimaaK24
namespace Go.Proofs.Ytoaabinpdjcimaa
open Go.RowKit
set_option maxRecDepth 4000
attribute [local go_sem] Oper.semAt_some

/-- a node, its index, and where its tasks lie, and that they read so -/
abbrev BAtW (w0 : World) (bs : List (List TaskD)) := { p : Nat × List TaskD × Option Addr × Nat // bs[p.1]? = some p.2.1 ∧ RT w0 (.slice p.2.2.1 p.2.1.length p.2.2.2) p.2.1 }
def encBW {w0 : World} {bs : List (List TaskD)} (x : BAtW w0 bs) : Array Value := #[.int .i64 (x.1.1 : Int), .slice x.1.2.2.1 x.1.2.1.length x.1.2.2.2]

set_option maxRecDepth 100000 in
set_option maxHeartbeats 4000000 in
theorem withRoomW_in (n : Nat) (hn : 1 ≤ n) (l B n₀ H : Nat) (room : List Int) (bs : List (List TaskD)) (x : TaskD) (Ar : Option Addr) (cr : Nat) (Ab : Option Addr) (cb : Nat) (Ax : Option Addr) (cx : Nat) (w0 : World)
    (hr : RI w0 (.slice Ar room.length cr) room) (hb : RB w0 (.slice Ab bs.length cb) bs) (hx : RI w0 (.slice Ax x.need.length cx) x.need) (hlr : room.length = 3) (hg : ∀ b ∈ bs, GoodTs b) (hxn : x.need.length = 3 ∧ Bd 1000 x.need) (_hl : bs.length ≤ 4000000)
    (hn0 : w0.heap.size ≤ n₀) (J Jx : List (BAtW w0 bs) → World → Prop) (hJ : AbidesFrom H J)
    (hY : ∀ pre x W, J pre W → pre.length < bs.length → YieldAt Fence.wide (n - 1) Try.prog l (encBW x) W fun e W' =>
      (e = .returned (.bool true) ∧ J (pre ++ [x]) W' ∧ Keep3 n₀ B W W') ∨ (e = .returned (.bool false) ∧ Jx (pre ++ [x]) W'))
    (W : World) (hW : Below w0.heap.size w0 W) (hB : Boxes3 W B room bs x Ar cr Ab cb Ax cx) (h0 : J [] W) :
    CallsIn Fence.wide n Try.prog 109 #[.func (.yield l) #[] #[], .pointer (some ⟨B + 1, 0, none⟩), .pointer (some ⟨B, 0, none⟩), .pointer (some ⟨B + 2, 0, none⟩)] W fun e W' => (∃ v, e = .returned v) ∧
      ((∃ ys, (ys.map fun y : BAtW w0 bs => y.1.1) = haveTo room bs x bs.length ∧ J ys W') ∨ (∃ pre, (∃ j, j < bs.length ∧ (pre.map fun y : BAtW w0 bs => y.1.1) = haveTo room bs x (j + 1)) ∧ Jx pre W')) := by
  have HB := hid hB
  have HLR := hid hlr
  have HXN := hid hxn
  have b1 := obj_cell hB.2.1 (i := 0) rfl
  refine callsIn_of_wp Try.func109 rfl trivial ?_ rfl
  simp only [Try.ntmps109, List.size_toArray, List.length_cons, List.length_nil, Nat.reduceAdd, Nat.reduceSub, Array.replicate_succ, Array.replicate_zero, List.push_toArray, List.append_toArray, List.nil_append, List.cons_append]
  gi_wp2
  clear b1 hB hlr hxn
  gi_loopw [9] (fun i wr => ∃ (k : Nat) (pre : List (BAtW w0 bs)), k ≤ bs.length ∧ i = .int .i64 k ∧ Hid (pre.length ≤ k ∧ (pre.map fun y : BAtW w0 bs => y.1.1) = haveTo room bs x k ∧ J pre wr ∧ Below w0.heap.size w0 wr ∧ Boxes3 wr B room bs x Ar cr Ab cb Ax cx)) (fun i _ => bs.length - (intOf i).toNat)
  case atStart => exact ⟨0, [], Nat.zero_le _, rfl, hid ⟨Nat.le_refl _, rfl, h0, hW, HB.out⟩⟩
  case round =>
    obtain ⟨k, pre, hk, rfl, HH⟩ := hrel
    by_cases hlt : k < bs.length
    · obtain ⟨A', c', hv, _, _, hg'⟩ := RB.get hb
      injection hv with e1 e2 e3
      subst e1 e3
      obtain ⟨b, o, d, Ad, cd, rfl, e, c1w, hd0⟩ := hg' k hlt
      have c1 := Ext.cell HH.out.2.2.2.1 c1w
      have hd := RT.ext hd0 HH.out.2.2.2.1
      have HD0 := hid hd0
      clear c1w hd0
      have i1 : (k : Int) < (bs.length : Int) := by omega
      have i0 : (0 : Int) ≤ (k : Int) := by omega
      have hget : bs.getD k [] = d := by rw [List.getD_eq_getElem?_getD, e.out]; rfl
      have HGET := hid hget
      have q0 := obj_cell HH.out.2.2.2.2.1 (i := 0) rfl
      have q2 := obj_cell HH.out.2.2.2.2.2.2 (i := 0) rfl
      have q3 := obj_cell HH.out.2.2.2.2.2.2 (i := 1) rfl
      have HD := hid hd
      have HGD := hid (hg d (List.mem_of_getElem? e.out))
      clear hg' e2 hd hget
      cases hf : l11fits room d x with
      | true =>
        have HF := hid hf
        clear hf
        gi_wp2_with (refine ⟨trivial, ?_⟩; gi_at_call 110; refine callsIn_wide.2 ((iHasRoom _ _ _ room d x _ (RI.ext hr HH.out.2.2.2.1) HD.out ⟨_, rfl, RI.ext hx HH.out.2.2.2.1⟩ HLR.out HGD.out HXN.out).mono ?_); rintro e3 w3 ⟨rfl, hE3⟩; rw [HF.out]; have HE3 := hid hE3; obtain ⟨fn, tmps, assign, body, hy, hR⟩ := hY pre ⟨(k, d, Ad, cd), e.out, HD0.out⟩ w3 (hJ pre wr w3 none HH.out.2.2.1 (Ext.grown_ hE3) (fun r e => by cases e)) (by have := HH.out.1; omega); dsimp only [encBW] at hy; clear hE3)
        refine hR.mono ?_
        rintro e' W3 (⟨rfl, hJ3, hk3⟩ | ⟨rfl, hJx3⟩)
        · gi_wp2
          go_roundw
          case rel => exact ⟨k + 1, pre ++ [⟨(k, d, Ad, cd), e.out, HD0.out⟩], by omega, by go_num, hid ⟨by rw [List.length_append]; have := HH.out.1; simp; omega, by rw [List.map_append, HH.out.2.1, haveTo_succ, HGET.out, if_pos HF.out]; rfl, hJ3, Below.trans (HH.out.2.2.2.1.trans (HE3.out.mono HH.out.2.2.2.1.size)) (hk3.1.mono hn0), (HH.out.2.2.2.2.ext HE3.out).keep hk3⟩⟩
          case measure => simp [intOf]; omega
        · gi_wp2
          refine bodyPost_ret (results_none rfl _ _ _) rfl ?_
          exact ⟨⟨_, rfl⟩, .inr ⟨_, ⟨k, hlt, by rw [List.map_append, HH.out.2.1, haveTo_succ, HGET.out, if_pos HF.out]; rfl⟩, hJx3⟩⟩
      | false =>
        have HF := hid hf
        clear hf
        gi_wp2_with (refine ⟨trivial, ?_⟩; gi_at_call 110; refine callsIn_wide.2 ((iHasRoom _ _ _ room d x _ (RI.ext hr HH.out.2.2.2.1) HD.out ⟨_, rfl, RI.ext hx HH.out.2.2.2.1⟩ HLR.out HGD.out HXN.out).mono ?_); rintro e3 w3 ⟨rfl, hE3⟩; rw [HF.out]; have HE3 := hid hE3; clear hE3)
        refine ⟨fun _ h => (by cases h), ?_⟩
        gi_wp2
        go_roundw
        case rel => exact ⟨k + 1, pre, by omega, by go_num, hid ⟨by have := HH.out.1; omega, by rw [haveTo_succ, HGET.out, if_neg (by rw [HF.out]; simp)]; exact HH.out.2.1, hJ pre wr w3 none HH.out.2.2.1 (Ext.grown_ HE3.out) (fun r e => by cases e), HH.out.2.2.2.1.trans (HE3.out.mono HH.out.2.2.2.1.size), HH.out.2.2.2.2.ext HE3.out⟩⟩
        case measure => simp [intOf]; omega
    · gi_wp2
      go_end0
      have hk' : k = bs.length := by omega
      subst hk'
      exact ⟨⟨_, rfl⟩, .inl ⟨pre, HH.out.2.1, HH.out.2.2.1⟩⟩


theorem withRoomW_stops (n : Nat) (hn : 1 ≤ n) (B n₀ : Nat) (room : List Int) (bs : List (List TaskD)) (x : TaskD) (Ar : Option Addr) (cr : Nat) (Ab : Option Addr) (cb : Nat) (Ax : Option Addr) (cx : Nat) (w0 w : World)
    (hr : RI w0 (.slice Ar room.length cr) room) (hb : RB w0 (.slice Ab bs.length cb) bs) (hx : RI w0 (.slice Ax x.need.length cx) x.need) (hlr : room.length = 3) (hg : ∀ b ∈ bs, GoodTs b) (hxn : x.need.length = 3 ∧ Bd 1000 x.need) (hl : bs.length ≤ 4000000)
    (hn0 : w0.heap.size ≤ n₀) (hE : Below w0.heap.size w0 w) (hB : Boxes3 w B room bs x Ar cr Ab cb Ax cx) :
    SeqStopsK Fence.wide n Try.prog 109 #[.pointer (some ⟨B + 1, 0, none⟩), .pointer (some ⟨B, 0, none⟩), .pointer (some ⟨B + 2, 0, none⟩)] (encBW (w0 := w0) (bs := bs)) (Keep3 n₀ B) (fun ys => (ys.map fun y : BAtW w0 bs => y.1.1) = haveTo room bs x bs.length) (fun pre => ∃ j, j < bs.length ∧ (pre.map fun y : BAtW w0 bs => y.1.1) = haveTo room bs x (j + 1)) bs.length w := fun l J Jx W hW hJ _ hY h0 =>
  withRoomW_in n hn l B n₀ W.heap.size room bs x Ar cr Ab cb Ax cx w0 hr hb hx hlr hg hxn hl hn0 J Jx hJ hY W (Below.trans hE (hW.mono hE.size)) (hB.ext hW) h0

end Go.Proofs.Ytoaabinpdjcimaa

/- The program's first node with room and without enemies. (Printed by genpc4.py.) -/
namespace Go.Proofs.Ytoaabinpdjcimaa
open Go.RowKit
set_option maxRecDepth 4000
attribute [local go_sem] Oper.semAt_some

theorem foes_none {room : List Int} {bs : List (List TaskD)} {ps : List PairD} {x : TaskD} (hp : ∀ p ∈ ps, p.a < p.b) {w0 : World} {ys : List (BAtW w0 bs)} (h : (ys.map fun y => y.1.1) = haveTo room bs x bs.length) (hy : ∀ y ∈ ys, foesIn (foes ps x.id) y.1.2.1 = true) : apartAt room bs ps x = -1 := by
  refine apartAt_miss fun k c hk => ?_
  cases hf : l11fits room c x with
  | false => rfl
  | true =>
    have hm : k ∈ haveTo room bs x bs.length := have_mem.2 ⟨(List.getElem?_eq_some_iff.1 hk).1, by rw [List.getD_eq_getElem?_getD, hk]; exact hf⟩
    rw [← h] at hm
    obtain ⟨y, hym, hyk⟩ := List.mem_map.1 hm
    have h1 := hy y hym
    have h2 := y.2.1
    rw [hyk, hk] at h2
    injection h2 with h2
    rw [foesIn_free hp, ← h2] at h1
    simpa using h1
theorem foes_hit {room : List Int} {bs : List (List TaskD)} {ps : List PairD} {x : TaskD} (hp : ∀ p ∈ ps, p.a < p.b) {w0 : World} {pre : List (BAtW w0 bs)} {y : BAtW w0 bs} {j : Nat} (_hj : j < bs.length) (h : ((pre ++ [y]).map fun y => y.1.1) = haveTo room bs x (j + 1)) (hpre : ∀ z ∈ pre, foesIn (foes ps x.id) z.1.2.1 = true) (hy : foesIn (foes ps x.id) y.1.2.1 = false) : apartAt room bs ps x = (y.1.1 : Int) := by
  have hi := have_mem.1 (show y.1.1 ∈ haveTo room bs x (j + 1) by rw [← h]; simp)
  have hyb := y.2.1
  have hfit : l11fits room y.1.2.1 x = true := by have := hi.2; rwa [List.getD_eq_getElem?_getD, hyb] at this
  have hfree : freeL ps y.1.2.1 x.id = true := by rw [foesIn_free hp] at hy; simpa using hy
  refine apartAt_hit hyb (by rw [hfit, hfree]; rfl) (fun k c hk hc => ?_)
  cases hf : l11fits room c x with
  | false => rfl
  | true =>
    have hm : k ∈ haveTo room bs x (j + 1) := have_mem.2 ⟨by omega, by rw [List.getD_eq_getElem?_getD, hc]; exact hf⟩
    rw [← h, List.map_append] at hm
    rcases List.mem_append.1 hm with hm | hm
    · obtain ⟨z, hzm, hzk⟩ := List.mem_map.1 hm
      have h1 := hpre z hzm
      have h2 := z.2.1
      rw [hzk, hc] at h2
      injection h2 with h2
      rw [foesIn_free hp, ← h2] at h1
      simpa using h1
    · have : k = y.1.1 := by simpa using hm
      omega
theorem Lst.same {w w' : World} {B : Nat} {gs : List Nat} {es : List Int} (h : Lst w B gs es) (ha : SameT (fun _ => True) w w') : Lst w' B gs es :=
  ⟨h.len, h.gt, h.nd, fun hn => ha _ _ _ _ trivial (h.none_ hn), fun hn => ha _ _ _ _ trivial (h.head hn), fun k e hk => ha _ _ _ _ trivial (h.el k e hk)⟩
theorem KeepsOthers.ofExt {X Y : World} (h : Ext X Y) : KeepsOthers X Y := ⟨h.size, fun _ _ hk _ => h.obj hk⟩
theorem Keep3.ofExt {n₀ B : Nat} {X Y : World} (h : Ext X Y) (hn : n₀ ≤ X.heap.size) : Keep3 n₀ B X Y := ⟨h.mono hn, fun _ _ _ _ _ _ hi => h.obj hi⟩

set_option maxRecDepth 100000 in
set_option maxHeartbeats 4000000 in
theorem iApart1 (room : List Int) (bs : List (List TaskD)) (x : TaskD) (ps : List PairD) (Ar : Option Addr) (cr : Nat) (Ab : Option Addr) (cb : Nat) (Ax : Option Addr) (cx : Nat) (Ap : Option Addr) (cp pb : Nat) (w : World)
    (hr : RI w (.slice Ar room.length cr) room) (hb : RB w (.slice Ab bs.length cb) bs) (hx : RI w (.slice Ax x.need.length cx) x.need) (hp : RP w (.slice Ap ps.length cp) ps) (hpb : w.cell? ⟨pb, 0, none⟩ = some (.slice Ap ps.length cp)) (hpl : ps.length ≤ 100000) (hps : ∀ p ∈ ps, p.a < p.b) (hlr : room.length = 3) (hg : ∀ b ∈ bs, GoodTs b) (hxn : x.need.length = 3 ∧ Bd 1000 x.need) (hl : bs.length ≤ 4000000) :
    Calls Try.prog 79 #[.slice Ar room.length cr, .slice Ab bs.length cb, .agg #[.int .i64 x.id, .slice Ax x.need.length cx], .pointer (some ⟨pb, 0, none⟩)] w (RetN w (apartAt room bs ps x)) := by
  obtain ⟨W, hW⟩ : ∃ W, W = (w.alloc (.cells #[.int .i64 x.id, .slice Ax x.need.length cx] 34)).alloc (.cells #[.int .i64 0] 3) := ⟨_, rfl⟩
  have hEW : Ext w W := by rw [hW]; exact (Ext.alloc _ _).trans (Ext.alloc _ _)
  have hx5 : W.heap[w.heap.size]? = some (.cells #[.int .i64 x.id, .slice Ax x.need.length cx] 34 (0, 0)) := by rw [hW]; exact (Ext.alloc _ _).obj (heap_alloc_new _ _)
  have hx6 : W.heap[w.heap.size + 1]? = some (.cells #[.int .i64 0] 3 (0, 0)) := by rw [hW]; exact heap_new (by simp)
  have KB : Hid (∀ w', Ext W w' → w'.cell? ⟨w.heap.size, 0, none⟩ = some (.int .i64 x.id) ∧ w'.cell? ⟨w.heap.size, 1, none⟩ = some (.slice Ax x.need.length cx) ∧ w'.cell? ⟨pb, 0, none⟩ = some (.slice Ap ps.length cp)) := hid fun w' hw => ⟨obj_cell (hw.obj hx5) (i := 0) rfl, obj_cell (hw.obj hx5) (i := 1) rfl, (hEW.trans hw).cell hpb⟩
  have q2a : ((w.alloc (.cells #[.int .i64 x.id, .slice Ax x.need.length cx] 34)).alloc (.cells #[.int .i64 0] 3)).cell? ⟨pb, 0, none⟩ = some (.slice Ap ps.length cp) := by rw [← hW]; exact (KB.out _ (Ext.refl _)).2.2
  have HX6 := hid hx6
  have HEW := hid hEW
  have HLR := hid hlr
  have HXN := hid hxn
  have HPS := hid hps
  have HP := hid (RP.ext hp hEW)
  clear hx5 hx6 hEW hlr hxn hps hp hpb
  refine (callsIn_wide (n := 4)).1 ?_
  refine callsIn_of_wp_marks Try.func79 rfl trivial ?_ rfl
  refine wpIn_wide.2 ?_
  simp only [Try.ntmps79, List.size_toArray, List.length_cons, List.length_nil, Nat.reduceAdd, Nat.reduceSub, Array.replicate_succ, Array.replicate_zero, List.push_toArray, List.append_toArray, List.nil_append, List.cons_append]
  go_wp2_with (first
    | (go_at_call 80; rw [← hW]; refine (iEnemiesOf _ ps x.id _ HP.out hpl).mono ?_; rintro e w1 ⟨B, gs, rfl, _, hL1, hE1⟩; obtain ⟨q0, q1, q2⟩ := KB.out _ (hE1.trans (Ext.alloc w1 (.cells #[.pointer (some ⟨B, 0, none⟩)] 101))); have HL1 := hid hL1; have HE1 := hid hE1; have TK1 : Hid True := hid trivial; clear hL1 hE1 hW q2a)
    | (go_at_call 81; have _t := TK1; obtain ⟨W1, hW1⟩ : ∃ W1, W1 = w1.alloc (.cells #[.pointer (some ⟨B, 0, none⟩)] 101) := ⟨_, rfl⟩; have hEa : Ext w1 W1 := (by rw [hW1]; exact Ext.alloc _ _); have he8 : W1.heap[w1.heap.size]? = some (.cells #[.pointer (some ⟨B, 0, none⟩)] 101 (0, 0)) := (by rw [hW1]; exact heap_alloc_new _ _); rw [← hW1]; refine (iWithRoom room bs x Ar cr Ab cb Ax cx _).mono ?_; rintro e w2 ⟨rfl, hB2, hE2⟩; have HB2 := hid hB2; have HE2 := hid (HE1.out.trans (hEa.trans hE2)); have HL2 := hid (HL1.out.ext (hEa.trans hE2)); have H8 := hid (hE2.obj he8); clear hB2 hE2 hEa he8 hW1 q0 q1 q2))
  have hE2 := HE2.out
  have hEw2 : Ext w w2 := HEW.out.trans hE2
  have hzw : w.heap.size + 1 < w2.heap.size := Nat.lt_of_lt_of_le (obj_lt HX6.out) hE2.size
  obtain ⟨E8, hE8⟩ : ∃ E8, E8 = w1.heap.size := ⟨_, rfl⟩
  obtain ⟨H2, hH2⟩ : ∃ H2, H2 = W1.heap.size := ⟨_, rfl⟩
  rw [← hE8] at H8 ⊢
  rw [← hH2] at HB2 ⊢
  clear hE8 hH2
  have HGL : Hid (gs.length ≤ 1000000) := hid (by have h1 := HL2.out.len; have h2 := foes_len ps x.id; omega)
  refine wpIn_wide.1 (wpIn_rangeFunc_ownH (F := Fence.wide) (n := 4) rfl (by omega) (gf := 109) (lb := #[.pointer (some ⟨H2 + 1, 0, none⟩), .pointer (some ⟨H2, 0, none⟩), .pointer (some ⟨H2 + 2, 0, none⟩)]) rfl trivial (enters_of Try.func109 (by kernel_rfl) rfl)
    (withRoomW_stops 3 (by omega) H2 w.heap.size room bs x Ar cr Ab cb Ax cx w w2 hr hb hx HLR.out hg HXN.out hl (Nat.le_refl _) hEw2 HB2.out)
    Keep3.trans (Keep3.put hEw2.size) (Below.refl _ _) (fun _ => rfl)
    (fun pre X => (∀ y ∈ pre, foesIn (foes ps x.id) y.1.2.1 = true) ∧ SameT (fun _ => True) w2 X ∧ Below w.heap.size w X)
    (fun c pre X => c = .ret ∧ ∃ (pre0 : List (BAtW w bs)) (y : BAtW w bs), pre = pre0 ++ [y] ∧ (∀ z ∈ pre0, foesIn (foes ps x.id) z.1.2.1 = true) ∧ foesIn (foes ps x.id) y.1.2.1 = false ∧ X.heap[w.heap.size + 1]? = some (.cells #[.int .i64 (y.1.1 : Int)] 3 (0, 0)) ∧ Below w.heap.size w X)
    (fun s X Y row hs hg hr => ⟨hs.1, hs.2.1.trans (SameT.ofGrown hg hr _), Below.ofGrown hs.2.2 hEw2.size hg hr⟩)
    (fun c s X Y row hs hg hr => by
      obtain ⟨h1, pre0, y, h2, h3, h4, h5, h6⟩ := hs
      exact ⟨h1, pre0, y, h2, h3, h4, obj_grown hg hr h5, Below.ofGrown h6 hEw2.size hg hr⟩)
    ⟨fun y hy => (by cases hy), SameT.refl _ _, hEw2⟩
    (fun y a' X => a' = { tmps := #[.slice Ar room.length cr, .slice Ab bs.length cb, .agg #[.int .i64 x.id, .slice Ax x.need.length cx], .pointer (some ⟨pb, 0, none⟩), undef, undef, .pointer (some ⟨w.heap.size, 0, none⟩), .pointer (some ⟨w.heap.size + 1, 0, none⟩), .pointer (some ⟨E8, 0, none⟩), .int .i64 (y.1.1 : Int), .slice y.1.2.2.1 y.1.2.1.length y.1.2.2.2, .slice Ap ps.length cp, .pointer (some ⟨w.heap.size, 0, none⟩), .int .i64 x.id, .pointer (some ⟨B, 0, none⟩), .slice Ar room.length cr, .slice Ab bs.length cb, .agg #[.int .i64 x.id, .slice Ax x.need.length cx], .func (.func 109) #[] #[.pointer (some ⟨H2 + 1, 0, none⟩), .pointer (some ⟨H2, 0, none⟩), .pointer (some ⟨H2 + 2, 0, none⟩)], .int .i64 (y.1.1 : Int), .slice y.1.2.2.1 y.1.2.1.length y.1.2.2.2, undef, undef, undef, undef, undef], defers := [] })
    (fun y a' s X Y row hs hg hr => hs) ?assign ?body ?done ?stop)
  case assign =>
    rintro l pre ⟨⟨i, d, Ad, cd⟩, hy, hyt⟩ X K hi hK
    dsimp only [encBW]
    gi_wp2
    exact hK _ _ (KeepsFrom.refl _ _) ⟨Below.refl _ _, fun _ _ _ _ _ _ hc => hc⟩ hi rfl
  case body =>
    rintro l pre ⟨⟨i, d, Ad, cd⟩, hy, hyt⟩ a' X hl2 hrec hI rfl hlt
    obtain ⟨hpre, hsX, hEX⟩ := hI
    have d8 := obj_cell (hsX _ _ _ _ trivial H8.out) (i := 0) rfl
    have h6 := hsX _ _ _ _ trivial (hE2.obj HX6.out)
    have H6 := hid h6
    have HEX := hid hEX
    have HSX := hid hsX
    have HPRE := hid hpre
    have HYT : Hid (RT X (.slice Ad d.length cd) d) := hid (RT.ext hyt hEX)
    have HLX := hid (HL2.out.same hsX)
    have hdep : 1 ≤ 4 - 1 - 1 := by omega
    dsimp only
    clear h6 hEX hrec hsX hpre
    cases hf : foesIn (foes ps x.id) d with
    | true =>
      have HF := hid hf
      gi_wp2_with (refine ⟨trivial, ?_⟩; gi_at_call 82; refine (CallsIn.inRound l (callsIn_wide.2 (iFoesIn B gs _ _ d _ HLX.out HYT.out HGL.out))).mono ?_; rintro e3 w3 ⟨rfl, hE3⟩; rw [HF.out]; have HE3 := hid hE3; clear hE3)
      exact ⟨(KeepsOthers.ofExt HE3.out).from _, Keep3.ofExt HE3.out HEX.out.size, fun z hz => by
        rcases List.mem_append.1 hz with hz | hz
        · exact HPRE.out z hz
        · rw [List.mem_singleton.1 hz]; exact HF.out, HSX.out.trans (HE3.out.same _), HEX.out.trans (HE3.out.mono HEX.out.size)⟩
    | false =>
      have HF := hid hf
      gi_wp2_with (refine ⟨trivial, ?_⟩; gi_at_call 82; refine (CallsIn.inRound l (callsIn_wide.2 (iFoesIn B gs _ _ d _ HLX.out HYT.out HGL.out))).mono ?_; rintro e3 w3 ⟨rfl, hE3⟩; rw [HF.out]; have HE3 := hid hE3; have k6 := obj_cell (hE3.obj H6.out) (i := 0) rfl; have f6 := obj_frozen (hE3.obj H6.out) 0; clear hE3)
      exact ⟨((KeepsOthers.ofExt HE3.out).trans (KeepsOthers.setCell _ _ _)).from _, rfl, pre, ⟨(i, d, Ad, cd), hy, hyt⟩, rfl, HPRE.out, HF.out, obj_set1 (HE3.out.obj H6.out) _, Below.setCell (HEX.out.trans (HE3.out.mono HEX.out.size)) (Nat.le_succ _) _⟩
  case done =>
    rintro D ys X hD hys hI hK
    obtain ⟨hpre, hsX, hEX⟩ := hI
    have h6 := hsX _ _ _ _ trivial (hE2.obj HX6.out)
    have hfa : apartAt room bs ps x = -1 := foes_none HPS.out hys hpre
    have d6 := obj_cell h6 (i := 0) rfl
    have f6 := obj_frozen h6 0
    have H6 := hid h6
    have HEX := hid hEX
    have HFA := hid hfa
    have HK := hid hK
    clear h6 hEX hys hfa hK hsX hpre
    go_wp2
    have hK2 : (X.setCell ⟨w.heap.size + 1, 0, none⟩ (.int .i64 (-1))).heap[D]? = some (.deferred (some [])) := (Below.heap_setCell _ _ _ _ (by show D ≠ w.heap.size + 1; omega)).trans HK.out
    refine ⟨by simp, .inl ⟨_, _, rfl, run_takeDeferred hK2, ?_⟩⟩
    have hg2 := grownBy_putObj' (X.setCell ⟨w.heap.size + 1, 0, none⟩ (.int .i64 (-1))) D (.deferred none)
    have hr2 : ∀ r, some D = some r → D ≤ r ∧ ∃ o : Obj, ((X.setCell ⟨w.heap.size + 1, 0, none⟩ (.int .i64 (-1)))).heap[r]? = some o ∧ o.isCells = false := fun r e => by cases e; exact ⟨Nat.le_refl _, _, hK2, rfl⟩
    have q6 := obj_cell (obj_grown hg2 hr2 (obj_set1 H6.out (.int .i64 (-1)))) (i := 0) rfl
    exact ⟨.int .i64 (-1), by simp [results, Try.results79, go_sem, q6], ret_i HFA.out.symm, Below.ofGrown (Below.setCell HEX.out (show w.heap.size ≤ w.heap.size + 1 from Nat.le_succ _) _) (Nat.le_trans hEw2.size hD) hg2 hr2⟩
  case stop =>
    rintro D c pre X hD hs ⟨rfl, pre0, y, rfl, hpre, hfy, h6, hEX⟩ hK
    obtain ⟨j, hj, hm⟩ := hs
    have HFA : Hid (apartAt room bs ps x = (y.1.1 : Int)) := hid (foes_hit HPS.out hj hm hpre hfy)
    have H6 := hid h6
    have HEX := hid hEX
    have HK := hid hK
    clear h6 hEX hm hK hpre hfy
    gi_wp2
    have hK2 := HK.out
    refine ⟨by simp, .inl ⟨_, _, rfl, run_takeDeferred hK2, ?_⟩⟩
    have hg2 := grownBy_putObj' X D (.deferred none)
    have hr2 : ∀ r, some D = some r → D ≤ r ∧ ∃ o : Obj, (X).heap[r]? = some o ∧ o.isCells = false := fun r e => by cases e; exact ⟨Nat.le_refl _, _, hK2, rfl⟩
    have q6 := obj_cell (obj_grown hg2 hr2 H6.out) (i := 0) rfl
    exact ⟨.int .i64 (y.1.1 : Int), by simp [results, Try.results79, go_sem, q6], ret_i HFA.out.symm, Below.ofGrown HEX.out (Nat.le_trans hEw2.size hD) hg2 hr2⟩

end Go.Proofs.Ytoaabinpdjcimaa
