/- Ranges over functions: words for the walk. -/
import Derived.Test.YtllchacophapoaaDoorK2
import Derived.Test.YtllchacophapoaaDoorK11
import Derived.Test.YtllchacophapoaaDoorK1
import Derived.RangeFuncNested
import Derived.RangeFuncBound
import Derived.RangeFuncCalls
import Derived.RangeFuncLeaves
import Derived.Shelf.Abstract
import Derived.Shelf.RegionOpen
import Derived.OwnWalkIn
import Derived.TacticsInMore
import Derived.LoopNIn
import Derived.LoopIn
namespace Go.Proofs.YtllchacophapoaaDoor
open Go.RowKit
set_option maxRecDepth 4000

theorem SameT.ofGrown {A B : World} {row : Option Nat} {H : Nat} (hg : A.grownBy B row) (hr : ∀ r, row = some r → H ≤ r ∧ ∃ o : Obj, A.heap[r]? = some o ∧ o.isCells = false) (T : TypeId → Prop) : SameT T A B := fun k cur t fr _ hk =>
  (hg.block k (obj_lt hk) (fun e => by
    obtain ⟨_, o, ho, hc⟩ := hr k e.symm
    rw [hk] at ho
    injection ho with ho
    subst ho
    cases hc)).trans hk
theorem Below.ofGrown {w A B : World} {row : Option Nat} {H : Nat} (h : Below w.heap.size w A) (hw : w.heap.size ≤ H) (hg : A.grownBy B row) (hr : ∀ r, row = some r → H ≤ r ∧ ∃ o : Obj, A.heap[r]? = some o ∧ o.isCells = false) : Below w.heap.size w B :=
  Below.grown h hg h.size (fun k hk => Nat.le_trans hw (hr k hk).1)
theorem obj_grown {A B : World} {row : Option Nat} {H : Nat} (hg : A.grownBy B row) (hr : ∀ r, row = some r → H ≤ r ∧ ∃ o : Obj, A.heap[r]? = some o ∧ o.isCells = false) {k : Nat} {cur : Array Value} {t : TypeId} {fr : Nat × Nat} (hk : A.heap[k]? = some (.cells cur t fr)) : B.heap[k]? = some (.cells cur t fr) :=
  SameT.ofGrown hg hr (fun _ => True) k cur t fr trivial hk

theorem obj_set1 {w : World} {b : Nat} {x : Value} {t : TypeId} {fr : Nat × Nat} (h : w.heap[b]? = some (.cells #[x] t fr)) (u : Value) : (w.setCell ⟨b, 0, none⟩ u).heap[b]? = some (.cells #[u] t fr) := by
  have := obj_set h 0 u
  simpa using this
theorem Own.rowty {α : Type} {e : TypeId} {size : Nat} {E : Enc α} {w : World} {base : Nat} {v : Value} {xs : List α} (h : Own e size E w base v xs) {b : Nat} (hb : v.ownBlock = some b) : ∃ cur, w.heap[b]? = some (.cells cur e (0, 0)) := by
  obtain ⟨cells, ho, _⟩ := h
  rcases ho.2 with ⟨rfl, _⟩ | ⟨g, cap, cur, rfl, _, hg, _⟩
  · simp [Value.ownBlock] at hb
  · simp [Value.ownBlock] at hb
    subst hb
    exact ⟨cur, hg⟩
/-- what a round must keep for an iterator that reads its captured box anew: what lay below n₀, and the box -/
def KeepBox (n₀ Bs : Nat) (A B : World) : Prop := Below n₀ A B ∧ ∀ u, A.cell? ⟨Bs, 0, none⟩ = some u → B.cell? ⟨Bs, 0, none⟩ = some u
theorem KeepBox.trans {n₀ Bs : Nat} {A B C : World} (h : KeepBox n₀ Bs A B) (k : KeepBox n₀ Bs B C) : KeepBox n₀ Bs A C := ⟨Below.trans h.1 k.1, fun u hu => k.2 u (h.2 u hu)⟩
theorem KeepBox.put {n₀ Bs : Nat} {w : World} (hn : n₀ ≤ w.heap.size) (W : World) (l : Nat) (o o' : Obj) (hl : w.heap.size ≤ l) (ho : W.heap[l]? = some o) (hc : o.isCells = false) (hw : o.isWalk = false) : KeepBox n₀ Bs W (W.putObj l o') := by
  refine ⟨belowK_b (w := w) hn W l o o' hl ho hc hw, fun u hu => ?_⟩
  exact cell_kept hu (grownBy_putObj' W l o') (fun r e => by cases e; exact ⟨_, ho, hc⟩)

theorem wpListIn_append_sl {P : Program} {F : Fence} {nF : Nat} (w : World) {ops : Array Oper} {rest : List Oper} {o : Oper} {a : Act} {Q : Exit → Act → World → Prop} (hgd : o.guard = none) (s x : Operand) (t : TypeId)
    (ho : o.op = .call { callee := .builtin .append, args := #[s, x], argTypes := #[t, t] })
    {α : Type} {E : Enc α} {T : TypeId → Prop} (ok : E.Ok T) (flat : E.Flat) (base : Nat) (e : TypeId) (hTe : ∀ t, T t → t ≠ e) (i : TypeInfo) (z : Value) (size bytes : Nat) (ht : P.underlying t = some (.slice e)) (hi : P.info? e = some i) (hz : i.zero = some z)
    (hsize : i.size = size) (hby : i.bytes = bytes) (hzs : z.cells.size = size) (hsz : 0 < size)
    (v : Value) (hs : a.eval s = v) (xs : List α) (hown : Own e size E w base v xs) (sv : Value) (hx : a.eval x = sv) (ys : List α) (hr : RSl e size E w sv ys)
    (h63 : xs.length + ys.length ≤ 9223372036854775807) (hbytes : (xs.length + ys.length) * bytes ≤ 140737488355328) (hbase : base ≤ w.heap.size)
    (h : ∀ v' w', Own e size E w' base v' (xs ++ ys) → w.grownBy w' v.ownBlock → (v'.ownBlock = v.ownBlock ∨ v'.ownBlock = some w.heap.size) → SameT (fun t => t ≠ e) w w' → wpListIn F nF P ops Q rest (a.put o.dst v') w') : wpListIn F nF P ops Q (o :: rest) a w := by
  refine wpListIn_plain hgd fun K hK => ?_
  obtain ⟨v', w', hr, h2, h3, h4, h5⟩ := run_append_sl (P := P) w ok flat base t o.type e hTe i z size bytes ht hi hz hsize hby hzs hsz v xs hown sv ys hr h63 hbytes hbase
  unfold Oper.wpIn
  refine ⟨by simp [Oper.about, ho, resolve, Target.leads, Sem.run_pure], ?_⟩
  rw [Oper.semAt_plain F _ _ (by rw [ho]; intro c hc'; cases hc')]
  simp only [execOp, ho, resolve, invoke, builtin, Sem.run_bind, Sem.run_pure, Result.andThen_ok, List.map_toArray, List.map_cons, List.map_nil, hs, hx, hr]
  exact hK _ _ (h v' w' h2 h3 h4 h5)

end Go.Proofs.YtllchacophapoaaDoor

/- The program's withRoom: the nodes that have room, as an iterator. -/
namespace Go.Proofs.YtllchacophapoaaDoor
open Go.RowKit
set_option maxRecDepth 4000
attribute [local go_sem] Oper.semAt_some

/-- what a round must keep: what lay below n₀, and three boxes -/
def Keep3 (n₀ B : Nat) (X Y : World) : Prop := Below n₀ X Y ∧ ∀ k, B ≤ k → k < B + 3 → ∀ (cur : Array Value) t fr, X.heap[k]? = some (.cells cur t fr) → Y.heap[k]? = some (.cells cur t fr)
theorem Keep3.trans {n₀ B : Nat} {X Y Z : World} (h : Keep3 n₀ B X Y) (k : Keep3 n₀ B Y Z) : Keep3 n₀ B X Z := ⟨Below.trans h.1 k.1, fun i h1 h2 cur t fr hi => k.2 i h1 h2 cur t fr (h.2 i h1 h2 cur t fr hi)⟩
theorem Keep3.put {n₀ B : Nat} {w : World} (hn : n₀ ≤ w.heap.size) (W : World) (l : Nat) (o o' : Obj) (hl : w.heap.size ≤ l) (ho : W.heap[l]? = some o) (hc : o.isCells = false) (hw : o.isWalk = false) : Keep3 n₀ B W (W.putObj l o') :=
  ⟨belowK_b (w := w) hn W l o o' hl ho hc hw, fun _ _ _ _ _ _ hi => obj_grown (H := 0) (grownBy_putObj' W l o') (fun r e => by cases e; exact ⟨Nat.zero_le _, _, ho, hc⟩) hi⟩
theorem Ext.grown_ {w w' : World} (h : Ext w w') : w.grownBy w' none := ⟨h.os, h.tape, h.output, h.size, fun k hk _ => h.block k hk⟩

/-- a node, its index, and where its tasks lie -/
abbrev BAt (bs : List (List TaskD)) := { p : Nat × List TaskD × Option Addr × Nat // bs[p.1]? = some p.2.1 }
def encB {bs : List (List TaskD)} (x : BAt bs) : Array Value := #[.int .i64 (x.1.1 : Int), .slice x.1.2.2.1 x.1.2.1.length x.1.2.2.2]
/-- the nodes with room for a task, of the first k -/
def haveTo (room : List Int) (bs : List (List TaskD)) (x : TaskD) (k : Nat) : List Nat := (List.range k).filter fun i => l11fits room (bs.getD i []) x
theorem haveTo_succ (room : List Int) (bs : List (List TaskD)) (x : TaskD) (k : Nat) : haveTo room bs x (k + 1) = if l11fits room (bs.getD k []) x then haveTo room bs x k ++ [k] else haveTo room bs x k := by
  unfold haveTo
  rw [List.range_succ, List.filter_append]
  cases h : l11fits room (bs.getD k []) x with
  | true => rw [List.filter_cons_of_pos (by exact h)]; rfl
  | false => rw [List.filter_cons_of_neg (by rw [h]; simp)]; simp

/-- the three boxes of the iterator -/
def Boxes3 (w : World) (B : Nat) (room : List Int) (bs : List (List TaskD)) (x : TaskD) (Ar : Option Addr) (cr : Nat) (Ab : Option Addr) (cb : Nat) (Ax : Option Addr) (cx : Nat) : Prop :=
  w.heap[B]? = some (.cells #[.slice Ar room.length cr] 22 (0, 0)) ∧ w.heap[B + 1]? = some (.cells #[.slice Ab bs.length cb] 25 (0, 0)) ∧ w.heap[B + 2]? = some (.cells #[.int .i64 x.id, .slice Ax x.need.length cx] 44 (0, 0))
theorem Boxes3.keep {n₀ B : Nat} {X Y : World} {room : List Int} {bs : List (List TaskD)} {x : TaskD} {Ar Ab Ax : Option Addr} {cr cb cx : Nat} (h : Boxes3 X B room bs x Ar cr Ab cb Ax cx) (k : Keep3 n₀ B X Y) : Boxes3 Y B room bs x Ar cr Ab cb Ax cx :=
  ⟨k.2 B (by omega) (by omega) _ _ _ h.1, k.2 (B + 1) (by omega) (by omega) _ _ _ h.2.1, k.2 (B + 2) (by omega) (by omega) _ _ _ h.2.2⟩
theorem Boxes3.ext {B : Nat} {X Y : World} {room : List Int} {bs : List (List TaskD)} {x : TaskD} {Ar Ab Ax : Option Addr} {cr cb cx : Nat} (h : Boxes3 X B room bs x Ar cr Ab cb Ax cx) (k : Ext X Y) : Boxes3 Y B room bs x Ar cr Ab cb Ax cx :=
  ⟨k.obj h.1, k.obj h.2.1, k.obj h.2.2⟩

theorem iWithRoom (room : List Int) (bs : List (List TaskD)) (x : TaskD) (Ar : Option Addr) (cr : Nat) (Ab : Option Addr) (cb : Nat) (Ax : Option Addr) (cx : Nat) (w : World) :
    Calls Tryd.prog 103 #[.slice Ar room.length cr, .slice Ab bs.length cb, .agg #[.int .i64 x.id, .slice Ax x.need.length cx]] w fun e w' => e = .returned (.func (.func 110) #[] #[.pointer (some ⟨w.heap.size + 1, 0, none⟩), .pointer (some ⟨w.heap.size, 0, none⟩), .pointer (some ⟨w.heap.size + 2, 0, none⟩)]) ∧ Boxes3 w' w.heap.size room bs x Ar cr Ab cb Ax cx ∧ Ext w w' := by
  go_enter Tryd.func103, Tryd.ntmps103
  go_wp2
  go_ret
  refine ⟨rfl, ⟨?_, ?_, ?_⟩, ?_⟩
  · exact (Ext.alloc _ _).obj ((Ext.alloc _ _).obj (heap_alloc_new w _))
  · exact (Ext.alloc _ _).obj (heap_new (H := w.heap.size + 1) (by simp))
  · exact heap_new (H := w.heap.size + 2) (by simp)
  · exact ((Ext.alloc _ _).trans (Ext.alloc _ _)).trans (Ext.alloc _ _)

end Go.Proofs.YtllchacophapoaaDoor

/- The contract of withRoom's function. -/
namespace Go.Proofs.YtllchacophapoaaDoor
open Go.RowKit
set_option maxRecDepth 4000
attribute [local go_sem] Oper.semAt_some

set_option maxRecDepth 100000 in
set_option maxHeartbeats 4000000 in
theorem withRoom1_in (n : Nat) (hn : 1 ≤ n) (l B n₀ H : Nat) (room : List Int) (bs : List (List TaskD)) (x : TaskD) (Ar : Option Addr) (cr : Nat) (Ab : Option Addr) (cb : Nat) (Ax : Option Addr) (cx : Nat) (w0 : World)
    (hr : RI w0 (.slice Ar room.length cr) room) (hb : RB w0 (.slice Ab bs.length cb) bs) (hx : RI w0 (.slice Ax x.need.length cx) x.need) (hlr : room.length = 3) (hg : ∀ b ∈ bs, GoodTs b) (hxn : x.need.length = 3 ∧ Bd 1000 x.need) (_hl : bs.length ≤ 4000000)
    (hn0 : w0.heap.size ≤ n₀) (J Jx : List (BAt bs) → World → Prop) (hJ : AbidesFrom H J)
    (hY : ∀ pre x W, J pre W → pre.length < bs.length → YieldAt Fence.wide (n - 1) Tryd.prog l (encB x) W fun e W' =>
      (e = .returned (.bool true) ∧ J (pre ++ [x]) W' ∧ Keep3 n₀ B W W') ∨ (e = .returned (.bool false) ∧ Jx (pre ++ [x]) W'))
    (W : World) (hW : Below w0.heap.size w0 W) (hB : Boxes3 W B room bs x Ar cr Ab cb Ax cx) (h0 : J [] W) :
    CallsIn Fence.wide n Tryd.prog 110 #[.func (.yield l) #[] #[], .pointer (some ⟨B + 1, 0, none⟩), .pointer (some ⟨B, 0, none⟩), .pointer (some ⟨B + 2, 0, none⟩)] W fun e W' => (∃ v, e = .returned v) ∧
      ((∃ ys, (ys.map fun y : BAt bs => y.1.1) = haveTo room bs x bs.length ∧ J ys W') ∨ (∃ pre, (∃ j, j < bs.length ∧ (pre.map fun y : BAt bs => y.1.1) = haveTo room bs x (j + 1)) ∧ Jx pre W')) := by
  have HB := hid hB
  have HLR := hid hlr
  have HXN := hid hxn
  have b1 := obj_cell hB.2.1 (i := 0) rfl
  refine callsIn_of_wp Tryd.func110 rfl trivial ?_ rfl
  simp only [Tryd.ntmps110, List.size_toArray, List.length_cons, List.length_nil, Nat.reduceAdd, Nat.reduceSub, Array.replicate_succ, Array.replicate_zero, List.push_toArray, List.append_toArray, List.nil_append, List.cons_append]
  gi_wp2
  clear b1 hB hlr hxn
  gi_loopw [9] (fun i wr => ∃ (k : Nat) (pre : List (BAt bs)), k ≤ bs.length ∧ i = .int .i64 k ∧ Hid (pre.length ≤ k ∧ (pre.map fun y : BAt bs => y.1.1) = haveTo room bs x k ∧ J pre wr ∧ Below w0.heap.size w0 wr ∧ Boxes3 wr B room bs x Ar cr Ab cb Ax cx)) (fun i _ => bs.length - (intOf i).toNat)
  case atStart => exact ⟨0, [], Nat.zero_le _, rfl, hid ⟨Nat.le_refl _, rfl, h0, hW, HB.out⟩⟩
  case round =>
    obtain ⟨k, pre, hk, rfl, HH⟩ := hrel
    by_cases hlt : k < bs.length
    · obtain ⟨A', c', hv, _, _, hg'⟩ := RB.get (RB.ext hb HH.out.2.2.2.1)
      injection hv with e1 e2 e3
      subst e1 e3
      obtain ⟨b, o, d, Ad, cd, rfl, e, c1, hd⟩ := hg' k hlt
      have i1 : (k : Int) < (bs.length : Int) := by omega
      have i0 : (0 : Int) ≤ (k : Int) := by omega
      have hget : bs.getD k [] = d := by rw [List.getD_eq_getElem?_getD, e.out]; rfl
      have HGET := hid hget
      have q0 := obj_cell HH.out.2.2.2.2.1 (i := 0) rfl
      have q2 := obj_cell HH.out.2.2.2.2.2.2 (i := 0) rfl
      have q3 := obj_cell HH.out.2.2.2.2.2.2 (i := 1) rfl
      have HD := hid hd
      have HGD := hid (hg d (List.mem_of_getElem? e.out))
      clear hg' e2 hd hget
      cases hf : l11fits room d x with
      | true =>
        have HF := hid hf
        clear hf
        gi_wp2_with (refine ⟨trivial, ?_⟩; gi_at_call 35; refine callsIn_wide.2 ((iHasRoom _ _ _ room d x _ (RI.ext hr HH.out.2.2.2.1) HD.out ⟨_, rfl, RI.ext hx HH.out.2.2.2.1⟩ HLR.out HGD.out HXN.out).mono ?_); rintro e3 w3 ⟨rfl, hE3⟩; rw [HF.out]; have HE3 := hid hE3; obtain ⟨fn, tmps, assign, body, hy, hR⟩ := hY pre ⟨(k, d, Ad, cd), e.out⟩ w3 (hJ pre wr w3 none HH.out.2.2.1 (Ext.grown_ hE3) (fun r e => by cases e)) (by have := HH.out.1; omega); dsimp only [encB] at hy; clear hE3)
        refine hR.mono ?_
        rintro e' W3 (⟨rfl, hJ3, hk3⟩ | ⟨rfl, hJx3⟩)
        · gi_wp2
          go_roundw
          case rel => exact ⟨k + 1, pre ++ [⟨(k, d, Ad, cd), e.out⟩], by omega, by go_num, hid ⟨by rw [List.length_append]; have := HH.out.1; simp; omega, by rw [List.map_append, HH.out.2.1, haveTo_succ, HGET.out, if_pos HF.out]; rfl, hJ3, Below.trans (HH.out.2.2.2.1.trans (HE3.out.mono HH.out.2.2.2.1.size)) (hk3.1.mono hn0), (HH.out.2.2.2.2.ext HE3.out).keep hk3⟩⟩
          case measure => simp [intOf]; omega
        · gi_wp2
          refine bodyPost_ret (results_none rfl _ _ _) rfl ?_
          exact ⟨⟨_, rfl⟩, .inr ⟨_, ⟨k, hlt, by rw [List.map_append, HH.out.2.1, haveTo_succ, HGET.out, if_pos HF.out]; rfl⟩, hJx3⟩⟩
      | false =>
        have HF := hid hf
        clear hf
        gi_wp2_with (refine ⟨trivial, ?_⟩; gi_at_call 35; refine callsIn_wide.2 ((iHasRoom _ _ _ room d x _ (RI.ext hr HH.out.2.2.2.1) HD.out ⟨_, rfl, RI.ext hx HH.out.2.2.2.1⟩ HLR.out HGD.out HXN.out).mono ?_); rintro e3 w3 ⟨rfl, hE3⟩; rw [HF.out]; have HE3 := hid hE3; clear hE3)
        refine ⟨fun _ h => (by cases h), ?_⟩
        gi_wp2
        go_roundw
        case rel => exact ⟨k + 1, pre, by omega, by go_num, hid ⟨by have := HH.out.1; omega, by rw [haveTo_succ, HGET.out, if_neg (by rw [HF.out]; simp)]; exact HH.out.2.1, hJ pre wr w3 none HH.out.2.2.1 (Ext.grown_ HE3.out) (fun r e => by cases e), HH.out.2.2.2.1.trans (HE3.out.mono HH.out.2.2.2.1.size), HH.out.2.2.2.2.ext HE3.out⟩⟩
        case measure => simp [intOf]; omega
    · gi_wp2
      go_end0
      have hk' : k = bs.length := by omega
      subst hk'
      exact ⟨⟨_, rfl⟩, .inl ⟨pre, HH.out.2.1, HH.out.2.2.1⟩⟩

end Go.Proofs.YtllchacophapoaaDoor

/- The program's first node with room. -/
namespace Go.Proofs.YtllchacophapoaaDoor
open Go.RowKit
set_option maxRecDepth 4000
attribute [local go_sem] Oper.semAt_some

theorem withRoom_stops (n : Nat) (hn : 1 ≤ n) (B n₀ : Nat) (room : List Int) (bs : List (List TaskD)) (x : TaskD) (Ar : Option Addr) (cr : Nat) (Ab : Option Addr) (cb : Nat) (Ax : Option Addr) (cx : Nat) (w0 w : World)
    (hr : RI w0 (.slice Ar room.length cr) room) (hb : RB w0 (.slice Ab bs.length cb) bs) (hx : RI w0 (.slice Ax x.need.length cx) x.need) (hlr : room.length = 3) (hg : ∀ b ∈ bs, GoodTs b) (hxn : x.need.length = 3 ∧ Bd 1000 x.need) (hl : bs.length ≤ 4000000)
    (hn0 : w0.heap.size ≤ n₀) (hE : Below w0.heap.size w0 w) (hB : Boxes3 w B room bs x Ar cr Ab cb Ax cx) :
    SeqStopsK Fence.wide n Tryd.prog 110 #[.pointer (some ⟨B + 1, 0, none⟩), .pointer (some ⟨B, 0, none⟩), .pointer (some ⟨B + 2, 0, none⟩)] (encB (bs := bs)) (Keep3 n₀ B) (fun ys => (ys.map fun y : BAt bs => y.1.1) = haveTo room bs x bs.length) (fun pre => ∃ j, j < bs.length ∧ (pre.map fun y : BAt bs => y.1.1) = haveTo room bs x (j + 1)) bs.length w := fun l J Jx W hW hJ _ hY h0 =>
  withRoom1_in n hn l B n₀ W.heap.size room bs x Ar cr Ab cb Ax cx w0 hr hb hx hlr hg hxn hl hn0 J Jx hJ hY W (Below.trans hE (hW.mono hE.size)) (hB.ext hW) h0

theorem have_mem {room : List Int} {bs : List (List TaskD)} {x : TaskD} {k i : Nat} : i ∈ haveTo room bs x k ↔ i < k ∧ l11fits room (bs.getD i []) x = true := by
  unfold haveTo
  rw [List.mem_filter, List.mem_range]
theorem have_none {room : List Int} {bs : List (List TaskD)} {x : TaskD} (h : haveTo room bs x bs.length = []) : firstAt room bs x = -1 := by
  have : bs.findIdx? (fun b => l11fits room b x) = none := by
    rw [List.findIdx?_eq_none_iff]
    intro b hb
    obtain ⟨k, hk⟩ := List.getElem?_of_mem hb
    cases hf : l11fits room b x with
    | false => rfl
    | true =>
      have hm : k ∈ haveTo room bs x bs.length := have_mem.2 ⟨(List.getElem?_eq_some_iff.1 hk).1, by rw [List.getD_eq_getElem?_getD, hk]; exact hf⟩
      rw [h] at hm
      cases hm
  unfold firstAt
  rw [this]
theorem have_one {room : List Int} {bs : List (List TaskD)} {x : TaskD} {j i : Nat} (hj : j < bs.length) (h : haveTo room bs x (j + 1) = [i]) : firstAt room bs x = (i : Int) := by
  have hi := have_mem.1 (show i ∈ haveTo room bs x (j + 1) by rw [h]; simp)
  have hil : i < bs.length := by omega
  refine firstAt_hit (b := bs[i]) (List.getElem?_eq_getElem hil) (by have := hi.2; rwa [List.getD_eq_getElem?_getD, List.getElem?_eq_getElem hil] at this) (fun k c hk hc => ?_)
  cases hf : l11fits room c x with
  | false => rfl
  | true =>
    have hm : k ∈ haveTo room bs x (j + 1) := have_mem.2 ⟨by omega, by rw [List.getD_eq_getElem?_getD, hc]; exact hf⟩
    rw [h] at hm
    have := List.mem_singleton.1 hm
    omega

set_option maxRecDepth 100000 in
set_option maxHeartbeats 4000000 in
theorem iFirstOf (room : List Int) (bs : List (List TaskD)) (x : TaskD) (Ar : Option Addr) (cr : Nat) (Ab : Option Addr) (cb : Nat) (Ax : Option Addr) (cx : Nat) (w : World)
    (hr : RI w (.slice Ar room.length cr) room) (hb : RB w (.slice Ab bs.length cb) bs) (hx : RI w (.slice Ax x.need.length cx) x.need) (hlr : room.length = 3) (hg : ∀ b ∈ bs, GoodTs b) (hxn : x.need.length = 3 ∧ Bd 1000 x.need) (hl : bs.length ≤ 4000000) :
    Calls Tryd.prog 95 #[.slice Ar room.length cr, .slice Ab bs.length cb, .agg #[.int .i64 x.id, .slice Ax x.need.length cx]] w (RetN w (firstAt room bs x)) := by
  obtain ⟨W, hW⟩ : ∃ W, W = (w.alloc (.cells #[.int .i64 x.id, .slice Ax x.need.length cx] 44)).alloc (.cells #[.int .i64 0] 3) := ⟨_, rfl⟩
  have hEW : Ext w W := by rw [hW]; exact (Ext.alloc _ _).trans (Ext.alloc _ _)
  have hx5 : W.heap[w.heap.size]? = some (.cells #[.int .i64 x.id, .slice Ax x.need.length cx] 44 (0, 0)) := by rw [hW]; exact (Ext.alloc _ _).obj (heap_alloc_new _ _)
  have hx6 : W.heap[w.heap.size + 1]? = some (.cells #[.int .i64 0] 3 (0, 0)) := by rw [hW]; exact heap_new (by simp)
  have q0 := obj_cell hx5 (i := 0) rfl
  have q1 := obj_cell hx5 (i := 1) rfl
  have HX6 := hid hx6
  have HEW := hid hEW
  have HLR := hid hlr
  have HXN := hid hxn
  clear hx5 hx6 hEW hlr hxn
  refine (callsIn_wide (n := 4)).1 ?_
  refine callsIn_of_wp_marks Tryd.func95 rfl trivial ?_ rfl
  refine wpIn_wide.2 ?_
  simp only [Tryd.ntmps95, List.size_toArray, List.length_cons, List.length_nil, Nat.reduceAdd, Nat.reduceSub, Array.replicate_succ, Array.replicate_zero, List.push_toArray, List.append_toArray, List.nil_append, List.cons_append]
  go_wp2_with (go_at_call 103; rw [← hW]; refine (iWithRoom room bs x Ar cr Ab cb Ax cx _).mono ?_; rintro e w1 ⟨rfl, hB1, hE1⟩; have HB1 := hid hB1; have HE1 := hid hE1; clear hB1 hE1 hW)
  have hE1 := HE1.out
  have hEw1 : Ext w w1 := HEW.out.trans hE1
  have hzw : w.heap.size + 1 < w1.heap.size := Nat.lt_of_lt_of_le (obj_lt HX6.out) hE1.size
  refine wpIn_wide.1 (wpIn_rangeFunc_ownH (F := Fence.wide) (n := 4) rfl (by omega) (gf := 110) (lb := #[.pointer (some ⟨W.heap.size + 1, 0, none⟩), .pointer (some ⟨W.heap.size, 0, none⟩), .pointer (some ⟨W.heap.size + 2, 0, none⟩)]) rfl trivial (enters_of Tryd.func110 (by kernel_rfl) rfl)
    (withRoom_stops 3 (by omega) W.heap.size w.heap.size room bs x Ar cr Ab cb Ax cx w w1 hr hb hx HLR.out hg HXN.out hl (Nat.le_refl _) hEw1 HB1.out)
    Keep3.trans (Keep3.put hEw1.size) (Below.refl _ _) (fun _ => rfl)
    (fun pre X => pre = [] ∧ X.heap[w.heap.size + 1]? = some (.cells #[.int .i64 0] 3 (0, 0)) ∧ Below w.heap.size w X)
    (fun c pre X => c = .ret ∧ ∃ y : BAt bs, pre = [y] ∧ X.heap[w.heap.size + 1]? = some (.cells #[.int .i64 (y.1.1 : Int)] 3 (0, 0)) ∧ Below w.heap.size w X)
    (fun s X Y row hs hg hr => ⟨hs.1, obj_grown hg hr hs.2.1, Below.ofGrown hs.2.2 hEw1.size hg hr⟩)
    (fun c s X Y row hs hg hr => by
      obtain ⟨h1, y, h2, h3, h4⟩ := hs
      exact ⟨h1, y, h2, obj_grown hg hr h3, Below.ofGrown h4 hEw1.size hg hr⟩)
    ⟨rfl, hE1.obj HX6.out, hEw1⟩
    (fun y a' X => a' = { tmps := #[.slice Ar room.length cr, .slice Ab bs.length cb, .agg #[.int .i64 x.id, .slice Ax x.need.length cx], undef, undef, .pointer (some ⟨w.heap.size, 0, none⟩), .pointer (some ⟨w.heap.size + 1, 0, none⟩), .int .i64 (y.1.1 : Int), .slice Ar room.length cr, .slice Ab bs.length cb, .agg #[.int .i64 x.id, .slice Ax x.need.length cx], .func (.func 110) #[] #[.pointer (some ⟨W.heap.size + 1, 0, none⟩), .pointer (some ⟨W.heap.size, 0, none⟩), .pointer (some ⟨W.heap.size + 2, 0, none⟩)], .int .i64 (y.1.1 : Int), .slice y.1.2.2.1 y.1.2.1.length y.1.2.2.2, undef], defers := [] })
    (fun y a' s X Y row hs hg hr => hs) ?assign ?body ?done ?stop)
  case assign =>
    rintro l pre ⟨⟨i, d, Ad, cd⟩, hy⟩ X K hi hK
    dsimp only [encB]
    gi_wp2
    exact hK _ _ (KeepsFrom.refl _ _) ⟨Below.refl _ _, fun _ _ _ _ _ _ hc => hc⟩ hi rfl
  case body =>
    rintro l pre ⟨⟨i, d, Ad, cd⟩, hy⟩ a' X hl2 hrec hI rfl hlt
    obtain ⟨rfl, h6, hEX⟩ := hI
    have d6 := obj_cell h6 (i := 0) rfl
    have f6 := obj_frozen h6 0
    have H6 := hid h6
    have HEX := hid hEX
    dsimp only
    clear h6 hEX hrec
    gi_wp2
    exact ⟨(KeepsOthers.setCell _ _ _).from _, rfl, ⟨(i, d, Ad, cd), hy⟩, rfl, obj_set1 H6.out _, Below.setCell HEX.out (Nat.le_succ _) _⟩
  case done =>
    rintro D ys X hD hys hI hK
    obtain ⟨rfl, h6, hEX⟩ := hI
    have hfa : firstAt room bs x = -1 := have_none hys.symm
    have d6 := obj_cell h6 (i := 0) rfl
    have f6 := obj_frozen h6 0
    have H6 := hid h6
    have HEX := hid hEX
    have HFA := hid hfa
    have HK := hid hK
    clear h6 hEX hys hfa hK
    go_wp2
    have hK2 : (X.setCell ⟨w.heap.size + 1, 0, none⟩ (.int .i64 (-1))).heap[D]? = some (.deferred (some [])) := (Below.heap_setCell _ _ _ _ (by show D ≠ w.heap.size + 1; omega)).trans HK.out
    refine ⟨by simp, .inl ⟨_, _, rfl, run_takeDeferred hK2, ?_⟩⟩
    have hg2 := grownBy_putObj' (X.setCell ⟨w.heap.size + 1, 0, none⟩ (.int .i64 (-1))) D (.deferred none)
    have hr2 : ∀ r, some D = some r → D ≤ r ∧ ∃ o : Obj, ((X.setCell ⟨w.heap.size + 1, 0, none⟩ (.int .i64 (-1)))).heap[r]? = some o ∧ o.isCells = false := fun r e => by cases e; exact ⟨Nat.le_refl _, _, hK2, rfl⟩
    have q6 := obj_cell (obj_grown hg2 hr2 (obj_set1 H6.out (.int .i64 (-1)))) (i := 0) rfl
    exact ⟨.int .i64 (-1), by simp [results, Tryd.results95, go_sem, q6], ret_i HFA.out.symm, Below.ofGrown (Below.setCell HEX.out (show w.heap.size ≤ w.heap.size + 1 from Nat.le_succ _) _) (Nat.le_trans hEw1.size hD) hg2 hr2⟩
  case stop =>
    rintro D c pre X hD hs ⟨rfl, y, rfl, h6, hEX⟩ hK
    obtain ⟨j, hj, hm⟩ := hs
    have HFA : Hid (firstAt room bs x = (y.1.1 : Int)) := hid (have_one hj hm.symm)
    have H6 := hid h6
    have HEX := hid hEX
    have HK := hid hK
    clear h6 hEX hm hK
    gi_wp2
    have hK2 := HK.out
    refine ⟨by simp, .inl ⟨_, _, rfl, run_takeDeferred hK2, ?_⟩⟩
    have hg2 := grownBy_putObj' X D (.deferred none)
    have hr2 : ∀ r, some D = some r → D ≤ r ∧ ∃ o : Obj, (X).heap[r]? = some o ∧ o.isCells = false := fun r e => by cases e; exact ⟨Nat.le_refl _, _, hK2, rfl⟩
    have q6 := obj_cell (obj_grown hg2 hr2 H6.out) (i := 0) rfl
    exact ⟨.int .i64 (y.1.1 : Int), by simp [results, Tryd.results95, go_sem, q6], ret_i HFA.out.symm, Below.ofGrown HEX.out (Nat.le_trans hEw1.size hD) hg2 hr2⟩

end Go.Proofs.YtllchacophapoaaDoor
