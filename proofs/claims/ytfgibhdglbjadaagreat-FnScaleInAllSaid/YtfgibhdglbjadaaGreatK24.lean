/- Regions that draw: one of three operations comes up. -/
import Derived.Test.YtfgibhdglbjadaaGreatK2
import Derived.Test.YtfgibhdglbjadaaGreatK5
import Derived.Test.YtfgibhdglbjadaaGreatK18
import Derived.Test.YtfgibhdglbjadaaGreatK4
import Derived.RangeFuncNested
import Derived.RangeFuncBound
import Derived.RangeFuncCalls
import Derived.RangeFuncLeaves
import Derived.Shelf.Abstract
import Derived.Shelf.RegionOpen
import Derived.OwnWalkIn
import Derived.TacticsInMore
import Derived.LoopNIn
import Derived.LoopIn
namespace Go.Proofs.YtfgibhdglbjadaaGreat
open Go.RowKit
set_option maxRecDepth 4000
set_option maxRecDepth 4000

/-- ways meet behind a region -/
def JoinQ (p : Act → World → Prop) : Exit → Act → World → Prop
  | .normal, a, w => p a w
  | _, _, _ => False
theorem join_at {P : Program} {c : Code} {Q : Exit → Act → World → Prop} {a : Act} {w : World} (p : Act → World → Prop) (h : ∀ JP : Act → World → Prop, (∀ a w, p a w → JP a w) → c.wp P (JoinQ JP) a w) (k : ∀ a w, p a w → Q .normal a w) : c.wp P Q a w :=
  Code.wp_mono (Q := JoinQ p) (fun e a w hq => by
    cases e with
    | normal => exact k a w hq
    | _ => exact hq.elim) (h p (fun _ _ hp => hp))

section
variable {P : Program} {l : List Oper} {Q : Exit → Act → World → Prop} {S : World → Prop} {X : List Nat}
theorem WG.three {i j m : Nat} {oi oj om : Oper} {fuel : Nat} {listed : Array Bool} {a : Act} {w : World} (hoi : l[i]? = some oi) (hoj : l[j]? = some oj) (hom : l[m]? = some om) (hr : Region.ready .any l.toArray listed = [i, j, m])
    (hi : ∀ K' : Act → World → Prop, Shut (∀ a w, S w → (S w → WG P l.toArray Q S X fuel (listed.setIfInBounds i true) a w) → K' a w) → if Region.wanted oi (yielded l.toArray a.tmps) = true then Oper.wp P oi a w K' Q else K' (a.put oi.dst undef) w)
    (hj : ∀ K' : Act → World → Prop, Shut (∀ a w, S w → (S w → WG P l.toArray Q S X fuel (listed.setIfInBounds j true) a w) → K' a w) → if Region.wanted oj (yielded l.toArray a.tmps) = true then Oper.wp P oj a w K' Q else K' (a.put oj.dst undef) w)
    (hm : ∀ K' : Act → World → Prop, Shut (∀ a w, S w → (S w → WG P l.toArray Q S X fuel (listed.setIfInBounds m true) a w) → K' a w) → if Region.wanted om (yielded l.toArray a.tmps) = true then Oper.wp P om a w K' Q else K' (a.put om.dst undef) w) :
    WG P l.toArray Q S X (fuel + 1) listed a w := fun hsh => by
  have hi2 : i ∈ Region.ready .any l.toArray listed := by rw [hr]; simp
  have hj2 : j ∈ Region.ready .any l.toArray listed := by rw [hr]; simp
  have hm2 : m ∈ Region.ready .any l.toArray listed := by rw [hr]; simp
  refine ⟨fun h0 => absurd (hr.symm.trans h0) (by simp), fun k hk => ?_⟩
  rw [hr] at hk
  simp at hk
  rcases hk with rfl | rfl | rfl
  · exact wpOp_step (by simpa using hoi) fun K' hK => hi K' fun a w hS hW => hK a w ⟨fun _ => hS, hW hS (hsh.set hi2)⟩
  · exact wpOp_step (by simpa using hoj) fun K' hK => hj K' fun a w hS hW => hK a w ⟨fun _ => hS, hW hS (hsh.set hj2)⟩
  · exact wpOp_step (by simpa using hom) fun K' hK => hm K' fun a w hS hW => hK a w ⟨fun _ => hS, hW hS (hsh.set hm2)⟩
end
end Go.Proofs.YtfgibhdglbjadaaGreat

/- Ranges over functions: words for the walk. -/
namespace Go.Proofs.YtfgibhdglbjadaaGreat
open Go.RowKit
set_option maxRecDepth 4000

theorem SameT.ofGrown {A B : World} {row : Option Nat} {H : Nat} (hg : A.grownBy B row) (hr : ∀ r, row = some r → H ≤ r ∧ ∃ o : Obj, A.heap[r]? = some o ∧ o.isCells = false) (T : TypeId → Prop) : SameT T A B := fun k cur t fr _ hk =>
  (hg.block k (obj_lt hk) (fun e => by
    obtain ⟨_, o, ho, hc⟩ := hr k e.symm
    rw [hk] at ho
    injection ho with ho
    subst ho
    cases hc)).trans hk
theorem Below.ofGrown {w A B : World} {row : Option Nat} {H : Nat} (h : Below w.heap.size w A) (hw : w.heap.size ≤ H) (hg : A.grownBy B row) (hr : ∀ r, row = some r → H ≤ r ∧ ∃ o : Obj, A.heap[r]? = some o ∧ o.isCells = false) : Below w.heap.size w B :=
  Below.grown h hg h.size (fun k hk => Nat.le_trans hw (hr k hk).1)
theorem obj_grown {A B : World} {row : Option Nat} {H : Nat} (hg : A.grownBy B row) (hr : ∀ r, row = some r → H ≤ r ∧ ∃ o : Obj, A.heap[r]? = some o ∧ o.isCells = false) {k : Nat} {cur : Array Value} {t : TypeId} {fr : Nat × Nat} (hk : A.heap[k]? = some (.cells cur t fr)) : B.heap[k]? = some (.cells cur t fr) :=
  SameT.ofGrown hg hr (fun _ => True) k cur t fr trivial hk

theorem obj_set1 {w : World} {b : Nat} {x : Value} {t : TypeId} {fr : Nat × Nat} (h : w.heap[b]? = some (.cells #[x] t fr)) (u : Value) : (w.setCell ⟨b, 0, none⟩ u).heap[b]? = some (.cells #[u] t fr) := by
  have := obj_set h 0 u
  simpa using this
theorem Own.rowty {α : Type} {e : TypeId} {size : Nat} {E : Enc α} {w : World} {base : Nat} {v : Value} {xs : List α} (h : Own e size E w base v xs) {b : Nat} (hb : v.ownBlock = some b) : ∃ cur, w.heap[b]? = some (.cells cur e (0, 0)) := by
  obtain ⟨cells, ho, _⟩ := h
  rcases ho.2 with ⟨rfl, _⟩ | ⟨g, cap, cur, rfl, _, hg, _⟩
  · simp [Value.ownBlock] at hb
  · simp [Value.ownBlock] at hb
    subst hb
    exact ⟨cur, hg⟩
/-- what a round must keep for an iterator that reads its captured box anew: what lay below n₀, and the box -/
def KeepBox (n₀ Bs : Nat) (A B : World) : Prop := Below n₀ A B ∧ ∀ u, A.cell? ⟨Bs, 0, none⟩ = some u → B.cell? ⟨Bs, 0, none⟩ = some u
theorem KeepBox.trans {n₀ Bs : Nat} {A B C : World} (h : KeepBox n₀ Bs A B) (k : KeepBox n₀ Bs B C) : KeepBox n₀ Bs A C := ⟨Below.trans h.1 k.1, fun u hu => k.2 u (h.2 u hu)⟩
theorem KeepBox.put {n₀ Bs : Nat} {w : World} (hn : n₀ ≤ w.heap.size) (W : World) (l : Nat) (o o' : Obj) (hl : w.heap.size ≤ l) (ho : W.heap[l]? = some o) (hc : o.isCells = false) (hw : o.isWalk = false) : KeepBox n₀ Bs W (W.putObj l o') := by
  refine ⟨belowK_b (w := w) hn W l o o' hl ho hc hw, fun u hu => ?_⟩
  exact cell_kept hu (grownBy_putObj' W l o') (fun r e => by cases e; exact ⟨_, ho, hc⟩)

theorem wpListIn_append_sl {P : Program} {F : Fence} {nF : Nat} (w : World) {ops : Array Oper} {rest : List Oper} {o : Oper} {a : Act} {Q : Exit → Act → World → Prop} (hgd : o.guard = none) (s x : Operand) (t : TypeId)
    (ho : o.op = .call { callee := .builtin .append, args := #[s, x], argTypes := #[t, t] })
    {α : Type} {E : Enc α} {T : TypeId → Prop} (ok : E.Ok T) (flat : E.Flat) (base : Nat) (e : TypeId) (hTe : ∀ t, T t → t ≠ e) (i : TypeInfo) (z : Value) (size bytes : Nat) (ht : P.underlying t = some (.slice e)) (hi : P.info? e = some i) (hz : i.zero = some z)
    (hsize : i.size = size) (hby : i.bytes = bytes) (hzs : z.cells.size = size) (hsz : 0 < size)
    (v : Value) (hs : a.eval s = v) (xs : List α) (hown : Own e size E w base v xs) (sv : Value) (hx : a.eval x = sv) (ys : List α) (hr : RSl e size E w sv ys)
    (h63 : xs.length + ys.length ≤ 9223372036854775807) (hbytes : (xs.length + ys.length) * bytes ≤ 140737488355328) (hbase : base ≤ w.heap.size)
    (h : ∀ v' w', Own e size E w' base v' (xs ++ ys) → w.grownBy w' v.ownBlock → (v'.ownBlock = v.ownBlock ∨ v'.ownBlock = some w.heap.size) → SameT (fun t => t ≠ e) w w' → wpListIn F nF P ops Q rest (a.put o.dst v') w') : wpListIn F nF P ops Q (o :: rest) a w := by
  refine wpListIn_plain hgd fun K hK => ?_
  obtain ⟨v', w', hr, h2, h3, h4, h5⟩ := run_append_sl (P := P) w ok flat base t o.type e hTe i z size bytes ht hi hz hsize hby hzs hsz v xs hown sv ys hr h63 hbytes hbase
  unfold Oper.wpIn
  refine ⟨by simp [Oper.about, ho, resolve, Target.leads, Sem.run_pure], ?_⟩
  rw [Oper.semAt_plain F _ _ (by rw [ho]; intro c hc'; cases hc')]
  simp only [execOp, ho, resolve, invoke, builtin, Sem.run_bind, Sem.run_pure, Result.andThen_ok, List.map_toArray, List.map_cons, List.map_nil, hs, hx, hr]
  exact hK _ _ (h v' w' h2 h3 h4 h5)

end Go.Proofs.YtfgibhdglbjadaaGreat

/- The reference's nodes that can be closed. -/
namespace Go.Proofs.YtfgibhdglbjadaaGreat
open Go.RowKit
set_option maxRecDepth 4000

theorem inSt_bd {us : List UnitD} {full want h0 : Int} (hw : 0 ≤ want) (hh : 0 ≤ h0 ∧ h0 ≤ 200) (hf : 0 ≤ full) : ∀ m, 0 ≤ (inSt us full want h0 m).1 ∧ (inSt us full want h0 m).1 ≤ 200 ∧ (inSt us full want h0 m).2.length ≤ m
  | 0 => ⟨hh.1, hh.2, by simp [inSt]⟩
  | m + 1 => by
    obtain ⟨h1, h2, h3⟩ := inSt_bd (us := us) (want := want) (full := full) hw hh hf m
    rw [inSt]
    split
    · split
      · rename_i hc
        simp only [Bool.and_eq_true, decide_eq_true_eq] at hc
        refine ⟨by show 0 ≤ (inSt us full want h0 m).1 - full; omega, by show (inSt us full want h0 m).1 - full ≤ 200; omega, ?_⟩
        show ((inSt us full want h0 m).2 ++ [_]).length ≤ _
        rw [List.length_append]
        simp
        omega
      · exact ⟨h1, h2, by omega⟩
    · exact ⟨h1, h2, by omega⟩
theorem inN_ok {C : ClusD} {need : List Int} {want : Int} (h1 : (clusOk C && needOk need) = true) (h2 : inB want 0 999 = true) : inN C need want = (inSt C.units (timesL C.room need) want (spareL C need) C.units.length).2 := by
  unfold inN
  rw [h1, h2]
  rfl
theorem inN_no1 {C : ClusD} {need : List Int} {want : Int} (h1 : (clusOk C && needOk need) = false) : inN C need want = [] := by
  unfold inN
  rw [h1]
  rfl
theorem inN_no2 {C : ClusD} {need : List Int} {want : Int} (h2 : inB want 0 999 = false) : inN C need want = [] := by
  unfold inN
  rw [h2, Bool.and_false]
  rfl

set_option maxHeartbeats 2000000 in
theorem sScaleIn (cv nv : Value) (C : ClusD) (need : List Int) (want : Int) (w : World) (h : ClusV w cv C) (hn : RI w nv need) (hl : C.units.length ≤ 4000000) (hfl : (C.units.map (·.tasks)).flatten.length ≤ 4000000) :
    Calls Tryz.prog 46 #[cv, nv, .int .i64 want] w fun e w' => ∃ v, e = .returned v ∧ OI w' w.heap.size v (inN C need want) ∧ Ext w w' := by
  have h0 := h
  obtain ⟨rv, uv, rfl, hr, hu⟩ := h
  have hr0 := hr
  have hu0 := hu
  obtain ⟨Ar, cr, rfl, _⟩ := hr
  obtain ⟨A, c, rfl, hc, hc', _⟩ := hu
  obtain ⟨W, hW⟩ : ∃ W, W = (w.alloc (.cells #[.slice Ar C.room.length cr, .slice A C.units.length c] 26)).alloc (.cells #[] 3) := ⟨_, rfl⟩
  have hEW : Ext w W := by rw [hW]; exact (Ext.alloc _ _).trans (Ext.alloc _ _)
  have hbx : W.heap[w.heap.size]? = some (.cells #[.slice Ar C.room.length cr, .slice A C.units.length c] 26 (0, 0)) := by rw [hW]; exact (Ext.alloc _ _).obj (heap_alloc_new _ _)
  have hO0 : OI W w.heap.size (.slice (some ⟨w.heap.size + 1, 0, none⟩) 0 0) [] := by rw [hW]; exact Own.madeAt #[] 0 _ (by simp) (Nat.le_succ _) (by omega) rfl
  have hb0 := obj_cell hbx (i := 0) rfl
  have hb1 := obj_cell hbx (i := 1) rfl
  have KC : Hid (∀ w', Ext W w' → w'.cell? ⟨w.heap.size, 0, none⟩ = some (.slice Ar C.room.length cr) ∧ w'.cell? ⟨w.heap.size, 1, none⟩ = some (.slice A C.units.length c)) := hid fun w' hw => ⟨obj_cell (hw.obj hbx) (i := 0) rfl, obj_cell (hw.obj hbx) (i := 1) rfl⟩
  have H0 := hid (h0.ext hEW)
  have HN := hid (hn.ext hEW)
  have HR := hid (hr0.ext hEW)
  have HU0 := hid hu0
  have HBX := hid hbx
  have HEW := hid hEW
  have HO0 := hid hO0
  clear hr0 hu0 h0 hn hEW hbx hO0
  by_cases h1 : (clusOk C && needOk need) = true
  · by_cases h2 : inB want 0 999 = true
    · have hcl : clusOk C = true := by simp only [Bool.and_eq_true] at h1; exact h1.1
      have hnd : needOk need = true := by simp only [Bool.and_eq_true] at h1; exact h1.2
      have HNV := hid (show vecOk need = true by simp only [needOk, Bool.and_eq_true] at hnd; exact hnd.1)
      have HRV := hid (roomOk_vec (clusOk_room hcl))
      have HOUT := hid (inN_ok h1 h2)
      have HSP := hid (show spareN C need = spareL C need by unfold spareN; rw [if_pos h1])
      have hw2 : 0 ≤ want ∧ want ≤ 999 := by simpa [inB] using h2
      obtain ⟨hv1, hv2⟩ := hw2
      have hsb := spare_bd hcl need
      have hfb := full_bd hcl need
      have hlen := (clusOk_len hcl).2
      obtain ⟨sp, hsp⟩ : ∃ sp, spareL C need = sp := ⟨_, rfl⟩
      obtain ⟨fu, hfu⟩ : ∃ fu, timesL C.room need = fu := ⟨_, rfl⟩
      rw [hsp] at hsb
      rw [hfu] at hfb
      have HS := hid hsp
      have HF := hid hfu
      have HBD := hid (fun m => inSt_bd (us := C.units) (want := want) (full := fu) (h0 := sp) hv1 hsb hfb.1 m)
      obtain ⟨i0_int, hi0_int, hz0_int, hz1_int, hz2_int⟩ := info_parts info_int
      clear hcl hnd hsp hfu
      go_enter Tryz.func46, Tryz.ntmps46
      go_wp2_with (first
        | (go_at_call 53; rw [← hW]; refine (sL23Ok _ _ C need _ H0.out HN.out hl hfl).mono ?_; rintro e w1 ⟨rfl, hE1⟩; rw [h1]; obtain ⟨hb0, hb1⟩ := KC.out _ hE1; have HE1 := hid hE1; clear hE1 hW)
        | (go_at_call 80; refine (sIn _ _ _ _).mono ?_; rintro e w2 ⟨rfl, n2, rfl⟩; rw [h2])
        | (go_at_call 18; refine (sSpareCount _ _ C need _ (H0.out.ext (HE1.out.trans (Ext.drewN _ _))) (HN.out.ext (HE1.out.trans (Ext.drewN _ _))) hl hfl).mono ?_; rintro e w3 ⟨rfl, hE3⟩; rw [HSP.out, HS.out]; have HE3 := hid ((HE1.out.trans (Ext.drewN _ _)).trans hE3); obtain ⟨hb0, hb1⟩ := KC.out _ HE3.out; clear hE3)
        | (go_at_call 93; refine (sTimes _ _ C.room need _ (HR.out.ext HE3.out) (HN.out.ext HE3.out) (vecOk_len HRV.out) (vecOk_len HNV.out) (vecOk_nn HRV.out) (vecOk_nn HNV.out)).mono ?_; rintro e w4 ⟨rfl, n4, hw4⟩; rw [HF.out]; have HE4 : Hid (Ext W w4) := hid (by rw [hw4]; exact HE3.out.trans (Ext.drewN _ _)); obtain ⟨hb0, hb1⟩ := KC.out _ HE4.out; clear hw4))
      go_loopw [7, 8, 10] (fun o hv i wr => ∃ (k m : Nat) (h iv : Int) (u : Value), u = o ∧ k + m = C.units.length ∧ i = .int .i64 iv ∧ iv = (k : Int) - 1 ∧ hv = .int .i64 h ∧ 0 ≤ h ∧ h ≤ 200 ∧ Hid (h = (inSt C.units fu want sp m).1) ∧ Hid (OI wr w.heap.size u (inSt C.units fu want sp m).2 ∧ Ext w wr ∧ wr.heap[w.heap.size]? = some (.cells #[.slice Ar C.room.length cr, .slice A C.units.length c] 26 (0, 0)))) (fun _ _ i _ => (intOf i + 1).toNat)
      case atStart => exact ⟨C.units.length, 0, sp, _, _, rfl, rfl, rfl, rfl, rfl, hsb.1, hsb.2, hid rfl, hid ⟨Own.ext EI.ok HO0.out HE4.out, HEW.out.trans HE4.out, HE4.out.obj HBX.out⟩⟩
      case round =>
        obtain ⟨k, m, h, iv, u, hu, hkm, rfl, hiv, rfl, hh0, hh1, HH, H⟩ := hrel
        subst hu
        obtain ⟨Au, cu, rfl, _, _⟩ := H.out.1.form
        obtain ⟨ln, hln⟩ : ∃ ln, ln = (inSt C.units fu want sp m).2.length := ⟨_, rfl⟩
        rw [← hln] at H ⊢
        have HL := hid hln
        clear hln
        have b0 := obj_cell H.out.2.2 (i := 0) rfl
        have b1 := obj_cell H.out.2.2 (i := 1) rfl
        by_cases hk : 0 < k
        · obtain ⟨j, rfl⟩ : ∃ j, k = j + 1 := ⟨k - 1, by omega⟩
          have hiv2 : iv = (j : Int) := by omega
          subst hiv2
          clear hiv
          obtain ⟨A', c', hv, _, _, hg⟩ := (RU.ext HU0.out H.out.2.1).get
          injection hv with e1 e2 e3
          subst e1 e3
          obtain ⟨b, o, x, An, cn, rfl, e, c1, c2, _⟩ := hg j (by omega)
          have i1 : (0 : Int) ≤ (j : Int) := by omega
          have i2 : (j : Int) < (C.units.length : Int) := by omega
          have HST := hid (inSt_succ (full := fu) (want := want) (h0 := sp) e.out (show j + 1 + m = C.units.length by omega))
          clear hg e2
          by_cases ho : x.opened = true
          · by_cases ht : x.tasks.length = 0
            · have ht0 : (x.tasks.length : Int) = 0 := by omega
              by_cases hw : want ≤ h - fu
              · have HNX : Hid (inSt C.units fu want sp (m + 1) = (h - fu, (inSt C.units fu want sp m).2 ++ [(j : Int)])) := hid (by
                  rw [HST.out, ho, List.isEmpty_iff.2 (List.eq_nil_of_length_eq_zero ht), ← HH.out]
                  simp [hw])
                have HVa := hid (Own.ext EI.ok H.out.1 (Ext.alloc wr (.cells #[.int .i64 (j : Int)] 3)))
                have HEa := hid (H.out.2.1.trans (Ext.alloc wr (.cells #[.int .i64 (j : Int)] 3)))
                have HBa := hid ((Ext.alloc wr (.cells #[.int .i64 (j : Int)] 3)).obj H.out.2.2)
                have hsza := H.out.2.1.size
                have HLN := hid (HBD.out m).2.2
                have ht0' : x.tasks.length = 0 := ht
                clear HST
                go_wp2_with (at_builtin; refine wpList_append_sl _ (by rfl) _ _ 23 (by rfl) EI.ok EI.flat (w.heap.size) 3 EI.ne i0_int _ 1 8 Tryz.underlying23 hi0_int hz0_int hz1_int hz2_int rfl (by omega) _ (by rfl) _ (HVa.out) _ (by rfl) _ (RI.lit wr [(j : Int)] (by simp)) (by have := HLN.out; simp; omega) (by have := HLN.out; simp; omega) ?_ ?_; (focus (first | exact Nat.le_refl _ | (simp; done) | (simp; omega) | omega)); intro v4 w4 hO4 hg4 hat4 hs4; have HO4 := hid hO4; have HE5 := hid (Ext.grown HEa.out hg4 HVa.out.lt); have HB5 := hid (hs4 _ _ _ _ (by decide) HBa.out); clear hO4 hg4 hat4 hs4)
                go_roundw
                case rel => exact ⟨j, m + 1, h - fu, _, v4, rfl, by omega, by go_num, rfl, by go_num, by omega, by omega, hid (by rw [HNX.out]), hid ⟨by rw [HNX.out]; exact HO4.out, HE5.out, HB5.out⟩⟩
                case measure => simp [intOf]
              · have HNX : Hid (inSt C.units fu want sp (m + 1) = inSt C.units fu want sp m) := hid (by rw [HST.out, ← HH.out]; simp [hw])
                clear HST
                go_wp2
                go_roundw
                case rel => exact ⟨j, m + 1, h, _, _, rfl, by omega, by go_num, rfl, rfl, hh0, hh1, hid (by rw [HNX.out]; exact HH.out), hid (by rw [HNX.out]; exact H.out)⟩
                case measure => simp [intOf]
            · have ht0 : ¬ (x.tasks.length : Int) = 0 := by omega
              have HNX : Hid (inSt C.units fu want sp (m + 1) = inSt C.units fu want sp m) := hid (by
                have : x.tasks.isEmpty = false := by cases h : x.tasks with | nil => rw [h] at ht; simp at ht | cons a b => rfl
                rw [HST.out, this]; simp)
              clear HST
              go_wp2
              go_roundw
              case rel => exact ⟨j, m + 1, h, _, _, rfl, by omega, by go_num, rfl, rfl, hh0, hh1, hid (by rw [HNX.out]; exact HH.out), hid (by rw [HNX.out]; exact H.out)⟩
              case measure => simp [intOf]
          · have ho : x.opened = false := by simpa using ho
            have HNX : Hid (inSt C.units fu want sp (m + 1) = inSt C.units fu want sp m) := hid (by rw [HST.out, ho]; simp)
            clear HST
            go_wp2
            go_roundw
            case rel => exact ⟨j, m + 1, h, _, _, rfl, by omega, by go_num, rfl, rfl, hh0, hh1, hid (by rw [HNX.out]; exact HH.out), hid (by rw [HNX.out]; exact H.out)⟩
            case measure => simp [intOf]
        · have hiv : iv = -1 := by omega
          subst hiv
          go_wp2
          go_ret
          have hm : m = C.units.length := by omega
          subst hm
          exact ⟨_, rfl, by rw [HOUT.out, HS.out, HF.out]; exact H.out.1, H.out.2.1⟩
    · have h2 : inB want 0 999 = false := by simpa using h2
      have HOUT := hid (inN_no2 (C := C) (need := need) h2)
      go_enter Tryz.func46, Tryz.ntmps46
      go_wp2_with (first
        | (go_at_call 53; rw [← hW]; refine (sL23Ok _ _ C need _ H0.out HN.out hl hfl).mono ?_; rintro e w1 ⟨rfl, hE1⟩; rw [h1])
        | (go_at_call 80; refine (sIn _ _ _ _).mono ?_; rintro e w2 ⟨rfl, n2, rfl⟩; rw [h2]))
      go_ret
      exact ⟨_, rfl, by rw [HOUT.out]; exact Own.ext EI.ok HO0.out (hE1.trans (Ext.drewN _ _)), HEW.out.trans (hE1.trans (Ext.drewN _ _))⟩
  · have h1 : (clusOk C && needOk need) = false := by simpa using h1
    have HOUT := hid (inN_no1 (want := want) h1)
    go_enter Tryz.func46, Tryz.ntmps46
    go_wp2_with (go_at_call 53; rw [← hW]; refine (sL23Ok _ _ C need _ H0.out HN.out hl hfl).mono ?_; rintro e w1 ⟨rfl, hE1⟩; rw [h1])
    go_ret
    exact ⟨_, rfl, by rw [HOUT.out]; exact Own.ext EI.ok HO0.out hE1, HEW.out.trans hE1⟩

end Go.Proofs.YtfgibhdglbjadaaGreat

/- slices.Backward over nodes: its contract as an iterator. -/
namespace Go.Proofs.YtfgibhdglbjadaaGreat
open Go.RowKit
set_option maxRecDepth 4000
attribute [local go_sem] Oper.semAt_some

theorem iBackward (A : Option Addr) (n c : Nat) (w : World) :
    Calls Tryz.prog 97 #[.slice A n c] w fun e w' => e = .returned (.func (.func 141) #[] #[.pointer (some ⟨w.heap.size, 0, none⟩)]) ∧ w' = w.alloc (.cells #[.slice A n c] 24) := by
  go_enter Tryz.func97, Tryz.ntmps97
  go_wp2
  go_ret
  exact ⟨rfl, rfl⟩

/-- a node, its index, and where its tasks lie -/
abbrev UAt (us : List UnitD) := { p : Nat × UnitD × Option Addr × Nat // us[p.1]? = some p.2.1 }
def encU {us : List UnitD} (x : UAt us) : Array Value := #[.int .i64 (x.1.1 : Int), .agg #[.bool x.1.2.1.opened, .slice x.1.2.2.1 x.1.2.1.tasks.length x.1.2.2.2]]

set_option maxRecDepth 100000 in
set_option maxHeartbeats 4000000 in
theorem backward1_in (F : Fence) (n : Nat) (h8 : F.fn 141) (hro : F.round = none) (hn : 1 ≤ n) (l Bs n₀ : Nat) (A : Option Addr) (c : Nat) (us : List UnitD) (hlen : us.length ≤ 4000000) (w0 : World) (hu : RU w0 (.slice A us.length c) us) (hn0 : w0.heap.size ≤ n₀) (J Jx : List (UAt us) → World → Prop)
    (hY : ∀ pre x W, J pre W → pre.length < us.length → YieldAt F (n - 1) Tryz.prog l (encU x) W fun e W' =>
      (e = .returned (.bool true) ∧ J (pre ++ [x]) W' ∧ KeepBox n₀ Bs W W') ∨ (e = .returned (.bool false) ∧ Jx (pre ++ [x]) W'))
    (W : World) (hW : Below w0.heap.size w0 W) (hBs : W.cell? ⟨Bs, 0, none⟩ = some (.slice A us.length c)) (h0 : J [] W) :
    CallsIn F n Tryz.prog 141 #[.func (.yield l) #[] #[], .pointer (some ⟨Bs, 0, none⟩)] W fun e W' => (∃ v, e = .returned v) ∧
      ((∃ ys, (ys.map fun x : UAt us => x.1.1) = ((List.range us.length).map fun k => us.length - 1 - k) ∧ J ys W') ∨ (∃ pre, True ∧ Jx pre W')) := by
  refine callsIn_of_wp Tryz.func141 rfl h8 ?_ hro
  simp only [Tryz.ntmps141, List.size_toArray, List.length_cons, List.length_nil, Nat.reduceAdd, Nat.reduceSub, Array.replicate_succ, Array.replicate_zero, List.push_toArray, List.append_toArray, List.nil_append, List.cons_append]
  gi_wp2
  gi_loopw [3] (fun i wr => ∃ (k m : Nat) (iv : Int) (pre : List (UAt us)), k + m = us.length ∧ i = .int .i64 iv ∧ iv = (k : Int) - 1 ∧ Hid (pre.length = m ∧ (pre.map fun x : UAt us => x.1.1) = ((List.range m).map fun k => us.length - 1 - k) ∧ J pre wr ∧ Below w0.heap.size w0 wr) ∧ wr.cell? ⟨Bs, 0, none⟩ = some (.slice A us.length c)) (fun i _ => (intOf i + 1).toNat)
  case atStart => exact ⟨us.length, 0, _, [], rfl, rfl, rfl, hid ⟨rfl, rfl, h0, hW⟩, hBs⟩
  case round =>
    obtain ⟨k, m, iv, pre, hkm, rfl, hiv, H, hb⟩ := hrel
    by_cases hk : 0 < k
    · obtain ⟨j, rfl⟩ : ∃ j, k = j + 1 := ⟨k - 1, by omega⟩
      have hiv2 : iv = (j : Int) := by omega
      subst hiv2
      clear hiv
      obtain ⟨A', c', hv, _, _, hg⟩ := (RU.ext hu H.out.2.2.2).get
      injection hv with e1 e2 e3
      subst e1 e3
      obtain ⟨b, o, x, An, cn, rfl, e, c1, c2, _⟩ := hg j (by omega)
      have i1 : (0 : Int) ≤ (j : Int) := by omega
      have i2 : (j : Int) < (us.length : Int) := by omega
      clear hg e2
      obtain ⟨fn, tmps, assign, body, hy, hR⟩ := hY pre ⟨(j, x, An, cn), e.out⟩ wr H.out.2.2.1 (by rw [H.out.1]; omega)
      dsimp only [encU] at hy
      gi_wp2
      refine hR.mono ?_
      rintro e' W3 (⟨rfl, hJ3, hk3⟩ | ⟨rfl, hJx3⟩)
      · have hb3 := hk3.2 _ hb
        gi_wp2
        go_roundw
        case rel =>
          refine ⟨j, m + 1, _, pre ++ [⟨(j, x, An, cn), e.out⟩], by omega, by go_num, rfl, hid ⟨by rw [List.length_append, H.out.1]; rfl, ?_, hJ3, Below.trans H.out.2.2.2 (hk3.1.mono hn0)⟩, hb3⟩
          rw [List.map_append, H.out.2.1, List.range_succ, List.map_append]
          show _ ++ [j] = _ ++ [us.length - 1 - m]
          rw [show us.length - 1 - m = j by omega]
        case measure => simp [intOf]
      · gi_wp2
        refine bodyPost_ret (results_none rfl _ _ _) rfl ?_
        exact ⟨⟨_, rfl⟩, .inr ⟨_, trivial, hJx3⟩⟩
    · have hiv2 : iv = -1 := by omega
      subst hiv2
      clear hiv
      gi_wp2
      go_end0
      have hm : m = us.length := by omega
      subst hm
      exact ⟨⟨_, rfl⟩, .inl ⟨pre, H.out.2.1, H.out.2.2.1⟩⟩

theorem backward_stops (F : Fence) (n : Nat) (h8 : F.fn 141) (hro : F.round = none) (hn : 1 ≤ n) (Bs n₀ : Nat) (A : Option Addr) (c : Nat) (us : List UnitD) (hlen : us.length ≤ 4000000) (w0 w : World) (hu : RU w0 (.slice A us.length c) us) (hn0 : w0.heap.size ≤ n₀) (hE : Below w0.heap.size w0 w) (hBw : Bs < w.heap.size) (hBs : w.cell? ⟨Bs, 0, none⟩ = some (.slice A us.length c)) :
    SeqStopsK F n Tryz.prog 141 #[.pointer (some ⟨Bs, 0, none⟩)] (encU (us := us)) (KeepBox n₀ Bs) (fun ys => (ys.map fun x : UAt us => x.1.1) = ((List.range us.length).map fun k => us.length - 1 - k)) (fun _ => True) us.length w := fun l J Jx W hW _ _ hY h0 =>
  backward1_in F n h8 hro hn l Bs n₀ A c us hlen w0 hu hn0 J Jx hY W (Below.trans hE (hW.mono hE.size)) ((hW.cell (p := ⟨Bs, 0, none⟩) hBw).trans hBs) h0

end Go.Proofs.YtfgibhdglbjadaaGreat

/- The program's nodes that can be closed. -/
namespace Go.Proofs.YtfgibhdglbjadaaGreat
open Go.RowKit
set_option maxRecDepth 4000
attribute [local go_sem] Oper.semAt_some

def stepU {us : List UnitD} (full want : Int) (st : Int × List Int) (x : UAt us) : Int × List Int :=
  if x.1.2.1.opened && x.1.2.1.tasks.isEmpty && decide (want ≤ st.1 - full) then (st.1 - full, st.2 ++ [(x.1.1 : Int)]) else st
def foldU {us : List UnitD} (full want h0 : Int) (pre : List (UAt us)) : Int × List Int := pre.foldl (stepU full want) (h0, [])
theorem foldU_snoc {us : List UnitD} (full want h0 : Int) (pre : List (UAt us)) (x : UAt us) : foldU full want h0 (pre ++ [x]) = stepU full want (foldU full want h0 pre) x := by simp [foldU]
theorem stepU_bd {us : List UnitD} {full want : Int} (hw : 0 ≤ want) (hf : 0 ≤ full) (st : Int × List Int) (x : UAt us) (n : Nat) (h : 0 ≤ st.1 ∧ st.1 ≤ 200 ∧ st.2.length ≤ n) : 0 ≤ (stepU full want st x).1 ∧ (stepU full want st x).1 ≤ 200 ∧ (stepU full want st x).2.length ≤ n + 1 := by
  unfold stepU
  split
  · rename_i hc
    simp only [Bool.and_eq_true, decide_eq_true_eq] at hc
    refine ⟨by show 0 ≤ st.1 - full; omega, by show st.1 - full ≤ 200; omega, ?_⟩
    show (st.2 ++ [_]).length ≤ _
    rw [List.length_append]
    simp
    omega
  · exact ⟨h.1, h.2.1, by omega⟩
theorem foldU_bd {us : List UnitD} {full want h0 : Int} (hw : 0 ≤ want) (hh : 0 ≤ h0 ∧ h0 ≤ 200) (hf : 0 ≤ full) (pre : List (UAt us)) : 0 ≤ (foldU full want h0 pre).1 ∧ (foldU full want h0 pre).1 ≤ 200 ∧ (foldU full want h0 pre).2.length ≤ pre.length := by
  have gen : ∀ (pre : List (UAt us)) (st : Int × List Int) (n : Nat), 0 ≤ st.1 ∧ st.1 ≤ 200 ∧ st.2.length ≤ n → 0 ≤ (pre.foldl (stepU full want) st).1 ∧ (pre.foldl (stepU full want) st).1 ≤ 200 ∧ (pre.foldl (stepU full want) st).2.length ≤ n + pre.length := by
    intro pre
    induction pre with
    | nil => intro st n h; exact h
    | cons x pre ih =>
      intro st n h
      have := ih (stepU full want st x) (n + 1) (stepU_bd hw hf st x n h)
      rw [List.foldl_cons, List.length_cons]
      omega
  have := gen pre (h0, []) 0 ⟨hh.1, hh.2, by simp⟩
  rw [Nat.zero_add] at this
  exact this
theorem foldU_all {us : List UnitD} (full want h0 : Int) : ∀ (m : Nat) (ys : List (UAt us)), m ≤ us.length → (ys.map fun x : UAt us => x.1.1) = ((List.range m).map fun k => us.length - 1 - k) → foldU full want h0 ys = inSt us full want h0 m
  | 0, ys, _, h => by
    have : ys = [] := by simpa using h
    subst this
    rfl
  | m + 1, ys, hm, h => by
    have hl : ys.length = m + 1 := by have := congrArg List.length h; simpa using this
    obtain ⟨zs, y, rfl⟩ : ∃ zs y, ys = zs ++ [y] := ⟨ys.dropLast, ys.getLast (by intro h; rw [h] at hl; simp at hl), (List.dropLast_concat_getLast _).symm⟩
    rw [List.range_succ, List.map_append, List.map_append] at h
    have h2 := List.append_inj' h rfl
    have ih := foldU_all full want h0 m zs (by omega) h2.1
    have hy : y.1.1 = us.length - 1 - m := by have := h2.2; simpa using this
    have hu := y.2
    rw [hy] at hu
    rw [foldU_snoc, ih, inSt, hu]
    unfold stepU
    rw [hy]
/-- what the loop's own boxes hold -/
def ISin (w : World) (C : ClusD) (fu want sp : Int) (B8 B9 Bs : Nat) (sv : Value) (pre : List (UAt C.units)) (X : World) : Prop := ∃ v, X.heap[w.heap.size + 1]? = some (.cells #[.int .i64 want] 3 (0, 0)) ∧ X.heap[w.heap.size + 3]? = some (.cells #[v] 23 (0, 0)) ∧ X.heap[B8]? = some (.cells #[.int .i64 (foldU fu want sp pre).1] 3 (0, 0)) ∧ X.heap[B9]? = some (.cells #[.int .i64 fu] 3 (0, 0)) ∧ X.heap[Bs]? = some (.cells #[sv] 24 (0, 0)) ∧ OI X w.heap.size v (foldU fu want sp pre).2 ∧ Ext w X ∧ ∀ g, v.ownBlock = some g → g ≠ w.heap.size + 1 ∧ g ≠ B8 ∧ g ≠ B9
theorem ISin.same {w : World} {C : ClusD} {fu want sp : Int} {B8 B9 Bs : Nat} {sv : Value} {pre : List (UAt C.units)} {X Y : World} (h : ISin w C fu want sp B8 B9 Bs sv pre X) (hs : SameT (fun _ => True) X Y) (hE : Ext w Y) : ISin w C fu want sp B8 B9 Bs sv pre Y := by
  obtain ⟨v, h1, h2, h3, h4, h5, h6, _, h8⟩ := h
  exact ⟨v, hs _ _ _ _ trivial h1, hs _ _ _ _ trivial h2, hs _ _ _ _ trivial h3, hs _ _ _ _ trivial h4, hs _ _ _ _ trivial h5, Own.same EI.ok h6 (hs.mono (fun _ _ => trivial)), hE, h8⟩
theorem ISin.eq {w : World} {C : ClusD} {fu want sp : Int} {B8 B9 Bs : Nat} {sv : Value} {pre pre' : List (UAt C.units)} {X : World} (h : ISin w C fu want sp B8 B9 Bs sv pre X) (e : foldU fu want sp pre' = foldU fu want sp pre) : ISin w C fu want sp B8 B9 Bs sv pre' X := by
  obtain ⟨v, h1, h2, h3, h4, h5, h6, h7, h8⟩ := h
  exact ⟨v, h1, h2, by rw [e]; exact h3, h4, h5, by rw [e]; exact h6, h7, h8⟩
theorem ISin.box {w : World} {C : ClusD} {fu want sp : Int} {B8 B9 Bs : Nat} {sv : Value} {pre : List (UAt C.units)} {X : World} (h : ISin w C fu want sp B8 B9 Bs sv pre X) : X.cell? ⟨Bs, 0, none⟩ = some sv := let ⟨_, _, _, _, _, h5, _⟩ := h; obj_cell h5 (i := 0) rfl
theorem ISin.lt {w : World} {C : ClusD} {fu want sp : Int} {B8 B9 Bs : Nat} {sv : Value} {pre : List (UAt C.units)} {X : World} (h : ISin w C fu want sp B8 B9 Bs sv pre X) : Bs < X.heap.size := let ⟨_, _, _, _, _, h5, _⟩ := h; obj_lt h5
theorem ISin.ext {w : World} {C : ClusD} {fu want sp : Int} {B8 B9 Bs : Nat} {sv : Value} {pre : List (UAt C.units)} {X : World} (h : ISin w C fu want sp B8 B9 Bs sv pre X) : Ext w X := let ⟨_, _, _, _, _, _, _, h7, _⟩ := h; h7
theorem ISin.keep {w : World} {C : ClusD} {fu want sp : Int} {B8 B9 Bs : Nat} {sv : Value} {pre pre' : List (UAt C.units)} {X Y : World} (h : ISin w C fu want sp B8 B9 Bs sv pre X) (k : ISin w C fu want sp B8 B9 Bs sv pre' Y) (hb : Below w.heap.size X Y) : KeepBox w.heap.size Bs X Y :=
  ⟨hb, fun u hu => by rw [h.box] at hu; injection hu with hu; subst hu; exact k.box⟩

set_option maxRecDepth 100000 in
set_option maxHeartbeats 16000000 in
theorem iScaleIn (cv nv : Value) (C : ClusD) (need : List Int) (want : Int) (w : World) (h : ClusV w cv C) (hn : RI w nv need) (hl : C.units.length ≤ 4000000) (hfl : (C.units.map (·.tasks)).flatten.length ≤ 4000000) (hid' : ∀ t ∈ (C.units.map (·.tasks)).flatten, IdR t.id) :
    Calls Tryz.prog 45 #[cv, nv, .int .i64 want] w fun e w' => ∃ v, e = .returned v ∧ OI w' w.heap.size v (inN C need want) ∧ Ext w w' := by
  have h0 := h
  obtain ⟨rv, uv, rfl, hr, hu⟩ := h
  have hr0 := hr
  have hu0 := hu
  obtain ⟨Ar, cr, rfl, _⟩ := hr
  obtain ⟨A, c, rfl, hc, hc', _⟩ := hu
  obtain ⟨W, hW⟩ : ∃ W, W = (((w.alloc (.cells #[.slice Ar C.room.length cr, .slice A C.units.length c] 26)).alloc (.cells #[.int .i64 want] 3)).alloc (.cells #[] 3)).alloc (.cells #[.slice (some ⟨w.heap.size + 2, 0, none⟩) 0 0] 23) := ⟨_, rfl⟩
  have hEW : Ext w W := by rw [hW]; exact (((Ext.alloc _ _).trans (Ext.alloc _ _)).trans (Ext.alloc _ _)).trans (Ext.alloc _ _)
  have hx0 : W.heap[w.heap.size]? = some (.cells #[.slice Ar C.room.length cr, .slice A C.units.length c] 26 (0, 0)) := by rw [hW]; exact (Ext.alloc _ _).obj ((Ext.alloc _ _).obj ((Ext.alloc _ _).obj (heap_alloc_new _ _)))
  have hx5 : W.heap[w.heap.size + 1]? = some (.cells #[.int .i64 want] 3 (0, 0)) := by rw [hW]; exact (Ext.alloc _ _).obj ((Ext.alloc _ _).obj (heap_new (by simp)))
  have hx7 : W.heap[w.heap.size + 3]? = some (.cells #[.slice (some ⟨w.heap.size + 2, 0, none⟩) 0 0] 23 (0, 0)) := by rw [hW]; exact heap_new (by simp)
  have hO0 : OI W w.heap.size (.slice (some ⟨w.heap.size + 2, 0, none⟩) 0 0) [] := by rw [hW]; exact Own.ext EI.ok (Own.madeAt #[] 0 _ (by simp) (by omega) (by omega) rfl) (Ext.alloc _ _)
  have hzW : W.heap.size = w.heap.size + 4 := by rw [hW]; simp
  have KC : Hid (∀ w', Ext W w' → w'.cell? ⟨w.heap.size, 0, none⟩ = some (.slice Ar C.room.length cr) ∧ w'.cell? ⟨w.heap.size, 1, none⟩ = some (.slice A C.units.length c) ∧ w'.cell? ⟨w.heap.size + 1, 0, none⟩ = some (.int .i64 want) ∧ w'.cell? ⟨w.heap.size + 3, 0, none⟩ = some (.slice (some ⟨w.heap.size + 2, 0, none⟩) 0 0)) := hid fun w' hw => ⟨obj_cell (hw.obj hx0) (i := 0) rfl, obj_cell (hw.obj hx0) (i := 1) rfl, obj_cell (hw.obj hx5) (i := 0) rfl, obj_cell (hw.obj hx7) (i := 0) rfl⟩
  obtain ⟨hb0, hb1, hb5, hb7⟩ := KC.out _ (Ext.refl _)
  have H0 := hid (h0.ext hEW)
  have HN := hid (hn.ext hEW)
  have HR := hid (hr0.ext hEW)
  have HU0 := hid hu0
  have HEW := hid hEW
  have HO0 := hid hO0
  have HX5 := hid hx5
  have HX7 := hid hx7
  have HZW := hid hzW
  clear hr0 hu0 h0 hn hEW hO0 hx0 hx5 hx7 hzW
  refine (callsIn_wide (n := 4)).1 ?_
  refine callsIn_of_wp_marks Tryz.func45 rfl trivial ?_ rfl
  refine wpIn_wide.2 ?_
  simp only [Tryz.ntmps45, List.size_toArray, List.length_cons, List.length_nil, Nat.reduceAdd, Nat.reduceSub, Array.replicate_succ, Array.replicate_zero, List.push_toArray, List.append_toArray, List.nil_append, List.cons_append]
  by_cases h1 : clusOk C = true
  · by_cases h2 : needOk need = true
    · have hok : (clusOk C && needOk need) = true := by rw [h1, h2]; rfl
      by_cases h3 : inB want 0 999 = true
      · have HCL := hid h1
        have HNV := hid (show vecOk need = true by simp only [needOk, Bool.and_eq_true] at h2; exact h2.1)
        have HRV := hid (roomOk_vec (clusOk_room h1))
        have HOUT := hid (inN_ok hok h3)
        have hw2 : 0 ≤ want ∧ want ≤ 999 := by simpa [inB] using h3
        obtain ⟨hv1, hv2⟩ := hw2
        have hsb := spare_bd h1 need
        have hfb := full_bd h1 need
        have hlen := (clusOk_len h1).2
        obtain ⟨sp, hsp⟩ : ∃ sp, spareL C need = sp := ⟨_, rfl⟩
        obtain ⟨fu, hfu⟩ : ∃ fu, timesL C.room need = fu := ⟨_, rfl⟩
        rw [hsp] at hsb
        rw [hfu] at hfb
        have HS := hid hsp
        have HF := hid (show timesL (leftL C.room []) need = fu by rw [leftL_nil (vecOk_len HRV.out)]; exact hfu)
        have HF0 := hid hfu
        clear hsp hfu hok
        go_wp2_with (first
          | (go_at_call 37; rw [← hW]; refine (iClusterValid _ C _ H0.out hl hfl hid').mono ?_; rintro e w1 ⟨rfl, hE1⟩; rw [h1]; obtain ⟨hb0, hb1, hb5, hb7⟩ := KC.out _ hE1; have HE1 := hid hE1; clear hE1 hW)
          | (go_at_call 51; refine (iNeedValid _ need _ (HN.out.ext HE1.out)).mono ?_; rintro e w2 ⟨rfl, n2, rfl⟩; rw [h2])
          | (go_at_call 82; refine (iWithin _ _ _ _).mono ?_; rintro e w3 ⟨rfl, n3, hw3⟩; rw [h3]; have HE2 : Hid (Ext W w3) := hid (by rw [hw3]; exact (HE1.out.trans (Ext.drewN _ _)).trans (Ext.drewN _ _)); obtain ⟨hb0, hb1, hb5, hb7⟩ := KC.out _ HE2.out; clear hw3))
        refine join_at (fun a w' => ∃ (B8 B9 : Nat) (x0 x1 x2 x4 x10 x11 x12 x13 x14 x15 x16 x17 x18 x19 x20 x21 x22 x23 x24 x25 x26 x27 x28 x29 x30 x31 x32 x33 x34 x35 x36 x37 x38 x39 x40 x41 x42 x43 x44 x45 x46 x47 x48 x49 x50 x51 x52 x53 x54 x55 x56 x57 x58 x59 x60 x61 x62 : Value), a = { tmps := #[x0, x1, x2, .pointer (some ⟨w.heap.size, 0, none⟩), x4, .pointer (some ⟨w.heap.size + 1, 0, none⟩), .slice none 0 0, .pointer (some ⟨w.heap.size + 3, 0, none⟩), .pointer (some ⟨B8, 0, none⟩), .pointer (some ⟨B9, 0, none⟩), x10, x11, x12, x13, x14, x15, x16, x17, x18, x19, x20, x21, x22, x23, x24, x25, x26, x27, x28, x29, x30, x31, x32, x33, x34, x35, x36, x37, x38, x39, x40, x41, x42, x43, x44, x45, x46, x47, x48, x49, x50, x51, x52, x53, x54, x55, x56, x57, x58, x59, x60, x61, x62], defers := [] } ∧ (w'.heap[B8]? = some (.cells #[.int .i64 sp] 3 (0, 0)) ∧ w'.heap[B9]? = some (.cells #[.int .i64 fu] 3 (0, 0)) ∧ B8 ≠ B9 ∧ w3.heap.size ≤ B8 ∧ w3.heap.size ≤ B9 ∧ Ext w3 w')) (fun JP hJP => ?_) ?_
        rotate_left
        · rintro a w6 ⟨B8, B9, x0, x1, x2, x4, x10, x11, x12, x13, x14, x15, x16, x17, x18, x19, x20, x21, x22, x23, x24, x25, x26, x27, x28, x29, x30, x31, x32, x33, x34, x35, x36, x37, x38, x39, x40, x41, x42, x43, x44, x45, x46, x47, x48, x49, x50, x51, x52, x53, x54, x55, x56, x57, x58, x59, x60, x61, x62, rfl, j8, j9, j89, jl8, jl9, jE⟩
          have HJ8 := hid j8
          have HJ9 := hid j9
          have HJE := hid (HE2.out.trans jE)
          have HL8 : Hid (W.heap.size ≤ B8) := hid (Nat.le_trans HE2.out.size jl8)
          have HL9 : Hid (W.heap.size ≤ B9) := hid (Nat.le_trans HE2.out.size jl9)
          have HJL : Hid (B8 < w6.heap.size ∧ B9 < w6.heap.size) := hid ⟨obj_lt j8, obj_lt j9⟩
          obtain ⟨hb0, hb1, hb5, hb7⟩ := KC.out _ HJE.out
          clear j8 j9 jE jl8 jl9
          go_wp2_with (go_at_call 97; refine (iBackward _ _ _ _).mono ?_; rintro e w7 ⟨rfl, rfl⟩)
          obtain ⟨W7, hW7⟩ : ∃ W7, W7 = w6.alloc (.cells #[.slice A C.units.length c] 24) := ⟨_, rfl⟩
          have hE7 : Ext w6 W7 := by rw [hW7]; exact Ext.alloc _ _
          have hx8 : W7.heap[w6.heap.size]? = some (.cells #[.slice A C.units.length c] 24 (0, 0)) := by rw [hW7]; exact heap_alloc_new _ _
          have hz7 : W7.heap.size = w6.heap.size + 1 := by rw [hW7]; simp
          rw [← hW7]
          clear hW7
          have hz6 : W.heap.size ≤ w6.heap.size := HJE.out.size
          have hzW := HZW.out
          have hl8 := HL8.out
          have hl9 := HL9.out
          have hjl := HJL.out
          have hE07 : Ext w W7 := HEW.out.trans (HJE.out.trans hE7)
          refine wpIn_wide.1 (wpIn_rangeFunc_ownH (F := Fence.wide) (n := 4) rfl (by omega) (gf := 141) (lb := #[.pointer (some ⟨w6.heap.size, 0, none⟩)]) rfl trivial (enters_of Tryz.func141 (by kernel_rfl) rfl)
            (backward_stops Fence.wide 3 trivial rfl (by omega) w6.heap.size w.heap.size A c C.units hl w W7 HU0.out (Nat.le_refl _) hE07 (by omega) (obj_cell hx8 (i := 0) rfl))
            KeepBox.trans (KeepBox.put hE07.size) (Below.refl _ _) (fun _ => rfl)
            (ISin w C fu want sp B8 B9 w6.heap.size (.slice A C.units.length c)) (fun _ _ _ => False)
            (fun s X Y row hs hg hr => hs.same (SameT.ofGrown hg hr _) (Below.ofGrown hs.ext hE07.size hg hr))
            (fun _ _ _ _ _ hs _ _ => hs)
            ⟨_, hE7.obj (HJE.out.obj HX5.out), hE7.obj (HJE.out.obj HX7.out), hE7.obj HJ8.out, hE7.obj HJ9.out, hx8, Own.ext EI.ok HO0.out (HJE.out.trans hE7), hE07, fun g hg => by simp [Value.ownBlock] at hg; omega⟩
            (fun x a' X => ∃ (Bx : Nat) (y35 y36 y37 y38 y39 : Value), W7.heap.size ≤ Bx ∧ X.heap[Bx]? = some (.cells #[.bool x.1.2.1.opened, .slice x.1.2.2.1 x.1.2.1.tasks.length x.1.2.2.2] 57 (0, 0)) ∧ a' = { tmps := #[x0, x1, x2, .pointer (some ⟨w.heap.size, 0, none⟩), x4, .pointer (some ⟨w.heap.size + 1, 0, none⟩), .slice none 0 0, .pointer (some ⟨w.heap.size + 3, 0, none⟩), .pointer (some ⟨B8, 0, none⟩), .pointer (some ⟨B9, 0, none⟩), .int .i64 (x.1.1 : Int), .pointer (some ⟨Bx, 0, none⟩), x12, x13, x14, x15, x16, x17, x18, x19, x20, x21, x22, x23, x24, x25, x26, x27, x28, x29, x30, x31, x32, x33, x34, y35, y36, y37, y38, y39, x40, x41, x42, x43, x44, x45, x46, x47, x48, x49, x50, x51, x52, x53, x54, x55, x56, x57, x58, x59, x60, x61, x62], defers := [] })
            (fun x a' s X Y row hs hg hr => by
              obtain ⟨Bx, y35, y36, y37, y38, y39, k1, k2, k3⟩ := hs
              exact ⟨Bx, y35, y36, y37, y38, y39, k1, obj_grown hg hr k2, k3⟩) ?assign ?body ?done ?stop)
          case assign =>
            rintro l pre ⟨⟨k, ⟨op, ts⟩, An, cn⟩, hx⟩ X K hi hK
            dsimp only [encU]
            gi_wp2
            have hEx : Ext X (X.alloc (.cells #[.bool op, .slice An ts.length cn] 57)) := Ext.alloc _ _
            have hEw : Ext w X := hi.ext
            have hi2 := hi.same (hEx.same _) (hEw.trans hEx)
            exact hK _ _ ((KeepsOthers.alloc _ _).from _) (hi.keep hi2 (hEx.mono hEw.size)) hi2 ⟨_, _, _, _, _, _, (by have := hi.lt; omega), heap_alloc_new _ _, rfl⟩
          case body =>
            rintro l pre ⟨⟨k, ⟨op, ts⟩, An, cn⟩, hx⟩ a' X hl2 hrec hI ⟨Bx, y35, y36, y37, y38, y39, hBx, hbx, rfl⟩ hlt
            have HI := hid hI
            have HFB := hid (foldU_bd (want := want) (full := fu) (h0 := sp) hv1 hsb hfb.1 pre)
            have HFS := hid (foldU_snoc fu want sp pre ⟨(k, ⟨op, ts⟩, An, cn), hx⟩)
            obtain ⟨v, g5, g7, g8, g9, gs, gO, gE, gN⟩ := hI
            obtain ⟨Av, cv, rfl, _, _⟩ := gO.form
            obtain ⟨st, hst⟩ : ∃ st, st = foldU fu want sp pre := ⟨_, rfl⟩
            rw [← hst] at g8 gO g7 gN HFB HFS
            obtain ⟨hh, os⟩ := st
            dsimp only at g7 gO gN
            have hh0 : 0 ≤ hh := HFB.out.1
            have hh1 : hh ≤ 200 := HFB.out.2.1
            have HOL : Hid (os.length ≤ 4000000) := hid (by have h1 := HFB.out.2.2; have h2 : os.length ≤ pre.length := h1; omega)
            have d5 := obj_cell g5 (i := 0) rfl
            have d7 := obj_cell g7 (i := 0) rfl
            have f7 := obj_frozen g7 0
            have d8 := obj_cell g8 (i := 0) rfl
            have f8 := obj_frozen g8 0
            have d9 := obj_cell g9 (i := 0) rfl
            have dx0 := obj_cell hbx (i := 0) rfl
            have dx1 := obj_cell hbx (i := 1) rfl
            have G5 := hid g5
            have G7 := hid g7
            have G8 := hid g8
            have G9 := hid g9
            have GS := hid gs
            have GO := hid gO
            have GE := hid gE
            have HST := hid hst
            have GN := hid gN
            have hn83 : B8 ≠ w.heap.size + 3 := by omega
            have hn38 : w.heap.size + 3 ≠ B8 := by omega
            have hlw8 : w.heap.size ≤ B8 := by omega
            clear g5 g7 g8 g9 gs gO gE gN hst hbx
            cases op with
            | false =>
              have hnx : foldU fu want sp (pre ++ [⟨(k, ⟨false, ts⟩, An, cn), hx⟩]) = foldU fu want sp pre := by rw [HFS.out, ← HST.out]; simp [stepU]
              gi_wp2
              have hI2 := HI.out.eq hnx
              exact ⟨KeepsFrom.refl _ _, HI.out.keep hI2 (Below.refl _ _), hI2⟩
            | true =>
              by_cases ht : ts.length = 0
              · obtain rfl : ts = [] := List.eq_nil_of_length_eq_zero ht
                clear ht
                by_cases hw : want ≤ hh - fu
                · have HNX : Hid (foldU fu want sp (pre ++ [⟨(k, ⟨true, []⟩, An, cn), hx⟩]) = (hh - fu, os ++ [(k : Int)])) := hid (by rw [HFS.out]; simp [stepU, hw])
                  have hGO1 : OI (X.setCell ⟨B8, 0, none⟩ (.int .i64 (hh - fu))) w.heap.size (.slice Av os.length cv) os := Own.far GO.out (fun g hg => Below.heap_setCell _ _ _ _ (GN.out g hg).2.1) (fun _ _ _ he => he)
                  obtain ⟨Y, hY⟩ : ∃ Y, Y = (X.setCell ⟨B8, 0, none⟩ (.int .i64 (hh - fu))).alloc (.cells #[.int .i64 (k : Int)] 3) := ⟨_, rfl⟩
                  have hXY : Below w.heap.size X Y := by rw [hY]; exact Below.alloc (Below.setCell (Below.refl _ _) hlw8 _) (by simp [World.setCell]; exact GE.out.size) _
                  have HXY := hid hXY
                  have HKO : Hid (KeepsOthers X Y) := hid (by rw [hY]; exact (KeepsOthers.setCell _ _ _).trans (KeepsOthers.alloc _ _))
                  have HVa : Hid (OI Y w.heap.size (.slice Av os.length cv) os) := hid (by rw [hY]; exact Own.ext EI.ok hGO1 (Ext.alloc _ _))
                  have HRk : Hid (RI Y (.slice (some ⟨X.heap.size, 0, none⟩) 1 1) [(k : Int)]) := hid (by
                    rw [hY]
                    have := RI.lit (X.setCell ⟨B8, 0, none⟩ (.int .i64 (hh - fu))) [(k : Int)] (by simp)
                    simpa [World.setCell] using this)
                  have K5 : Hid (Y.heap[w.heap.size + 1]? = some (.cells #[.int .i64 want] 3 (0, 0))) := hid (by rw [hY]; exact (Ext.alloc _ _).obj (obj_far G5.out (p := ⟨B8, 0, none⟩) (by show w.heap.size + 1 ≠ B8; omega) _))
                  have K7 : Hid (Y.heap[w.heap.size + 3]? = some (.cells #[.slice Av os.length cv] 23 (0, 0))) := hid (by rw [hY]; exact (Ext.alloc _ _).obj (obj_far G7.out (p := ⟨B8, 0, none⟩) hn38 _))
                  have K8 : Hid (Y.heap[B8]? = some (.cells #[.int .i64 (hh - fu)] 3 (0, 0))) := hid (by rw [hY]; exact (Ext.alloc _ _).obj (obj_set1 G8.out _))
                  have K9 : Hid (Y.heap[B9]? = some (.cells #[.int .i64 fu] 3 (0, 0))) := hid (by rw [hY]; exact (Ext.alloc _ _).obj (obj_far G9.out (p := ⟨B8, 0, none⟩) (Ne.symm j89) _))
                  have KQ : Hid (Y.heap[w6.heap.size]? = some (.cells #[.slice A C.units.length c] 24 (0, 0))) := hid (by rw [hY]; exact (Ext.alloc _ _).obj (obj_far GS.out (p := ⟨B8, 0, none⟩) (by show w6.heap.size ≠ B8; omega) _))
                  have HEY : Hid (Ext w Y) := hid (Below.trans GE.out hXY)
                  have hszY := HEY.out.size
                  have HYY := hid hY
                  obtain ⟨i0_int, hi0_int, hz0_int, hz1_int, hz2_int⟩ := info_parts info_int
                  clear hXY hGO1 hY
                  gi_wp2_with (gi_at_builtin; rw [← HYY.out]; refine wpListIn_append_sl _ (by rfl) _ _ 23 (by rfl) EI.ok EI.flat (w.heap.size) 3 EI.ne i0_int _ 1 8 Tryz.underlying23 hi0_int hz0_int hz1_int hz2_int rfl (by omega) _ (by rfl) _ (HVa.out) _ (by rfl) _ (HRk.out) (by have := HOL.out; simp; omega) (by have := HOL.out; simp; omega) ?_ ?_; (focus (first | exact Nat.le_refl _ | (simp; done) | (simp; omega) | omega)); intro v4 w4 hO4 hg4 hat4 hs4; obtain ⟨A4, c4, rfl, _, _⟩ := hO4.form_app; have hne4 : ∀ g, (Value.slice A4 (os.length + 1) c4).ownBlock = some g → g ≠ w.heap.size + 1 ∧ g ≠ B8 ∧ g ≠ B9 := (fun g hg => by rcases hat4 with h | h; exact GN.out g (h ▸ hg); have hh : g = Y.heap.size := (by rw [h] at hg; injection hg with hg; exact hg.symm); have l1 := obj_lt K5.out; have l2 := obj_lt K8.out; have l3 := obj_lt K9.out; omega); have K5b := hid ((hg4.block _ (obj_lt K5.out) (fun e => (GN.out _ e.symm).1 rfl)).trans K5.out); have K8b := hid ((hg4.block _ (obj_lt K8.out) (fun e => (GN.out _ e.symm).2.1 rfl)).trans K8.out); have K9b := hid ((hg4.block _ (obj_lt K9.out) (fun e => (GN.out _ e.symm).2.2 rfl)).trans K9.out); have K7b := hid (hs4 _ _ _ _ (by decide) K7.out); have KQb := hid (hs4 _ _ _ _ (by decide) KQ.out); have hB4 := Below.grown HXY.out hg4 hszY (fun g hg => (Own.lt HVa.out g hg).1); have hK4 := HKO.out.trans (KeepsOthers.of_grownBy hg4 (fun j o hj ho => by obtain ⟨cur, hc⟩ := Own.rowty HVa.out hj; rw [hc] at ho; injection ho with ho; rw [← ho]; rfl)); have d7b := obj_cell K7b.out (i := 0) rfl; have f7b := obj_frozen K7b.out 0)
                  have hI2 : ISin w C fu want sp B8 B9 w6.heap.size (.slice A C.units.length c) (pre ++ [⟨(k, ⟨true, []⟩, An, cn), hx⟩]) (w4.setCell ⟨w.heap.size + 3, 0, none⟩ (.slice A4 (os.length + 1) c4)) :=
                    ⟨_, obj_far K5b.out (p := ⟨w.heap.size + 3, 0, none⟩) (by show w.heap.size + 1 ≠ w.heap.size + 3; omega) _, obj_set1 K7b.out _, by rw [HNX.out]; exact obj_far K8b.out (p := ⟨w.heap.size + 3, 0, none⟩) hn83 _, obj_far K9b.out (p := ⟨w.heap.size + 3, 0, none⟩) (by show B9 ≠ w.heap.size + 3; omega) _, obj_far KQb.out (p := ⟨w.heap.size + 3, 0, none⟩) (by show w6.heap.size ≠ w.heap.size + 3; omega) _, by rw [HNX.out]; exact Own.same EI.ok hO4 (SameT.setCell (p := ⟨w.heap.size + 3, 0, none⟩) K7b.out _ (by rintro t (rfl | h); decide; exact h.elim)), Below.setCell (Below.trans GE.out hB4) (by show w.heap.size ≤ w.heap.size + 3; omega) _, hne4⟩
                  exact ⟨(hK4.trans (KeepsOthers.setCell _ _ _)).from _, HI.out.keep hI2 (Below.setCell hB4 (by show w.heap.size ≤ w.heap.size + 3; omega) _), hI2⟩
                · have hnx : foldU fu want sp (pre ++ [⟨(k, ⟨true, []⟩, An, cn), hx⟩]) = foldU fu want sp pre := by rw [HFS.out, ← HST.out]; simp [stepU, hw]
                  gi_wp2
                  have hI2 := HI.out.eq hnx
                  exact ⟨KeepsFrom.refl _ _, HI.out.keep hI2 (Below.refl _ _), hI2⟩
              · have ht0 : ¬ (ts.length : Int) = 0 := by omega
                have hnx : foldU fu want sp (pre ++ [⟨(k, ⟨true, ts⟩, An, cn), hx⟩]) = foldU fu want sp pre := by
                  have hne : ts.isEmpty = false := by cases ts with | nil => simp at ht | cons a b => rfl
                  rw [HFS.out, ← HST.out]; simp [stepU, hne]
                gi_wp2
                have hI2 := HI.out.eq hnx
                exact ⟨KeepsFrom.refl _ _, HI.out.keep hI2 (Below.refl _ _), hI2⟩
          case done =>
            rintro D ys X hD hys hI hK
            have hall := foldU_all fu want sp C.units.length ys (Nat.le_refl _) hys
            obtain ⟨v, _, g7, _, _, _, gO, gE, _⟩ := hI
            obtain ⟨Av, cv, rfl, _, _⟩ := gO.form
            have d7 := obj_cell g7 (i := 0) rfl
            rw [hall] at d7 gO
            have GO := hid gO
            have GE := hid gE
            clear hall g7 gO gE
            go_wp2
            refine ⟨by simp, .inl ⟨_, _, rfl, run_takeDeferred hK, ?_⟩⟩
            have hg := grownBy_putObj' X D (.deferred none)
            have hr : ∀ r, some D = some r → D ≤ r ∧ ∃ o : Obj, X.heap[r]? = some o ∧ o.isCells = false := fun r e => by cases e; exact ⟨Nat.le_refl _, _, hK, rfl⟩
            exact ⟨_, results_tmp rfl _ _ _, _, rfl, by rw [HOUT.out, HS.out, HF0.out]; exact Own.same EI.ok GO.out (SameT.ofGrown hg hr _), Below.ofGrown GE.out (Nat.le_trans hE07.size hD) hg hr⟩
          case stop =>
            rintro D c pre X _ _ h _
            exact h.elim
        · have HJP := hid hJP
          clear hJP
          have KS : Hid (∀ w', Ext w3 w' → w'.cell? ⟨w.heap.size, 0, none⟩ = some (.slice Ar C.room.length cr) ∧ w'.cell? ⟨w.heap.size, 1, none⟩ = some (.slice A C.units.length c)) := hid fun w' hw => ⟨(KC.out _ (HE2.out.trans hw)).1, (KC.out _ (HE2.out.trans hw)).2.1⟩
          have HD : Hid (Ext w3 w3.drew) := hid (Below.drew (Below.refl _ _))
          refine WG.start (fun w' => w'.cell? ⟨w.heap.size, 0, none⟩ = some (.slice Ar C.room.length cr) ∧ w'.cell? ⟨w.heap.size, 1, none⟩ = some (.slice A C.units.length c)) [6,7,10,11] (by kernel_rfl) (by exact KS.out _ HD.out) (fun hHeld => ?_)
          obtain ⟨pz, hpz⟩ : ∃ x, x = w3.drew := ⟨_, rfl⟩
          rw [← hpz] at hHeld ⊢
          have HX : Hid (Ext w3 pz) := hid (by rw [hpz]; exact HD.out)
          clear hpz
          (refine WG.take (i := 0) (v := ?_) rfl (by kernel_rfl) (by kernel_rfl) (by kernel_rfl) (by kernel_rfl) (fun _ _ _ h => h) (Or.inl ⟨by rfl, ?_⟩) (by assumption) ?_; rotate_left; (intro w hSw; (try dsimp only at hSw); go_split_ands; go_simp; (try with_reducible rfl)); (try simp only [Act.put, List.setIfInBounds_toArray, List.set_cons_zero, List.set_cons_succ]))
          (refine WG.take (i := 1) (v := ?_) rfl (by kernel_rfl) (by kernel_rfl) (by kernel_rfl) (by kernel_rfl) (fun _ _ _ h => h) (Or.inl ⟨by rfl, ?_⟩) (by assumption) ?_; rotate_left; (intro w hSw; (try dsimp only at hSw); go_split_ands; go_simp; (try with_reducible rfl)); (try simp only [Act.put, List.setIfInBounds_toArray, List.set_cons_zero, List.set_cons_succ]))
          (refine WG.take (i := 3) (v := ?_) rfl (by kernel_rfl) (by kernel_rfl) (by kernel_rfl) (by kernel_rfl) (fun _ _ _ h => h) (Or.inl ⟨by rfl, ?_⟩) (by assumption) ?_; rotate_left; (intro w hSw; (try dsimp only at hSw); go_split_ands; go_simp; (try with_reducible rfl)); (try simp only [Act.put, List.setIfInBounds_toArray, List.set_cons_zero, List.set_cons_succ]))
          (refine WG.take (i := 4) (v := ?_) rfl (by kernel_rfl) (by kernel_rfl) (by kernel_rfl) (by kernel_rfl) (fun _ _ _ h => h) (Or.inl ⟨by rfl, ?_⟩) (by assumption) ?_; rotate_left; (intro w hSw; (try dsimp only at hSw); go_split_ands; go_simp; (try with_reducible rfl)); (try simp only [Act.put, List.setIfInBounds_toArray, List.set_cons_zero, List.set_cons_succ]))
          (refine WG.take (i := 5) (v := ?_) rfl (by kernel_rfl) (by kernel_rfl) (by kernel_rfl) (by kernel_rfl) (fun _ _ _ h => h) (Or.inl ⟨by rfl, ?_⟩) (by assumption) ?_; rotate_left; (intro w hSw; (try dsimp only at hSw); go_split_ands; go_simp; (try with_reducible rfl)); (try simp only [Act.put, List.setIfInBounds_toArray, List.set_cons_zero, List.set_cons_succ]))
          refine WG.three (i := 2) (j := 8) (m := 9) rfl rfl rfl (by kernel_rfl) (fun K hK => ?_) (fun K hK => ?_) (fun K hK => ?_)
          · go_simp
            refine (iSpare _ _ C need _ (H0.out.ext (HE2.out.trans HX.out)) (HN.out.ext (HE2.out.trans HX.out)) HCL.out HNV.out).mono ?_
            rintro e p1 ⟨rfl, hE⟩
            rw [HS.out]
            (try dsimp only)
            have HX := hid (HX.out.trans hE)
            refine hK.out _ _ (by exact KS.out _ HX.out) (fun hHeld => ?_)
            clear hK K hE
            (try simp only [Act.put, List.setIfInBounds_toArray, List.set_cons_zero, List.set_cons_succ])
            refine WG.three (i := 6) (j := 8) (m := 9) rfl rfl rfl (by kernel_rfl) (fun K hK => ?_) (fun K hK => ?_) (fun K hK => ?_)
            · go_simp
              refine (iPlacer _ _ C.room need _ (HR.out.ext (HE2.out.trans HX.out)) (HN.out.ext (HE2.out.trans HX.out))).mono ?_
              rintro e p2 ⟨b1, b2, rfl, hp1, hp2, hE⟩
              have HP1 := hid hp1
              have HP2 := hid hp2
              clear hp1 hp2
              (try dsimp only)
              have HX := hid (HX.out.trans hE)
              refine hK.out _ _ (by exact KS.out _ HX.out) (fun hHeld => ?_)
              clear hK K hE
              (try simp only [Act.put, List.setIfInBounds_toArray, List.set_cons_zero, List.set_cons_succ])
              refine WG.three (i := 7) (j := 8) (m := 9) rfl rfl rfl (by kernel_rfl) (fun K hK => ?_) (fun K hK => ?_) (fun K hK => ?_)
              · go_simp
                refine (iPlacer1 _ _ _ [] C.room need b1 b2 _ (RSl.nil_ _ _ _ _ _ _ (by omega)) (HR.out.ext (HE2.out.trans HX.out)) (HN.out.ext (HE2.out.trans HX.out)) HP1.out HP2.out ⟨by simp, by simp⟩ HRV.out HNV.out (by rw [leftL_nil (vecOk_len HRV.out)]; exact vecOk_nn HRV.out)).mono ?_
                rintro e p3 ⟨rfl, hE⟩
                rw [HF.out]
                (try dsimp only)
                have HX := hid (HX.out.trans hE)
                have HP1 := hid (hE.cell HP1.out)
                have HP2 := hid (hE.cell HP2.out)
                refine hK.out _ _ (by exact KS.out _ HX.out) (fun hHeld => ?_)
                clear hK K hE
                (try simp only [Act.put, List.setIfInBounds_toArray, List.set_cons_zero, List.set_cons_succ])
                refine WG.two (i := 8) (j := 9) rfl rfl (by kernel_rfl) (fun K hK => ?_) (fun K hK => ?_)
                · go_simp
                  refine hK.out _ _ (by exact KS.out _ (HX.out.trans (Ext.alloc _ _))) (fun hHeld => ?_)
                  clear hK K
                  (try simp only [Act.put, List.setIfInBounds_toArray, List.set_cons_zero, List.set_cons_succ])
                  obtain ⟨p4, hp4⟩ : ∃ x, x = p3.alloc (.cells #[.int .i64 0] 3) := ⟨_, rfl⟩
                  obtain ⟨B8, hB8⟩ : ∃ x, x = p3.heap.size := ⟨_, rfl⟩
                  have hE : Ext p3 p4 := by rw [hp4]; exact Ext.alloc _ _
                  have HB8 : Hid (p4.heap[B8]? = some (.cells #[.int .i64 0] 3 (0, 0))) := hid (by rw [hp4, hB8]; exact heap_alloc_new _ _)
                  have HL8 : Hid (w3.heap.size ≤ B8) := hid (by rw [hB8]; exact HX.out.size)
                  rw [← hp4] at hHeld ⊢
                  rw [← hB8]
                  have HX := hid (HX.out.trans hE)
                  have HP1 := hid (hE.cell HP1.out)
                  have HP2 := hid (hE.cell HP2.out)
                  clear hp4 hB8 hE
                  refine WG.one (i := 9) rfl (by kernel_rfl) (fun K hK => ?_)
                  go_simp
                  refine hK.out _ _ (by exact KS.out _ (HX.out.trans (Ext.alloc _ _))) (fun hHeld => ?_)
                  clear hK K
                  (try simp only [Act.put, List.setIfInBounds_toArray, List.set_cons_zero, List.set_cons_succ])
                  obtain ⟨p5, hp5⟩ : ∃ x, x = p4.alloc (.cells #[.int .i64 0] 3) := ⟨_, rfl⟩
                  obtain ⟨B9, hB9⟩ : ∃ x, x = p4.heap.size := ⟨_, rfl⟩
                  have hE : Ext p4 p5 := by rw [hp5]; exact Ext.alloc _ _
                  have HB9 : Hid (p5.heap[B9]? = some (.cells #[.int .i64 0] 3 (0, 0))) := hid (by rw [hp5, hB9]; exact heap_alloc_new _ _)
                  have HL9 : Hid (w3.heap.size ≤ B9) := hid (by rw [hB9]; exact HX.out.size)
                  have hN89 : B8 ≠ B9 := by have := obj_lt HB8.out; omega
                  have hN98 : B9 ≠ B8 := Ne.symm hN89
                  rw [← hp5] at hHeld ⊢
                  rw [← hB9]
                  have HX := hid (HX.out.trans hE)
                  have HB8 := hid (hE.obj HB8.out)
                  have HP1 := hid (hE.cell HP1.out)
                  have HP2 := hid (hE.cell HP2.out)
                  clear hp5 hB9 hE
                  have c8 := obj_cell HB8.out (i := 0) rfl
                  have f8 := obj_frozen HB8.out 0
                  have h9 := obj_far HB9.out (p := ⟨B8, 0, none⟩) hN98 (.int .i64 sp)
                  have c9 := obj_cell h9 (i := 0) rfl
                  have f9 := obj_frozen h9 0
                  clear h9
                  refine WG.last (i := 10) rfl (by kernel_rfl) (by kernel_rfl) (fun K hK => ?_)
                  go_simp
                  refine hK.out _ _ ?_
                  clear hK K
                  (try simp only [Act.put, List.setIfInBounds_toArray, List.set_cons_zero, List.set_cons_succ])
                  refine WG.last (i := 11) rfl (by kernel_rfl) (by kernel_rfl) (fun K hK => ?_)
                  go_simp
                  refine hK.out _ _ ?_
                  clear hK K
                  (try simp only [Act.put, List.setIfInBounds_toArray, List.set_cons_zero, List.set_cons_succ])
                  refine WG.done (by kernel_rfl) ?_
                  exact HJP.out _ _ ⟨B8, B9, _, _, _, _, _, _, _, _, _, _, _, _, _, _, _, _, _, _, _, _, _, _, _, _, _, _, _, _, _, _, _, _, _, _, _, _, _, _, _, _, _, _, _, _, _, _, _, _, _, _, _, _, _, _, _, _, _, rfl, obj_far (obj_set1 HB8.out _) (p := ⟨B9, 0, none⟩) hN89 _, obj_set1 (obj_far HB9.out (p := ⟨B8, 0, none⟩) hN98 _) _, hN89, HL8.out, HL9.out, Below.setCell (Below.setCell HX.out HL8.out _) HL9.out _⟩
                · go_simp
                  refine hK.out _ _ (by exact KS.out _ (HX.out.trans (Ext.alloc _ _))) (fun hHeld => ?_)
                  clear hK K
                  (try simp only [Act.put, List.setIfInBounds_toArray, List.set_cons_zero, List.set_cons_succ])
                  obtain ⟨p6, hp6⟩ : ∃ x, x = p3.alloc (.cells #[.int .i64 0] 3) := ⟨_, rfl⟩
                  obtain ⟨B9, hB9⟩ : ∃ x, x = p3.heap.size := ⟨_, rfl⟩
                  have hE : Ext p3 p6 := by rw [hp6]; exact Ext.alloc _ _
                  have HB9 : Hid (p6.heap[B9]? = some (.cells #[.int .i64 0] 3 (0, 0))) := hid (by rw [hp6, hB9]; exact heap_alloc_new _ _)
                  have HL9 : Hid (w3.heap.size ≤ B9) := hid (by rw [hB9]; exact HX.out.size)
                  rw [← hp6] at hHeld ⊢
                  rw [← hB9]
                  have HX := hid (HX.out.trans hE)
                  have HP1 := hid (hE.cell HP1.out)
                  have HP2 := hid (hE.cell HP2.out)
                  clear hp6 hB9 hE
                  refine WG.one (i := 8) rfl (by kernel_rfl) (fun K hK => ?_)
                  go_simp
                  refine hK.out _ _ (by exact KS.out _ (HX.out.trans (Ext.alloc _ _))) (fun hHeld => ?_)
                  clear hK K
                  (try simp only [Act.put, List.setIfInBounds_toArray, List.set_cons_zero, List.set_cons_succ])
                  obtain ⟨p7, hp7⟩ : ∃ x, x = p6.alloc (.cells #[.int .i64 0] 3) := ⟨_, rfl⟩
                  obtain ⟨B8, hB8⟩ : ∃ x, x = p6.heap.size := ⟨_, rfl⟩
                  have hE : Ext p6 p7 := by rw [hp7]; exact Ext.alloc _ _
                  have HB8 : Hid (p7.heap[B8]? = some (.cells #[.int .i64 0] 3 (0, 0))) := hid (by rw [hp7, hB8]; exact heap_alloc_new _ _)
                  have HL8 : Hid (w3.heap.size ≤ B8) := hid (by rw [hB8]; exact HX.out.size)
                  have hN98 : B9 ≠ B8 := by have := obj_lt HB9.out; omega
                  have hN89 : B8 ≠ B9 := Ne.symm hN98
                  rw [← hp7] at hHeld ⊢
                  rw [← hB8]
                  have HX := hid (HX.out.trans hE)
                  have HB9 := hid (hE.obj HB9.out)
                  have HP1 := hid (hE.cell HP1.out)
                  have HP2 := hid (hE.cell HP2.out)
                  clear hp7 hB8 hE
                  have c8 := obj_cell HB8.out (i := 0) rfl
                  have f8 := obj_frozen HB8.out 0
                  have h9 := obj_far HB9.out (p := ⟨B8, 0, none⟩) hN98 (.int .i64 sp)
                  have c9 := obj_cell h9 (i := 0) rfl
                  have f9 := obj_frozen h9 0
                  clear h9
                  refine WG.last (i := 10) rfl (by kernel_rfl) (by kernel_rfl) (fun K hK => ?_)
                  go_simp
                  refine hK.out _ _ ?_
                  clear hK K
                  (try simp only [Act.put, List.setIfInBounds_toArray, List.set_cons_zero, List.set_cons_succ])
                  refine WG.last (i := 11) rfl (by kernel_rfl) (by kernel_rfl) (fun K hK => ?_)
                  go_simp
                  refine hK.out _ _ ?_
                  clear hK K
                  (try simp only [Act.put, List.setIfInBounds_toArray, List.set_cons_zero, List.set_cons_succ])
                  refine WG.done (by kernel_rfl) ?_
                  exact HJP.out _ _ ⟨B8, B9, _, _, _, _, _, _, _, _, _, _, _, _, _, _, _, _, _, _, _, _, _, _, _, _, _, _, _, _, _, _, _, _, _, _, _, _, _, _, _, _, _, _, _, _, _, _, _, _, _, _, _, _, _, _, _, _, _, rfl, obj_far (obj_set1 HB8.out _) (p := ⟨B9, 0, none⟩) hN89 _, obj_set1 (obj_far HB9.out (p := ⟨B8, 0, none⟩) hN98 _) _, hN89, HL8.out, HL9.out, Below.setCell (Below.setCell HX.out HL8.out _) HL9.out _⟩
              · go_simp
                refine hK.out _ _ (by exact KS.out _ (HX.out.trans (Ext.alloc _ _))) (fun hHeld => ?_)
                clear hK K
                (try simp only [Act.put, List.setIfInBounds_toArray, List.set_cons_zero, List.set_cons_succ])
                obtain ⟨p8, hp8⟩ : ∃ x, x = p2.alloc (.cells #[.int .i64 0] 3) := ⟨_, rfl⟩
                obtain ⟨B8, hB8⟩ : ∃ x, x = p2.heap.size := ⟨_, rfl⟩
                have hE : Ext p2 p8 := by rw [hp8]; exact Ext.alloc _ _
                have HB8 : Hid (p8.heap[B8]? = some (.cells #[.int .i64 0] 3 (0, 0))) := hid (by rw [hp8, hB8]; exact heap_alloc_new _ _)
                have HL8 : Hid (w3.heap.size ≤ B8) := hid (by rw [hB8]; exact HX.out.size)
                rw [← hp8] at hHeld ⊢
                rw [← hB8]
                have HX := hid (HX.out.trans hE)
                have HP1 := hid (hE.cell HP1.out)
                have HP2 := hid (hE.cell HP2.out)
                clear hp8 hB8 hE
                refine WG.two (i := 7) (j := 9) rfl rfl (by kernel_rfl) (fun K hK => ?_) (fun K hK => ?_)
                · go_simp
                  refine (iPlacer1 _ _ _ [] C.room need b1 b2 _ (RSl.nil_ _ _ _ _ _ _ (by omega)) (HR.out.ext (HE2.out.trans HX.out)) (HN.out.ext (HE2.out.trans HX.out)) HP1.out HP2.out ⟨by simp, by simp⟩ HRV.out HNV.out (by rw [leftL_nil (vecOk_len HRV.out)]; exact vecOk_nn HRV.out)).mono ?_
                  rintro e p9 ⟨rfl, hE⟩
                  rw [HF.out]
                  (try dsimp only)
                  have HX := hid (HX.out.trans hE)
                  have HB8 := hid (hE.obj HB8.out)
                  have HP1 := hid (hE.cell HP1.out)
                  have HP2 := hid (hE.cell HP2.out)
                  refine hK.out _ _ (by exact KS.out _ HX.out) (fun hHeld => ?_)
                  clear hK K hE
                  (try simp only [Act.put, List.setIfInBounds_toArray, List.set_cons_zero, List.set_cons_succ])
                  refine WG.one (i := 9) rfl (by kernel_rfl) (fun K hK => ?_)
                  go_simp
                  refine hK.out _ _ (by exact KS.out _ (HX.out.trans (Ext.alloc _ _))) (fun hHeld => ?_)
                  clear hK K
                  (try simp only [Act.put, List.setIfInBounds_toArray, List.set_cons_zero, List.set_cons_succ])
                  obtain ⟨p10, hp10⟩ : ∃ x, x = p9.alloc (.cells #[.int .i64 0] 3) := ⟨_, rfl⟩
                  obtain ⟨B9, hB9⟩ : ∃ x, x = p9.heap.size := ⟨_, rfl⟩
                  have hE : Ext p9 p10 := by rw [hp10]; exact Ext.alloc _ _
                  have HB9 : Hid (p10.heap[B9]? = some (.cells #[.int .i64 0] 3 (0, 0))) := hid (by rw [hp10, hB9]; exact heap_alloc_new _ _)
                  have HL9 : Hid (w3.heap.size ≤ B9) := hid (by rw [hB9]; exact HX.out.size)
                  have hN89 : B8 ≠ B9 := by have := obj_lt HB8.out; omega
                  have hN98 : B9 ≠ B8 := Ne.symm hN89
                  rw [← hp10] at hHeld ⊢
                  rw [← hB9]
                  have HX := hid (HX.out.trans hE)
                  have HB8 := hid (hE.obj HB8.out)
                  have HP1 := hid (hE.cell HP1.out)
                  have HP2 := hid (hE.cell HP2.out)
                  clear hp10 hB9 hE
                  have c8 := obj_cell HB8.out (i := 0) rfl
                  have f8 := obj_frozen HB8.out 0
                  have h9 := obj_far HB9.out (p := ⟨B8, 0, none⟩) hN98 (.int .i64 sp)
                  have c9 := obj_cell h9 (i := 0) rfl
                  have f9 := obj_frozen h9 0
                  clear h9
                  refine WG.last (i := 10) rfl (by kernel_rfl) (by kernel_rfl) (fun K hK => ?_)
                  go_simp
                  refine hK.out _ _ ?_
                  clear hK K
                  (try simp only [Act.put, List.setIfInBounds_toArray, List.set_cons_zero, List.set_cons_succ])
                  refine WG.last (i := 11) rfl (by kernel_rfl) (by kernel_rfl) (fun K hK => ?_)
                  go_simp
                  refine hK.out _ _ ?_
                  clear hK K
                  (try simp only [Act.put, List.setIfInBounds_toArray, List.set_cons_zero, List.set_cons_succ])
                  refine WG.done (by kernel_rfl) ?_
                  exact HJP.out _ _ ⟨B8, B9, _, _, _, _, _, _, _, _, _, _, _, _, _, _, _, _, _, _, _, _, _, _, _, _, _, _, _, _, _, _, _, _, _, _, _, _, _, _, _, _, _, _, _, _, _, _, _, _, _, _, _, _, _, _, _, _, _, rfl, obj_far (obj_set1 HB8.out _) (p := ⟨B9, 0, none⟩) hN89 _, obj_set1 (obj_far HB9.out (p := ⟨B8, 0, none⟩) hN98 _) _, hN89, HL8.out, HL9.out, Below.setCell (Below.setCell HX.out HL8.out _) HL9.out _⟩
                · go_simp
                  refine hK.out _ _ (by exact KS.out _ (HX.out.trans (Ext.alloc _ _))) (fun hHeld => ?_)
                  clear hK K
                  (try simp only [Act.put, List.setIfInBounds_toArray, List.set_cons_zero, List.set_cons_succ])
                  obtain ⟨p11, hp11⟩ : ∃ x, x = p8.alloc (.cells #[.int .i64 0] 3) := ⟨_, rfl⟩
                  obtain ⟨B9, hB9⟩ : ∃ x, x = p8.heap.size := ⟨_, rfl⟩
                  have hE : Ext p8 p11 := by rw [hp11]; exact Ext.alloc _ _
                  have HB9 : Hid (p11.heap[B9]? = some (.cells #[.int .i64 0] 3 (0, 0))) := hid (by rw [hp11, hB9]; exact heap_alloc_new _ _)
                  have HL9 : Hid (w3.heap.size ≤ B9) := hid (by rw [hB9]; exact HX.out.size)
                  have hN89 : B8 ≠ B9 := by have := obj_lt HB8.out; omega
                  have hN98 : B9 ≠ B8 := Ne.symm hN89
                  rw [← hp11] at hHeld ⊢
                  rw [← hB9]
                  have HX := hid (HX.out.trans hE)
                  have HB8 := hid (hE.obj HB8.out)
                  have HP1 := hid (hE.cell HP1.out)
                  have HP2 := hid (hE.cell HP2.out)
                  clear hp11 hB9 hE
                  refine WG.one (i := 7) rfl (by kernel_rfl) (fun K hK => ?_)
                  go_simp
                  refine (iPlacer1 _ _ _ [] C.room need b1 b2 _ (RSl.nil_ _ _ _ _ _ _ (by omega)) (HR.out.ext (HE2.out.trans HX.out)) (HN.out.ext (HE2.out.trans HX.out)) HP1.out HP2.out ⟨by simp, by simp⟩ HRV.out HNV.out (by rw [leftL_nil (vecOk_len HRV.out)]; exact vecOk_nn HRV.out)).mono ?_
                  rintro e p12 ⟨rfl, hE⟩
                  rw [HF.out]
                  (try dsimp only)
                  have HX := hid (HX.out.trans hE)
                  have HB8 := hid (hE.obj HB8.out)
                  have HB9 := hid (hE.obj HB9.out)
                  have HP1 := hid (hE.cell HP1.out)
                  have HP2 := hid (hE.cell HP2.out)
                  refine hK.out _ _ (by exact KS.out _ HX.out) (fun hHeld => ?_)
                  clear hK K hE
                  (try simp only [Act.put, List.setIfInBounds_toArray, List.set_cons_zero, List.set_cons_succ])
                  have c8 := obj_cell HB8.out (i := 0) rfl
                  have f8 := obj_frozen HB8.out 0
                  have h9 := obj_far HB9.out (p := ⟨B8, 0, none⟩) hN98 (.int .i64 sp)
                  have c9 := obj_cell h9 (i := 0) rfl
                  have f9 := obj_frozen h9 0
                  clear h9
                  refine WG.last (i := 10) rfl (by kernel_rfl) (by kernel_rfl) (fun K hK => ?_)
                  go_simp
                  refine hK.out _ _ ?_
                  clear hK K
                  (try simp only [Act.put, List.setIfInBounds_toArray, List.set_cons_zero, List.set_cons_succ])
                  refine WG.last (i := 11) rfl (by kernel_rfl) (by kernel_rfl) (fun K hK => ?_)
                  go_simp
                  refine hK.out _ _ ?_
                  clear hK K
                  (try simp only [Act.put, List.setIfInBounds_toArray, List.set_cons_zero, List.set_cons_succ])
                  refine WG.done (by kernel_rfl) ?_
                  exact HJP.out _ _ ⟨B8, B9, _, _, _, _, _, _, _, _, _, _, _, _, _, _, _, _, _, _, _, _, _, _, _, _, _, _, _, _, _, _, _, _, _, _, _, _, _, _, _, _, _, _, _, _, _, _, _, _, _, _, _, _, _, _, _, _, _, rfl, obj_far (obj_set1 HB8.out _) (p := ⟨B9, 0, none⟩) hN89 _, obj_set1 (obj_far HB9.out (p := ⟨B8, 0, none⟩) hN98 _) _, hN89, HL8.out, HL9.out, Below.setCell (Below.setCell HX.out HL8.out _) HL9.out _⟩
              · go_simp
                refine hK.out _ _ (by exact KS.out _ (HX.out.trans (Ext.alloc _ _))) (fun hHeld => ?_)
                clear hK K
                (try simp only [Act.put, List.setIfInBounds_toArray, List.set_cons_zero, List.set_cons_succ])
                obtain ⟨p13, hp13⟩ : ∃ x, x = p2.alloc (.cells #[.int .i64 0] 3) := ⟨_, rfl⟩
                obtain ⟨B9, hB9⟩ : ∃ x, x = p2.heap.size := ⟨_, rfl⟩
                have hE : Ext p2 p13 := by rw [hp13]; exact Ext.alloc _ _
                have HB9 : Hid (p13.heap[B9]? = some (.cells #[.int .i64 0] 3 (0, 0))) := hid (by rw [hp13, hB9]; exact heap_alloc_new _ _)
                have HL9 : Hid (w3.heap.size ≤ B9) := hid (by rw [hB9]; exact HX.out.size)
                rw [← hp13] at hHeld ⊢
                rw [← hB9]
                have HX := hid (HX.out.trans hE)
                have HP1 := hid (hE.cell HP1.out)
                have HP2 := hid (hE.cell HP2.out)
                clear hp13 hB9 hE
                refine WG.two (i := 7) (j := 8) rfl rfl (by kernel_rfl) (fun K hK => ?_) (fun K hK => ?_)
                · go_simp
                  refine (iPlacer1 _ _ _ [] C.room need b1 b2 _ (RSl.nil_ _ _ _ _ _ _ (by omega)) (HR.out.ext (HE2.out.trans HX.out)) (HN.out.ext (HE2.out.trans HX.out)) HP1.out HP2.out ⟨by simp, by simp⟩ HRV.out HNV.out (by rw [leftL_nil (vecOk_len HRV.out)]; exact vecOk_nn HRV.out)).mono ?_
                  rintro e p14 ⟨rfl, hE⟩
                  rw [HF.out]
                  (try dsimp only)
                  have HX := hid (HX.out.trans hE)
                  have HB9 := hid (hE.obj HB9.out)
                  have HP1 := hid (hE.cell HP1.out)
                  have HP2 := hid (hE.cell HP2.out)
                  refine hK.out _ _ (by exact KS.out _ HX.out) (fun hHeld => ?_)
                  clear hK K hE
                  (try simp only [Act.put, List.setIfInBounds_toArray, List.set_cons_zero, List.set_cons_succ])
                  refine WG.one (i := 8) rfl (by kernel_rfl) (fun K hK => ?_)
                  go_simp
                  refine hK.out _ _ (by exact KS.out _ (HX.out.trans (Ext.alloc _ _))) (fun hHeld => ?_)
                  clear hK K
                  (try simp only [Act.put, List.setIfInBounds_toArray, List.set_cons_zero, List.set_cons_succ])
                  obtain ⟨p15, hp15⟩ : ∃ x, x = p14.alloc (.cells #[.int .i64 0] 3) := ⟨_, rfl⟩
                  obtain ⟨B8, hB8⟩ : ∃ x, x = p14.heap.size := ⟨_, rfl⟩
                  have hE : Ext p14 p15 := by rw [hp15]; exact Ext.alloc _ _
                  have HB8 : Hid (p15.heap[B8]? = some (.cells #[.int .i64 0] 3 (0, 0))) := hid (by rw [hp15, hB8]; exact heap_alloc_new _ _)
                  have HL8 : Hid (w3.heap.size ≤ B8) := hid (by rw [hB8]; exact HX.out.size)
                  have hN98 : B9 ≠ B8 := by have := obj_lt HB9.out; omega
                  have hN89 : B8 ≠ B9 := Ne.symm hN98
                  rw [← hp15] at hHeld ⊢
                  rw [← hB8]
                  have HX := hid (HX.out.trans hE)
                  have HB9 := hid (hE.obj HB9.out)
                  have HP1 := hid (hE.cell HP1.out)
                  have HP2 := hid (hE.cell HP2.out)
                  clear hp15 hB8 hE
                  have c8 := obj_cell HB8.out (i := 0) rfl
                  have f8 := obj_frozen HB8.out 0
                  have h9 := obj_far HB9.out (p := ⟨B8, 0, none⟩) hN98 (.int .i64 sp)
                  have c9 := obj_cell h9 (i := 0) rfl
                  have f9 := obj_frozen h9 0
                  clear h9
                  refine WG.last (i := 10) rfl (by kernel_rfl) (by kernel_rfl) (fun K hK => ?_)
                  go_simp
                  refine hK.out _ _ ?_
                  clear hK K
                  (try simp only [Act.put, List.setIfInBounds_toArray, List.set_cons_zero, List.set_cons_succ])
                  refine WG.last (i := 11) rfl (by kernel_rfl) (by kernel_rfl) (fun K hK => ?_)
                  go_simp
                  refine hK.out _ _ ?_
                  clear hK K
                  (try simp only [Act.put, List.setIfInBounds_toArray, List.set_cons_zero, List.set_cons_succ])
                  refine WG.done (by kernel_rfl) ?_
                  exact HJP.out _ _ ⟨B8, B9, _, _, _, _, _, _, _, _, _, _, _, _, _, _, _, _, _, _, _, _, _, _, _, _, _, _, _, _, _, _, _, _, _, _, _, _, _, _, _, _, _, _, _, _, _, _, _, _, _, _, _, _, _, _, _, _, _, rfl, obj_far (obj_set1 HB8.out _) (p := ⟨B9, 0, none⟩) hN89 _, obj_set1 (obj_far HB9.out (p := ⟨B8, 0, none⟩) hN98 _) _, hN89, HL8.out, HL9.out, Below.setCell (Below.setCell HX.out HL8.out _) HL9.out _⟩
                · go_simp
                  refine hK.out _ _ (by exact KS.out _ (HX.out.trans (Ext.alloc _ _))) (fun hHeld => ?_)
                  clear hK K
                  (try simp only [Act.put, List.setIfInBounds_toArray, List.set_cons_zero, List.set_cons_succ])
                  obtain ⟨p16, hp16⟩ : ∃ x, x = p13.alloc (.cells #[.int .i64 0] 3) := ⟨_, rfl⟩
                  obtain ⟨B8, hB8⟩ : ∃ x, x = p13.heap.size := ⟨_, rfl⟩
                  have hE : Ext p13 p16 := by rw [hp16]; exact Ext.alloc _ _
                  have HB8 : Hid (p16.heap[B8]? = some (.cells #[.int .i64 0] 3 (0, 0))) := hid (by rw [hp16, hB8]; exact heap_alloc_new _ _)
                  have HL8 : Hid (w3.heap.size ≤ B8) := hid (by rw [hB8]; exact HX.out.size)
                  have hN98 : B9 ≠ B8 := by have := obj_lt HB9.out; omega
                  have hN89 : B8 ≠ B9 := Ne.symm hN98
                  rw [← hp16] at hHeld ⊢
                  rw [← hB8]
                  have HX := hid (HX.out.trans hE)
                  have HB9 := hid (hE.obj HB9.out)
                  have HP1 := hid (hE.cell HP1.out)
                  have HP2 := hid (hE.cell HP2.out)
                  clear hp16 hB8 hE
                  refine WG.one (i := 7) rfl (by kernel_rfl) (fun K hK => ?_)
                  go_simp
                  refine (iPlacer1 _ _ _ [] C.room need b1 b2 _ (RSl.nil_ _ _ _ _ _ _ (by omega)) (HR.out.ext (HE2.out.trans HX.out)) (HN.out.ext (HE2.out.trans HX.out)) HP1.out HP2.out ⟨by simp, by simp⟩ HRV.out HNV.out (by rw [leftL_nil (vecOk_len HRV.out)]; exact vecOk_nn HRV.out)).mono ?_
                  rintro e p17 ⟨rfl, hE⟩
                  rw [HF.out]
                  (try dsimp only)
                  have HX := hid (HX.out.trans hE)
                  have HB9 := hid (hE.obj HB9.out)
                  have HB8 := hid (hE.obj HB8.out)
                  have HP1 := hid (hE.cell HP1.out)
                  have HP2 := hid (hE.cell HP2.out)
                  refine hK.out _ _ (by exact KS.out _ HX.out) (fun hHeld => ?_)
                  clear hK K hE
                  (try simp only [Act.put, List.setIfInBounds_toArray, List.set_cons_zero, List.set_cons_succ])
                  have c8 := obj_cell HB8.out (i := 0) rfl
                  have f8 := obj_frozen HB8.out 0
                  have h9 := obj_far HB9.out (p := ⟨B8, 0, none⟩) hN98 (.int .i64 sp)
                  have c9 := obj_cell h9 (i := 0) rfl
                  have f9 := obj_frozen h9 0
                  clear h9
                  refine WG.last (i := 10) rfl (by kernel_rfl) (by kernel_rfl) (fun K hK => ?_)
                  go_simp
                  refine hK.out _ _ ?_
                  clear hK K
                  (try simp only [Act.put, List.setIfInBounds_toArray, List.set_cons_zero, List.set_cons_succ])
                  refine WG.last (i := 11) rfl (by kernel_rfl) (by kernel_rfl) (fun K hK => ?_)
                  go_simp
                  refine hK.out _ _ ?_
                  clear hK K
                  (try simp only [Act.put, List.setIfInBounds_toArray, List.set_cons_zero, List.set_cons_succ])
                  refine WG.done (by kernel_rfl) ?_
                  exact HJP.out _ _ ⟨B8, B9, _, _, _, _, _, _, _, _, _, _, _, _, _, _, _, _, _, _, _, _, _, _, _, _, _, _, _, _, _, _, _, _, _, _, _, _, _, _, _, _, _, _, _, _, _, _, _, _, _, _, _, _, _, _, _, _, _, rfl, obj_far (obj_set1 HB8.out _) (p := ⟨B9, 0, none⟩) hN89 _, obj_set1 (obj_far HB9.out (p := ⟨B8, 0, none⟩) hN98 _) _, hN89, HL8.out, HL9.out, Below.setCell (Below.setCell HX.out HL8.out _) HL9.out _⟩
            · go_simp
              refine hK.out _ _ (by exact KS.out _ (HX.out.trans (Ext.alloc _ _))) (fun hHeld => ?_)
              clear hK K
              (try simp only [Act.put, List.setIfInBounds_toArray, List.set_cons_zero, List.set_cons_succ])
              obtain ⟨p18, hp18⟩ : ∃ x, x = p1.alloc (.cells #[.int .i64 0] 3) := ⟨_, rfl⟩
              obtain ⟨B8, hB8⟩ : ∃ x, x = p1.heap.size := ⟨_, rfl⟩
              have hE : Ext p1 p18 := by rw [hp18]; exact Ext.alloc _ _
              have HB8 : Hid (p18.heap[B8]? = some (.cells #[.int .i64 0] 3 (0, 0))) := hid (by rw [hp18, hB8]; exact heap_alloc_new _ _)
              have HL8 : Hid (w3.heap.size ≤ B8) := hid (by rw [hB8]; exact HX.out.size)
              rw [← hp18] at hHeld ⊢
              rw [← hB8]
              have HX := hid (HX.out.trans hE)
              clear hp18 hB8 hE
              refine WG.two (i := 6) (j := 9) rfl rfl (by kernel_rfl) (fun K hK => ?_) (fun K hK => ?_)
              · go_simp
                refine (iPlacer _ _ C.room need _ (HR.out.ext (HE2.out.trans HX.out)) (HN.out.ext (HE2.out.trans HX.out))).mono ?_
                rintro e p19 ⟨b1, b2, rfl, hp1, hp2, hE⟩
                have HP1 := hid hp1
                have HP2 := hid hp2
                clear hp1 hp2
                (try dsimp only)
                have HX := hid (HX.out.trans hE)
                have HB8 := hid (hE.obj HB8.out)
                refine hK.out _ _ (by exact KS.out _ HX.out) (fun hHeld => ?_)
                clear hK K hE
                (try simp only [Act.put, List.setIfInBounds_toArray, List.set_cons_zero, List.set_cons_succ])
                refine WG.two (i := 7) (j := 9) rfl rfl (by kernel_rfl) (fun K hK => ?_) (fun K hK => ?_)
                · go_simp
                  refine (iPlacer1 _ _ _ [] C.room need b1 b2 _ (RSl.nil_ _ _ _ _ _ _ (by omega)) (HR.out.ext (HE2.out.trans HX.out)) (HN.out.ext (HE2.out.trans HX.out)) HP1.out HP2.out ⟨by simp, by simp⟩ HRV.out HNV.out (by rw [leftL_nil (vecOk_len HRV.out)]; exact vecOk_nn HRV.out)).mono ?_
                  rintro e p20 ⟨rfl, hE⟩
                  rw [HF.out]
                  (try dsimp only)
                  have HX := hid (HX.out.trans hE)
                  have HB8 := hid (hE.obj HB8.out)
                  have HP1 := hid (hE.cell HP1.out)
                  have HP2 := hid (hE.cell HP2.out)
                  refine hK.out _ _ (by exact KS.out _ HX.out) (fun hHeld => ?_)
                  clear hK K hE
                  (try simp only [Act.put, List.setIfInBounds_toArray, List.set_cons_zero, List.set_cons_succ])
                  refine WG.one (i := 9) rfl (by kernel_rfl) (fun K hK => ?_)
                  go_simp
                  refine hK.out _ _ (by exact KS.out _ (HX.out.trans (Ext.alloc _ _))) (fun hHeld => ?_)
                  clear hK K
                  (try simp only [Act.put, List.setIfInBounds_toArray, List.set_cons_zero, List.set_cons_succ])
                  obtain ⟨p21, hp21⟩ : ∃ x, x = p20.alloc (.cells #[.int .i64 0] 3) := ⟨_, rfl⟩
                  obtain ⟨B9, hB9⟩ : ∃ x, x = p20.heap.size := ⟨_, rfl⟩
                  have hE : Ext p20 p21 := by rw [hp21]; exact Ext.alloc _ _
                  have HB9 : Hid (p21.heap[B9]? = some (.cells #[.int .i64 0] 3 (0, 0))) := hid (by rw [hp21, hB9]; exact heap_alloc_new _ _)
                  have HL9 : Hid (w3.heap.size ≤ B9) := hid (by rw [hB9]; exact HX.out.size)
                  have hN89 : B8 ≠ B9 := by have := obj_lt HB8.out; omega
                  have hN98 : B9 ≠ B8 := Ne.symm hN89
                  rw [← hp21] at hHeld ⊢
                  rw [← hB9]
                  have HX := hid (HX.out.trans hE)
                  have HB8 := hid (hE.obj HB8.out)
                  have HP1 := hid (hE.cell HP1.out)
                  have HP2 := hid (hE.cell HP2.out)
                  clear hp21 hB9 hE
                  have c8 := obj_cell HB8.out (i := 0) rfl
                  have f8 := obj_frozen HB8.out 0
                  have h9 := obj_far HB9.out (p := ⟨B8, 0, none⟩) hN98 (.int .i64 sp)
                  have c9 := obj_cell h9 (i := 0) rfl
                  have f9 := obj_frozen h9 0
                  clear h9
                  refine WG.last (i := 10) rfl (by kernel_rfl) (by kernel_rfl) (fun K hK => ?_)
                  go_simp
                  refine hK.out _ _ ?_
                  clear hK K
                  (try simp only [Act.put, List.setIfInBounds_toArray, List.set_cons_zero, List.set_cons_succ])
                  refine WG.last (i := 11) rfl (by kernel_rfl) (by kernel_rfl) (fun K hK => ?_)
                  go_simp
                  refine hK.out _ _ ?_
                  clear hK K
                  (try simp only [Act.put, List.setIfInBounds_toArray, List.set_cons_zero, List.set_cons_succ])
                  refine WG.done (by kernel_rfl) ?_
                  exact HJP.out _ _ ⟨B8, B9, _, _, _, _, _, _, _, _, _, _, _, _, _, _, _, _, _, _, _, _, _, _, _, _, _, _, _, _, _, _, _, _, _, _, _, _, _, _, _, _, _, _, _, _, _, _, _, _, _, _, _, _, _, _, _, _, _, rfl, obj_far (obj_set1 HB8.out _) (p := ⟨B9, 0, none⟩) hN89 _, obj_set1 (obj_far HB9.out (p := ⟨B8, 0, none⟩) hN98 _) _, hN89, HL8.out, HL9.out, Below.setCell (Below.setCell HX.out HL8.out _) HL9.out _⟩
                · go_simp
                  refine hK.out _ _ (by exact KS.out _ (HX.out.trans (Ext.alloc _ _))) (fun hHeld => ?_)
                  clear hK K
                  (try simp only [Act.put, List.setIfInBounds_toArray, List.set_cons_zero, List.set_cons_succ])
                  obtain ⟨p22, hp22⟩ : ∃ x, x = p19.alloc (.cells #[.int .i64 0] 3) := ⟨_, rfl⟩
                  obtain ⟨B9, hB9⟩ : ∃ x, x = p19.heap.size := ⟨_, rfl⟩
                  have hE : Ext p19 p22 := by rw [hp22]; exact Ext.alloc _ _
                  have HB9 : Hid (p22.heap[B9]? = some (.cells #[.int .i64 0] 3 (0, 0))) := hid (by rw [hp22, hB9]; exact heap_alloc_new _ _)
                  have HL9 : Hid (w3.heap.size ≤ B9) := hid (by rw [hB9]; exact HX.out.size)
                  have hN89 : B8 ≠ B9 := by have := obj_lt HB8.out; omega
                  have hN98 : B9 ≠ B8 := Ne.symm hN89
                  rw [← hp22] at hHeld ⊢
                  rw [← hB9]
                  have HX := hid (HX.out.trans hE)
                  have HB8 := hid (hE.obj HB8.out)
                  have HP1 := hid (hE.cell HP1.out)
                  have HP2 := hid (hE.cell HP2.out)
                  clear hp22 hB9 hE
                  refine WG.one (i := 7) rfl (by kernel_rfl) (fun K hK => ?_)
                  go_simp
                  refine (iPlacer1 _ _ _ [] C.room need b1 b2 _ (RSl.nil_ _ _ _ _ _ _ (by omega)) (HR.out.ext (HE2.out.trans HX.out)) (HN.out.ext (HE2.out.trans HX.out)) HP1.out HP2.out ⟨by simp, by simp⟩ HRV.out HNV.out (by rw [leftL_nil (vecOk_len HRV.out)]; exact vecOk_nn HRV.out)).mono ?_
                  rintro e p23 ⟨rfl, hE⟩
                  rw [HF.out]
                  (try dsimp only)
                  have HX := hid (HX.out.trans hE)
                  have HB8 := hid (hE.obj HB8.out)
                  have HB9 := hid (hE.obj HB9.out)
                  have HP1 := hid (hE.cell HP1.out)
                  have HP2 := hid (hE.cell HP2.out)
                  refine hK.out _ _ (by exact KS.out _ HX.out) (fun hHeld => ?_)
                  clear hK K hE
                  (try simp only [Act.put, List.setIfInBounds_toArray, List.set_cons_zero, List.set_cons_succ])
                  have c8 := obj_cell HB8.out (i := 0) rfl
                  have f8 := obj_frozen HB8.out 0
                  have h9 := obj_far HB9.out (p := ⟨B8, 0, none⟩) hN98 (.int .i64 sp)
                  have c9 := obj_cell h9 (i := 0) rfl
                  have f9 := obj_frozen h9 0
                  clear h9
                  refine WG.last (i := 10) rfl (by kernel_rfl) (by kernel_rfl) (fun K hK => ?_)
                  go_simp
                  refine hK.out _ _ ?_
                  clear hK K
                  (try simp only [Act.put, List.setIfInBounds_toArray, List.set_cons_zero, List.set_cons_succ])
                  refine WG.last (i := 11) rfl (by kernel_rfl) (by kernel_rfl) (fun K hK => ?_)
                  go_simp
                  refine hK.out _ _ ?_
                  clear hK K
                  (try simp only [Act.put, List.setIfInBounds_toArray, List.set_cons_zero, List.set_cons_succ])
                  refine WG.done (by kernel_rfl) ?_
                  exact HJP.out _ _ ⟨B8, B9, _, _, _, _, _, _, _, _, _, _, _, _, _, _, _, _, _, _, _, _, _, _, _, _, _, _, _, _, _, _, _, _, _, _, _, _, _, _, _, _, _, _, _, _, _, _, _, _, _, _, _, _, _, _, _, _, _, rfl, obj_far (obj_set1 HB8.out _) (p := ⟨B9, 0, none⟩) hN89 _, obj_set1 (obj_far HB9.out (p := ⟨B8, 0, none⟩) hN98 _) _, hN89, HL8.out, HL9.out, Below.setCell (Below.setCell HX.out HL8.out _) HL9.out _⟩
              · go_simp
                refine hK.out _ _ (by exact KS.out _ (HX.out.trans (Ext.alloc _ _))) (fun hHeld => ?_)
                clear hK K
                (try simp only [Act.put, List.setIfInBounds_toArray, List.set_cons_zero, List.set_cons_succ])
                obtain ⟨p24, hp24⟩ : ∃ x, x = p18.alloc (.cells #[.int .i64 0] 3) := ⟨_, rfl⟩
                obtain ⟨B9, hB9⟩ : ∃ x, x = p18.heap.size := ⟨_, rfl⟩
                have hE : Ext p18 p24 := by rw [hp24]; exact Ext.alloc _ _
                have HB9 : Hid (p24.heap[B9]? = some (.cells #[.int .i64 0] 3 (0, 0))) := hid (by rw [hp24, hB9]; exact heap_alloc_new _ _)
                have HL9 : Hid (w3.heap.size ≤ B9) := hid (by rw [hB9]; exact HX.out.size)
                have hN89 : B8 ≠ B9 := by have := obj_lt HB8.out; omega
                have hN98 : B9 ≠ B8 := Ne.symm hN89
                rw [← hp24] at hHeld ⊢
                rw [← hB9]
                have HX := hid (HX.out.trans hE)
                have HB8 := hid (hE.obj HB8.out)
                clear hp24 hB9 hE
                refine WG.one (i := 6) rfl (by kernel_rfl) (fun K hK => ?_)
                go_simp
                refine (iPlacer _ _ C.room need _ (HR.out.ext (HE2.out.trans HX.out)) (HN.out.ext (HE2.out.trans HX.out))).mono ?_
                rintro e p25 ⟨b1, b2, rfl, hp1, hp2, hE⟩
                have HP1 := hid hp1
                have HP2 := hid hp2
                clear hp1 hp2
                (try dsimp only)
                have HX := hid (HX.out.trans hE)
                have HB8 := hid (hE.obj HB8.out)
                have HB9 := hid (hE.obj HB9.out)
                refine hK.out _ _ (by exact KS.out _ HX.out) (fun hHeld => ?_)
                clear hK K hE
                (try simp only [Act.put, List.setIfInBounds_toArray, List.set_cons_zero, List.set_cons_succ])
                refine WG.one (i := 7) rfl (by kernel_rfl) (fun K hK => ?_)
                go_simp
                refine (iPlacer1 _ _ _ [] C.room need b1 b2 _ (RSl.nil_ _ _ _ _ _ _ (by omega)) (HR.out.ext (HE2.out.trans HX.out)) (HN.out.ext (HE2.out.trans HX.out)) HP1.out HP2.out ⟨by simp, by simp⟩ HRV.out HNV.out (by rw [leftL_nil (vecOk_len HRV.out)]; exact vecOk_nn HRV.out)).mono ?_
                rintro e p26 ⟨rfl, hE⟩
                rw [HF.out]
                (try dsimp only)
                have HX := hid (HX.out.trans hE)
                have HB8 := hid (hE.obj HB8.out)
                have HB9 := hid (hE.obj HB9.out)
                have HP1 := hid (hE.cell HP1.out)
                have HP2 := hid (hE.cell HP2.out)
                refine hK.out _ _ (by exact KS.out _ HX.out) (fun hHeld => ?_)
                clear hK K hE
                (try simp only [Act.put, List.setIfInBounds_toArray, List.set_cons_zero, List.set_cons_succ])
                have c8 := obj_cell HB8.out (i := 0) rfl
                have f8 := obj_frozen HB8.out 0
                have h9 := obj_far HB9.out (p := ⟨B8, 0, none⟩) hN98 (.int .i64 sp)
                have c9 := obj_cell h9 (i := 0) rfl
                have f9 := obj_frozen h9 0
                clear h9
                refine WG.last (i := 10) rfl (by kernel_rfl) (by kernel_rfl) (fun K hK => ?_)
                go_simp
                refine hK.out _ _ ?_
                clear hK K
                (try simp only [Act.put, List.setIfInBounds_toArray, List.set_cons_zero, List.set_cons_succ])
                refine WG.last (i := 11) rfl (by kernel_rfl) (by kernel_rfl) (fun K hK => ?_)
                go_simp
                refine hK.out _ _ ?_
                clear hK K
                (try simp only [Act.put, List.setIfInBounds_toArray, List.set_cons_zero, List.set_cons_succ])
                refine WG.done (by kernel_rfl) ?_
                exact HJP.out _ _ ⟨B8, B9, _, _, _, _, _, _, _, _, _, _, _, _, _, _, _, _, _, _, _, _, _, _, _, _, _, _, _, _, _, _, _, _, _, _, _, _, _, _, _, _, _, _, _, _, _, _, _, _, _, _, _, _, _, _, _, _, _, rfl, obj_far (obj_set1 HB8.out _) (p := ⟨B9, 0, none⟩) hN89 _, obj_set1 (obj_far HB9.out (p := ⟨B8, 0, none⟩) hN98 _) _, hN89, HL8.out, HL9.out, Below.setCell (Below.setCell HX.out HL8.out _) HL9.out _⟩
            · go_simp
              refine hK.out _ _ (by exact KS.out _ (HX.out.trans (Ext.alloc _ _))) (fun hHeld => ?_)
              clear hK K
              (try simp only [Act.put, List.setIfInBounds_toArray, List.set_cons_zero, List.set_cons_succ])
              obtain ⟨p27, hp27⟩ : ∃ x, x = p1.alloc (.cells #[.int .i64 0] 3) := ⟨_, rfl⟩
              obtain ⟨B9, hB9⟩ : ∃ x, x = p1.heap.size := ⟨_, rfl⟩
              have hE : Ext p1 p27 := by rw [hp27]; exact Ext.alloc _ _
              have HB9 : Hid (p27.heap[B9]? = some (.cells #[.int .i64 0] 3 (0, 0))) := hid (by rw [hp27, hB9]; exact heap_alloc_new _ _)
              have HL9 : Hid (w3.heap.size ≤ B9) := hid (by rw [hB9]; exact HX.out.size)
              rw [← hp27] at hHeld ⊢
              rw [← hB9]
              have HX := hid (HX.out.trans hE)
              clear hp27 hB9 hE
              refine WG.two (i := 6) (j := 8) rfl rfl (by kernel_rfl) (fun K hK => ?_) (fun K hK => ?_)
              · go_simp
                refine (iPlacer _ _ C.room need _ (HR.out.ext (HE2.out.trans HX.out)) (HN.out.ext (HE2.out.trans HX.out))).mono ?_
                rintro e p28 ⟨b1, b2, rfl, hp1, hp2, hE⟩
                have HP1 := hid hp1
                have HP2 := hid hp2
                clear hp1 hp2
                (try dsimp only)
                have HX := hid (HX.out.trans hE)
                have HB9 := hid (hE.obj HB9.out)
                refine hK.out _ _ (by exact KS.out _ HX.out) (fun hHeld => ?_)
                clear hK K hE
                (try simp only [Act.put, List.setIfInBounds_toArray, List.set_cons_zero, List.set_cons_succ])
                refine WG.two (i := 7) (j := 8) rfl rfl (by kernel_rfl) (fun K hK => ?_) (fun K hK => ?_)
                · go_simp
                  refine (iPlacer1 _ _ _ [] C.room need b1 b2 _ (RSl.nil_ _ _ _ _ _ _ (by omega)) (HR.out.ext (HE2.out.trans HX.out)) (HN.out.ext (HE2.out.trans HX.out)) HP1.out HP2.out ⟨by simp, by simp⟩ HRV.out HNV.out (by rw [leftL_nil (vecOk_len HRV.out)]; exact vecOk_nn HRV.out)).mono ?_
                  rintro e p29 ⟨rfl, hE⟩
                  rw [HF.out]
                  (try dsimp only)
                  have HX := hid (HX.out.trans hE)
                  have HB9 := hid (hE.obj HB9.out)
                  have HP1 := hid (hE.cell HP1.out)
                  have HP2 := hid (hE.cell HP2.out)
                  refine hK.out _ _ (by exact KS.out _ HX.out) (fun hHeld => ?_)
                  clear hK K hE
                  (try simp only [Act.put, List.setIfInBounds_toArray, List.set_cons_zero, List.set_cons_succ])
                  refine WG.one (i := 8) rfl (by kernel_rfl) (fun K hK => ?_)
                  go_simp
                  refine hK.out _ _ (by exact KS.out _ (HX.out.trans (Ext.alloc _ _))) (fun hHeld => ?_)
                  clear hK K
                  (try simp only [Act.put, List.setIfInBounds_toArray, List.set_cons_zero, List.set_cons_succ])
                  obtain ⟨p30, hp30⟩ : ∃ x, x = p29.alloc (.cells #[.int .i64 0] 3) := ⟨_, rfl⟩
                  obtain ⟨B8, hB8⟩ : ∃ x, x = p29.heap.size := ⟨_, rfl⟩
                  have hE : Ext p29 p30 := by rw [hp30]; exact Ext.alloc _ _
                  have HB8 : Hid (p30.heap[B8]? = some (.cells #[.int .i64 0] 3 (0, 0))) := hid (by rw [hp30, hB8]; exact heap_alloc_new _ _)
                  have HL8 : Hid (w3.heap.size ≤ B8) := hid (by rw [hB8]; exact HX.out.size)
                  have hN98 : B9 ≠ B8 := by have := obj_lt HB9.out; omega
                  have hN89 : B8 ≠ B9 := Ne.symm hN98
                  rw [← hp30] at hHeld ⊢
                  rw [← hB8]
                  have HX := hid (HX.out.trans hE)
                  have HB9 := hid (hE.obj HB9.out)
                  have HP1 := hid (hE.cell HP1.out)
                  have HP2 := hid (hE.cell HP2.out)
                  clear hp30 hB8 hE
                  have c8 := obj_cell HB8.out (i := 0) rfl
                  have f8 := obj_frozen HB8.out 0
                  have h9 := obj_far HB9.out (p := ⟨B8, 0, none⟩) hN98 (.int .i64 sp)
                  have c9 := obj_cell h9 (i := 0) rfl
                  have f9 := obj_frozen h9 0
                  clear h9
                  refine WG.last (i := 10) rfl (by kernel_rfl) (by kernel_rfl) (fun K hK => ?_)
                  go_simp
                  refine hK.out _ _ ?_
                  clear hK K
                  (try simp only [Act.put, List.setIfInBounds_toArray, List.set_cons_zero, List.set_cons_succ])
                  refine WG.last (i := 11) rfl (by kernel_rfl) (by kernel_rfl) (fun K hK => ?_)
                  go_simp
                  refine hK.out _ _ ?_
                  clear hK K
                  (try simp only [Act.put, List.setIfInBounds_toArray, List.set_cons_zero, List.set_cons_succ])
                  refine WG.done (by kernel_rfl) ?_
                  exact HJP.out _ _ ⟨B8, B9, _, _, _, _, _, _, _, _, _, _, _, _, _, _, _, _, _, _, _, _, _, _, _, _, _, _, _, _, _, _, _, _, _, _, _, _, _, _, _, _, _, _, _, _, _, _, _, _, _, _, _, _, _, _, _, _, _, rfl, obj_far (obj_set1 HB8.out _) (p := ⟨B9, 0, none⟩) hN89 _, obj_set1 (obj_far HB9.out (p := ⟨B8, 0, none⟩) hN98 _) _, hN89, HL8.out, HL9.out, Below.setCell (Below.setCell HX.out HL8.out _) HL9.out _⟩
                · go_simp
                  refine hK.out _ _ (by exact KS.out _ (HX.out.trans (Ext.alloc _ _))) (fun hHeld => ?_)
                  clear hK K
                  (try simp only [Act.put, List.setIfInBounds_toArray, List.set_cons_zero, List.set_cons_succ])
                  obtain ⟨p31, hp31⟩ : ∃ x, x = p28.alloc (.cells #[.int .i64 0] 3) := ⟨_, rfl⟩
                  obtain ⟨B8, hB8⟩ : ∃ x, x = p28.heap.size := ⟨_, rfl⟩
                  have hE : Ext p28 p31 := by rw [hp31]; exact Ext.alloc _ _
                  have HB8 : Hid (p31.heap[B8]? = some (.cells #[.int .i64 0] 3 (0, 0))) := hid (by rw [hp31, hB8]; exact heap_alloc_new _ _)
                  have HL8 : Hid (w3.heap.size ≤ B8) := hid (by rw [hB8]; exact HX.out.size)
                  have hN98 : B9 ≠ B8 := by have := obj_lt HB9.out; omega
                  have hN89 : B8 ≠ B9 := Ne.symm hN98
                  rw [← hp31] at hHeld ⊢
                  rw [← hB8]
                  have HX := hid (HX.out.trans hE)
                  have HB9 := hid (hE.obj HB9.out)
                  have HP1 := hid (hE.cell HP1.out)
                  have HP2 := hid (hE.cell HP2.out)
                  clear hp31 hB8 hE
                  refine WG.one (i := 7) rfl (by kernel_rfl) (fun K hK => ?_)
                  go_simp
                  refine (iPlacer1 _ _ _ [] C.room need b1 b2 _ (RSl.nil_ _ _ _ _ _ _ (by omega)) (HR.out.ext (HE2.out.trans HX.out)) (HN.out.ext (HE2.out.trans HX.out)) HP1.out HP2.out ⟨by simp, by simp⟩ HRV.out HNV.out (by rw [leftL_nil (vecOk_len HRV.out)]; exact vecOk_nn HRV.out)).mono ?_
                  rintro e p32 ⟨rfl, hE⟩
                  rw [HF.out]
                  (try dsimp only)
                  have HX := hid (HX.out.trans hE)
                  have HB9 := hid (hE.obj HB9.out)
                  have HB8 := hid (hE.obj HB8.out)
                  have HP1 := hid (hE.cell HP1.out)
                  have HP2 := hid (hE.cell HP2.out)
                  refine hK.out _ _ (by exact KS.out _ HX.out) (fun hHeld => ?_)
                  clear hK K hE
                  (try simp only [Act.put, List.setIfInBounds_toArray, List.set_cons_zero, List.set_cons_succ])
                  have c8 := obj_cell HB8.out (i := 0) rfl
                  have f8 := obj_frozen HB8.out 0
                  have h9 := obj_far HB9.out (p := ⟨B8, 0, none⟩) hN98 (.int .i64 sp)
                  have c9 := obj_cell h9 (i := 0) rfl
                  have f9 := obj_frozen h9 0
                  clear h9
                  refine WG.last (i := 10) rfl (by kernel_rfl) (by kernel_rfl) (fun K hK => ?_)
                  go_simp
                  refine hK.out _ _ ?_
                  clear hK K
                  (try simp only [Act.put, List.setIfInBounds_toArray, List.set_cons_zero, List.set_cons_succ])
                  refine WG.last (i := 11) rfl (by kernel_rfl) (by kernel_rfl) (fun K hK => ?_)
                  go_simp
                  refine hK.out _ _ ?_
                  clear hK K
                  (try simp only [Act.put, List.setIfInBounds_toArray, List.set_cons_zero, List.set_cons_succ])
                  refine WG.done (by kernel_rfl) ?_
                  exact HJP.out _ _ ⟨B8, B9, _, _, _, _, _, _, _, _, _, _, _, _, _, _, _, _, _, _, _, _, _, _, _, _, _, _, _, _, _, _, _, _, _, _, _, _, _, _, _, _, _, _, _, _, _, _, _, _, _, _, _, _, _, _, _, _, _, rfl, obj_far (obj_set1 HB8.out _) (p := ⟨B9, 0, none⟩) hN89 _, obj_set1 (obj_far HB9.out (p := ⟨B8, 0, none⟩) hN98 _) _, hN89, HL8.out, HL9.out, Below.setCell (Below.setCell HX.out HL8.out _) HL9.out _⟩
              · go_simp
                refine hK.out _ _ (by exact KS.out _ (HX.out.trans (Ext.alloc _ _))) (fun hHeld => ?_)
                clear hK K
                (try simp only [Act.put, List.setIfInBounds_toArray, List.set_cons_zero, List.set_cons_succ])
                obtain ⟨p33, hp33⟩ : ∃ x, x = p27.alloc (.cells #[.int .i64 0] 3) := ⟨_, rfl⟩
                obtain ⟨B8, hB8⟩ : ∃ x, x = p27.heap.size := ⟨_, rfl⟩
                have hE : Ext p27 p33 := by rw [hp33]; exact Ext.alloc _ _
                have HB8 : Hid (p33.heap[B8]? = some (.cells #[.int .i64 0] 3 (0, 0))) := hid (by rw [hp33, hB8]; exact heap_alloc_new _ _)
                have HL8 : Hid (w3.heap.size ≤ B8) := hid (by rw [hB8]; exact HX.out.size)
                have hN98 : B9 ≠ B8 := by have := obj_lt HB9.out; omega
                have hN89 : B8 ≠ B9 := Ne.symm hN98
                rw [← hp33] at hHeld ⊢
                rw [← hB8]
                have HX := hid (HX.out.trans hE)
                have HB9 := hid (hE.obj HB9.out)
                clear hp33 hB8 hE
                refine WG.one (i := 6) rfl (by kernel_rfl) (fun K hK => ?_)
                go_simp
                refine (iPlacer _ _ C.room need _ (HR.out.ext (HE2.out.trans HX.out)) (HN.out.ext (HE2.out.trans HX.out))).mono ?_
                rintro e p34 ⟨b1, b2, rfl, hp1, hp2, hE⟩
                have HP1 := hid hp1
                have HP2 := hid hp2
                clear hp1 hp2
                (try dsimp only)
                have HX := hid (HX.out.trans hE)
                have HB9 := hid (hE.obj HB9.out)
                have HB8 := hid (hE.obj HB8.out)
                refine hK.out _ _ (by exact KS.out _ HX.out) (fun hHeld => ?_)
                clear hK K hE
                (try simp only [Act.put, List.setIfInBounds_toArray, List.set_cons_zero, List.set_cons_succ])
                refine WG.one (i := 7) rfl (by kernel_rfl) (fun K hK => ?_)
                go_simp
                refine (iPlacer1 _ _ _ [] C.room need b1 b2 _ (RSl.nil_ _ _ _ _ _ _ (by omega)) (HR.out.ext (HE2.out.trans HX.out)) (HN.out.ext (HE2.out.trans HX.out)) HP1.out HP2.out ⟨by simp, by simp⟩ HRV.out HNV.out (by rw [leftL_nil (vecOk_len HRV.out)]; exact vecOk_nn HRV.out)).mono ?_
                rintro e p35 ⟨rfl, hE⟩
                rw [HF.out]
                (try dsimp only)
                have HX := hid (HX.out.trans hE)
                have HB9 := hid (hE.obj HB9.out)
                have HB8 := hid (hE.obj HB8.out)
                have HP1 := hid (hE.cell HP1.out)
                have HP2 := hid (hE.cell HP2.out)
                refine hK.out _ _ (by exact KS.out _ HX.out) (fun hHeld => ?_)
                clear hK K hE
                (try simp only [Act.put, List.setIfInBounds_toArray, List.set_cons_zero, List.set_cons_succ])
                have c8 := obj_cell HB8.out (i := 0) rfl
                have f8 := obj_frozen HB8.out 0
                have h9 := obj_far HB9.out (p := ⟨B8, 0, none⟩) hN98 (.int .i64 sp)
                have c9 := obj_cell h9 (i := 0) rfl
                have f9 := obj_frozen h9 0
                clear h9
                refine WG.last (i := 10) rfl (by kernel_rfl) (by kernel_rfl) (fun K hK => ?_)
                go_simp
                refine hK.out _ _ ?_
                clear hK K
                (try simp only [Act.put, List.setIfInBounds_toArray, List.set_cons_zero, List.set_cons_succ])
                refine WG.last (i := 11) rfl (by kernel_rfl) (by kernel_rfl) (fun K hK => ?_)
                go_simp
                refine hK.out _ _ ?_
                clear hK K
                (try simp only [Act.put, List.setIfInBounds_toArray, List.set_cons_zero, List.set_cons_succ])
                refine WG.done (by kernel_rfl) ?_
                exact HJP.out _ _ ⟨B8, B9, _, _, _, _, _, _, _, _, _, _, _, _, _, _, _, _, _, _, _, _, _, _, _, _, _, _, _, _, _, _, _, _, _, _, _, _, _, _, _, _, _, _, _, _, _, _, _, _, _, _, _, _, _, _, _, _, _, rfl, obj_far (obj_set1 HB8.out _) (p := ⟨B9, 0, none⟩) hN89 _, obj_set1 (obj_far HB9.out (p := ⟨B8, 0, none⟩) hN98 _) _, hN89, HL8.out, HL9.out, Below.setCell (Below.setCell HX.out HL8.out _) HL9.out _⟩
          · go_simp
            refine hK.out _ _ (by exact KS.out _ (HX.out.trans (Ext.alloc _ _))) (fun hHeld => ?_)
            clear hK K
            (try simp only [Act.put, List.setIfInBounds_toArray, List.set_cons_zero, List.set_cons_succ])
            obtain ⟨p36, hp36⟩ : ∃ x, x = pz.alloc (.cells #[.int .i64 0] 3) := ⟨_, rfl⟩
            obtain ⟨B8, hB8⟩ : ∃ x, x = pz.heap.size := ⟨_, rfl⟩
            have hE : Ext pz p36 := by rw [hp36]; exact Ext.alloc _ _
            have HB8 : Hid (p36.heap[B8]? = some (.cells #[.int .i64 0] 3 (0, 0))) := hid (by rw [hp36, hB8]; exact heap_alloc_new _ _)
            have HL8 : Hid (w3.heap.size ≤ B8) := hid (by rw [hB8]; exact HX.out.size)
            rw [← hp36] at hHeld ⊢
            rw [← hB8]
            have HX := hid (HX.out.trans hE)
            clear hp36 hB8 hE
            refine WG.two (i := 2) (j := 9) rfl rfl (by kernel_rfl) (fun K hK => ?_) (fun K hK => ?_)
            · go_simp
              refine (iSpare _ _ C need _ (H0.out.ext (HE2.out.trans HX.out)) (HN.out.ext (HE2.out.trans HX.out)) HCL.out HNV.out).mono ?_
              rintro e p37 ⟨rfl, hE⟩
              rw [HS.out]
              (try dsimp only)
              have HX := hid (HX.out.trans hE)
              have HB8 := hid (hE.obj HB8.out)
              refine hK.out _ _ (by exact KS.out _ HX.out) (fun hHeld => ?_)
              clear hK K hE
              (try simp only [Act.put, List.setIfInBounds_toArray, List.set_cons_zero, List.set_cons_succ])
              refine WG.two (i := 6) (j := 9) rfl rfl (by kernel_rfl) (fun K hK => ?_) (fun K hK => ?_)
              · go_simp
                refine (iPlacer _ _ C.room need _ (HR.out.ext (HE2.out.trans HX.out)) (HN.out.ext (HE2.out.trans HX.out))).mono ?_
                rintro e p38 ⟨b1, b2, rfl, hp1, hp2, hE⟩
                have HP1 := hid hp1
                have HP2 := hid hp2
                clear hp1 hp2
                (try dsimp only)
                have HX := hid (HX.out.trans hE)
                have HB8 := hid (hE.obj HB8.out)
                refine hK.out _ _ (by exact KS.out _ HX.out) (fun hHeld => ?_)
                clear hK K hE
                (try simp only [Act.put, List.setIfInBounds_toArray, List.set_cons_zero, List.set_cons_succ])
                refine WG.two (i := 7) (j := 9) rfl rfl (by kernel_rfl) (fun K hK => ?_) (fun K hK => ?_)
                · go_simp
                  refine (iPlacer1 _ _ _ [] C.room need b1 b2 _ (RSl.nil_ _ _ _ _ _ _ (by omega)) (HR.out.ext (HE2.out.trans HX.out)) (HN.out.ext (HE2.out.trans HX.out)) HP1.out HP2.out ⟨by simp, by simp⟩ HRV.out HNV.out (by rw [leftL_nil (vecOk_len HRV.out)]; exact vecOk_nn HRV.out)).mono ?_
                  rintro e p39 ⟨rfl, hE⟩
                  rw [HF.out]
                  (try dsimp only)
                  have HX := hid (HX.out.trans hE)
                  have HB8 := hid (hE.obj HB8.out)
                  have HP1 := hid (hE.cell HP1.out)
                  have HP2 := hid (hE.cell HP2.out)
                  refine hK.out _ _ (by exact KS.out _ HX.out) (fun hHeld => ?_)
                  clear hK K hE
                  (try simp only [Act.put, List.setIfInBounds_toArray, List.set_cons_zero, List.set_cons_succ])
                  refine WG.one (i := 9) rfl (by kernel_rfl) (fun K hK => ?_)
                  go_simp
                  refine hK.out _ _ (by exact KS.out _ (HX.out.trans (Ext.alloc _ _))) (fun hHeld => ?_)
                  clear hK K
                  (try simp only [Act.put, List.setIfInBounds_toArray, List.set_cons_zero, List.set_cons_succ])
                  obtain ⟨p40, hp40⟩ : ∃ x, x = p39.alloc (.cells #[.int .i64 0] 3) := ⟨_, rfl⟩
                  obtain ⟨B9, hB9⟩ : ∃ x, x = p39.heap.size := ⟨_, rfl⟩
                  have hE : Ext p39 p40 := by rw [hp40]; exact Ext.alloc _ _
                  have HB9 : Hid (p40.heap[B9]? = some (.cells #[.int .i64 0] 3 (0, 0))) := hid (by rw [hp40, hB9]; exact heap_alloc_new _ _)
                  have HL9 : Hid (w3.heap.size ≤ B9) := hid (by rw [hB9]; exact HX.out.size)
                  have hN89 : B8 ≠ B9 := by have := obj_lt HB8.out; omega
                  have hN98 : B9 ≠ B8 := Ne.symm hN89
                  rw [← hp40] at hHeld ⊢
                  rw [← hB9]
                  have HX := hid (HX.out.trans hE)
                  have HB8 := hid (hE.obj HB8.out)
                  have HP1 := hid (hE.cell HP1.out)
                  have HP2 := hid (hE.cell HP2.out)
                  clear hp40 hB9 hE
                  have c8 := obj_cell HB8.out (i := 0) rfl
                  have f8 := obj_frozen HB8.out 0
                  have h9 := obj_far HB9.out (p := ⟨B8, 0, none⟩) hN98 (.int .i64 sp)
                  have c9 := obj_cell h9 (i := 0) rfl
                  have f9 := obj_frozen h9 0
                  clear h9
                  refine WG.last (i := 10) rfl (by kernel_rfl) (by kernel_rfl) (fun K hK => ?_)
                  go_simp
                  refine hK.out _ _ ?_
                  clear hK K
                  (try simp only [Act.put, List.setIfInBounds_toArray, List.set_cons_zero, List.set_cons_succ])
                  refine WG.last (i := 11) rfl (by kernel_rfl) (by kernel_rfl) (fun K hK => ?_)
                  go_simp
                  refine hK.out _ _ ?_
                  clear hK K
                  (try simp only [Act.put, List.setIfInBounds_toArray, List.set_cons_zero, List.set_cons_succ])
                  refine WG.done (by kernel_rfl) ?_
                  exact HJP.out _ _ ⟨B8, B9, _, _, _, _, _, _, _, _, _, _, _, _, _, _, _, _, _, _, _, _, _, _, _, _, _, _, _, _, _, _, _, _, _, _, _, _, _, _, _, _, _, _, _, _, _, _, _, _, _, _, _, _, _, _, _, _, _, rfl, obj_far (obj_set1 HB8.out _) (p := ⟨B9, 0, none⟩) hN89 _, obj_set1 (obj_far HB9.out (p := ⟨B8, 0, none⟩) hN98 _) _, hN89, HL8.out, HL9.out, Below.setCell (Below.setCell HX.out HL8.out _) HL9.out _⟩
                · go_simp
                  refine hK.out _ _ (by exact KS.out _ (HX.out.trans (Ext.alloc _ _))) (fun hHeld => ?_)
                  clear hK K
                  (try simp only [Act.put, List.setIfInBounds_toArray, List.set_cons_zero, List.set_cons_succ])
                  obtain ⟨p41, hp41⟩ : ∃ x, x = p38.alloc (.cells #[.int .i64 0] 3) := ⟨_, rfl⟩
                  obtain ⟨B9, hB9⟩ : ∃ x, x = p38.heap.size := ⟨_, rfl⟩
                  have hE : Ext p38 p41 := by rw [hp41]; exact Ext.alloc _ _
                  have HB9 : Hid (p41.heap[B9]? = some (.cells #[.int .i64 0] 3 (0, 0))) := hid (by rw [hp41, hB9]; exact heap_alloc_new _ _)
                  have HL9 : Hid (w3.heap.size ≤ B9) := hid (by rw [hB9]; exact HX.out.size)
                  have hN89 : B8 ≠ B9 := by have := obj_lt HB8.out; omega
                  have hN98 : B9 ≠ B8 := Ne.symm hN89
                  rw [← hp41] at hHeld ⊢
                  rw [← hB9]
                  have HX := hid (HX.out.trans hE)
                  have HB8 := hid (hE.obj HB8.out)
                  have HP1 := hid (hE.cell HP1.out)
                  have HP2 := hid (hE.cell HP2.out)
                  clear hp41 hB9 hE
                  refine WG.one (i := 7) rfl (by kernel_rfl) (fun K hK => ?_)
                  go_simp
                  refine (iPlacer1 _ _ _ [] C.room need b1 b2 _ (RSl.nil_ _ _ _ _ _ _ (by omega)) (HR.out.ext (HE2.out.trans HX.out)) (HN.out.ext (HE2.out.trans HX.out)) HP1.out HP2.out ⟨by simp, by simp⟩ HRV.out HNV.out (by rw [leftL_nil (vecOk_len HRV.out)]; exact vecOk_nn HRV.out)).mono ?_
                  rintro e p42 ⟨rfl, hE⟩
                  rw [HF.out]
                  (try dsimp only)
                  have HX := hid (HX.out.trans hE)
                  have HB8 := hid (hE.obj HB8.out)
                  have HB9 := hid (hE.obj HB9.out)
                  have HP1 := hid (hE.cell HP1.out)
                  have HP2 := hid (hE.cell HP2.out)
                  refine hK.out _ _ (by exact KS.out _ HX.out) (fun hHeld => ?_)
                  clear hK K hE
                  (try simp only [Act.put, List.setIfInBounds_toArray, List.set_cons_zero, List.set_cons_succ])
                  have c8 := obj_cell HB8.out (i := 0) rfl
                  have f8 := obj_frozen HB8.out 0
                  have h9 := obj_far HB9.out (p := ⟨B8, 0, none⟩) hN98 (.int .i64 sp)
                  have c9 := obj_cell h9 (i := 0) rfl
                  have f9 := obj_frozen h9 0
                  clear h9
                  refine WG.last (i := 10) rfl (by kernel_rfl) (by kernel_rfl) (fun K hK => ?_)
                  go_simp
                  refine hK.out _ _ ?_
                  clear hK K
                  (try simp only [Act.put, List.setIfInBounds_toArray, List.set_cons_zero, List.set_cons_succ])
                  refine WG.last (i := 11) rfl (by kernel_rfl) (by kernel_rfl) (fun K hK => ?_)
                  go_simp
                  refine hK.out _ _ ?_
                  clear hK K
                  (try simp only [Act.put, List.setIfInBounds_toArray, List.set_cons_zero, List.set_cons_succ])
                  refine WG.done (by kernel_rfl) ?_
                  exact HJP.out _ _ ⟨B8, B9, _, _, _, _, _, _, _, _, _, _, _, _, _, _, _, _, _, _, _, _, _, _, _, _, _, _, _, _, _, _, _, _, _, _, _, _, _, _, _, _, _, _, _, _, _, _, _, _, _, _, _, _, _, _, _, _, _, rfl, obj_far (obj_set1 HB8.out _) (p := ⟨B9, 0, none⟩) hN89 _, obj_set1 (obj_far HB9.out (p := ⟨B8, 0, none⟩) hN98 _) _, hN89, HL8.out, HL9.out, Below.setCell (Below.setCell HX.out HL8.out _) HL9.out _⟩
              · go_simp
                refine hK.out _ _ (by exact KS.out _ (HX.out.trans (Ext.alloc _ _))) (fun hHeld => ?_)
                clear hK K
                (try simp only [Act.put, List.setIfInBounds_toArray, List.set_cons_zero, List.set_cons_succ])
                obtain ⟨p43, hp43⟩ : ∃ x, x = p37.alloc (.cells #[.int .i64 0] 3) := ⟨_, rfl⟩
                obtain ⟨B9, hB9⟩ : ∃ x, x = p37.heap.size := ⟨_, rfl⟩
                have hE : Ext p37 p43 := by rw [hp43]; exact Ext.alloc _ _
                have HB9 : Hid (p43.heap[B9]? = some (.cells #[.int .i64 0] 3 (0, 0))) := hid (by rw [hp43, hB9]; exact heap_alloc_new _ _)
                have HL9 : Hid (w3.heap.size ≤ B9) := hid (by rw [hB9]; exact HX.out.size)
                have hN89 : B8 ≠ B9 := by have := obj_lt HB8.out; omega
                have hN98 : B9 ≠ B8 := Ne.symm hN89
                rw [← hp43] at hHeld ⊢
                rw [← hB9]
                have HX := hid (HX.out.trans hE)
                have HB8 := hid (hE.obj HB8.out)
                clear hp43 hB9 hE
                refine WG.one (i := 6) rfl (by kernel_rfl) (fun K hK => ?_)
                go_simp
                refine (iPlacer _ _ C.room need _ (HR.out.ext (HE2.out.trans HX.out)) (HN.out.ext (HE2.out.trans HX.out))).mono ?_
                rintro e p44 ⟨b1, b2, rfl, hp1, hp2, hE⟩
                have HP1 := hid hp1
                have HP2 := hid hp2
                clear hp1 hp2
                (try dsimp only)
                have HX := hid (HX.out.trans hE)
                have HB8 := hid (hE.obj HB8.out)
                have HB9 := hid (hE.obj HB9.out)
                refine hK.out _ _ (by exact KS.out _ HX.out) (fun hHeld => ?_)
                clear hK K hE
                (try simp only [Act.put, List.setIfInBounds_toArray, List.set_cons_zero, List.set_cons_succ])
                refine WG.one (i := 7) rfl (by kernel_rfl) (fun K hK => ?_)
                go_simp
                refine (iPlacer1 _ _ _ [] C.room need b1 b2 _ (RSl.nil_ _ _ _ _ _ _ (by omega)) (HR.out.ext (HE2.out.trans HX.out)) (HN.out.ext (HE2.out.trans HX.out)) HP1.out HP2.out ⟨by simp, by simp⟩ HRV.out HNV.out (by rw [leftL_nil (vecOk_len HRV.out)]; exact vecOk_nn HRV.out)).mono ?_
                rintro e p45 ⟨rfl, hE⟩
                rw [HF.out]
                (try dsimp only)
                have HX := hid (HX.out.trans hE)
                have HB8 := hid (hE.obj HB8.out)
                have HB9 := hid (hE.obj HB9.out)
                have HP1 := hid (hE.cell HP1.out)
                have HP2 := hid (hE.cell HP2.out)
                refine hK.out _ _ (by exact KS.out _ HX.out) (fun hHeld => ?_)
                clear hK K hE
                (try simp only [Act.put, List.setIfInBounds_toArray, List.set_cons_zero, List.set_cons_succ])
                have c8 := obj_cell HB8.out (i := 0) rfl
                have f8 := obj_frozen HB8.out 0
                have h9 := obj_far HB9.out (p := ⟨B8, 0, none⟩) hN98 (.int .i64 sp)
                have c9 := obj_cell h9 (i := 0) rfl
                have f9 := obj_frozen h9 0
                clear h9
                refine WG.last (i := 10) rfl (by kernel_rfl) (by kernel_rfl) (fun K hK => ?_)
                go_simp
                refine hK.out _ _ ?_
                clear hK K
                (try simp only [Act.put, List.setIfInBounds_toArray, List.set_cons_zero, List.set_cons_succ])
                refine WG.last (i := 11) rfl (by kernel_rfl) (by kernel_rfl) (fun K hK => ?_)
                go_simp
                refine hK.out _ _ ?_
                clear hK K
                (try simp only [Act.put, List.setIfInBounds_toArray, List.set_cons_zero, List.set_cons_succ])
                refine WG.done (by kernel_rfl) ?_
                exact HJP.out _ _ ⟨B8, B9, _, _, _, _, _, _, _, _, _, _, _, _, _, _, _, _, _, _, _, _, _, _, _, _, _, _, _, _, _, _, _, _, _, _, _, _, _, _, _, _, _, _, _, _, _, _, _, _, _, _, _, _, _, _, _, _, _, rfl, obj_far (obj_set1 HB8.out _) (p := ⟨B9, 0, none⟩) hN89 _, obj_set1 (obj_far HB9.out (p := ⟨B8, 0, none⟩) hN98 _) _, hN89, HL8.out, HL9.out, Below.setCell (Below.setCell HX.out HL8.out _) HL9.out _⟩
            · go_simp
              refine hK.out _ _ (by exact KS.out _ (HX.out.trans (Ext.alloc _ _))) (fun hHeld => ?_)
              clear hK K
              (try simp only [Act.put, List.setIfInBounds_toArray, List.set_cons_zero, List.set_cons_succ])
              obtain ⟨p46, hp46⟩ : ∃ x, x = p36.alloc (.cells #[.int .i64 0] 3) := ⟨_, rfl⟩
              obtain ⟨B9, hB9⟩ : ∃ x, x = p36.heap.size := ⟨_, rfl⟩
              have hE : Ext p36 p46 := by rw [hp46]; exact Ext.alloc _ _
              have HB9 : Hid (p46.heap[B9]? = some (.cells #[.int .i64 0] 3 (0, 0))) := hid (by rw [hp46, hB9]; exact heap_alloc_new _ _)
              have HL9 : Hid (w3.heap.size ≤ B9) := hid (by rw [hB9]; exact HX.out.size)
              have hN89 : B8 ≠ B9 := by have := obj_lt HB8.out; omega
              have hN98 : B9 ≠ B8 := Ne.symm hN89
              rw [← hp46] at hHeld ⊢
              rw [← hB9]
              have HX := hid (HX.out.trans hE)
              have HB8 := hid (hE.obj HB8.out)
              clear hp46 hB9 hE
              refine WG.one (i := 2) rfl (by kernel_rfl) (fun K hK => ?_)
              go_simp
              refine (iSpare _ _ C need _ (H0.out.ext (HE2.out.trans HX.out)) (HN.out.ext (HE2.out.trans HX.out)) HCL.out HNV.out).mono ?_
              rintro e p47 ⟨rfl, hE⟩
              rw [HS.out]
              (try dsimp only)
              have HX := hid (HX.out.trans hE)
              have HB8 := hid (hE.obj HB8.out)
              have HB9 := hid (hE.obj HB9.out)
              refine hK.out _ _ (by exact KS.out _ HX.out) (fun hHeld => ?_)
              clear hK K hE
              (try simp only [Act.put, List.setIfInBounds_toArray, List.set_cons_zero, List.set_cons_succ])
              refine WG.one (i := 6) rfl (by kernel_rfl) (fun K hK => ?_)
              go_simp
              refine (iPlacer _ _ C.room need _ (HR.out.ext (HE2.out.trans HX.out)) (HN.out.ext (HE2.out.trans HX.out))).mono ?_
              rintro e p48 ⟨b1, b2, rfl, hp1, hp2, hE⟩
              have HP1 := hid hp1
              have HP2 := hid hp2
              clear hp1 hp2
              (try dsimp only)
              have HX := hid (HX.out.trans hE)
              have HB8 := hid (hE.obj HB8.out)
              have HB9 := hid (hE.obj HB9.out)
              refine hK.out _ _ (by exact KS.out _ HX.out) (fun hHeld => ?_)
              clear hK K hE
              (try simp only [Act.put, List.setIfInBounds_toArray, List.set_cons_zero, List.set_cons_succ])
              refine WG.one (i := 7) rfl (by kernel_rfl) (fun K hK => ?_)
              go_simp
              refine (iPlacer1 _ _ _ [] C.room need b1 b2 _ (RSl.nil_ _ _ _ _ _ _ (by omega)) (HR.out.ext (HE2.out.trans HX.out)) (HN.out.ext (HE2.out.trans HX.out)) HP1.out HP2.out ⟨by simp, by simp⟩ HRV.out HNV.out (by rw [leftL_nil (vecOk_len HRV.out)]; exact vecOk_nn HRV.out)).mono ?_
              rintro e p49 ⟨rfl, hE⟩
              rw [HF.out]
              (try dsimp only)
              have HX := hid (HX.out.trans hE)
              have HB8 := hid (hE.obj HB8.out)
              have HB9 := hid (hE.obj HB9.out)
              have HP1 := hid (hE.cell HP1.out)
              have HP2 := hid (hE.cell HP2.out)
              refine hK.out _ _ (by exact KS.out _ HX.out) (fun hHeld => ?_)
              clear hK K hE
              (try simp only [Act.put, List.setIfInBounds_toArray, List.set_cons_zero, List.set_cons_succ])
              have c8 := obj_cell HB8.out (i := 0) rfl
              have f8 := obj_frozen HB8.out 0
              have h9 := obj_far HB9.out (p := ⟨B8, 0, none⟩) hN98 (.int .i64 sp)
              have c9 := obj_cell h9 (i := 0) rfl
              have f9 := obj_frozen h9 0
              clear h9
              refine WG.last (i := 10) rfl (by kernel_rfl) (by kernel_rfl) (fun K hK => ?_)
              go_simp
              refine hK.out _ _ ?_
              clear hK K
              (try simp only [Act.put, List.setIfInBounds_toArray, List.set_cons_zero, List.set_cons_succ])
              refine WG.last (i := 11) rfl (by kernel_rfl) (by kernel_rfl) (fun K hK => ?_)
              go_simp
              refine hK.out _ _ ?_
              clear hK K
              (try simp only [Act.put, List.setIfInBounds_toArray, List.set_cons_zero, List.set_cons_succ])
              refine WG.done (by kernel_rfl) ?_
              exact HJP.out _ _ ⟨B8, B9, _, _, _, _, _, _, _, _, _, _, _, _, _, _, _, _, _, _, _, _, _, _, _, _, _, _, _, _, _, _, _, _, _, _, _, _, _, _, _, _, _, _, _, _, _, _, _, _, _, _, _, _, _, _, _, _, _, rfl, obj_far (obj_set1 HB8.out _) (p := ⟨B9, 0, none⟩) hN89 _, obj_set1 (obj_far HB9.out (p := ⟨B8, 0, none⟩) hN98 _) _, hN89, HL8.out, HL9.out, Below.setCell (Below.setCell HX.out HL8.out _) HL9.out _⟩
          · go_simp
            refine hK.out _ _ (by exact KS.out _ (HX.out.trans (Ext.alloc _ _))) (fun hHeld => ?_)
            clear hK K
            (try simp only [Act.put, List.setIfInBounds_toArray, List.set_cons_zero, List.set_cons_succ])
            obtain ⟨p50, hp50⟩ : ∃ x, x = pz.alloc (.cells #[.int .i64 0] 3) := ⟨_, rfl⟩
            obtain ⟨B9, hB9⟩ : ∃ x, x = pz.heap.size := ⟨_, rfl⟩
            have hE : Ext pz p50 := by rw [hp50]; exact Ext.alloc _ _
            have HB9 : Hid (p50.heap[B9]? = some (.cells #[.int .i64 0] 3 (0, 0))) := hid (by rw [hp50, hB9]; exact heap_alloc_new _ _)
            have HL9 : Hid (w3.heap.size ≤ B9) := hid (by rw [hB9]; exact HX.out.size)
            rw [← hp50] at hHeld ⊢
            rw [← hB9]
            have HX := hid (HX.out.trans hE)
            clear hp50 hB9 hE
            refine WG.two (i := 2) (j := 8) rfl rfl (by kernel_rfl) (fun K hK => ?_) (fun K hK => ?_)
            · go_simp
              refine (iSpare _ _ C need _ (H0.out.ext (HE2.out.trans HX.out)) (HN.out.ext (HE2.out.trans HX.out)) HCL.out HNV.out).mono ?_
              rintro e p51 ⟨rfl, hE⟩
              rw [HS.out]
              (try dsimp only)
              have HX := hid (HX.out.trans hE)
              have HB9 := hid (hE.obj HB9.out)
              refine hK.out _ _ (by exact KS.out _ HX.out) (fun hHeld => ?_)
              clear hK K hE
              (try simp only [Act.put, List.setIfInBounds_toArray, List.set_cons_zero, List.set_cons_succ])
              refine WG.two (i := 6) (j := 8) rfl rfl (by kernel_rfl) (fun K hK => ?_) (fun K hK => ?_)
              · go_simp
                refine (iPlacer _ _ C.room need _ (HR.out.ext (HE2.out.trans HX.out)) (HN.out.ext (HE2.out.trans HX.out))).mono ?_
                rintro e p52 ⟨b1, b2, rfl, hp1, hp2, hE⟩
                have HP1 := hid hp1
                have HP2 := hid hp2
                clear hp1 hp2
                (try dsimp only)
                have HX := hid (HX.out.trans hE)
                have HB9 := hid (hE.obj HB9.out)
                refine hK.out _ _ (by exact KS.out _ HX.out) (fun hHeld => ?_)
                clear hK K hE
                (try simp only [Act.put, List.setIfInBounds_toArray, List.set_cons_zero, List.set_cons_succ])
                refine WG.two (i := 7) (j := 8) rfl rfl (by kernel_rfl) (fun K hK => ?_) (fun K hK => ?_)
                · go_simp
                  refine (iPlacer1 _ _ _ [] C.room need b1 b2 _ (RSl.nil_ _ _ _ _ _ _ (by omega)) (HR.out.ext (HE2.out.trans HX.out)) (HN.out.ext (HE2.out.trans HX.out)) HP1.out HP2.out ⟨by simp, by simp⟩ HRV.out HNV.out (by rw [leftL_nil (vecOk_len HRV.out)]; exact vecOk_nn HRV.out)).mono ?_
                  rintro e p53 ⟨rfl, hE⟩
                  rw [HF.out]
                  (try dsimp only)
                  have HX := hid (HX.out.trans hE)
                  have HB9 := hid (hE.obj HB9.out)
                  have HP1 := hid (hE.cell HP1.out)
                  have HP2 := hid (hE.cell HP2.out)
                  refine hK.out _ _ (by exact KS.out _ HX.out) (fun hHeld => ?_)
                  clear hK K hE
                  (try simp only [Act.put, List.setIfInBounds_toArray, List.set_cons_zero, List.set_cons_succ])
                  refine WG.one (i := 8) rfl (by kernel_rfl) (fun K hK => ?_)
                  go_simp
                  refine hK.out _ _ (by exact KS.out _ (HX.out.trans (Ext.alloc _ _))) (fun hHeld => ?_)
                  clear hK K
                  (try simp only [Act.put, List.setIfInBounds_toArray, List.set_cons_zero, List.set_cons_succ])
                  obtain ⟨p54, hp54⟩ : ∃ x, x = p53.alloc (.cells #[.int .i64 0] 3) := ⟨_, rfl⟩
                  obtain ⟨B8, hB8⟩ : ∃ x, x = p53.heap.size := ⟨_, rfl⟩
                  have hE : Ext p53 p54 := by rw [hp54]; exact Ext.alloc _ _
                  have HB8 : Hid (p54.heap[B8]? = some (.cells #[.int .i64 0] 3 (0, 0))) := hid (by rw [hp54, hB8]; exact heap_alloc_new _ _)
                  have HL8 : Hid (w3.heap.size ≤ B8) := hid (by rw [hB8]; exact HX.out.size)
                  have hN98 : B9 ≠ B8 := by have := obj_lt HB9.out; omega
                  have hN89 : B8 ≠ B9 := Ne.symm hN98
                  rw [← hp54] at hHeld ⊢
                  rw [← hB8]
                  have HX := hid (HX.out.trans hE)
                  have HB9 := hid (hE.obj HB9.out)
                  have HP1 := hid (hE.cell HP1.out)
                  have HP2 := hid (hE.cell HP2.out)
                  clear hp54 hB8 hE
                  have c8 := obj_cell HB8.out (i := 0) rfl
                  have f8 := obj_frozen HB8.out 0
                  have h9 := obj_far HB9.out (p := ⟨B8, 0, none⟩) hN98 (.int .i64 sp)
                  have c9 := obj_cell h9 (i := 0) rfl
                  have f9 := obj_frozen h9 0
                  clear h9
                  refine WG.last (i := 10) rfl (by kernel_rfl) (by kernel_rfl) (fun K hK => ?_)
                  go_simp
                  refine hK.out _ _ ?_
                  clear hK K
                  (try simp only [Act.put, List.setIfInBounds_toArray, List.set_cons_zero, List.set_cons_succ])
                  refine WG.last (i := 11) rfl (by kernel_rfl) (by kernel_rfl) (fun K hK => ?_)
                  go_simp
                  refine hK.out _ _ ?_
                  clear hK K
                  (try simp only [Act.put, List.setIfInBounds_toArray, List.set_cons_zero, List.set_cons_succ])
                  refine WG.done (by kernel_rfl) ?_
                  exact HJP.out _ _ ⟨B8, B9, _, _, _, _, _, _, _, _, _, _, _, _, _, _, _, _, _, _, _, _, _, _, _, _, _, _, _, _, _, _, _, _, _, _, _, _, _, _, _, _, _, _, _, _, _, _, _, _, _, _, _, _, _, _, _, _, _, rfl, obj_far (obj_set1 HB8.out _) (p := ⟨B9, 0, none⟩) hN89 _, obj_set1 (obj_far HB9.out (p := ⟨B8, 0, none⟩) hN98 _) _, hN89, HL8.out, HL9.out, Below.setCell (Below.setCell HX.out HL8.out _) HL9.out _⟩
                · go_simp
                  refine hK.out _ _ (by exact KS.out _ (HX.out.trans (Ext.alloc _ _))) (fun hHeld => ?_)
                  clear hK K
                  (try simp only [Act.put, List.setIfInBounds_toArray, List.set_cons_zero, List.set_cons_succ])
                  obtain ⟨p55, hp55⟩ : ∃ x, x = p52.alloc (.cells #[.int .i64 0] 3) := ⟨_, rfl⟩
                  obtain ⟨B8, hB8⟩ : ∃ x, x = p52.heap.size := ⟨_, rfl⟩
                  have hE : Ext p52 p55 := by rw [hp55]; exact Ext.alloc _ _
                  have HB8 : Hid (p55.heap[B8]? = some (.cells #[.int .i64 0] 3 (0, 0))) := hid (by rw [hp55, hB8]; exact heap_alloc_new _ _)
                  have HL8 : Hid (w3.heap.size ≤ B8) := hid (by rw [hB8]; exact HX.out.size)
                  have hN98 : B9 ≠ B8 := by have := obj_lt HB9.out; omega
                  have hN89 : B8 ≠ B9 := Ne.symm hN98
                  rw [← hp55] at hHeld ⊢
                  rw [← hB8]
                  have HX := hid (HX.out.trans hE)
                  have HB9 := hid (hE.obj HB9.out)
                  have HP1 := hid (hE.cell HP1.out)
                  have HP2 := hid (hE.cell HP2.out)
                  clear hp55 hB8 hE
                  refine WG.one (i := 7) rfl (by kernel_rfl) (fun K hK => ?_)
                  go_simp
                  refine (iPlacer1 _ _ _ [] C.room need b1 b2 _ (RSl.nil_ _ _ _ _ _ _ (by omega)) (HR.out.ext (HE2.out.trans HX.out)) (HN.out.ext (HE2.out.trans HX.out)) HP1.out HP2.out ⟨by simp, by simp⟩ HRV.out HNV.out (by rw [leftL_nil (vecOk_len HRV.out)]; exact vecOk_nn HRV.out)).mono ?_
                  rintro e p56 ⟨rfl, hE⟩
                  rw [HF.out]
                  (try dsimp only)
                  have HX := hid (HX.out.trans hE)
                  have HB9 := hid (hE.obj HB9.out)
                  have HB8 := hid (hE.obj HB8.out)
                  have HP1 := hid (hE.cell HP1.out)
                  have HP2 := hid (hE.cell HP2.out)
                  refine hK.out _ _ (by exact KS.out _ HX.out) (fun hHeld => ?_)
                  clear hK K hE
                  (try simp only [Act.put, List.setIfInBounds_toArray, List.set_cons_zero, List.set_cons_succ])
                  have c8 := obj_cell HB8.out (i := 0) rfl
                  have f8 := obj_frozen HB8.out 0
                  have h9 := obj_far HB9.out (p := ⟨B8, 0, none⟩) hN98 (.int .i64 sp)
                  have c9 := obj_cell h9 (i := 0) rfl
                  have f9 := obj_frozen h9 0
                  clear h9
                  refine WG.last (i := 10) rfl (by kernel_rfl) (by kernel_rfl) (fun K hK => ?_)
                  go_simp
                  refine hK.out _ _ ?_
                  clear hK K
                  (try simp only [Act.put, List.setIfInBounds_toArray, List.set_cons_zero, List.set_cons_succ])
                  refine WG.last (i := 11) rfl (by kernel_rfl) (by kernel_rfl) (fun K hK => ?_)
                  go_simp
                  refine hK.out _ _ ?_
                  clear hK K
                  (try simp only [Act.put, List.setIfInBounds_toArray, List.set_cons_zero, List.set_cons_succ])
                  refine WG.done (by kernel_rfl) ?_
                  exact HJP.out _ _ ⟨B8, B9, _, _, _, _, _, _, _, _, _, _, _, _, _, _, _, _, _, _, _, _, _, _, _, _, _, _, _, _, _, _, _, _, _, _, _, _, _, _, _, _, _, _, _, _, _, _, _, _, _, _, _, _, _, _, _, _, _, rfl, obj_far (obj_set1 HB8.out _) (p := ⟨B9, 0, none⟩) hN89 _, obj_set1 (obj_far HB9.out (p := ⟨B8, 0, none⟩) hN98 _) _, hN89, HL8.out, HL9.out, Below.setCell (Below.setCell HX.out HL8.out _) HL9.out _⟩
              · go_simp
                refine hK.out _ _ (by exact KS.out _ (HX.out.trans (Ext.alloc _ _))) (fun hHeld => ?_)
                clear hK K
                (try simp only [Act.put, List.setIfInBounds_toArray, List.set_cons_zero, List.set_cons_succ])
                obtain ⟨p57, hp57⟩ : ∃ x, x = p51.alloc (.cells #[.int .i64 0] 3) := ⟨_, rfl⟩
                obtain ⟨B8, hB8⟩ : ∃ x, x = p51.heap.size := ⟨_, rfl⟩
                have hE : Ext p51 p57 := by rw [hp57]; exact Ext.alloc _ _
                have HB8 : Hid (p57.heap[B8]? = some (.cells #[.int .i64 0] 3 (0, 0))) := hid (by rw [hp57, hB8]; exact heap_alloc_new _ _)
                have HL8 : Hid (w3.heap.size ≤ B8) := hid (by rw [hB8]; exact HX.out.size)
                have hN98 : B9 ≠ B8 := by have := obj_lt HB9.out; omega
                have hN89 : B8 ≠ B9 := Ne.symm hN98
                rw [← hp57] at hHeld ⊢
                rw [← hB8]
                have HX := hid (HX.out.trans hE)
                have HB9 := hid (hE.obj HB9.out)
                clear hp57 hB8 hE
                refine WG.one (i := 6) rfl (by kernel_rfl) (fun K hK => ?_)
                go_simp
                refine (iPlacer _ _ C.room need _ (HR.out.ext (HE2.out.trans HX.out)) (HN.out.ext (HE2.out.trans HX.out))).mono ?_
                rintro e p58 ⟨b1, b2, rfl, hp1, hp2, hE⟩
                have HP1 := hid hp1
                have HP2 := hid hp2
                clear hp1 hp2
                (try dsimp only)
                have HX := hid (HX.out.trans hE)
                have HB9 := hid (hE.obj HB9.out)
                have HB8 := hid (hE.obj HB8.out)
                refine hK.out _ _ (by exact KS.out _ HX.out) (fun hHeld => ?_)
                clear hK K hE
                (try simp only [Act.put, List.setIfInBounds_toArray, List.set_cons_zero, List.set_cons_succ])
                refine WG.one (i := 7) rfl (by kernel_rfl) (fun K hK => ?_)
                go_simp
                refine (iPlacer1 _ _ _ [] C.room need b1 b2 _ (RSl.nil_ _ _ _ _ _ _ (by omega)) (HR.out.ext (HE2.out.trans HX.out)) (HN.out.ext (HE2.out.trans HX.out)) HP1.out HP2.out ⟨by simp, by simp⟩ HRV.out HNV.out (by rw [leftL_nil (vecOk_len HRV.out)]; exact vecOk_nn HRV.out)).mono ?_
                rintro e p59 ⟨rfl, hE⟩
                rw [HF.out]
                (try dsimp only)
                have HX := hid (HX.out.trans hE)
                have HB9 := hid (hE.obj HB9.out)
                have HB8 := hid (hE.obj HB8.out)
                have HP1 := hid (hE.cell HP1.out)
                have HP2 := hid (hE.cell HP2.out)
                refine hK.out _ _ (by exact KS.out _ HX.out) (fun hHeld => ?_)
                clear hK K hE
                (try simp only [Act.put, List.setIfInBounds_toArray, List.set_cons_zero, List.set_cons_succ])
                have c8 := obj_cell HB8.out (i := 0) rfl
                have f8 := obj_frozen HB8.out 0
                have h9 := obj_far HB9.out (p := ⟨B8, 0, none⟩) hN98 (.int .i64 sp)
                have c9 := obj_cell h9 (i := 0) rfl
                have f9 := obj_frozen h9 0
                clear h9
                refine WG.last (i := 10) rfl (by kernel_rfl) (by kernel_rfl) (fun K hK => ?_)
                go_simp
                refine hK.out _ _ ?_
                clear hK K
                (try simp only [Act.put, List.setIfInBounds_toArray, List.set_cons_zero, List.set_cons_succ])
                refine WG.last (i := 11) rfl (by kernel_rfl) (by kernel_rfl) (fun K hK => ?_)
                go_simp
                refine hK.out _ _ ?_
                clear hK K
                (try simp only [Act.put, List.setIfInBounds_toArray, List.set_cons_zero, List.set_cons_succ])
                refine WG.done (by kernel_rfl) ?_
                exact HJP.out _ _ ⟨B8, B9, _, _, _, _, _, _, _, _, _, _, _, _, _, _, _, _, _, _, _, _, _, _, _, _, _, _, _, _, _, _, _, _, _, _, _, _, _, _, _, _, _, _, _, _, _, _, _, _, _, _, _, _, _, _, _, _, _, rfl, obj_far (obj_set1 HB8.out _) (p := ⟨B9, 0, none⟩) hN89 _, obj_set1 (obj_far HB9.out (p := ⟨B8, 0, none⟩) hN98 _) _, hN89, HL8.out, HL9.out, Below.setCell (Below.setCell HX.out HL8.out _) HL9.out _⟩
            · go_simp
              refine hK.out _ _ (by exact KS.out _ (HX.out.trans (Ext.alloc _ _))) (fun hHeld => ?_)
              clear hK K
              (try simp only [Act.put, List.setIfInBounds_toArray, List.set_cons_zero, List.set_cons_succ])
              obtain ⟨p60, hp60⟩ : ∃ x, x = p50.alloc (.cells #[.int .i64 0] 3) := ⟨_, rfl⟩
              obtain ⟨B8, hB8⟩ : ∃ x, x = p50.heap.size := ⟨_, rfl⟩
              have hE : Ext p50 p60 := by rw [hp60]; exact Ext.alloc _ _
              have HB8 : Hid (p60.heap[B8]? = some (.cells #[.int .i64 0] 3 (0, 0))) := hid (by rw [hp60, hB8]; exact heap_alloc_new _ _)
              have HL8 : Hid (w3.heap.size ≤ B8) := hid (by rw [hB8]; exact HX.out.size)
              have hN98 : B9 ≠ B8 := by have := obj_lt HB9.out; omega
              have hN89 : B8 ≠ B9 := Ne.symm hN98
              rw [← hp60] at hHeld ⊢
              rw [← hB8]
              have HX := hid (HX.out.trans hE)
              have HB9 := hid (hE.obj HB9.out)
              clear hp60 hB8 hE
              refine WG.one (i := 2) rfl (by kernel_rfl) (fun K hK => ?_)
              go_simp
              refine (iSpare _ _ C need _ (H0.out.ext (HE2.out.trans HX.out)) (HN.out.ext (HE2.out.trans HX.out)) HCL.out HNV.out).mono ?_
              rintro e p61 ⟨rfl, hE⟩
              rw [HS.out]
              (try dsimp only)
              have HX := hid (HX.out.trans hE)
              have HB9 := hid (hE.obj HB9.out)
              have HB8 := hid (hE.obj HB8.out)
              refine hK.out _ _ (by exact KS.out _ HX.out) (fun hHeld => ?_)
              clear hK K hE
              (try simp only [Act.put, List.setIfInBounds_toArray, List.set_cons_zero, List.set_cons_succ])
              refine WG.one (i := 6) rfl (by kernel_rfl) (fun K hK => ?_)
              go_simp
              refine (iPlacer _ _ C.room need _ (HR.out.ext (HE2.out.trans HX.out)) (HN.out.ext (HE2.out.trans HX.out))).mono ?_
              rintro e p62 ⟨b1, b2, rfl, hp1, hp2, hE⟩
              have HP1 := hid hp1
              have HP2 := hid hp2
              clear hp1 hp2
              (try dsimp only)
              have HX := hid (HX.out.trans hE)
              have HB9 := hid (hE.obj HB9.out)
              have HB8 := hid (hE.obj HB8.out)
              refine hK.out _ _ (by exact KS.out _ HX.out) (fun hHeld => ?_)
              clear hK K hE
              (try simp only [Act.put, List.setIfInBounds_toArray, List.set_cons_zero, List.set_cons_succ])
              refine WG.one (i := 7) rfl (by kernel_rfl) (fun K hK => ?_)
              go_simp
              refine (iPlacer1 _ _ _ [] C.room need b1 b2 _ (RSl.nil_ _ _ _ _ _ _ (by omega)) (HR.out.ext (HE2.out.trans HX.out)) (HN.out.ext (HE2.out.trans HX.out)) HP1.out HP2.out ⟨by simp, by simp⟩ HRV.out HNV.out (by rw [leftL_nil (vecOk_len HRV.out)]; exact vecOk_nn HRV.out)).mono ?_
              rintro e p63 ⟨rfl, hE⟩
              rw [HF.out]
              (try dsimp only)
              have HX := hid (HX.out.trans hE)
              have HB9 := hid (hE.obj HB9.out)
              have HB8 := hid (hE.obj HB8.out)
              have HP1 := hid (hE.cell HP1.out)
              have HP2 := hid (hE.cell HP2.out)
              refine hK.out _ _ (by exact KS.out _ HX.out) (fun hHeld => ?_)
              clear hK K hE
              (try simp only [Act.put, List.setIfInBounds_toArray, List.set_cons_zero, List.set_cons_succ])
              have c8 := obj_cell HB8.out (i := 0) rfl
              have f8 := obj_frozen HB8.out 0
              have h9 := obj_far HB9.out (p := ⟨B8, 0, none⟩) hN98 (.int .i64 sp)
              have c9 := obj_cell h9 (i := 0) rfl
              have f9 := obj_frozen h9 0
              clear h9
              refine WG.last (i := 10) rfl (by kernel_rfl) (by kernel_rfl) (fun K hK => ?_)
              go_simp
              refine hK.out _ _ ?_
              clear hK K
              (try simp only [Act.put, List.setIfInBounds_toArray, List.set_cons_zero, List.set_cons_succ])
              refine WG.last (i := 11) rfl (by kernel_rfl) (by kernel_rfl) (fun K hK => ?_)
              go_simp
              refine hK.out _ _ ?_
              clear hK K
              (try simp only [Act.put, List.setIfInBounds_toArray, List.set_cons_zero, List.set_cons_succ])
              refine WG.done (by kernel_rfl) ?_
              exact HJP.out _ _ ⟨B8, B9, _, _, _, _, _, _, _, _, _, _, _, _, _, _, _, _, _, _, _, _, _, _, _, _, _, _, _, _, _, _, _, _, _, _, _, _, _, _, _, _, _, _, _, _, _, _, _, _, _, _, _, _, _, _, _, _, _, rfl, obj_far (obj_set1 HB8.out _) (p := ⟨B9, 0, none⟩) hN89 _, obj_set1 (obj_far HB9.out (p := ⟨B8, 0, none⟩) hN98 _) _, hN89, HL8.out, HL9.out, Below.setCell (Below.setCell HX.out HL8.out _) HL9.out _⟩
      · have h3 : inB want 0 999 = false := by simpa using h3
        have HOUT := hid (inN_no2 (C := C) (need := need) h3)
        go_wp2_with (first
          | (go_at_call 37; rw [← hW]; refine (iClusterValid _ C _ H0.out hl hfl hid').mono ?_; rintro e w1 ⟨rfl, hE1⟩; rw [h1]; obtain ⟨hb0, hb1, hb5, hb7⟩ := KC.out _ hE1; have HE1 := hid hE1; clear hE1 hW)
          | (go_at_call 51; refine (iNeedValid _ need _ (HN.out.ext HE1.out)).mono ?_; rintro e w2 ⟨rfl, n2, rfl⟩; rw [h2])
          | (go_at_call 82; refine (iWithin _ _ _ _).mono ?_; rintro e w3 ⟨rfl, n3, hw3⟩; rw [h3]; have HE2 : Hid (Ext W w3) := hid (by rw [hw3]; exact (HE1.out.trans (Ext.drewN _ _)).trans (Ext.drewN _ _)); obtain ⟨hb0, hb1, hb5, hb7⟩ := KC.out _ HE2.out; clear hw3))
        exact ⟨_, results_tmp rfl _ _ _, _, rfl, by rw [HOUT.out]; exact Own.ext EI.ok HO0.out HE2.out, HEW.out.trans HE2.out⟩
    · have h2 : needOk need = false := by simpa using h2
      have HOUT := hid (inN_no1 (C := C) (want := want) (show (clusOk C && needOk need) = false by rw [h1, h2]; rfl))
      go_wp2_with (first
        | (go_at_call 37; rw [← hW]; refine (iClusterValid _ C _ H0.out hl hfl hid').mono ?_; rintro e w1 ⟨rfl, hE1⟩; rw [h1]; obtain ⟨hb0, hb1, hb5, hb7⟩ := KC.out _ hE1; have HE1 := hid hE1; clear hE1 hW)
        | (go_at_call 51; refine (iNeedValid _ need _ (HN.out.ext HE1.out)).mono ?_; rintro e w2 ⟨rfl, n2, rfl⟩; rw [h2]; obtain ⟨hb0, hb1, hb5, hb7⟩ := KC.out _ (HE1.out.trans (Ext.drewN _ n2))))
      exact ⟨_, results_tmp rfl _ _ _, _, rfl, by rw [HOUT.out]; exact Own.ext EI.ok HO0.out (HE1.out.trans (Ext.drewN _ _)), HEW.out.trans (HE1.out.trans (Ext.drewN _ _))⟩
  · have h1 : clusOk C = false := by simpa using h1
    have HOUT := hid (inN_no1 (C := C) (need := need) (want := want) (show (clusOk C && needOk need) = false by rw [h1]; rfl))
    go_wp2_with (go_at_call 37; rw [← hW]; refine (iClusterValid _ C _ H0.out hl hfl hid').mono ?_; rintro e w1 ⟨rfl, hE1⟩; rw [h1]; obtain ⟨hb0, hb1, hb5, hb7⟩ := KC.out _ hE1; have HE1 := hid hE1; clear hE1 hW)
    exact ⟨_, results_tmp rfl _ _ _, _, rfl, by rw [HOUT.out]; exact Own.ext EI.ok HO0.out HE1.out, HEW.out.trans HE1.out⟩

end Go.Proofs.YtfgibhdglbjadaaGreat
