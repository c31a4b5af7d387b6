/- Tasks are drawn. -/
import Derived.Test.YtllchacophapoaaDoorK4
import Derived.Test.YtllchacophapoaaDoorK8
namespace Go.Proofs.YtllchacophapoaaDoor
open Go.RowKit
set_option maxRecDepth 4000

/-- a task that may be reckoned with -/
def GoodT (t : TaskD) : Prop := t.need.length = 3 ∧ Bd 1000 t.need ∧ IdR t.id
theorem notTI : ∀ t, (t = 44 ∨ t = 3) → t ≠ 84 := by rintro t (rfl | rfl) <;> decide
/-- a row of the call's own has grown -/
theorem DrawR.low2 {w w1 w2 : World} {b : Nat} {bv : Value} {bs : List Int} {p K : Nat} (h : DrawR w b bv bs p K w1) (hb : b < w.heap.size) (hbs : 0 < bs.length → ∀ b' o n c, bv = .slice (some ⟨b', o, none⟩) n c → b' < w.heap.size) {o : Option Nat} (hg : w1.grownBy w2 o) (ho : ∀ q, o = some q → w.heap.size ≤ q ∧ q < w1.heap.size) : DrawR w b bv bs p K w2 := by
  obtain ⟨h1, p', hp, hr⟩ := h
  refine ⟨⟨hg.os.trans h1.os, hg.tape.trans h1.tape, hg.output.trans h1.output, Nat.le_trans h1.size hg.size, fun k hk hn => (hg.block k (Nat.lt_of_lt_of_le hk h1.size) (fun e => by have := (ho k e.symm).1; omega)).trans (h1.block k hk hn)⟩, p', hp, ?_⟩
  have hbl := Rd.low hr
  have hob : some b ≠ o := fun e => by have := (ho b e.symm).1; omega
  refine ⟨(hg.block b hbl.1 hob).trans hr.1, hr.2.1, ?_, hr.2.2.2⟩
  obtain ⟨A, c, hv, e1, e2, e3⟩ := hr.2.2.1
  refine ⟨A, c, hv, e1, e2, fun hpos => ?_⟩
  obtain ⟨b', o', hA, h4⟩ := e3 hpos
  have hlt := hbs hpos b' o' _ _ (by rw [hv, hA])
  refine ⟨b', o', hA, fun j x hj => ?_⟩
  obtain ⟨cs, hl, he, hc⟩ := h4 j x hj
  exact ⟨cs, hl, he, fun i' u' hu => (World.cell?_of_block (w := w1) (a := ⟨b', o' + (j * 1 + i'), none⟩) (hg.block b' (Nat.lt_of_lt_of_le hlt h1.size) (fun e => by have := (ho b' e.symm).1; omega))).trans (hc i' u' hu)⟩
theorem good_draw {id : Int} {xs : List Int} (hl : xs.length = 3) (hb : ∀ x ∈ xs, 0 ≤ x ∧ x ≤ 7) (hi : 0 ≤ id ∧ id ≤ 1000) : GoodT ⟨id, xs⟩ := ⟨hl, fun x hx => by have := hb x hx; omega, by unfold IdR; show _ ≤ id ∧ id ≤ _; omega⟩

theorem nd_app {qs : List (TaskD × Value)} {q : TaskD × Value} {H : Nat} (h : (needBs qs).Nodup) (h1 : ∀ g ∈ needBs qs, g < H) (h2 : ∀ g, q.2.ownBlock = some g → H ≤ g) : (needBs (qs ++ [q])).Nodup := by
  rw [needBs_app, needBs_one]
  exact nodup_fresh h (optList_nodup _) h1 (fun x hx => h2 x (by simpa using hx))
theorem nd_pre {qs : List (TaskD × Value)} {q : TaskD × Value} {H : Nat} (h : (needBs qs).Nodup) (h1 : ∀ g ∈ needBs qs, g < H) (h2 : ∀ g, q.2.ownBlock = some g → H ≤ g) : (needBs (q :: qs)).Nodup := by
  have h3 := nd_app h h1 h2
  rw [needBs_app] at h3
  have e : needBs (q :: qs) = needBs [q] ++ needBs qs := needBs_app [q] qs
  rw [e]
  exact (List.perm_append_comm.nodup_iff).1 h3
theorem three2 {x : Nat} (h : x < 3) : ∃ y : Int, ([0, 40, 41] : List Int)[x]? = some y ∧ 0 ≤ y ∧ y ≤ 41 := by
  match x, h with
  | 0, _ => exact ⟨0, rfl, by omega, by omega⟩
  | 1, _ => exact ⟨40, rfl, by omega, by omega⟩
  | 2, _ => exact ⟨41, rfl, by omega, by omega⟩
theorem need_row {w : World} {base : Nat} {v : Value} {xs : List Int} (h : OI w base v xs) (hl : xs.length = 3) : ∃ g c, v = .slice (some ⟨g, 0, none⟩) xs.length c := by
  obtain ⟨g, c, hv, _⟩ := Own.row h (by omega)
  exact ⟨g, c, hv⟩
/-- what the draw of tasks keeps -/
structure TD (w : World) (b : Nat) (bv : Value) (bs : List Int) (p K : Nat) (wr : World) (u : Value) (qs : List (TaskD × Value)) : Prop where
  own : ODT wr w.heap.size u qs
  nd : (needBs qs).Nodup
  good : ∀ q ∈ qs, GoodT q.1
  draw : DrawR w b bv bs p K wr

set_option maxHeartbeats 8000000 in
theorem dTasks (b : Nat) (bv : Value) (bs : List Int) (p : Nat) (many : Nat) (w : World) (h : Rd w b bv bs p) (hp : p ≤ 800000) (hm : many ≤ 20) :
    Calls Tryd.prog 67 #[.pointer (some ⟨b, 0, none⟩), .int .i64 (many : Int)] w fun e w' => ∃ v ts, e = .returned v ∧ RT w' v ts ∧ ts.length ≤ many + 1 ∧ (∀ t ∈ ts, GoodT t) ∧ DrawR w b bv bs p (9 * many + 10) w' := by
  have HR0 := hid (h.ext (Ext.alloc w (.cells #[] 44)))
  have HG0 := hid (Gr.of_ext (b := b) (Ext.alloc w (.cells #[] 44)))
  have HB0 := hid h.low
  have HM0 : Hid (ODT (w.alloc (.cells #[] 44)) w.heap.size (.slice (some ⟨w.heap.size, 0, none⟩) 0 0) []) := hid (Own.made #[] 0 (Nat.le_refl _) (by omega) rfl)
  obtain ⟨i0_task, hi0_task, hz0_task, hz1_task, hz2_task⟩ := info_parts info_task
  clear h
  go_enter Tryd.func67, Tryd.ntmps67
  go_wp2_with (go_at_call 66; refine (dPick b bv bs p _ _ HR0.out (by omega) (by omega)).mono ?_; rintro e w1 ⟨x1, rfl, hx, hg1, hr1⟩; have hx1 := pick_lt hx (by decide); have HD1 : Hid (DrawR w b bv bs p 1 w1) := hid ⟨HG0.out.trans hg1, _, Nat.le_refl _, hr1⟩; have HO1 := hid (Own.same (EDT.ok _) HM0.out (hg1.same HR0.out _ notTI)); clear hx hg1 hr1)
  go_loopw [5, 6, 7] (fun o d i wr => ∃ (u : Value) (k : Nat) (idn : Int) (qs : List (TaskD × Value)), u = o ∧ k ≤ many ∧ d = .int .i64 idn ∧ i = .int .i64 k ∧ 1 ≤ idn ∧ idn ≤ 5 + 2 * (k : Int) ∧ qs.length = k ∧ Hid (TD w b bv bs p (1 + 9 * k) wr u qs)) (fun _ _ i _ => many - (intOf i).toNat)
  case atStart => exact ⟨_, 0, _, [], rfl, Nat.zero_le _, rfl, rfl, by omega, by omega, rfl, hid ⟨HO1.out, List.nodup_nil, fun q hq => by simp at hq, HD1.out⟩⟩
  case round =>
    obtain ⟨u, k, idn, qs, rfl, hk, rfl, rfl, hi1, hi2, hqk, H⟩ := hrel
    have HO := hid H.out.own
    have HND := hid H.out.nd
    have HGD := hid H.out.good
    have HD := hid H.out.draw
    have HQK := hid hqk
    clear H hqk
    obtain ⟨Au, cu, hu, _, _⟩ := HO.out.form
    subst hu
    by_cases hlt : k < many
    · have i1 : (k : Int) < (many : Int) := by omega
      have hql : qs.length ≤ 20 := by have := HQK.out; omega
      go_wp2_with (first
        | (at_builtin; have HL6 : Hid (ODT (w5.alloc (.cells #[.int .i64 idn, .slice An xs.length cn] 44)) w.heap.size (.slice (some ⟨w5.heap.size, 0, none⟩) 1 1) [(⟨⟨idn, xs⟩, .slice An xs.length cn⟩ : TaskD × Value)]) := hid (Own.lit (w := w5) (cells := [.int .i64 idn, .slice An xs.length cn]) (xs := [(⟨⟨idn, xs⟩, .slice An xs.length cn⟩ : TaskD × Value)]) hsz5 (by simp) (Cells.one rfl ⟨rfl, HN6.out⟩)); refine wpList_append_sl _ (by rfl) _ _ 28 (by rfl) (EDT.ok _) (EDT.flat _) (w.heap.size) 44 EDT.ne i0_task _ 2 32 Tryd.underlying28 hi0_task hz0_task hz1_task hz2_task rfl (by omega) _ (by rfl) _ (HL6.out) _ (by rfl) _ (Own.read HO6.out) (by simp; omega) (by simp; omega) ?_ ?_; (focus (first | exact Nat.le_refl _ | (simp; done) | (simp; omega) | omega)); intro v7 w7 hO7 hg7 hat7 hs7; have HO7 := hid hO7; have HD7 := hid (DrawR.low2 (HD5.out.ext HE6.out) HB0.out.1 HB0.out.2 hg7 (fun q hq => Own.lt HL6.out q hq)); clear hO7 hg7 hat7 hs7)
        | (at_builtin; refine wpList_append_sl _ (by rfl) _ _ 28 (by rfl) (EDT.ok _) (EDT.flat _) (w.heap.size) 44 EDT.ne i0_task _ 2 32 Tryd.underlying28 hi0_task hz0_task hz1_task hz2_task rfl (by omega) _ (by rfl) _ (HO6.out) _ (by rfl) _ (RSl.laid (cs := [.int .i64 idn, .slice An xs.length cn]) (x := (⟨⟨idn, xs⟩, .slice An xs.length cn⟩ : TaskD × Value)) (heap_alloc_new _ _) rfl ⟨rfl, HN6.out⟩) (by simp; omega) (by simp; omega) ?_ ?_; (focus (first | exact Nat.le_refl _ | (simp; done) | (simp; omega) | omega)); intro v7 w7 hO7 hg7 hat7 hs7; have HO7 := hid hO7; have HD7 := hid (DrawR.low2 (HD5.out.ext HE6.out) HB0.out.1 HB0.out.2 hg7 (fun q hq => Own.lt HO6.out q hq)); clear hO7 hg7 hat7 hs7)
        | (go_at_call 66; obtain ⟨hg, pp, hpp, hr⟩ := HD4.out; refine (dPick b bv bs pp _ _ hr (by omega) (by omega)).mono ?_; rintro e w5 ⟨x5, rfl, hx, hg5, hr5⟩; have hx5 := pick_lt hx (by decide); have HD5 := hid (DrawR.more HD4.out hg5 hr5 hpp); have HX5 := hid (hg5.obj HX4.out (by have := HB0.out.1; have := HWR.out; have := H3S.out; omega)); have HO5 := hid (Own.same (EDT.ok _) HO4.out (hg5.same hr _ notTI)); have HN5 := hid (Own.same EI.ok HN4.out (hg5.same hr _ notRd)); have hsz5 : w.heap.size ≤ w5.heap.size := (by have := hg5.size; have := H4S.out; have := H3S.out; have := HWR.out; omega); have hb0 := obj_cell HX5.out (i := 0) rfl; have hb1 := obj_cell HX5.out (i := 1) rfl; have HE6 := hid (Ext.alloc w5 (.cells #[.int .i64 idn, .slice An xs.length cn] 44)); have HO6 := hid (Own.ext (EDT.ok _) HO5.out HE6.out); have HN6 := hid (Own.low (base' := w.heap.size) (Own.ext EI.ok HN5.out HE6.out) HWR.out); clear hg hpp hr hx hg5 hr5)
        | (go_at_call 66; obtain ⟨hg, pp, hpp, hr⟩ := HD3.out; refine (dPick b bv bs pp _ _ hr (by omega) (by omega)).mono ?_; rintro e w4 ⟨x4, rfl, hx, hg4, hr4⟩; have hx4 := pick_lt hx (by decide); have HD4 := hid (DrawR.more HD3.out hg4 hr4 hpp); have HX4 := hid (hg4.obj HX3.out (by have := HB0.out.1; have := HWR.out; have := H3S.out; omega)); have HO4 := hid (Own.same (EDT.ok _) HO3.out (hg4.same hr _ notTI)); have HN4 := hid (Own.same EI.ok HN3.out (hg4.same hr _ notRd)); have H4S : Hid (w3.heap.size + 1 ≤ w4.heap.size) := hid (by have := hg4.size; simp at this; omega); clear hg hpp hr hx hg4 hr4)
        | (go_at_call 89; obtain ⟨hg, pp, hpp, hr⟩ := HD.out; refine (dTask b bv bs pp idn _ hr (by omega)).mono ?_; rintro e w3 ⟨nv, xs, rfl, hN, hNl, hNb, hd⟩; obtain ⟨An, cn, rfl, _, _⟩ := hN.form; have HX3 := hid (heap_alloc_new w3 (.cells #[.int .i64 idn, .slice An xs.length cn] 44)); have HE3 := hid (Ext.alloc w3 (.cells #[.int .i64 idn, .slice An xs.length cn] 44)); have HO3 := hid (Own.ext (EDT.ok _) (Own.same (EDT.ok _) HO.out (hd.1.same hr _ notTI)) HE3.out); have HN3 := hid (Own.ext EI.ok hN HE3.out); have HNL := hid hNl; have HNB := hid hNb; have HNW := hid hN.lt; have HD3 := hid ((DrawR.then hg hpp hd).ext HE3.out); have HWR := hid hg.size; have H3S : Hid (wr.heap.size ≤ w3.heap.size) := hid hd.1.size; clear hg hpp hr hd hN hNl hNb))
      all_goals
        go_roundw
        case rel =>
          first
            | exact ⟨_, k + 1, _, (⟨⟨idn, xs⟩, .slice An xs.length cn⟩ : TaskD × Value) :: qs, rfl, by omega, rfl, by go_num, by omega, by omega, by rw [List.length_cons, HQK.out], hid ⟨HO7.out, nd_pre HND.out (fun g hg => (ODT.lt HO.out g hg).2) (fun g hg => (HNW.out g hg).1), fun q hq => by rcases List.mem_cons.1 hq with rfl | hq; exact good_draw HNL.out HNB.out (by omega); exact HGD.out q hq, HD7.out.mono (by omega)⟩⟩
            | exact ⟨_, k + 1, _, qs ++ [(⟨⟨idn, xs⟩, .slice An xs.length cn⟩ : TaskD × Value)], rfl, by omega, rfl, by go_num, by omega, by omega, by rw [List.length_append, HQK.out]; rfl, hid ⟨HO7.out, nd_app HND.out (fun g hg => (ODT.lt HO.out g hg).2) (fun g hg => (HNW.out g hg).1), fun q hq => by rcases List.mem_append.1 hq with hq | hq; exact HGD.out q hq; rw [List.mem_singleton.1 hq]; exact good_draw HNL.out HNB.out (by omega), HD7.out.mono (by omega)⟩⟩
        case measure => simp [intOf]; omega
    · have hk' : k = many := by omega
      subst hk'
      by_cases h0 : 0 < k
      · have i0 : (0 : Int) < (k : Int) := by omega
        obtain ⟨g, cu', hrow, hgb⟩ := Own.row HO.out (by have := HQK.out; omega)
        injection hrow with e1 _ e3
        subst e1 e3
        have hql : qs.length ≤ 20 := by have := HQK.out; omega
        go_wp2_with (first
          | (at_builtin; refine wpList_append_sl _ (by rfl) _ _ 28 (by rfl) (EDT.ok _) (EDT.flat _) (w.heap.size) 44 EDT.ne i0_task _ 2 32 Tryd.underlying28 hi0_task hz0_task hz1_task hz2_task rfl (by omega) _ (by rfl) _ (HO10.out.ext (EDT.ok _) (Ext.alloc _ _)) _ (by rfl) _ (RSl.laid (cs := [.int .i64 q.1.id, .slice (some ⟨gn, 0, none⟩) q.1.need.length cn]) (x := q) (heap_alloc_new _ _) rfl ⟨by rw [HNV.out], by rw [HNV.out]; exact HNO.out.ext EI.ok (Ext.alloc _ _)⟩) (by simp; omega) (by simp; omega) ?_ ?_; (focus (first | exact Nat.le_refl _ | (simp; done) | (simp; omega) | omega)); intro v12 w12 hO12 hg12 hat12 hs12; have HO12 := hid hO12; have HD12 := hid (DrawR.low2 (HD10.out.ext (Ext.alloc _ _)) HB0.out.1 HB0.out.2 hg12 (fun q hq => Own.lt (HO10.out.ext (EDT.ok _) (Ext.alloc _ _)) q hq)); clear hO12 hg12 hat12 hs12)
          | (go_at_call 66; have HDX := hid (HD10.out.ext (Ext.alloc w10 (.cells #[.int .i64 0, .int .i64 40, .int .i64 41] 3))); obtain ⟨hg, pp, hpp, hr⟩ := HDX.out; refine (dPick b bv bs pp _ _ hr (by omega) (by omega)).mono ?_; rintro e w11 ⟨x11, rfl, hx, hg11, hr11⟩; have hx11 := pick_lt hx (by decide); obtain ⟨y11, hy11, hyb⟩ := three2 (x := x11) (by omega); have HL11 : Hid (OI (w10.alloc (.cells #[.int .i64 0, .int .i64 40, .int .i64 41] 3)) w10.heap.size (.slice (some ⟨w10.heap.size, 0, none⟩) 3 3) [0, 40, 41]) := hid (OI.lit w10 [0, 40, 41] (by simp) _ (Nat.le_refl _)); have HL12 := hid (Own.same EI.ok HL11.out (hg11.same hr _ notRd)); obtain ⟨cl11, _, _⟩ := OI.at_ HL12.out hy11; have HD11 := hid (DrawR.more HDX.out hg11 hr11 hpp); have HO11 := hid (Own.same (EDT.ok _) (Own.ext (EDT.ok _) HO10.out (Ext.alloc _ _)) (hg11.same hr _ notTI)); obtain ⟨ca, cb, fa, fb, _⟩ := ODT.at_ HO11.out HQ9.out; clear hg hpp hr hx hg11 hr11)
          | (go_at_call 66; obtain ⟨hg, pp, hpp, hr⟩ := HD9.out; refine (dPick b bv bs pp _ _ hr (by omega) (by omega)).mono ?_; rintro e w10 ⟨x10, rfl, hx, hg10, hr10⟩; have hx10 := pick_lt hx (by decide); have HD10 := hid (DrawR.more HD9.out hg10 hr10 hpp); have HO10 := hid (Own.same (EDT.ok _) HO9.out (hg10.same hr _ notTI)); obtain ⟨ca, cb, fa, fb, hno⟩ := ODT.at_ HO10.out HQ9.out; obtain ⟨gn, cn, hnv⟩ := need_row hno HG9.out.1; rw [hnv] at cb hno; have HNV := hid hnv; obtain ⟨y0, hy0⟩ : ∃ y, q.1.need[0]? = some y := ⟨_, List.getElem?_eq_getElem (by have := HG9.out.1; omega)⟩; obtain ⟨cn0, fn0, _⟩ := OI.at_ hno hy0; have HNO := hid hno; have hn0 : 0 < q.1.need.length := (by have := HG9.out.1; omega); have hsz10 : w.heap.size ≤ w10.heap.size := HD10.out.1.size; clear hg hpp hr hx hg10 hr10 hno hnv hy0)
          | (go_at_call 66; obtain ⟨hg, pp, hpp, hr⟩ := HD.out; refine (dPick b bv bs pp _ _ hr (by omega) (by omega)).mono ?_; rintro e w9 ⟨x9, rfl, hx, hg9, hr9⟩; have hx9 := pick_lt hx (by omega); have HD9 := hid (DrawR.more HD.out hg9 hr9 hpp); have HO9 := hid (Own.same (EDT.ok _) HO.out (hg9.same hr _ notTI)); have hx9q : x9 < qs.length := (by have := HQK.out; omega); obtain ⟨q, hq9⟩ : ∃ q, qs[x9]? = some q := ⟨_, List.getElem?_eq_getElem hx9q⟩; have HQ9 := hid hq9; have HG9 := hid (HGD.out q (List.mem_of_getElem? hq9)); have i9 : (x9 : Int) < (qs.length : Int) := (by omega); clear hg hpp hr hx hg9 hr9 hq9))
        all_goals go_ret
        · refine ⟨_, (qs.set x9 (⟨y11, q.1.need⟩, q.2)).map (fun p : TaskD × Value => p.1), rfl, ODT.read (ODT.setId HO11.out HQ9.out y11), by rw [List.length_map, List.length_set, HQK.out]; omega, fun t ht => ?_, (HD11.out.stored hgb HB0.out.1 HB0.out.2 _).mono (by omega)⟩
          obtain ⟨q', hq', rfl⟩ := List.mem_map.1 ht
          rcases List.mem_or_eq_of_mem_set hq' with hq' | rfl
          · exact HGD.out q' hq'
          · exact ⟨HG9.out.1, HG9.out.2.1, by unfold IdR; show _ ≤ y11 ∧ y11 ≤ _; omega⟩
        · have hset := (OI.set HNO.out (j := 0) hn0 20).1
          have hTch : Touch q.2.ownBlock.toList w10 (w10.setCell ⟨gn, 0, none⟩ (.int .i64 20)) := by
            rw [HNV.out]
            exact (Touch.refl _ _).setCell (p := ⟨gn, 0, none⟩) (by simp [Value.ownBlock]) _
          have hmk := ODT.marked HO10.out HND.out HQ9.out (ys := q.1.need.set 0 20) (by rw [HNV.out]; exact hset) hTch
          have hgn : w.heap.size ≤ gn := (HNO.out.lt gn rfl).1
          refine ⟨_, (qs.set x9 (⟨q.1.id, q.1.need.set 0 20⟩, q.2)).map (fun p : TaskD × Value => p.1), rfl, ODT.read hmk, by rw [List.length_map, List.length_set, HQK.out]; omega, fun t ht => ?_, (HD10.out.stored hgn HB0.out.1 HB0.out.2 _).mono (by omega)⟩
          obtain ⟨q', hq', rfl⟩ := List.mem_map.1 ht
          rcases List.mem_or_eq_of_mem_set hq' with hq' | rfl
          · exact HGD.out q' hq'
          · refine ⟨by show (q.1.need.set 0 20).length = 3; rw [List.length_set]; exact HG9.out.1, fun y hy => ?_, HG9.out.2.2⟩
            rcases List.mem_or_eq_of_mem_set hy with hy | rfl
            · exact HG9.out.2.1 y hy
            · omega
        · refine ⟨_, (qs ++ [q]).map (fun p : TaskD × Value => p.1), rfl, ODT.read HO12.out, by rw [List.length_map, List.length_append, HQK.out]; simp, fun t ht => ?_, HD12.out.mono (by omega)⟩
          obtain ⟨q', hq', rfl⟩ := List.mem_map.1 ht
          rcases List.mem_append.1 hq' with hq' | hq'
          · exact HGD.out q' hq'
          · rw [List.mem_singleton.1 hq']; exact HG9.out
        · refine ⟨_, qs.map (fun p : TaskD × Value => p.1), rfl, ODT.read HO10.out, by rw [List.length_map, HQK.out]; omega, fun t ht => ?_, HD10.out.mono (by omega)⟩
          obtain ⟨q', hq', rfl⟩ := List.mem_map.1 ht
          exact HGD.out q' hq'
      · have hk0 : k = 0 := by omega
        subst hk0
        go_wp2
        go_ret
        exact ⟨_, _, rfl, ODT.read HO.out, by rw [List.length_map, HQK.out]; omega, fun t ht => by obtain ⟨q, hq, rfl⟩ := List.mem_map.1 ht; exact HGD.out q hq, HD.out.mono (by omega)⟩
end Go.Proofs.YtllchacophapoaaDoor
