/- Tasks are drawn. -/
import Derived.Test.YtoaabinpdjcimaaK4
import Derived.Test.YtoaabinpdjcimaaK8
import Derived.Test.YtoaabinpdjcimaaK5
import Derived.Test.YtoaabinpdjcimaaK6
import Derived.Test.YtoaabinpdjcimaaK2
namespace Go.Proofs.Ytoaabinpdjcimaa
open Go.RowKit
set_option maxRecDepth 4000

/-- a task that may be reckoned with -/
def GoodT (t : TaskD) : Prop := t.need.length = 3 ∧ Bd 1000 t.need ∧ IdR t.id
theorem notTI : ∀ t, (t = 34 ∨ t = 3) → t ≠ 95 := by rintro t (rfl | rfl) <;> decide
/-- a row of the call's own has grown -/
theorem DrawR.low2 {w w1 w2 : World} {b : Nat} {bv : Value} {bs : List Int} {p K : Nat} (h : DrawR w b bv bs p K w1) (hb : b < w.heap.size) (hbs : 0 < bs.length → ∀ b' o n c, bv = .slice (some ⟨b', o, none⟩) n c → b' < w.heap.size) {o : Option Nat} (hg : w1.grownBy w2 o) (ho : ∀ q, o = some q → w.heap.size ≤ q ∧ q < w1.heap.size) : DrawR w b bv bs p K w2 := by
  obtain ⟨h1, p', hp, hr⟩ := h
  refine ⟨⟨hg.os.trans h1.os, hg.tape.trans h1.tape, hg.output.trans h1.output, Nat.le_trans h1.size hg.size, fun k hk hn => (hg.block k (Nat.lt_of_lt_of_le hk h1.size) (fun e => by have := (ho k e.symm).1; omega)).trans (h1.block k hk hn)⟩, p', hp, ?_⟩
  have hbl := Rd.low hr
  have hob : some b ≠ o := fun e => by have := (ho b e.symm).1; omega
  refine ⟨(hg.block b hbl.1 hob).trans hr.1, hr.2.1, ?_, hr.2.2.2⟩
  obtain ⟨A, c, hv, e1, e2, e3⟩ := hr.2.2.1
  refine ⟨A, c, hv, e1, e2, fun hpos => ?_⟩
  obtain ⟨b', o', hA, h4⟩ := e3 hpos
  have hlt := hbs hpos b' o' _ _ (by rw [hv, hA])
  refine ⟨b', o', hA, fun j x hj => ?_⟩
  obtain ⟨cs, hl, he, hc⟩ := h4 j x hj
  exact ⟨cs, hl, he, fun i' u' hu => (World.cell?_of_block (w := w1) (a := ⟨b', o' + (j * 1 + i'), none⟩) (hg.block b' (Nat.lt_of_lt_of_le hlt h1.size) (fun e => by have := (ho b' e.symm).1; omega))).trans (hc i' u' hu)⟩
theorem good_draw {id : Int} {xs : List Int} (hl : xs.length = 3) (hb : ∀ x ∈ xs, 0 ≤ x ∧ x ≤ 7) (hi : 0 ≤ id ∧ id ≤ 1000) : GoodT ⟨id, xs⟩ := ⟨hl, fun x hx => by have := hb x hx; omega, by unfold IdR; show _ ≤ id ∧ id ≤ _; omega⟩

theorem nd_app {qs : List (TaskD × Value)} {q : TaskD × Value} {H : Nat} (h : (needBs qs).Nodup) (h1 : ∀ g ∈ needBs qs, g < H) (h2 : ∀ g, q.2.ownBlock = some g → H ≤ g) : (needBs (qs ++ [q])).Nodup := by
  rw [needBs_app, needBs_one]
  exact nodup_fresh h (optList_nodup _) h1 (fun x hx => h2 x (by simpa using hx))
theorem nd_pre {qs : List (TaskD × Value)} {q : TaskD × Value} {H : Nat} (h : (needBs qs).Nodup) (h1 : ∀ g ∈ needBs qs, g < H) (h2 : ∀ g, q.2.ownBlock = some g → H ≤ g) : (needBs (q :: qs)).Nodup := by
  have h3 := nd_app h h1 h2
  rw [needBs_app] at h3
  have e : needBs (q :: qs) = needBs [q] ++ needBs qs := needBs_app [q] qs
  rw [e]
  exact (List.perm_append_comm.nodup_iff).1 h3
theorem three2 {x : Nat} (h : x < 3) : ∃ y : Int, ([0, 40, 41] : List Int)[x]? = some y ∧ 0 ≤ y ∧ y ≤ 41 := by
  match x, h with
  | 0, _ => exact ⟨0, rfl, by omega, by omega⟩
  | 1, _ => exact ⟨40, rfl, by omega, by omega⟩
  | 2, _ => exact ⟨41, rfl, by omega, by omega⟩
theorem need_row {w : World} {base : Nat} {v : Value} {xs : List Int} (h : OI w base v xs) (hl : xs.length = 3) : ∃ g c, v = .slice (some ⟨g, 0, none⟩) xs.length c := by
  obtain ⟨g, c, hv, _⟩ := Own.row h (by omega)
  exact ⟨g, c, hv⟩
/-- what the draw of tasks keeps -/
structure TD (w : World) (b : Nat) (bv : Value) (bs : List Int) (p K : Nat) (wr : World) (u : Value) (qs : List (TaskD × Value)) : Prop where
  own : ODT wr w.heap.size u qs
  nd : (needBs qs).Nodup
  good : ∀ q ∈ qs, GoodT q.1
  draw : DrawR w b bv bs p K wr

set_option maxHeartbeats 8000000 in
theorem dTasks (b : Nat) (bv : Value) (bs : List Int) (p : Nat) (many : Nat) (w : World) (h : Rd w b bv bs p) (hp : p ≤ 800000) (hm : many ≤ 20) :
    Calls Try.prog 45 #[.pointer (some ⟨b, 0, none⟩), .int .i64 (many : Int)] w fun e w' => ∃ v ts, e = .returned v ∧ RT w' v ts ∧ ts.length ≤ many + 1 ∧ (∀ t ∈ ts, GoodT t) ∧ DrawR w b bv bs p (9 * many + 10) w' := by
  have HR0 := hid (h.ext (Ext.alloc w (.cells #[] 34)))
  have HG0 := hid (Gr.of_ext (b := b) (Ext.alloc w (.cells #[] 34)))
  have HB0 := hid h.low
  have HM0 : Hid (ODT (w.alloc (.cells #[] 34)) w.heap.size (.slice (some ⟨w.heap.size, 0, none⟩) 0 0) []) := hid (Own.made #[] 0 (Nat.le_refl _) (by omega) rfl)
  obtain ⟨i0_task, hi0_task, hz0_task, hz1_task, hz2_task⟩ := info_parts info_task
  clear h
  go_enter Try.func45, Try.ntmps45
  go_wp2_with (go_at_call 58; refine (dPick b bv bs p _ _ HR0.out (by omega) (by omega)).mono ?_; rintro e w1 ⟨x1, rfl, hx, hg1, hr1⟩; have hx1 := pick_lt hx (by decide); have HD1 : Hid (DrawR w b bv bs p 1 w1) := hid ⟨HG0.out.trans hg1, _, Nat.le_refl _, hr1⟩; have HO1 := hid (Own.same (EDT.ok _) HM0.out (hg1.same HR0.out _ notTI)); clear hx hg1 hr1)
  go_loopw [5, 6, 7] (fun o d i wr => ∃ (u : Value) (k : Nat) (idn : Int) (qs : List (TaskD × Value)), u = o ∧ k ≤ many ∧ d = .int .i64 idn ∧ i = .int .i64 k ∧ 1 ≤ idn ∧ idn ≤ 5 + 2 * (k : Int) ∧ qs.length = k ∧ Hid (TD w b bv bs p (1 + 9 * k) wr u qs)) (fun _ _ i _ => many - (intOf i).toNat)
  case atStart => exact ⟨_, 0, _, [], rfl, Nat.zero_le _, rfl, rfl, by omega, by omega, rfl, hid ⟨HO1.out, List.nodup_nil, fun q hq => by simp at hq, HD1.out⟩⟩
  case round =>
    obtain ⟨u, k, idn, qs, rfl, hk, rfl, rfl, hi1, hi2, hqk, H⟩ := hrel
    have HO := hid H.out.own
    have HND := hid H.out.nd
    have HGD := hid H.out.good
    have HD := hid H.out.draw
    have HQK := hid hqk
    clear H hqk
    obtain ⟨Au, cu, hu, _, _⟩ := HO.out.form
    subst hu
    by_cases hlt : k < many
    · have i1 : (k : Int) < (many : Int) := by omega
      have hql : qs.length ≤ 20 := by have := HQK.out; omega
      go_wp2_with (first
        | (at_builtin; have HL6 : Hid (ODT (w5.alloc (.cells #[.int .i64 idn, .slice An xs.length cn] 34)) w.heap.size (.slice (some ⟨w5.heap.size, 0, none⟩) 1 1) [(⟨⟨idn, xs⟩, .slice An xs.length cn⟩ : TaskD × Value)]) := hid (Own.lit (w := w5) (cells := [.int .i64 idn, .slice An xs.length cn]) (xs := [(⟨⟨idn, xs⟩, .slice An xs.length cn⟩ : TaskD × Value)]) hsz5 (by simp) (Cells.one rfl ⟨rfl, HN6.out⟩)); refine wpList_append_sl _ (by rfl) _ _ 24 (by rfl) (EDT.ok _) (EDT.flat _) (w.heap.size) 34 EDT.ne i0_task _ 2 32 Try.underlying24 hi0_task hz0_task hz1_task hz2_task rfl (by omega) _ (by rfl) _ (HL6.out) _ (by rfl) _ (Own.read HO6.out) (by simp; omega) (by simp; omega) ?_ ?_; (focus (first | exact Nat.le_refl _ | (simp; done) | (simp; omega) | omega)); intro v7 w7 hO7 hg7 hat7 hs7; have HO7 := hid hO7; have HD7 := hid (DrawR.low2 (HD5.out.ext HE6.out) HB0.out.1 HB0.out.2 hg7 (fun q hq => Own.lt HL6.out q hq)); clear hO7 hg7 hat7 hs7)
        | (at_builtin; refine wpList_append_sl _ (by rfl) _ _ 24 (by rfl) (EDT.ok _) (EDT.flat _) (w.heap.size) 34 EDT.ne i0_task _ 2 32 Try.underlying24 hi0_task hz0_task hz1_task hz2_task rfl (by omega) _ (by rfl) _ (HO6.out) _ (by rfl) _ (RSl.laid (cs := [.int .i64 idn, .slice An xs.length cn]) (x := (⟨⟨idn, xs⟩, .slice An xs.length cn⟩ : TaskD × Value)) (heap_alloc_new _ _) rfl ⟨rfl, HN6.out⟩) (by simp; omega) (by simp; omega) ?_ ?_; (focus (first | exact Nat.le_refl _ | (simp; done) | (simp; omega) | omega)); intro v7 w7 hO7 hg7 hat7 hs7; have HO7 := hid hO7; have HD7 := hid (DrawR.low2 (HD5.out.ext HE6.out) HB0.out.1 HB0.out.2 hg7 (fun q hq => Own.lt HO6.out q hq)); clear hO7 hg7 hat7 hs7)
        | (go_at_call 58; obtain ⟨hg, pp, hpp, hr⟩ := HD4.out; refine (dPick b bv bs pp _ _ hr (by omega) (by omega)).mono ?_; rintro e w5 ⟨x5, rfl, hx, hg5, hr5⟩; have hx5 := pick_lt hx (by decide); have HD5 := hid (DrawR.more HD4.out hg5 hr5 hpp); have HX5 := hid (hg5.obj HX4.out (by have := HB0.out.1; have := HWR.out; have := H3S.out; omega)); have HO5 := hid (Own.same (EDT.ok _) HO4.out (hg5.same hr _ notTI)); have HN5 := hid (Own.same EI.ok HN4.out (hg5.same hr _ notRd)); have hsz5 : w.heap.size ≤ w5.heap.size := (by have := hg5.size; have := H4S.out; have := H3S.out; have := HWR.out; omega); have hb0 := obj_cell HX5.out (i := 0) rfl; have hb1 := obj_cell HX5.out (i := 1) rfl; have HE6 := hid (Ext.alloc w5 (.cells #[.int .i64 idn, .slice An xs.length cn] 34)); have HO6 := hid (Own.ext (EDT.ok _) HO5.out HE6.out); have HN6 := hid (Own.low (base' := w.heap.size) (Own.ext EI.ok HN5.out HE6.out) HWR.out); clear hg hpp hr hx hg5 hr5)
        | (go_at_call 58; obtain ⟨hg, pp, hpp, hr⟩ := HD3.out; refine (dPick b bv bs pp _ _ hr (by omega) (by omega)).mono ?_; rintro e w4 ⟨x4, rfl, hx, hg4, hr4⟩; have hx4 := pick_lt hx (by decide); have HD4 := hid (DrawR.more HD3.out hg4 hr4 hpp); have HX4 := hid (hg4.obj HX3.out (by have := HB0.out.1; have := HWR.out; have := H3S.out; omega)); have HO4 := hid (Own.same (EDT.ok _) HO3.out (hg4.same hr _ notTI)); have HN4 := hid (Own.same EI.ok HN3.out (hg4.same hr _ notRd)); have H4S : Hid (w3.heap.size + 1 ≤ w4.heap.size) := hid (by have := hg4.size; simp at this; omega); clear hg hpp hr hx hg4 hr4)
        | (go_at_call 74; obtain ⟨hg, pp, hpp, hr⟩ := HD.out; refine (dTask b bv bs pp idn _ hr (by omega)).mono ?_; rintro e w3 ⟨nv, xs, rfl, hN, hNl, hNb, hd⟩; obtain ⟨An, cn, rfl, _, _⟩ := hN.form; have HX3 := hid (heap_alloc_new w3 (.cells #[.int .i64 idn, .slice An xs.length cn] 34)); have HE3 := hid (Ext.alloc w3 (.cells #[.int .i64 idn, .slice An xs.length cn] 34)); have HO3 := hid (Own.ext (EDT.ok _) (Own.same (EDT.ok _) HO.out (hd.1.same hr _ notTI)) HE3.out); have HN3 := hid (Own.ext EI.ok hN HE3.out); have HNL := hid hNl; have HNB := hid hNb; have HNW := hid hN.lt; have HD3 := hid ((DrawR.then hg hpp hd).ext HE3.out); have HWR := hid hg.size; have H3S : Hid (wr.heap.size ≤ w3.heap.size) := hid hd.1.size; clear hg hpp hr hd hN hNl hNb))
      all_goals
        go_roundw
        case rel =>
          first
            | exact ⟨_, k + 1, _, (⟨⟨idn, xs⟩, .slice An xs.length cn⟩ : TaskD × Value) :: qs, rfl, by omega, rfl, by go_num, by omega, by omega, by rw [List.length_cons, HQK.out], hid ⟨HO7.out, nd_pre HND.out (fun g hg => (ODT.lt HO.out g hg).2) (fun g hg => (HNW.out g hg).1), fun q hq => by rcases List.mem_cons.1 hq with rfl | hq; exact good_draw HNL.out HNB.out (by omega); exact HGD.out q hq, HD7.out.mono (by omega)⟩⟩
            | exact ⟨_, k + 1, _, qs ++ [(⟨⟨idn, xs⟩, .slice An xs.length cn⟩ : TaskD × Value)], rfl, by omega, rfl, by go_num, by omega, by omega, by rw [List.length_append, HQK.out]; rfl, hid ⟨HO7.out, nd_app HND.out (fun g hg => (ODT.lt HO.out g hg).2) (fun g hg => (HNW.out g hg).1), fun q hq => by rcases List.mem_append.1 hq with hq | hq; exact HGD.out q hq; rw [List.mem_singleton.1 hq]; exact good_draw HNL.out HNB.out (by omega), HD7.out.mono (by omega)⟩⟩
        case measure => simp [intOf]; omega
    · have hk' : k = many := by omega
      subst hk'
      by_cases h0 : 0 < k
      · have i0 : (0 : Int) < (k : Int) := by omega
        obtain ⟨g, cu', hrow, hgb⟩ := Own.row HO.out (by have := HQK.out; omega)
        injection hrow with e1 _ e3
        subst e1 e3
        have hql : qs.length ≤ 20 := by have := HQK.out; omega
        go_wp2_with (first
          | (at_builtin; refine wpList_append_sl _ (by rfl) _ _ 24 (by rfl) (EDT.ok _) (EDT.flat _) (w.heap.size) 34 EDT.ne i0_task _ 2 32 Try.underlying24 hi0_task hz0_task hz1_task hz2_task rfl (by omega) _ (by rfl) _ (HO10.out.ext (EDT.ok _) (Ext.alloc _ _)) _ (by rfl) _ (RSl.laid (cs := [.int .i64 q.1.id, .slice (some ⟨gn, 0, none⟩) q.1.need.length cn]) (x := q) (heap_alloc_new _ _) rfl ⟨by rw [HNV.out], by rw [HNV.out]; exact HNO.out.ext EI.ok (Ext.alloc _ _)⟩) (by simp; omega) (by simp; omega) ?_ ?_; (focus (first | exact Nat.le_refl _ | (simp; done) | (simp; omega) | omega)); intro v12 w12 hO12 hg12 hat12 hs12; have HO12 := hid hO12; have HD12 := hid (DrawR.low2 (HD10.out.ext (Ext.alloc _ _)) HB0.out.1 HB0.out.2 hg12 (fun q hq => Own.lt (HO10.out.ext (EDT.ok _) (Ext.alloc _ _)) q hq)); clear hO12 hg12 hat12 hs12)
          | (go_at_call 58; have HDX := hid (HD10.out.ext (Ext.alloc w10 (.cells #[.int .i64 0, .int .i64 40, .int .i64 41] 3))); obtain ⟨hg, pp, hpp, hr⟩ := HDX.out; refine (dPick b bv bs pp _ _ hr (by omega) (by omega)).mono ?_; rintro e w11 ⟨x11, rfl, hx, hg11, hr11⟩; have hx11 := pick_lt hx (by decide); obtain ⟨y11, hy11, hyb⟩ := three2 (x := x11) (by omega); have HL11 : Hid (OI (w10.alloc (.cells #[.int .i64 0, .int .i64 40, .int .i64 41] 3)) w10.heap.size (.slice (some ⟨w10.heap.size, 0, none⟩) 3 3) [0, 40, 41]) := hid (OI.lit w10 [0, 40, 41] (by simp) _ (Nat.le_refl _)); have HL12 := hid (Own.same EI.ok HL11.out (hg11.same hr _ notRd)); obtain ⟨cl11, _, _⟩ := OI.at_ HL12.out hy11; have HD11 := hid (DrawR.more HDX.out hg11 hr11 hpp); have HO11 := hid (Own.same (EDT.ok _) (Own.ext (EDT.ok _) HO10.out (Ext.alloc _ _)) (hg11.same hr _ notTI)); obtain ⟨ca, cb, fa, fb, _⟩ := ODT.at_ HO11.out HQ9.out; clear hg hpp hr hx hg11 hr11)
          | (go_at_call 58; obtain ⟨hg, pp, hpp, hr⟩ := HD9.out; refine (dPick b bv bs pp _ _ hr (by omega) (by omega)).mono ?_; rintro e w10 ⟨x10, rfl, hx, hg10, hr10⟩; have hx10 := pick_lt hx (by decide); have HD10 := hid (DrawR.more HD9.out hg10 hr10 hpp); have HO10 := hid (Own.same (EDT.ok _) HO9.out (hg10.same hr _ notTI)); obtain ⟨ca, cb, fa, fb, hno⟩ := ODT.at_ HO10.out HQ9.out; obtain ⟨gn, cn, hnv⟩ := need_row hno HG9.out.1; rw [hnv] at cb hno; have HNV := hid hnv; obtain ⟨y0, hy0⟩ : ∃ y, q.1.need[0]? = some y := ⟨_, List.getElem?_eq_getElem (by have := HG9.out.1; omega)⟩; obtain ⟨cn0, fn0, _⟩ := OI.at_ hno hy0; have HNO := hid hno; have hn0 : 0 < q.1.need.length := (by have := HG9.out.1; omega); have hsz10 : w.heap.size ≤ w10.heap.size := HD10.out.1.size; clear hg hpp hr hx hg10 hr10 hno hnv hy0)
          | (go_at_call 58; obtain ⟨hg, pp, hpp, hr⟩ := HD.out; refine (dPick b bv bs pp _ _ hr (by omega) (by omega)).mono ?_; rintro e w9 ⟨x9, rfl, hx, hg9, hr9⟩; have hx9 := pick_lt hx (by omega); have HD9 := hid (DrawR.more HD.out hg9 hr9 hpp); have HO9 := hid (Own.same (EDT.ok _) HO.out (hg9.same hr _ notTI)); have hx9q : x9 < qs.length := (by have := HQK.out; omega); obtain ⟨q, hq9⟩ : ∃ q, qs[x9]? = some q := ⟨_, List.getElem?_eq_getElem hx9q⟩; have HQ9 := hid hq9; have HG9 := hid (HGD.out q (List.mem_of_getElem? hq9)); have i9 : (x9 : Int) < (qs.length : Int) := (by omega); clear hg hpp hr hx hg9 hr9 hq9))
        all_goals go_ret
        · refine ⟨_, (qs.set x9 (⟨y11, q.1.need⟩, q.2)).map (fun p : TaskD × Value => p.1), rfl, ODT.read (ODT.setId HO11.out HQ9.out y11), by rw [List.length_map, List.length_set, HQK.out]; omega, fun t ht => ?_, (HD11.out.stored hgb HB0.out.1 HB0.out.2 _).mono (by omega)⟩
          obtain ⟨q', hq', rfl⟩ := List.mem_map.1 ht
          rcases List.mem_or_eq_of_mem_set hq' with hq' | rfl
          · exact HGD.out q' hq'
          · exact ⟨HG9.out.1, HG9.out.2.1, by unfold IdR; show _ ≤ y11 ∧ y11 ≤ _; omega⟩
        · have hset := (OI.set HNO.out (j := 0) hn0 20).1
          have hTch : Touch q.2.ownBlock.toList w10 (w10.setCell ⟨gn, 0, none⟩ (.int .i64 20)) := by
            rw [HNV.out]
            exact (Touch.refl _ _).setCell (p := ⟨gn, 0, none⟩) (by simp [Value.ownBlock]) _
          have hmk := ODT.marked HO10.out HND.out HQ9.out (ys := q.1.need.set 0 20) (by rw [HNV.out]; exact hset) hTch
          have hgn : w.heap.size ≤ gn := (HNO.out.lt gn rfl).1
          refine ⟨_, (qs.set x9 (⟨q.1.id, q.1.need.set 0 20⟩, q.2)).map (fun p : TaskD × Value => p.1), rfl, ODT.read hmk, by rw [List.length_map, List.length_set, HQK.out]; omega, fun t ht => ?_, (HD10.out.stored hgn HB0.out.1 HB0.out.2 _).mono (by omega)⟩
          obtain ⟨q', hq', rfl⟩ := List.mem_map.1 ht
          rcases List.mem_or_eq_of_mem_set hq' with hq' | rfl
          · exact HGD.out q' hq'
          · refine ⟨by show (q.1.need.set 0 20).length = 3; rw [List.length_set]; exact HG9.out.1, fun y hy => ?_, HG9.out.2.2⟩
            rcases List.mem_or_eq_of_mem_set hy with hy | rfl
            · exact HG9.out.2.1 y hy
            · omega
        · refine ⟨_, (qs ++ [q]).map (fun p : TaskD × Value => p.1), rfl, ODT.read HO12.out, by rw [List.length_map, List.length_append, HQK.out]; simp, fun t ht => ?_, HD12.out.mono (by omega)⟩
          obtain ⟨q', hq', rfl⟩ := List.mem_map.1 ht
          rcases List.mem_append.1 hq' with hq' | hq'
          · exact HGD.out q' hq'
          · rw [List.mem_singleton.1 hq']; exact HG9.out
        · refine ⟨_, qs.map (fun p : TaskD × Value => p.1), rfl, ODT.read HO10.out, by rw [List.length_map, HQK.out]; omega, fun t ht => ?_, HD10.out.mono (by omega)⟩
          obtain ⟨q', hq', rfl⟩ := List.mem_map.1 ht
          exact HGD.out q' hq'
      · have hk0 : k = 0 := by omega
        subst hk0
        go_wp2
        go_ret
        exact ⟨_, _, rfl, ODT.read HO.out, by rw [List.length_map, HQK.out]; omega, fun t ht => by obtain ⟨q, hq, rfl⟩ := List.mem_map.1 ht; exact HGD.out q hq, HD.out.mono (by omega)⟩
end Go.Proofs.Ytoaabinpdjcimaa

/- A number of a task is drawn. While a cluster and a task are drawn. -/
namespace Go.Proofs.Ytoaabinpdjcimaa
open Go.RowKit
set_option maxRecDepth 4000

set_option maxHeartbeats 4000000 in
theorem dId91 (b : Nat) (bv : Value) (bs : List Int) (p : Nat) (v : Value) (Bs : List (List TaskD)) (w : World) (h : Rd w b bv bs p) (hp : p ≤ 900000) (hv : RB w v Bs) (hl : Bs.flatten.length ≤ 900000) (hid' : ∀ t ∈ Bs.flatten, IdR t.id) :
    Calls Try.prog 89 #[.pointer (some ⟨b, 0, none⟩), v] w fun e w' => ∃ n : Int, e = .returned (.int .i64 n) ∧ IdR n ∧ DrawR w b bv bs p 2 w' := by
  have HR0 := hid h
  have HV := hid hv
  obtain ⟨ts, hts⟩ : ∃ ts, ts = Bs.flatten := ⟨_, rfl⟩
  have HT := hid hts
  have HID : Hid (∀ t ∈ ts, IdR t.id) := hid (by rw [hts]; exact hid')
  have hl2 : ts.length ≤ 900000 := by rw [hts]; exact hl
  have HLL : Hid (Bs.flatten.length ≤ 4000000) := hid (by omega)
  clear h hv hts hl hid'
  by_cases h0 : 0 < ts.length
  · have i0 : (0 : Int) < (ts.length : Int) := by omega
    go_enter Try.func89, Try.ntmps89
    go_wp2_with (first
      | (go_at_call 58; refine (dPick b bv bs _ _ _ HR2.out (by omega) (by omega)).mono ?_; rintro e w3 ⟨x3, rfl, ho3, hg3, hr3⟩; have hx3 := pick_lt ho3 (by omega); have hxl : x3 < ts.length := (by omega); have HT3 := hid (RT.same HT2.out (hg3.same HR2.out _ (by rintro t (rfl | rfl) <;> decide))); obtain ⟨A3, c3, hv3, _, _, hg⟩ := RT.get HT3.out; injection hv3 with e1 e2 e3; subst e1 e3; obtain ⟨bb, bo, y, Ay, cy, rfl, ey, cy1, cy2, _⟩ := hg x3 hxl; have i3 : (x3 : Int) < (ts.length : Int) := (by omega); have HD3 := hid (HD2.out.more hg3 hr3); clear hg3 hr3 ho3 hg hxl cy2)
      | (go_at_call 58; refine (dPick b bv bs _ _ _ HR2.out (by omega) (by omega)).mono ?_; rintro e w3 ⟨x3, rfl, ho3, hg3, hr3⟩; have hx3 := pick_lt ho3 (by decide); have HD3 := hid (HD2.out.more hg3 hr3); clear hg3 hr3 ho3)
      | (go_at_call 58; refine (dPick b bv bs _ _ _ HR1.out (by omega) (by omega)).mono ?_; rintro e w2 ⟨x2, rfl, ho2, hg2, hr2⟩; have hx2 := pick_lt ho2 (by decide); have HT2 := hid (RT.same HT1.out (hg2.same HR1.out _ (by rintro t (rfl | rfl) <;> decide))); have HD2 : Hid (DrawR w b bv bs p 1 w2) := hid ⟨HG1.out.trans hg2, _, Nat.le_refl _, hr2⟩; have HR2 := hid hr2; clear hg2 hr2 ho2)
      | (go_at_call 57; refine (sAll _ Bs _ HV.out HLL.out).mono ?_; rintro e w1 ⟨v1, rfl, hO1, hE1⟩; rw [← HT.out] at hO1; obtain ⟨A1, c1, rfl, _, _⟩ := hO1.form; have HT1 := hid hO1.read; have HR1 := hid (HR0.out.ext hE1); have HG1 := hid (Gr.of_ext (b := b) hE1); clear hO1 hE1))
    · go_ret
      exact ⟨_, rfl, HID.out _ (List.mem_of_getElem? ey.out), HD3.out⟩
    · go_ret
      exact ⟨_, rfl, by unfold IdR; omega, HD3.out⟩
  · have h0 : ts.length = 0 := by omega
    go_enter Try.func89, Try.ntmps89
    go_wp2_with (first
      | (go_at_call 58; refine (dPick b bv bs _ _ _ HR1.out (by omega) (by omega)).mono ?_; rintro e w3 ⟨x3, rfl, ho3, hg3, hr3⟩; have hx3 := pick_lt ho3 (by decide); have HD3 : Hid (DrawR w b bv bs p 2 w3) := hid ⟨HG1.out.trans hg3, _, by omega, hr3⟩; clear hg3 hr3 ho3)
      | (go_at_call 57; refine (sAll _ Bs _ HV.out HLL.out).mono ?_; rintro e w1 ⟨v1, rfl, hO1, hE1⟩; rw [← HT.out] at hO1; obtain ⟨A1, c1, rfl, _, _⟩ := hO1.form; rw [h0]; have HR1 := hid (HR0.out.ext hE1); have HG1 := hid (Gr.of_ext (b := b) hE1); clear hO1 hE1))
    go_ret
    exact ⟨_, rfl, by unfold IdR; omega, HD3.out⟩

section
variable {w w2 wr w' : World} {b p K K' H G : Nat} {bv rv uv nv : Value} {bs need : List Int} {id : Int}
end

end Go.Proofs.Ytoaabinpdjcimaa

/- Nodes are drawn. -/
namespace Go.Proofs.Ytoaabinpdjcimaa
open Go.RowKit
set_option maxRecDepth 4000

theorem SameT.after {T : TypeId → Prop} {w0 w w' : World} (h : SameT T w0 w) (hs : w0.heap.size ≤ w.heap.size) {o : Option Nat} (hg : w.grownBy w' o) (ho : ∀ q, o = some q → w0.heap.size ≤ q) : SameT T w0 w' := fun k cur t fr ht hk => by
  have hlt := (Array.getElem?_eq_some_iff.1 hk).1
  rw [hg.block k (Nat.lt_of_lt_of_le hlt hs) (fun e => by have := ho k e.symm; omega)]
  exact h k cur t fr ht hk
theorem flat_len_set {α : Type} : ∀ (bs : List (List α)) (k : Nat) (b : List α) (x : α), bs[k]? = some b → (bs.set k (b ++ [x])).flatten.length = bs.flatten.length + 1
  | [], _, _, _, h => by simp at h
  | b' :: bs, 0, b, x, h => by
    simp at h
    subst h
    simp
    omega
  | b' :: bs, k + 1, b, x, h => by
    have ih := flat_len_set bs k b x (by simpa using h)
    simp only [List.set_cons_succ, List.flatten_cons, List.length_append]
    omega
theorem notB1 : ∀ t, (t = 24) → t ≠ 95 := by rintro t rfl; decide
theorem notTask1 : ∀ t, (t = 24) → t ≠ 34 := by rintro t rfl; decide
theorem notBin2 : ∀ t, (t = 34 ∨ t = 3) → t ≠ 24 := by rintro t (rfl | rfl) <;> decide
/-- a task of a row, wherever the row's block is as it was -/
theorem RT.keep {w : World} {A : Option Addr} {n c : Nat} {ts : List TaskD} (h : RT w (.slice A n c) ts) {i : Nat} {x : TaskD} (hx : ts[i]? = some x) :
    ∃ b o An cn, A = some ⟨b, o, none⟩ ∧ ∀ w', SameT (fun t => t = 34 ∨ t = 3) w w' → w'.cell? ⟨b, o + i * 2, none⟩ = some (.int .i64 x.id) ∧ w'.cell? ⟨b, o + i * 2 + 1, none⟩ = some (.slice An x.need.length cn) ∧ RI w' (.slice An x.need.length cn) x.need := by
  obtain ⟨A', c', hv, _, _, h⟩ := h
  injection hv with e1 _ _
  subst e1
  obtain ⟨b, o, cur, fr, hA, hb, hj⟩ := h (Nat.lt_of_le_of_lt (Nat.zero_le _) (List.getElem?_eq_some_iff.1 hx).1)
  obtain ⟨cs, _, ⟨nv, he, hr⟩, hc⟩ := hj i x hx
  subst he
  have hr0 := hr
  obtain ⟨An, cn, rfl, _⟩ := hr
  refine ⟨b, o, An, cn, hA, fun w' hs => ⟨?_, ?_, RI.same hr0 (hs.mono (fun t ht => .inr ht))⟩⟩
  · rw [SameT.cell hs hb (.inl rfl)]
    simpa using hc 0 _ rfl
  · rw [SameT.cell hs hb (.inl rfl), Nat.add_assoc]
    exact hc 1 _ rfl
theorem OBV.keep {w : World} {base g n c : Nat} {ps : List (List TaskD × Value)} (h : OBV w base (.slice (some ⟨g, 0, none⟩) n c) ps) {k : Nat} {b : List TaskD} {tv : Value} (hk : ps[k]? = some (b, tv)) : ∀ w', SameT (fun t => t = 24) w w' → w'.cell? ⟨g, k, none⟩ = some tv := by
  intro w' hs
  obtain ⟨cur, hcur⟩ := Own.obj h
  have h1 := (OBV.at_ h hk).1
  rw [cell_of_row w _ _ cur _ _ hcur] at h1
  rw [SameT.cell hs hcur rfl]
  exact h1
theorem blocksB_mem {ps : List (List TaskD × Value)} {k : Nat} {q : List TaskD × Value} {y : Nat} (h : y ∈ blocksOfB (ps.set k q)) : y ∈ blocksOfB ps ∨ q.2.ownBlock = some y := by
  obtain ⟨p, hp, hb⟩ := List.mem_filterMap.1 h
  rcases List.mem_or_eq_of_mem_set hp with hp | rfl
  · exact .inl (List.mem_filterMap.2 ⟨p, hp, hb⟩)
  · exact .inr hb
theorem nodupB_set {ps : List (List TaskD × Value)} (hnd : (blocksOfB ps).Nodup) {k H : Nat} {b b' : List TaskD} {tv v' : Value} (hk : ps[k]? = some (b, tv)) (hv : v'.ownBlock = tv.ownBlock ∨ v'.ownBlock = some H) (hH : ∀ g ∈ blocksOfB ps, g < H) : (blocksOfB (ps.set k (b', v'))).Nodup := by
  rcases hv with hv | hv
  · have e : ∀ qs : List (List TaskD × Value), blocksOfB qs = (qs.map (fun p => p.2.ownBlock)).filterMap id := fun qs => by unfold blocksOfB; rw [List.filterMap_map]; rfl
    have e2 : blocksOfB (ps.set k (b', v')) = blocksOfB ps := by
      rw [e, e, List.map_set]
      congr 1
      exact set_same (x := v'.ownBlock) (by rw [List.getElem?_map, hk, hv]; rfl)
    rw [e2]; exact hnd
  · have key : ∀ (ps : List (List TaskD × Value)) (k : Nat), (blocksOfB ps).Nodup → (∀ g ∈ blocksOfB ps, g < H) → (blocksOfB (ps.set k (b', v'))).Nodup := by
      have e : ∀ (p : List TaskD × Value) ps, blocksOfB (p :: ps) = p.2.ownBlock.toList ++ blocksOfB ps := fun p ps => by
        unfold blocksOfB
        rw [List.filterMap_cons]
        cases p.2.ownBlock <;> rfl
      intro ps
      induction ps with
      | nil => intro k _ _; simp [blocksOfB]
      | cons p ps ih =>
        intro k hn hl
        rw [e] at hn hl
        obtain ⟨n1, n2, n3⟩ := List.nodup_append.1 hn
        cases k with
        | zero =>
          rw [List.set_cons_zero, e, hv]
          refine List.nodup_append.2 ⟨by simp, n2, fun a ha c hc he => ?_⟩
          have ha : a = H := by simpa using ha
          have := hl c (List.mem_append.2 (.inr hc))
          omega
        | succ k =>
          rw [List.set_cons_succ, e]
          refine List.nodup_append.2 ⟨n1, ih k n2 (fun g hg => hl g (List.mem_append.2 (.inr hg))), fun a ha c hc he => ?_⟩
          rcases blocksB_mem hc with hc | hc
          · exact n3 a ha c hc he
          · have hc : v'.ownBlock = some c := hc
            rw [hv] at hc
            injection hc with hc
            have := hl a (List.mem_append.2 (.inl ha))
            omega
    exact key ps k hnd hH
theorem hiB_set {ps : List (List TaskD × Value)} {k L H : Nat} (h : ∀ g ∈ blocksOfB ps, L ≤ g) {b b' : List TaskD} {tv v' : Value} (hk : ps[k]? = some (b, tv)) (hv : v'.ownBlock = tv.ownBlock ∨ v'.ownBlock = some H) (hH : L ≤ H) : ∀ g ∈ blocksOfB (ps.set k (b', v')), L ≤ g := fun g hg => by
  rcases blocksB_mem hg with hg | hg
  · exact h g hg
  · have hg : v'.ownBlock = some g := hg
    rcases hv with hv | hv
    · exact h g (List.mem_filterMap.2 ⟨_, List.mem_of_getElem? hk, by rw [← hv]; exact hg⟩)
    · rw [hv] at hg
      injection hg with hg
      omega
theorem goodB_set {ps : List (List TaskD × Value)} (h : ∀ t ∈ (ps.map (·.1)).flatten, GoodT t) {k : Nat} {b : List TaskD} {tv v' : Value} (hk : ps[k]? = some (b, tv)) {x : TaskD} (hx : GoodT x) : ∀ t ∈ ((ps.set k (b ++ [x], v')).map (·.1)).flatten, GoodT t := fun t ht => by
  obtain ⟨c, hc, ht⟩ := List.mem_flatten.1 ht
  obtain ⟨q, hq, rfl⟩ := List.mem_map.1 hc
  rcases List.mem_or_eq_of_mem_set hq with hq | rfl
  · exact h t (List.mem_flatten.2 ⟨_, List.mem_map.2 ⟨q, hq, rfl⟩, ht⟩)
  · rcases List.mem_append.1 ht with ht | ht
    · exact h t (List.mem_flatten.2 ⟨b, List.mem_map.2 ⟨_, List.mem_of_getElem? hk, rfl⟩, ht⟩)
    · rw [List.mem_singleton.1 ht]; exact hx
def DrawnB (w : World) (b : Nat) (bv : Value) (bs : List Int) (p : Nat) (e : Ending) (w' : World) : Prop := ∃ rv nv room Bs, e = .returned (.tuple #[rv, nv]) ∧ RI w' rv room ∧ RB w' nv Bs ∧ Bs.length ≤ 10 ∧ Bs.flatten.length ≤ 30 ∧ (∀ t ∈ Bs.flatten, GoodT t) ∧ DrawR w b bv bs p 300 w'
/-- the same, with whose the rows are -/
def DrawnBO (w : World) (b : Nat) (bv : Value) (bs : List Int) (p : Nat) (e : Ending) (w' : World) : Prop := ∃ rv nv room Bs ps, e = .returned (.tuple #[rv, nv]) ∧ RI w' rv room ∧ OBV w' w.heap.size nv ps ∧ ps.map (·.1) = Bs ∧ Bs.length ≤ 10 ∧ Bs.flatten.length ≤ 30 ∧ (∀ t ∈ Bs.flatten, GoodT t) ∧ DrawR w b bv bs p 300 w'
/-- what the draw of nodes keeps -/
structure BD (w w6 : World) (b : Nat) (bv : Value) (bs : List Int) (p K : Nat) (wr : World) (u : Value) (ps : List (List TaskD × Value)) : Prop where
  own : OBV wr w.heap.size u ps
  nd : (blocksOfB ps).Nodup
  hi : ∀ g ∈ blocksOfB ps, w6.heap.size ≤ g
  good : ∀ t ∈ (ps.map (·.1)).flatten, GoodT t
  same : SameT (fun t => t = 34 ∨ t = 3) w6 wr
  size : w6.heap.size ≤ wr.heap.size
  draw : DrawR w b bv bs p K wr

theorem notBTI : ∀ t, (t = 24 ∨ t = 34 ∨ t = 3) → t ≠ 95 := by rintro t (rfl | rfl | rfl) <;> decide

set_option maxHeartbeats 8000000 in
theorem dBinsO (b : Nat) (bv : Value) (bs : List Int) (p : Nat) (w : World) (h : Rd w b bv bs p) (hp : p ≤ 700000) :
    Calls Try.prog 88 #[.pointer (some ⟨b, 0, none⟩)] w (DrawnBO w b bv bs p) := by
  have HR0 := hid h
  have HB0 := hid h.low
  obtain ⟨i0_task, hi0_task, hz0_task, hz1_task, hz2_task⟩ := info_parts info_task
  obtain ⟨i0_bin, hi0_bin, hz0_bin, hz1_bin, hz2_bin⟩ := info_parts info_bin
  clear h
  go_enter Try.func88, Try.ntmps88
  go_wp2_with (first
    | (go_at_call 44; refine (dRoom b bv bs p _ HR0.out (by omega)).mono ?_; rintro e w1 ⟨rv, room, rfl, hO1, hl1, _, hd1⟩; obtain ⟨Ar, cr, rfl, _, _⟩ := hO1.form; have HRO := hid (RI.ext hO1.read (Ext.alloc w1 (.cells #[] 24))); have HRL := hid hl1; have HD1 := hid (hd1.ext (Ext.alloc w1 (.cells #[] 24))); have HZ1 : Hid (OBV (w1.alloc (.cells #[] 24)) w.heap.size (.slice (some ⟨w1.heap.size, 0, none⟩) 0 0) []) := hid (Own.made #[] 0 hd1.1.size (by omega) rfl); clear hO1 hl1 hd1)
    | (go_at_call 68; refine (sRoom _ room _ HRO.out).mono ?_; rintro e w2 ⟨rfl, n2, hw2⟩; have HE2 : Hid (Ext (w1.alloc (.cells #[] 24)) w2) := hid (by rw [hw2]; exact Ext.drewN _ _); have HD2 := hid (HD1.out.ext HE2.out); have HRO2 := hid (RI.ext HRO.out HE2.out); have HZ2 := hid (HZ1.out.ext (EBV.ok _) HE2.out); clear hw2)
    | (go_at_call 58; obtain ⟨hg, pp, hpp, hr⟩ := HD6.out; refine (dPick b bv bs pp _ _ hr (by omega) (by omega)).mono ?_; rintro e w7 ⟨x7, rfl, hx, hg7, hr7⟩; have hx7 := pick_lt hx (by decide); have HD7 := hid (DrawR.more HD6.out hg7 hr7 hpp); have HT7 := hid (RT.same HT6.out (hg7.same hr _ notTI)); have HRO7 := hid (RI.same HRO6.out (hg7.same hr _ (by rintro t rfl; decide))); have HZ7 := hid (Own.same (EBV.ok _) HZ6.out (hg7.same hr _ notBTI)); clear hg hpp hr hx hg7 hr7)
    | (go_at_call 45; obtain ⟨hg, pp, hpp, hr⟩ := HD5.out; refine (dTasks b bv bs pp x5 _ hr (by omega) (by omega)).mono ?_; rintro e w6 ⟨tv, ts, rfl, hT6, hTl, hTg, hd6⟩; obtain ⟨At, ct, rfl, _⟩ := RT.get hT6; have HT6 := hid hT6; have HTL := hid hTl; have HTG := hid hTg; have HD6 := hid ((DrawR.then hg hpp hd6).mono (K' := 210) (by omega)); have HRO6 := hid (RI.same HRO5.out (hd6.1.same hr _ (by rintro t rfl; decide))); have HZ6 := hid (Own.same (EBV.ok _) HZ5.out (hd6.1.same hr _ notBTI)); clear hg hpp hr hT6 hTl hTg hd6)
    | (go_at_call 58; obtain ⟨hg, pp, hpp, hr⟩ := HD2.out; refine (dPick b bv bs pp _ _ hr (by omega) (by omega)).mono ?_; rintro e w5 ⟨x5, rfl, hx, hg5, hr5⟩; have hx5 := pick_lt hx (by decide); have HD5 := hid (DrawR.more HD2.out hg5 hr5 hpp); have HRO5 := hid (RI.same HRO2.out (hg5.same hr _ (by rintro t rfl; decide))); have HZ5 := hid (Own.same (EBV.ok _) HZ2.out (hg5.same hr _ notBTI)); clear hg hpp hr hx hg5 hr5))
  · refine bodyPost_ret (results_tmp2 rfl _ _ _) rfl ?_
    exact ⟨_, _, room, [], [], rfl, HRO2.out, HZ1.out.ext (EBV.ok _) HE2.out, rfl, by simp, by simp, fun t ht => by simp at ht, HD2.out.mono (by omega)⟩
  · have HRO7b := HRO7
    have HZ7r := HZ7.out
    obtain ⟨Av, cv, hAv, hcv, hcv', hgt⟩ := RT.get HT7.out
    injection hAv with e1 _ e3
    subst e1 e3
    clear hgt
    have HS77 : Hid (SameT (fun t => t = 34 ∨ t = 3) w7 w7) := hid (SameT.refl _ _)
    have htl : ts.length ≤ 12 := by have := HTL.out; omega
    go_loopw [5, 8] (fun o i wr => ∃ (u : Value) (k : Nat) (ps : List (List TaskD × Value)), u = o ∧ (k : Int) ≤ 1 + (x7 : Int) ∧ i = .int .i64 k ∧ Hid (BD w w7 b bv bs p 220 wr u ps ∧ ps.length = k ∧ (ps.map (·.1)).flatten = [])) (fun _ i _ => 1 + x7 - (intOf i).toNat)
    case atStart => exact ⟨_, 0, [], rfl, by omega, rfl, hid ⟨⟨HZ7.out, List.nodup_nil, fun g hg => by simp [blocksOfB] at hg, fun t ht => by simp at ht, SameT.refl _ _, Nat.le_refl _, HD7.out.mono (by omega)⟩, rfl, rfl⟩⟩
    case round =>
      obtain ⟨u, k, ps, rfl, hk, rfl, H⟩ := hrel
      obtain ⟨Au, cu, hu, _, _⟩ := H.out.1.own.form
      subst hu
      by_cases hlt : (k : Int) < 1 + (x7 : Int)
      · have hpl : ps.length ≤ 10 := by have := H.out.2.1; omega
        have hszr : w.heap.size ≤ wr.heap.size := H.out.1.draw.1.size
        have HEA := hid ((Ext.alloc wr (.cells #[] 34)).trans (Ext.alloc (wr.alloc (.cells #[] 34)) (.cells #[.slice (some ⟨wr.heap.size, 0, none⟩) 0 0] 24)))
        have HOA := hid (H.out.1.own.ext (EBV.ok _) HEA.out)
        have HTA : Hid (OT ((wr.alloc (.cells #[] 34)).alloc (.cells #[.slice (some ⟨wr.heap.size, 0, none⟩) 0 0] 24)) w.heap.size (.slice (some ⟨wr.heap.size, 0, none⟩) 0 0) []) := hid ((Own.made #[] 0 hszr (by omega) rfl).ext ET.ok (Ext.alloc _ _))
        go_wp2_with (at_builtin; refine wpList_append_sl _ (by rfl) _ _ 28 (by rfl) (EBV.ok _) (EBV.flat _) (w.heap.size) 24 EBV.ne i0_bin _ 1 24 Try.underlying28 hi0_bin hz0_bin hz1_bin hz2_bin rfl (by omega) _ (by rfl) _ (HOA.out) _ (by rfl) _ (RSl.laid (cs := [.slice (some ⟨wr.heap.size, 0, none⟩) 0 0]) (x := (([] : List TaskD), .slice (some ⟨wr.heap.size, 0, none⟩) 0 0)) (heap_new (H := wr.heap.size + 1) (by simp)) rfl ⟨rfl, HTA.out⟩) (by simp; omega) (by simp; omega) ?_ ?_; (focus (first | exact Nat.le_refl _ | (simp; done) | (simp; omega) | omega)); intro v4 w4 hO hg hat hs; have HO4 := hid hO; have HG4 := hid hg; have HS4 := hid hs; clear hO hg hat hs)
        go_roundw
        case rel =>
          refine ⟨_, k + 1, ps ++ [([], .slice (some ⟨wr.heap.size, 0, none⟩) 0 0)], rfl, by omega, by go_num, hid ⟨⟨HO4.out, ?_, ?_, ?_, ?_, ?_, ?_⟩, by rw [List.length_append, H.out.2.1]; rfl, by rw [List.map_append, List.flatten_append, H.out.2.2]; rfl⟩⟩
          · exact nodupB_more (tv := .slice (some ⟨wr.heap.size, 0, none⟩) 0 0) (x := []) H.out.1.own H.out.1.nd (fun q hq => Nat.le_of_eq (by simpa [Value.ownBlock] using hq))
          · intro q hq
            rw [blocksB_app] at hq
            rcases List.mem_append.1 hq with hq | hq
            · exact H.out.1.hi q hq
            · have hq2 : q = wr.heap.size := by simpa [blocksOfB, Value.ownBlock] using hq
              have := H.out.1.size
              omega
          · rw [List.map_append, List.flatten_append, H.out.2.2]
            intro t ht
            simp at ht
          · exact (H.out.1.same.trans (HEA.out.same _)).trans (HS4.out.mono notBin2)
          · exact Nat.le_trans H.out.1.size (Nat.le_trans HEA.out.size HG4.out.size)
          · exact DrawR.low2 (H.out.1.draw.ext HEA.out) HB0.out.1 HB0.out.2 HG4.out (fun q hq => Own.lt HOA.out q hq)
        case measure => simp [intOf]; omega
      · have hk' : (k : Int) = 1 + (x7 : Int) := by omega
        have HFIN : Hid (BD w w7 b bv bs p 220 wr (.slice Au ps.length cu) ps) := hid H.out.1
        have HLEN : Hid (ps.length = 1 + x7) := hid (by have := H.out.2.1; omega)
        have HFL0 := hid H.out.2.2
        clear H hk'
        obtain ⟨N, hN⟩ : ∃ N, N = 1 + x7 := ⟨_, rfl⟩
        have hN1 : (1 : Int) + (x7 : Int) = (N : Int) := by omega
        have hN5 : N ≤ 5 := by omega
        have hN0 : 0 < N := by omega
        have HN := hid hN1
        have HLN : Hid (ps.length = N) := hid (by rw [HLEN.out, hN])
        clear hN hN1
        go_wp2
        rw [HN.out]
        obtain ⟨wo, hwo⟩ : ∃ wo, wo = wr := ⟨_, rfl⟩
        rw [← hwo] at HFIN ⊢
        obtain ⟨ps0, hps0⟩ : ∃ q, q = ps := ⟨_, rfl⟩
        rw [← hps0] at HFIN HLN HFL0 ⊢
        clear hwo hps0 hlt
        obtain ⟨g, cg, hu, hgb⟩ := Own.row HFIN.out.own (by have := HLN.out; omega)
        injection hu with e1 _ e3
        subst e1 e3
        go_loopw [9] (fun i wr => ∃ (i' : Nat) (ps : List (List TaskD × Value)), i' ≤ ts.length ∧ i = .int .i64 i' ∧ Hid (ps.length = ps0.length) ∧ Hid (BD w w7 b bv bs p (220 + 3 * i') wr (.slice (some ⟨g, 0, none⟩) ps0.length cu) ps ∧ (ps.map (·.1)).flatten.length ≤ i')) (fun i _ => ts.length - (intOf i).toNat)
        case atStart => exact ⟨0, ps0, Nat.zero_le _, rfl, hid rfl, hid ⟨HFIN.out, by rw [HFL0.out]; exact Nat.le_refl _⟩⟩
        case round =>
          clear HFIN HFL0 hk
          obtain ⟨i, ps, hi, rfl, HPN, H⟩ := hrel
          have hpl0 : ps0.length ≤ 5 ∧ 0 < ps0.length := by have := HLN.out; omega
          by_cases hlt : i < ts.length
          · have i1 : (i : Int) < (ts.length : Int) := by omega
            have i0 : (0 : Int) ≤ (i : Int) := by omega
            have hi12 : i ≤ 12 := by omega
            obtain ⟨x, hx⟩ : ∃ x, ts[i]? = some x := ⟨_, List.getElem?_eq_getElem hlt⟩
            obtain ⟨bt, ot, An, cn, rfl, hkeep⟩ := RT.keep HT7.out hx
            have HKP := hid hkeep
            have HXG := hid (HTG.out x (List.mem_of_getElem? hx))
            have HXN := hid (hkeep _ (SameT.refl _ _)).2.2
            have e3 : ((x.need.length : Int) == 3) = true := by rw [HXG.out.1]; rfl
            have HND := hid H.out.1.nd
            have HHB := hid H.out.1.hi
            have HGB := hid H.out.1.good
            have HFL := hid H.out.2
            clear hkeep hx
            go_wp2_with (go_at_call 58; obtain ⟨hg, pp, hpp, hr⟩ := H.out.1.draw; refine (dPick b bv bs pp _ _ hr (by omega) (by omega)).mono ?_; rintro e w10 ⟨x10, rfl, hx, hg10, hr10⟩; have hx10 := pick_lt hx (by omega); have HD10r := hid (DrawR.more H.out.1.draw hg10 hr10 hpp); have HS70 := hid (H.out.1.same.trans (hg10.same hr _ notTI)); have HO10 := hid (Own.same (EBV.ok _) H.out.1.own (hg10.same hr _ notBTI)); have HZ10 : Hid (w7.heap.size ≤ w10.heap.size) := hid (Nat.le_trans H.out.1.size hg10.size); have hxp : x10 < ps.length := (by have := HPN.out; have := HLN.out; omega); clear hg hpp hr hx hg10 hr10)
            obtain ⟨⟨bn, tv⟩, hpk⟩ : ∃ q, ps[x10]? = some q := ⟨_, List.getElem?_eq_getElem hxp⟩
            have HPK := hid hpk
            obtain ⟨_, _, htv, _⟩ := OBV.at_ HO10.out hpk
            obtain ⟨At, ct, rfl, _, _⟩ := htv.form
            have HBN := hid htv.read
            have HKG := hid (OBV.keep HO10.out hpk)
            have HHI : Hid (∀ q, (Value.slice At bn.length ct).ownBlock = some q → w7.heap.size ≤ q) := hid (fun q hq => HHB.out q (List.mem_filterMap.2 ⟨_, List.mem_of_getElem? hpk, hq⟩))
            have HBL : Hid (bn.length ≤ 20) := hid (by
              have h1 : bn ∈ ps.map (·.1) := List.mem_map.2 ⟨_, List.mem_of_getElem? hpk, rfl⟩
              have h2 := (List.sublist_flatten_of_mem h1).length_le
              have := HFL.out
              omega)
            have HBG : Hid (GoodTs bn) := hid ⟨by have := HBL.out; omega, fun t ht => by
              have h1 : bn ∈ ps.map (·.1) := List.mem_map.2 ⟨_, List.mem_of_getElem? hpk, rfl⟩
              have h2 := HGB.out t (List.mem_flatten.2 ⟨bn, h1, ht⟩)
              exact ⟨h2.1, h2.2.1⟩⟩
            have KSB : Hid (∀ w', SameT (fun t => t = 34 ∨ t = 3) w7 w' → SameT (fun t => t = 24) w10 w' → w'.cell? ⟨bt, ot + i * 2, none⟩ = some (.int .i64 x.id) ∧ w'.cell? ⟨bt, ot + i * 2 + 1, none⟩ = some (.slice An x.need.length cn) ∧ w'.cell? ⟨g, x10, none⟩ = some (.slice At bn.length ct)) := hid fun w' h1 h2 => ⟨(HKP.out w' h1).1, (HKP.out w' h1).2.1, (HKG.out w' h2)⟩
            have HD10 : Hid (Ext w10 w10.drew) := hid (Below.drew (Below.refl _ _))
            have ix1 : (x10 : Int) < (ps0.length : Int) := by have := HPN.out; omega
            have ix0 : (0 : Int) ≤ (x10 : Int) := by omega
            clear hpk htv H
            by_cases hf : l11fits room bn x = true
            · refine WG.start (fun w' => w'.cell? ⟨bt, ot + i * 2, none⟩ = some (.int .i64 x.id) ∧ w'.cell? ⟨bt, ot + i * 2 + 1, none⟩ = some (.slice An x.need.length cn) ∧ w'.cell? ⟨g, x10, none⟩ = some (.slice At bn.length ct)) [] (by kernel_rfl) (by exact KSB.out _ (HS70.out.trans (HD10.out.same _)) (HD10.out.same _)) (fun hHeld => ?_)
              (refine WG.take (i := 0) (v := ?_) rfl (by kernel_rfl) (by kernel_rfl) (by kernel_rfl) (by kernel_rfl) (fun _ _ _ h => h) (Or.inl ⟨by rfl, ?_⟩) (by assumption) ?_; rotate_left; (intro w hSw; (try dsimp only at hSw); go_split_ands; go_simp; (try with_reducible rfl)); (try simp only [Act.put, List.setIfInBounds_toArray, List.set_cons_zero, List.set_cons_succ]))
              (refine WG.take (i := 1) (v := ?_) rfl (by kernel_rfl) (by kernel_rfl) (by kernel_rfl) (by kernel_rfl) (fun _ _ _ h => h) (Or.inl ⟨by rfl, ?_⟩) (by assumption) ?_; rotate_left; (intro w hSw; (try dsimp only at hSw); go_split_ands; go_simp; (try with_reducible rfl)); (try simp only [Act.put, List.setIfInBounds_toArray, List.set_cons_zero, List.set_cons_succ]))
              (refine WG.take (i := 2) (v := ?_) rfl (by kernel_rfl) (by kernel_rfl) (by kernel_rfl) (by kernel_rfl) (fun _ _ _ h => h) (Or.inl ⟨by rfl, ?_⟩) (by assumption) ?_; rotate_left; (intro w hSw; (try dsimp only at hSw); go_split_ands; go_simp; (try with_reducible rfl)); (try simp only [Act.put, List.setIfInBounds_toArray, List.set_cons_zero, List.set_cons_succ]))
              (refine WG.take (i := 3) (v := ?_) rfl (by kernel_rfl) (by kernel_rfl) (by kernel_rfl) (by kernel_rfl) (fun _ _ _ h => h) (Or.inl ⟨by rfl, ?_⟩) (by assumption) ?_; rotate_left; (intro w hSw; (try dsimp only at hSw); go_split_ands; go_simp; (try with_reducible rfl)); (try simp only [Act.put, List.setIfInBounds_toArray, List.set_cons_zero, List.set_cons_succ]))
              (refine WG.take (i := 4) (v := ?_) rfl (by kernel_rfl) (by kernel_rfl) (by kernel_rfl) (by kernel_rfl) (fun _ _ _ h => h) (Or.inl ⟨by rfl, ?_⟩) (by assumption) ?_; rotate_left; (intro w hSw; (try dsimp only at hSw); go_split_ands; go_simp; (try with_reducible rfl)); (try simp only [Act.put, List.setIfInBounds_toArray, List.set_cons_zero, List.set_cons_succ]))
              refine WG.one (i := 5) rfl (by kernel_rfl) (fun K hK => ?_)
              go_simp
              refine hK.out _ _ (by exact KSB.out _ (HS70.out.trans (HD10.out.same _)) (HD10.out.same _)) (fun hHeld => ?_)
              clear hK K
              (try simp only [Act.put, List.setIfInBounds_toArray, List.set_cons_zero, List.set_cons_succ])
              (refine WG.take (i := 6) (v := ?_) rfl (by kernel_rfl) (by kernel_rfl) (by kernel_rfl) (by kernel_rfl) (fun _ _ _ h => h) (Or.inl ⟨by rfl, ?_⟩) (by assumption) ?_; rotate_left; (intro w hSw; (try dsimp only at hSw); go_split_ands; go_simp; (try with_reducible rfl)); (try simp only [Act.put, List.setIfInBounds_toArray, List.set_cons_zero, List.set_cons_succ]))
              (refine WG.take (i := 7) (v := ?_) rfl (by kernel_rfl) (by kernel_rfl) (by kernel_rfl) (by kernel_rfl) (fun _ _ _ h => h) (Or.inl ⟨by rfl, ?_⟩) (by assumption) ?_; rotate_left; (intro w hSw; (try dsimp only at hSw); go_split_ands; go_simp; (try with_reducible rfl)); (try simp only [Act.put, List.setIfInBounds_toArray, List.set_cons_zero, List.set_cons_succ]))
              (refine WG.take (i := 8) (v := ?_) rfl (by kernel_rfl) (by kernel_rfl) (by kernel_rfl) (by kernel_rfl) (fun _ _ _ h => h) (Or.inl ⟨by rfl, ?_⟩) (by assumption) ?_; rotate_left; (intro w hSw; (try dsimp only at hSw); go_split_ands; go_simp; (try with_reducible rfl)); (try simp only [Act.put, List.setIfInBounds_toArray, List.set_cons_zero, List.set_cons_succ]))
              (refine WG.take (i := 9) (v := ?_) rfl (by kernel_rfl) (by kernel_rfl) (by kernel_rfl) (by kernel_rfl) (fun _ _ _ h => h) (Or.inl ⟨by rfl, ?_⟩) (by assumption) ?_; rotate_left; (intro w hSw; (try dsimp only at hSw); go_split_ands; go_simp; (try with_reducible rfl)); (try simp only [Act.put, List.setIfInBounds_toArray, List.set_cons_zero, List.set_cons_succ]))
              (refine WG.take (i := 10) (v := ?_) rfl (by kernel_rfl) (by kernel_rfl) (by kernel_rfl) (by kernel_rfl) (fun _ _ _ h => h) (Or.inl ⟨by rfl, ?_⟩) (by assumption) ?_; rotate_left; (intro w hSw; (try dsimp only at hSw); go_split_ands; go_simp; (try with_reducible rfl)); (try simp only [Act.put, List.setIfInBounds_toArray, List.set_cons_zero, List.set_cons_succ]))
              (refine WG.take (i := 11) (v := ?_) rfl (by kernel_rfl) (by kernel_rfl) (by kernel_rfl) (by kernel_rfl) (fun _ _ _ h => h) (Or.inl ⟨by rfl, ?_⟩) (by assumption) ?_; rotate_left; (intro w hSw; (try dsimp only at hSw); go_split_ands; go_simp; (try with_reducible rfl)); (try simp only [Act.put, List.setIfInBounds_toArray, List.set_cons_zero, List.set_cons_succ]))
              (refine WG.take (i := 12) (v := ?_) rfl (by kernel_rfl) (by kernel_rfl) (by kernel_rfl) (by kernel_rfl) (fun _ _ _ h => h) (Or.inl ⟨by rfl, ?_⟩) (by assumption) ?_; rotate_left; (intro w hSw; (try dsimp only at hSw); go_split_ands; go_simp; (try with_reducible rfl)); (try simp only [Act.put, List.setIfInBounds_toArray, List.set_cons_zero, List.set_cons_succ]))
              (refine WG.take (i := 13) (v := ?_) rfl (by kernel_rfl) (by kernel_rfl) (by kernel_rfl) (by kernel_rfl) (fun _ _ _ h => h) (Or.inl ⟨by rfl, ?_⟩) (by assumption) ?_; rotate_left; (intro w hSw; (try dsimp only at hSw); go_split_ands; go_simp; (try with_reducible rfl)); (try simp only [Act.put, List.setIfInBounds_toArray, List.set_cons_zero, List.set_cons_succ]))
              (refine WG.take (i := 14) (v := ?_) rfl (by kernel_rfl) (by kernel_rfl) (by kernel_rfl) (by kernel_rfl) (fun _ _ _ h => h) (Or.inl ⟨by rfl, ?_⟩) (by assumption) ?_; rotate_left; (intro w hSw; (try dsimp only at hSw); go_split_ands; go_simp; (try with_reducible rfl)); (try simp only [Act.put, List.setIfInBounds_toArray, List.set_cons_zero, List.set_cons_succ]))
              (refine WG.take (i := 15) (v := ?_) rfl (by kernel_rfl) (by kernel_rfl) (by kernel_rfl) (by kernel_rfl) (fun _ _ _ h => h) (Or.inl ⟨by rfl, ?_⟩) (by assumption) ?_; rotate_left; (intro w hSw; (try dsimp only at hSw); go_split_ands; go_simp; (try with_reducible rfl)); (try simp only [Act.put, List.setIfInBounds_toArray, List.set_cons_zero, List.set_cons_succ]))
              (refine WG.take (i := 16) (v := ?_) rfl (by kernel_rfl) (by kernel_rfl) (by kernel_rfl) (by kernel_rfl) (fun _ _ _ h => h) (Or.inl ⟨by rfl, ?_⟩) (by assumption) ?_; rotate_left; (intro w hSw; (try dsimp only at hSw); go_split_ands; go_simp; (try with_reducible rfl)); (try simp only [Act.put, List.setIfInBounds_toArray, List.set_cons_zero, List.set_cons_succ]))
              refine WG.one (i := 17) rfl (by kernel_rfl) (fun K hK => ?_)
              go_simp; refine (sL11Fits _ _ _ room bn x _ (RI.same HRO7.out ((HS70.out.trans (HD10.out.same _)).mono (fun t ht => .inr ht))) (RT.ext HBN.out HD10.out) ⟨_, rfl, RI.same HXN.out ((HS70.out.trans (HD10.out.same _)).mono (fun t ht => .inr ht))⟩ HRL.out HBG.out ⟨HXG.out.1, HXG.out.2.1⟩).mono ?_; rintro e11 w11 ⟨rfl, hE11⟩; rw [hf]; have HE11 := hid (HD10.out.trans hE11); clear hE11; (try dsimp only)
              refine hK.out _ _ (by exact KSB.out _ (HS70.out.trans (HE11.out.same _)) (HE11.out.same _)) (fun hHeld => ?_)
              clear hK K
              (try simp only [Act.put, List.setIfInBounds_toArray, List.set_cons_zero, List.set_cons_succ])
              (refine WG.take (i := 18) (v := ?_) rfl (by kernel_rfl) (by kernel_rfl) (by kernel_rfl) (by kernel_rfl) (fun _ _ _ h => h) (Or.inl ⟨by rfl, ?_⟩) (by assumption) ?_; rotate_left; (intro w hSw; (try dsimp only at hSw); go_split_ands; go_simp; (try with_reducible rfl)); (try simp only [Act.put, List.setIfInBounds_toArray, List.set_cons_zero, List.set_cons_succ]))
              (refine WG.take (i := 19) rfl (by kernel_rfl) (by kernel_rfl) (by kernel_rfl) (by kernel_rfl) (fun _ _ _ h => h) (Or.inr ⟨?_, rfl⟩) (by assumption) ?_; go_simp; (try simp only [Act.put, List.setIfInBounds_toArray, List.set_cons_zero, List.set_cons_succ]))
              (refine WG.take (i := 20) rfl (by kernel_rfl) (by kernel_rfl) (by kernel_rfl) (by kernel_rfl) (fun _ _ _ h => h) (Or.inr ⟨?_, rfl⟩) (by assumption) ?_; go_simp; (try simp only [Act.put, List.setIfInBounds_toArray, List.set_cons_zero, List.set_cons_succ]))
              (refine WG.take (i := 21) rfl (by kernel_rfl) (by kernel_rfl) (by kernel_rfl) (by kernel_rfl) (fun _ _ _ h => h) (Or.inr ⟨?_, rfl⟩) (by assumption) ?_; go_simp; (try simp only [Act.put, List.setIfInBounds_toArray, List.set_cons_zero, List.set_cons_succ]))
              (refine WG.take (i := 22) (v := ?_) rfl (by kernel_rfl) (by kernel_rfl) (by kernel_rfl) (by kernel_rfl) (fun _ _ _ h => h) (Or.inl ⟨by rfl, ?_⟩) (by assumption) ?_; rotate_left; (intro w hSw; (try dsimp only at hSw); go_split_ands; go_simp; (try with_reducible rfl)); (try simp only [Act.put, List.setIfInBounds_toArray, List.set_cons_zero, List.set_cons_succ]))
              (refine WG.take (i := 23) (v := ?_) rfl (by kernel_rfl) (by kernel_rfl) (by kernel_rfl) (by kernel_rfl) (fun _ _ _ h => h) (Or.inl ⟨by rfl, ?_⟩) (by assumption) ?_; rotate_left; (intro w hSw; (try dsimp only at hSw); go_split_ands; go_simp; (try with_reducible rfl)); (try simp only [Act.put, List.setIfInBounds_toArray, List.set_cons_zero, List.set_cons_succ]))
              refine WG.done (by kernel_rfl) ?_
              have HS7W := hid (HS70.out.trans (HE11.out.same (fun t => t = 34 ∨ t = 3)))
              have HSBW := hid (HE11.out.same (fun t => t = 24))
              have HDrW := hid (HD10r.out.ext HE11.out)
              have HOW := hid (HO10.out.ext (EBV.ok _) HE11.out)
              have HZW : Hid (w7.heap.size ≤ w11.heap.size) := hid (Nat.le_trans HZ10.out HE11.out.size)
              have HDD : Hid (Ext w11 w11.drew) := hid (Below.drew (Below.refl _ _))
              have HAT := hid (OBV.at_ HOW.out HPK.out)
              have hgl : g < w11.heap.size := (Own.lt HOW.out g rfl).2
              have hszW : w.heap.size ≤ w11.heap.size := HDrW.out.1.size
              go_wp2
              refine WG.start (fun w' => w'.cell? ⟨bt, ot + i * 2, none⟩ = some (.int .i64 x.id) ∧ w'.cell? ⟨bt, ot + i * 2 + 1, none⟩ = some (.slice An x.need.length cn) ∧ w'.cell? ⟨g, x10, none⟩ = some (.slice At bn.length ct)) [13] (by kernel_rfl) (by exact KSB.out _ (HS7W.out.trans (HDD.out.same _)) (HSBW.out.trans (HDD.out.same _))) (fun hHeld => ?_)
              (refine WG.take (i := 0) (v := ?_) rfl (by kernel_rfl) (by kernel_rfl) (by kernel_rfl) (by kernel_rfl) (fun _ _ _ h => h) (Or.inl ⟨by rfl, ?_⟩) (by assumption) ?_; rotate_left; (intro w hSw; (try dsimp only at hSw); go_split_ands; go_simp; (try with_reducible rfl)); (try simp only [Act.put, List.setIfInBounds_toArray, List.set_cons_zero, List.set_cons_succ]))
              (refine WG.take (i := 1) (v := ?_) rfl (by kernel_rfl) (by kernel_rfl) (by kernel_rfl) (by kernel_rfl) (fun _ _ _ h => h) (Or.inl ⟨by rfl, ?_⟩) (by assumption) ?_; rotate_left; (intro w hSw; (try dsimp only at hSw); go_split_ands; go_simp; (try with_reducible rfl)); (try simp only [Act.put, List.setIfInBounds_toArray, List.set_cons_zero, List.set_cons_succ]))
              (refine WG.take (i := 2) (v := ?_) rfl (by kernel_rfl) (by kernel_rfl) (by kernel_rfl) (by kernel_rfl) (fun _ _ _ h => h) (Or.inl ⟨by rfl, ?_⟩) (by assumption) ?_; rotate_left; (intro w hSw; (try dsimp only at hSw); go_split_ands; go_simp; (try with_reducible rfl)); (try simp only [Act.put, List.setIfInBounds_toArray, List.set_cons_zero, List.set_cons_succ]))
              (refine WG.take (i := 3) (v := ?_) rfl (by kernel_rfl) (by kernel_rfl) (by kernel_rfl) (by kernel_rfl) (fun _ _ _ h => h) (Or.inl ⟨by rfl, ?_⟩) (by assumption) ?_; rotate_left; (intro w hSw; (try dsimp only at hSw); go_split_ands; go_simp; (try with_reducible rfl)); (try simp only [Act.put, List.setIfInBounds_toArray, List.set_cons_zero, List.set_cons_succ]))
              (refine WG.take (i := 4) (v := ?_) rfl (by kernel_rfl) (by kernel_rfl) (by kernel_rfl) (by kernel_rfl) (fun _ _ _ h => h) (Or.inl ⟨by rfl, ?_⟩) (by assumption) ?_; rotate_left; (intro w hSw; (try dsimp only at hSw); go_split_ands; go_simp; (try with_reducible rfl)); (try simp only [Act.put, List.setIfInBounds_toArray, List.set_cons_zero, List.set_cons_succ]))
              (refine WG.take (i := 5) (v := ?_) rfl (by kernel_rfl) (by kernel_rfl) (by kernel_rfl) (by kernel_rfl) (fun _ _ _ h => h) (Or.inl ⟨by rfl, ?_⟩) (by assumption) ?_; rotate_left; (intro w hSw; (try dsimp only at hSw); go_split_ands; go_simp; (try with_reducible rfl)); (try simp only [Act.put, List.setIfInBounds_toArray, List.set_cons_zero, List.set_cons_succ]))
              (refine WG.take (i := 6) (v := ?_) rfl (by kernel_rfl) (by kernel_rfl) (by kernel_rfl) (by kernel_rfl) (fun _ _ _ h => h) (Or.inl ⟨by rfl, ?_⟩) (by assumption) ?_; rotate_left; (intro w hSw; (try dsimp only at hSw); go_split_ands; go_simp; (try with_reducible rfl)); (try simp only [Act.put, List.setIfInBounds_toArray, List.set_cons_zero, List.set_cons_succ]))
              (refine WG.take (i := 7) (v := ?_) rfl (by kernel_rfl) (by kernel_rfl) (by kernel_rfl) (by kernel_rfl) (fun _ _ _ h => h) (Or.inl ⟨by rfl, ?_⟩) (by assumption) ?_; rotate_left; (intro w hSw; (try dsimp only at hSw); go_split_ands; go_simp; (try with_reducible rfl)); (try simp only [Act.put, List.setIfInBounds_toArray, List.set_cons_zero, List.set_cons_succ]))
              (refine WG.take (i := 8) (v := ?_) rfl (by kernel_rfl) (by kernel_rfl) (by kernel_rfl) (by kernel_rfl) (fun _ _ _ h => h) (Or.inl ⟨by rfl, ?_⟩) (by assumption) ?_; rotate_left; (intro w hSw; (try dsimp only at hSw); go_split_ands; go_simp; (try with_reducible rfl)); (try simp only [Act.put, List.setIfInBounds_toArray, List.set_cons_zero, List.set_cons_succ]))
              (refine WG.take (i := 9) (v := ?_) rfl (by kernel_rfl) (by kernel_rfl) (by kernel_rfl) (by kernel_rfl) (fun _ _ _ h => h) (Or.inl ⟨by rfl, ?_⟩) (by assumption) ?_; rotate_left; (intro w hSw; (try dsimp only at hSw); go_split_ands; go_simp; (try with_reducible rfl)); (try simp only [Act.put, List.setIfInBounds_toArray, List.set_cons_zero, List.set_cons_succ]))
              refine WG.one (i := 10) rfl (by kernel_rfl) (fun K hK => ?_)
              go_simp
              refine hK.out _ _ (by exact KSB.out _ (HS7W.out.trans (Ext.same (Below.drew (Ext.alloc _ _)) _)) (HSBW.out.trans (Ext.same (Below.drew (Ext.alloc _ _)) _))) (fun hHeld => ?_)
              clear hK K
              (try simp only [Act.put, List.setIfInBounds_toArray, List.set_cons_zero, List.set_cons_succ])
              obtain ⟨W3, hW3⟩ : ∃ W3, W3 = (w11.alloc (.cells #[.int .i64 x.id, .slice An x.need.length cn] 34)).drew := ⟨_, rfl⟩
              have hE3 : Ext w11 W3 := by rw [hW3]; exact Below.drew (Ext.alloc _ _)
              have HZ3 : Hid (W3.heap[w11.heap.size]? = some (.cells #[.int .i64 x.id, .slice An x.need.length cn] 34 (0, 0))) := hid (by rw [hW3]; exact heap_alloc_new w11 _)
              rw [← hW3] at hHeld ⊢
              clear hW3
              obtain ⟨curg, hcurg⟩ := Own.obj HOW.out
              have HCG := hid hcurg
              have HE3 := hid hE3
              have HT3 := hid (HAT.out.2.2.1.ext ET.ok hE3)
              have hsz3 : w.heap.size ≤ W3.heap.size := Nat.le_trans hszW hE3.size
              have HNX := hid (RI.ext (RI.same HXN.out (HS7W.out.mono (fun t ht => .inr ht))) hE3)
              clear hcurg hE3
              refine WG.one (i := 11) rfl (by kernel_rfl) (fun K hK => ?_)
              refine step_append_sl _ (by rfl) _ _ 24 (by rfl) ET.ok ET.flat (w.heap.size) 34 ET.ne i0_task _ 2 32 Try.underlying24 hi0_task hz0_task hz1_task hz2_task rfl (by omega) _ (by rfl) _ (HT3.out) _ (by rfl) _ (RSl.laid (cs := [.int .i64 x.id, .slice An x.need.length cn]) HZ3.out rfl ⟨_, rfl, HNX.out⟩) (by have := HBL.out; simp; omega) (by have := HBL.out; simp; omega) ?_ ?_; (focus (first | exact Nat.le_refl _ | (simp; done) | (simp; omega) | omega)); intro v4 w4 hO hg hat hs; have HSB4 := hid (HSBW.out.trans ((HE3.out.same _).trans (hs.mono notTask1))); have HS74 := hid (SameT.after (HS7W.out.trans (HE3.out.same _)) (Nat.le_trans HZW.out HE3.out.size) hg HHI.out)
              refine hK.out _ _ (by exact KSB.out _ HS74.out HSB4.out) (fun hHeld => ?_)
              clear hK K
              (try simp only [Act.put, List.setIfInBounds_toArray, List.set_cons_zero, List.set_cons_succ])
              (refine WG.take (i := 12) (v := ?_) rfl (by kernel_rfl) (by kernel_rfl) (by kernel_rfl) (by kernel_rfl) (fun _ _ _ h => h) (Or.inl ⟨by rfl, ?_⟩) (by assumption) ?_; rotate_left; (intro w hSw; (try dsimp only at hSw); go_split_ands; go_simp; (try with_reducible rfl)); (try simp only [Act.put, List.setIfInBounds_toArray, List.set_cons_zero, List.set_cons_succ]))
              have cg := (KSB.out _ HS74.out HSB4.out).2.2
              have hob4 : w4.heap[g]? = some (.cells curg 24 (0, 0)) := hs _ _ _ _ (by decide) (HE3.out.obj HCG.out)
              have fg := obj_frozen hob4 x10
              have HGR : Hid (w11.grownBy w4 (Value.slice At bn.length ct).ownBlock) := hid ⟨hg.os.trans HE3.out.os, hg.tape.trans HE3.out.tape, hg.output.trans HE3.out.output, Nat.le_trans HE3.out.size hg.size, fun i hi hn => (hg.block i (Nat.lt_of_lt_of_le hi HE3.out.size) hn).trans (HE3.out.block i hi)⟩
              have HS4 := hid ((HE3.out.same (fun t => t ≠ 34)).trans hs)
              have HO4 := hid hO
              have HRES := hid (OBV.grow HOW.out HND.out HPK.out HGR.out HS4.out HO4.out)
              have HDr4 := hid (DrawR.low2 (HDrW.out.ext HE3.out) HB0.out.1 HB0.out.2 hg (fun q hq => HT3.out.lt q hq))
              have HLT4 := hid hat
              have HZ4 : Hid (w7.heap.size ≤ w4.heap.size) := hid (Nat.le_trans HZW.out (Nat.le_trans HE3.out.size hg.size))
              have HW34 : Hid (w11.heap.size ≤ W3.heap.size) := hid HE3.out.size
              obtain ⟨A4, c4, rfl, _, _⟩ := hO.form_app
              clear hO hg hat hs hob4
              refine WG.last (i := 13) rfl (by kernel_rfl) (by kernel_rfl) (fun K hK => ?_)
              go_simp
              refine hK.out _ _ ?_
              clear hK K
              (try simp only [Act.put, List.setIfInBounds_toArray, List.set_cons_zero, List.set_cons_succ])
              refine WG.done (by kernel_rfl) ?_
              go_wp2
              go_roundw
              case rel =>
                refine ⟨i + 1, ps.set x10 (bn ++ [x], .slice A4 (bn.length + 1) c4), by omega, by go_num, hid (by rw [List.length_set]; exact HPN.out), hid ⟨⟨HRES.out.1, ?_, ?_, ?_, ?_, ?_, ?_⟩, ?_⟩⟩
                · exact nodupB_set HND.out HPK.out HLT4.out (fun q hq => Nat.lt_of_lt_of_le (OBV.lt HOW.out q hq).2 HW34.out)
                · exact hiB_set HHB.out HPK.out HLT4.out (Nat.le_trans HZW.out HW34.out)
                · exact goodB_set HGB.out HPK.out HXG.out
                · exact HS74.out.trans (HRES.out.2.mono notBin2)
                · simpa [World.setCell] using HZ4.out
                · exact (HDr4.out.stored hgb HB0.out.1 HB0.out.2 _).mono (by omega)
                · rw [List.map_set, flat_len_set _ _ bn x (by rw [List.getElem?_map, HPK.out]; rfl)]; have := HFL.out; omega
              case measure => simp [intOf]; omega
            · have hf : l11fits room bn x = false := by simpa using hf
              refine WG.start (fun w' => w'.cell? ⟨bt, ot + i * 2, none⟩ = some (.int .i64 x.id) ∧ w'.cell? ⟨bt, ot + i * 2 + 1, none⟩ = some (.slice An x.need.length cn) ∧ w'.cell? ⟨g, x10, none⟩ = some (.slice At bn.length ct)) [] (by kernel_rfl) (by exact KSB.out _ (HS70.out.trans (HD10.out.same _)) (HD10.out.same _)) (fun hHeld => ?_)
              (refine WG.take (i := 0) (v := ?_) rfl (by kernel_rfl) (by kernel_rfl) (by kernel_rfl) (by kernel_rfl) (fun _ _ _ h => h) (Or.inl ⟨by rfl, ?_⟩) (by assumption) ?_; rotate_left; (intro w hSw; (try dsimp only at hSw); go_split_ands; go_simp; (try with_reducible rfl)); (try simp only [Act.put, List.setIfInBounds_toArray, List.set_cons_zero, List.set_cons_succ]))
              (refine WG.take (i := 1) (v := ?_) rfl (by kernel_rfl) (by kernel_rfl) (by kernel_rfl) (by kernel_rfl) (fun _ _ _ h => h) (Or.inl ⟨by rfl, ?_⟩) (by assumption) ?_; rotate_left; (intro w hSw; (try dsimp only at hSw); go_split_ands; go_simp; (try with_reducible rfl)); (try simp only [Act.put, List.setIfInBounds_toArray, List.set_cons_zero, List.set_cons_succ]))
              (refine WG.take (i := 2) (v := ?_) rfl (by kernel_rfl) (by kernel_rfl) (by kernel_rfl) (by kernel_rfl) (fun _ _ _ h => h) (Or.inl ⟨by rfl, ?_⟩) (by assumption) ?_; rotate_left; (intro w hSw; (try dsimp only at hSw); go_split_ands; go_simp; (try with_reducible rfl)); (try simp only [Act.put, List.setIfInBounds_toArray, List.set_cons_zero, List.set_cons_succ]))
              (refine WG.take (i := 3) (v := ?_) rfl (by kernel_rfl) (by kernel_rfl) (by kernel_rfl) (by kernel_rfl) (fun _ _ _ h => h) (Or.inl ⟨by rfl, ?_⟩) (by assumption) ?_; rotate_left; (intro w hSw; (try dsimp only at hSw); go_split_ands; go_simp; (try with_reducible rfl)); (try simp only [Act.put, List.setIfInBounds_toArray, List.set_cons_zero, List.set_cons_succ]))
              (refine WG.take (i := 4) (v := ?_) rfl (by kernel_rfl) (by kernel_rfl) (by kernel_rfl) (by kernel_rfl) (fun _ _ _ h => h) (Or.inl ⟨by rfl, ?_⟩) (by assumption) ?_; rotate_left; (intro w hSw; (try dsimp only at hSw); go_split_ands; go_simp; (try with_reducible rfl)); (try simp only [Act.put, List.setIfInBounds_toArray, List.set_cons_zero, List.set_cons_succ]))
              refine WG.one (i := 5) rfl (by kernel_rfl) (fun K hK => ?_)
              go_simp
              refine hK.out _ _ (by exact KSB.out _ (HS70.out.trans (HD10.out.same _)) (HD10.out.same _)) (fun hHeld => ?_)
              clear hK K
              (try simp only [Act.put, List.setIfInBounds_toArray, List.set_cons_zero, List.set_cons_succ])
              (refine WG.take (i := 6) (v := ?_) rfl (by kernel_rfl) (by kernel_rfl) (by kernel_rfl) (by kernel_rfl) (fun _ _ _ h => h) (Or.inl ⟨by rfl, ?_⟩) (by assumption) ?_; rotate_left; (intro w hSw; (try dsimp only at hSw); go_split_ands; go_simp; (try with_reducible rfl)); (try simp only [Act.put, List.setIfInBounds_toArray, List.set_cons_zero, List.set_cons_succ]))
              (refine WG.take (i := 7) (v := ?_) rfl (by kernel_rfl) (by kernel_rfl) (by kernel_rfl) (by kernel_rfl) (fun _ _ _ h => h) (Or.inl ⟨by rfl, ?_⟩) (by assumption) ?_; rotate_left; (intro w hSw; (try dsimp only at hSw); go_split_ands; go_simp; (try with_reducible rfl)); (try simp only [Act.put, List.setIfInBounds_toArray, List.set_cons_zero, List.set_cons_succ]))
              (refine WG.take (i := 8) (v := ?_) rfl (by kernel_rfl) (by kernel_rfl) (by kernel_rfl) (by kernel_rfl) (fun _ _ _ h => h) (Or.inl ⟨by rfl, ?_⟩) (by assumption) ?_; rotate_left; (intro w hSw; (try dsimp only at hSw); go_split_ands; go_simp; (try with_reducible rfl)); (try simp only [Act.put, List.setIfInBounds_toArray, List.set_cons_zero, List.set_cons_succ]))
              (refine WG.take (i := 9) (v := ?_) rfl (by kernel_rfl) (by kernel_rfl) (by kernel_rfl) (by kernel_rfl) (fun _ _ _ h => h) (Or.inl ⟨by rfl, ?_⟩) (by assumption) ?_; rotate_left; (intro w hSw; (try dsimp only at hSw); go_split_ands; go_simp; (try with_reducible rfl)); (try simp only [Act.put, List.setIfInBounds_toArray, List.set_cons_zero, List.set_cons_succ]))
              (refine WG.take (i := 10) (v := ?_) rfl (by kernel_rfl) (by kernel_rfl) (by kernel_rfl) (by kernel_rfl) (fun _ _ _ h => h) (Or.inl ⟨by rfl, ?_⟩) (by assumption) ?_; rotate_left; (intro w hSw; (try dsimp only at hSw); go_split_ands; go_simp; (try with_reducible rfl)); (try simp only [Act.put, List.setIfInBounds_toArray, List.set_cons_zero, List.set_cons_succ]))
              (refine WG.take (i := 11) (v := ?_) rfl (by kernel_rfl) (by kernel_rfl) (by kernel_rfl) (by kernel_rfl) (fun _ _ _ h => h) (Or.inl ⟨by rfl, ?_⟩) (by assumption) ?_; rotate_left; (intro w hSw; (try dsimp only at hSw); go_split_ands; go_simp; (try with_reducible rfl)); (try simp only [Act.put, List.setIfInBounds_toArray, List.set_cons_zero, List.set_cons_succ]))
              (refine WG.take (i := 12) (v := ?_) rfl (by kernel_rfl) (by kernel_rfl) (by kernel_rfl) (by kernel_rfl) (fun _ _ _ h => h) (Or.inl ⟨by rfl, ?_⟩) (by assumption) ?_; rotate_left; (intro w hSw; (try dsimp only at hSw); go_split_ands; go_simp; (try with_reducible rfl)); (try simp only [Act.put, List.setIfInBounds_toArray, List.set_cons_zero, List.set_cons_succ]))
              (refine WG.take (i := 13) (v := ?_) rfl (by kernel_rfl) (by kernel_rfl) (by kernel_rfl) (by kernel_rfl) (fun _ _ _ h => h) (Or.inl ⟨by rfl, ?_⟩) (by assumption) ?_; rotate_left; (intro w hSw; (try dsimp only at hSw); go_split_ands; go_simp; (try with_reducible rfl)); (try simp only [Act.put, List.setIfInBounds_toArray, List.set_cons_zero, List.set_cons_succ]))
              (refine WG.take (i := 14) (v := ?_) rfl (by kernel_rfl) (by kernel_rfl) (by kernel_rfl) (by kernel_rfl) (fun _ _ _ h => h) (Or.inl ⟨by rfl, ?_⟩) (by assumption) ?_; rotate_left; (intro w hSw; (try dsimp only at hSw); go_split_ands; go_simp; (try with_reducible rfl)); (try simp only [Act.put, List.setIfInBounds_toArray, List.set_cons_zero, List.set_cons_succ]))
              (refine WG.take (i := 15) (v := ?_) rfl (by kernel_rfl) (by kernel_rfl) (by kernel_rfl) (by kernel_rfl) (fun _ _ _ h => h) (Or.inl ⟨by rfl, ?_⟩) (by assumption) ?_; rotate_left; (intro w hSw; (try dsimp only at hSw); go_split_ands; go_simp; (try with_reducible rfl)); (try simp only [Act.put, List.setIfInBounds_toArray, List.set_cons_zero, List.set_cons_succ]))
              (refine WG.take (i := 16) (v := ?_) rfl (by kernel_rfl) (by kernel_rfl) (by kernel_rfl) (by kernel_rfl) (fun _ _ _ h => h) (Or.inl ⟨by rfl, ?_⟩) (by assumption) ?_; rotate_left; (intro w hSw; (try dsimp only at hSw); go_split_ands; go_simp; (try with_reducible rfl)); (try simp only [Act.put, List.setIfInBounds_toArray, List.set_cons_zero, List.set_cons_succ]))
              refine WG.one (i := 17) rfl (by kernel_rfl) (fun K hK => ?_)
              go_simp; refine (sL11Fits _ _ _ room bn x _ (RI.same HRO7.out ((HS70.out.trans (HD10.out.same _)).mono (fun t ht => .inr ht))) (RT.ext HBN.out HD10.out) ⟨_, rfl, RI.same HXN.out ((HS70.out.trans (HD10.out.same _)).mono (fun t ht => .inr ht))⟩ HRL.out HBG.out ⟨HXG.out.1, HXG.out.2.1⟩).mono ?_; rintro e11 w11 ⟨rfl, hE11⟩; rw [hf]; have HE11 := hid (HD10.out.trans hE11); clear hE11; (try dsimp only)
              refine hK.out _ _ (by exact KSB.out _ (HS70.out.trans (HE11.out.same _)) (HE11.out.same _)) (fun hHeld => ?_)
              clear hK K
              (try simp only [Act.put, List.setIfInBounds_toArray, List.set_cons_zero, List.set_cons_succ])
              (refine WG.take (i := 18) (v := ?_) rfl (by kernel_rfl) (by kernel_rfl) (by kernel_rfl) (by kernel_rfl) (fun _ _ _ h => h) (Or.inl ⟨by rfl, ?_⟩) (by assumption) ?_; rotate_left; (intro w hSw; (try dsimp only at hSw); go_split_ands; go_simp; (try with_reducible rfl)); (try simp only [Act.put, List.setIfInBounds_toArray, List.set_cons_zero, List.set_cons_succ]))
              (refine WG.take (i := 19) (v := ?_) rfl (by kernel_rfl) (by kernel_rfl) (by kernel_rfl) (by kernel_rfl) (fun _ _ _ h => h) (Or.inl ⟨by rfl, ?_⟩) (by assumption) ?_; rotate_left; (intro w hSw; (try dsimp only at hSw); go_split_ands; go_simp; (try with_reducible rfl)); (try simp only [Act.put, List.setIfInBounds_toArray, List.set_cons_zero, List.set_cons_succ]))
              refine WG.one (i := 20) rfl (by kernel_rfl) (fun K hK => ?_)
              go_simp; have HX11 := hid (HD10r.out.ext HE11.out); obtain ⟨hg, pp, hpp, hr⟩ := HX11.out; refine (dPick b bv bs pp _ _ hr (by omega) (by omega)).mono ?_; rintro e w12 ⟨x12, rfl, hx, hg12, hr12⟩; have hx12 := pick_lt hx (by decide); have HDrW := hid (DrawR.more HX11.out hg12 hr12 hpp); have HS7W := hid ((HS70.out.trans (HE11.out.same _)).trans (hg12.same hr (fun t => t = 34 ∨ t = 3) notTI)); have HSBW := hid ((HE11.out.same (fun t => t = 24)).trans (hg12.same hr _ notB1)); have HOW := hid (Own.same (EBV.ok _) (HO10.out.ext (EBV.ok _) HE11.out) (hg12.same hr _ notBTI)); have HZW : Hid (w7.heap.size ≤ w12.heap.size) := hid (Nat.le_trans HZ10.out (Nat.le_trans HE11.out.size hg12.size)); clear hg hpp hr hx hg12 hr12; (try dsimp only)
              refine hK.out _ _ (by exact KSB.out _ HS7W.out HSBW.out) (fun hHeld => ?_)
              clear hK K
              (try simp only [Act.put, List.setIfInBounds_toArray, List.set_cons_zero, List.set_cons_succ])
              (refine WG.take (i := 21) (v := ?_) rfl (by kernel_rfl) (by kernel_rfl) (by kernel_rfl) (by kernel_rfl) (fun _ _ _ h => h) (Or.inl ⟨by rfl, ?_⟩) (by assumption) ?_; rotate_left; (intro w hSw; (try dsimp only at hSw); go_split_ands; go_simp; (try with_reducible rfl)); (try simp only [Act.put, List.setIfInBounds_toArray, List.set_cons_zero, List.set_cons_succ]))
              (refine WG.take (i := 22) (v := ?_) rfl (by kernel_rfl) (by kernel_rfl) (by kernel_rfl) (by kernel_rfl) (fun _ _ _ h => h) (Or.inl ⟨by rfl, ?_⟩) (by assumption) ?_; rotate_left; (intro w hSw; (try dsimp only at hSw); go_split_ands; go_simp; (try with_reducible rfl)); (try simp only [Act.put, List.setIfInBounds_toArray, List.set_cons_zero, List.set_cons_succ]))
              (refine WG.take (i := 23) (v := ?_) rfl (by kernel_rfl) (by kernel_rfl) (by kernel_rfl) (by kernel_rfl) (fun _ _ _ h => h) (Or.inl ⟨by rfl, ?_⟩) (by assumption) ?_; rotate_left; (intro w hSw; (try dsimp only at hSw); go_split_ands; go_simp; (try with_reducible rfl)); (try simp only [Act.put, List.setIfInBounds_toArray, List.set_cons_zero, List.set_cons_succ]))
              refine WG.done (by kernel_rfl) ?_
              by_cases hz : ((x12 : Int) == 0) = true
              · rw [hz]
                have HDD : Hid (Ext w12 w12.drew) := hid (Below.drew (Below.refl _ _))
                have HAT := hid (OBV.at_ HOW.out HPK.out)
                have hgl : g < w12.heap.size := (Own.lt HOW.out g rfl).2
                have hszW : w.heap.size ≤ w12.heap.size := HDrW.out.1.size
                go_wp2
                refine WG.start (fun w' => w'.cell? ⟨bt, ot + i * 2, none⟩ = some (.int .i64 x.id) ∧ w'.cell? ⟨bt, ot + i * 2 + 1, none⟩ = some (.slice An x.need.length cn) ∧ w'.cell? ⟨g, x10, none⟩ = some (.slice At bn.length ct)) [13] (by kernel_rfl) (by exact KSB.out _ (HS7W.out.trans (HDD.out.same _)) (HSBW.out.trans (HDD.out.same _))) (fun hHeld => ?_)
                (refine WG.take (i := 0) (v := ?_) rfl (by kernel_rfl) (by kernel_rfl) (by kernel_rfl) (by kernel_rfl) (fun _ _ _ h => h) (Or.inl ⟨by rfl, ?_⟩) (by assumption) ?_; rotate_left; (intro w hSw; (try dsimp only at hSw); go_split_ands; go_simp; (try with_reducible rfl)); (try simp only [Act.put, List.setIfInBounds_toArray, List.set_cons_zero, List.set_cons_succ]))
                (refine WG.take (i := 1) (v := ?_) rfl (by kernel_rfl) (by kernel_rfl) (by kernel_rfl) (by kernel_rfl) (fun _ _ _ h => h) (Or.inl ⟨by rfl, ?_⟩) (by assumption) ?_; rotate_left; (intro w hSw; (try dsimp only at hSw); go_split_ands; go_simp; (try with_reducible rfl)); (try simp only [Act.put, List.setIfInBounds_toArray, List.set_cons_zero, List.set_cons_succ]))
                (refine WG.take (i := 2) (v := ?_) rfl (by kernel_rfl) (by kernel_rfl) (by kernel_rfl) (by kernel_rfl) (fun _ _ _ h => h) (Or.inl ⟨by rfl, ?_⟩) (by assumption) ?_; rotate_left; (intro w hSw; (try dsimp only at hSw); go_split_ands; go_simp; (try with_reducible rfl)); (try simp only [Act.put, List.setIfInBounds_toArray, List.set_cons_zero, List.set_cons_succ]))
                (refine WG.take (i := 3) (v := ?_) rfl (by kernel_rfl) (by kernel_rfl) (by kernel_rfl) (by kernel_rfl) (fun _ _ _ h => h) (Or.inl ⟨by rfl, ?_⟩) (by assumption) ?_; rotate_left; (intro w hSw; (try dsimp only at hSw); go_split_ands; go_simp; (try with_reducible rfl)); (try simp only [Act.put, List.setIfInBounds_toArray, List.set_cons_zero, List.set_cons_succ]))
                (refine WG.take (i := 4) (v := ?_) rfl (by kernel_rfl) (by kernel_rfl) (by kernel_rfl) (by kernel_rfl) (fun _ _ _ h => h) (Or.inl ⟨by rfl, ?_⟩) (by assumption) ?_; rotate_left; (intro w hSw; (try dsimp only at hSw); go_split_ands; go_simp; (try with_reducible rfl)); (try simp only [Act.put, List.setIfInBounds_toArray, List.set_cons_zero, List.set_cons_succ]))
                (refine WG.take (i := 5) (v := ?_) rfl (by kernel_rfl) (by kernel_rfl) (by kernel_rfl) (by kernel_rfl) (fun _ _ _ h => h) (Or.inl ⟨by rfl, ?_⟩) (by assumption) ?_; rotate_left; (intro w hSw; (try dsimp only at hSw); go_split_ands; go_simp; (try with_reducible rfl)); (try simp only [Act.put, List.setIfInBounds_toArray, List.set_cons_zero, List.set_cons_succ]))
                (refine WG.take (i := 6) (v := ?_) rfl (by kernel_rfl) (by kernel_rfl) (by kernel_rfl) (by kernel_rfl) (fun _ _ _ h => h) (Or.inl ⟨by rfl, ?_⟩) (by assumption) ?_; rotate_left; (intro w hSw; (try dsimp only at hSw); go_split_ands; go_simp; (try with_reducible rfl)); (try simp only [Act.put, List.setIfInBounds_toArray, List.set_cons_zero, List.set_cons_succ]))
                (refine WG.take (i := 7) (v := ?_) rfl (by kernel_rfl) (by kernel_rfl) (by kernel_rfl) (by kernel_rfl) (fun _ _ _ h => h) (Or.inl ⟨by rfl, ?_⟩) (by assumption) ?_; rotate_left; (intro w hSw; (try dsimp only at hSw); go_split_ands; go_simp; (try with_reducible rfl)); (try simp only [Act.put, List.setIfInBounds_toArray, List.set_cons_zero, List.set_cons_succ]))
                (refine WG.take (i := 8) (v := ?_) rfl (by kernel_rfl) (by kernel_rfl) (by kernel_rfl) (by kernel_rfl) (fun _ _ _ h => h) (Or.inl ⟨by rfl, ?_⟩) (by assumption) ?_; rotate_left; (intro w hSw; (try dsimp only at hSw); go_split_ands; go_simp; (try with_reducible rfl)); (try simp only [Act.put, List.setIfInBounds_toArray, List.set_cons_zero, List.set_cons_succ]))
                (refine WG.take (i := 9) (v := ?_) rfl (by kernel_rfl) (by kernel_rfl) (by kernel_rfl) (by kernel_rfl) (fun _ _ _ h => h) (Or.inl ⟨by rfl, ?_⟩) (by assumption) ?_; rotate_left; (intro w hSw; (try dsimp only at hSw); go_split_ands; go_simp; (try with_reducible rfl)); (try simp only [Act.put, List.setIfInBounds_toArray, List.set_cons_zero, List.set_cons_succ]))
                refine WG.one (i := 10) rfl (by kernel_rfl) (fun K hK => ?_)
                go_simp
                refine hK.out _ _ (by exact KSB.out _ (HS7W.out.trans (Ext.same (Below.drew (Ext.alloc _ _)) _)) (HSBW.out.trans (Ext.same (Below.drew (Ext.alloc _ _)) _))) (fun hHeld => ?_)
                clear hK K
                (try simp only [Act.put, List.setIfInBounds_toArray, List.set_cons_zero, List.set_cons_succ])
                obtain ⟨W3, hW3⟩ : ∃ W3, W3 = (w12.alloc (.cells #[.int .i64 x.id, .slice An x.need.length cn] 34)).drew := ⟨_, rfl⟩
                have hE3 : Ext w12 W3 := by rw [hW3]; exact Below.drew (Ext.alloc _ _)
                have HZ3 : Hid (W3.heap[w12.heap.size]? = some (.cells #[.int .i64 x.id, .slice An x.need.length cn] 34 (0, 0))) := hid (by rw [hW3]; exact heap_alloc_new w12 _)
                rw [← hW3] at hHeld ⊢
                clear hW3
                obtain ⟨curg, hcurg⟩ := Own.obj HOW.out
                have HCG := hid hcurg
                have HE3 := hid hE3
                have HT3 := hid (HAT.out.2.2.1.ext ET.ok hE3)
                have hsz3 : w.heap.size ≤ W3.heap.size := Nat.le_trans hszW hE3.size
                have HNX := hid (RI.ext (RI.same HXN.out (HS7W.out.mono (fun t ht => .inr ht))) hE3)
                clear hcurg hE3
                refine WG.one (i := 11) rfl (by kernel_rfl) (fun K hK => ?_)
                refine step_append_sl _ (by rfl) _ _ 24 (by rfl) ET.ok ET.flat (w.heap.size) 34 ET.ne i0_task _ 2 32 Try.underlying24 hi0_task hz0_task hz1_task hz2_task rfl (by omega) _ (by rfl) _ (HT3.out) _ (by rfl) _ (RSl.laid (cs := [.int .i64 x.id, .slice An x.need.length cn]) HZ3.out rfl ⟨_, rfl, HNX.out⟩) (by have := HBL.out; simp; omega) (by have := HBL.out; simp; omega) ?_ ?_; (focus (first | exact Nat.le_refl _ | (simp; done) | (simp; omega) | omega)); intro v4 w4 hO hg hat hs; have HSB4 := hid (HSBW.out.trans ((HE3.out.same _).trans (hs.mono notTask1))); have HS74 := hid (SameT.after (HS7W.out.trans (HE3.out.same _)) (Nat.le_trans HZW.out HE3.out.size) hg HHI.out)
                refine hK.out _ _ (by exact KSB.out _ HS74.out HSB4.out) (fun hHeld => ?_)
                clear hK K
                (try simp only [Act.put, List.setIfInBounds_toArray, List.set_cons_zero, List.set_cons_succ])
                (refine WG.take (i := 12) (v := ?_) rfl (by kernel_rfl) (by kernel_rfl) (by kernel_rfl) (by kernel_rfl) (fun _ _ _ h => h) (Or.inl ⟨by rfl, ?_⟩) (by assumption) ?_; rotate_left; (intro w hSw; (try dsimp only at hSw); go_split_ands; go_simp; (try with_reducible rfl)); (try simp only [Act.put, List.setIfInBounds_toArray, List.set_cons_zero, List.set_cons_succ]))
                have cg := (KSB.out _ HS74.out HSB4.out).2.2
                have hob4 : w4.heap[g]? = some (.cells curg 24 (0, 0)) := hs _ _ _ _ (by decide) (HE3.out.obj HCG.out)
                have fg := obj_frozen hob4 x10
                have HGR : Hid (w12.grownBy w4 (Value.slice At bn.length ct).ownBlock) := hid ⟨hg.os.trans HE3.out.os, hg.tape.trans HE3.out.tape, hg.output.trans HE3.out.output, Nat.le_trans HE3.out.size hg.size, fun i hi hn => (hg.block i (Nat.lt_of_lt_of_le hi HE3.out.size) hn).trans (HE3.out.block i hi)⟩
                have HS4 := hid ((HE3.out.same (fun t => t ≠ 34)).trans hs)
                have HO4 := hid hO
                have HRES := hid (OBV.grow HOW.out HND.out HPK.out HGR.out HS4.out HO4.out)
                have HDr4 := hid (DrawR.low2 (HDrW.out.ext HE3.out) HB0.out.1 HB0.out.2 hg (fun q hq => HT3.out.lt q hq))
                have HLT4 := hid hat
                have HZ4 : Hid (w7.heap.size ≤ w4.heap.size) := hid (Nat.le_trans HZW.out (Nat.le_trans HE3.out.size hg.size))
                have HW34 : Hid (w12.heap.size ≤ W3.heap.size) := hid HE3.out.size
                obtain ⟨A4, c4, rfl, _, _⟩ := hO.form_app
                clear hO hg hat hs hob4
                refine WG.last (i := 13) rfl (by kernel_rfl) (by kernel_rfl) (fun K hK => ?_)
                go_simp
                refine hK.out _ _ ?_
                clear hK K
                (try simp only [Act.put, List.setIfInBounds_toArray, List.set_cons_zero, List.set_cons_succ])
                refine WG.done (by kernel_rfl) ?_
                go_wp2
                go_roundw
                case rel =>
                  refine ⟨i + 1, ps.set x10 (bn ++ [x], .slice A4 (bn.length + 1) c4), by omega, by go_num, hid (by rw [List.length_set]; exact HPN.out), hid ⟨⟨HRES.out.1, ?_, ?_, ?_, ?_, ?_, ?_⟩, ?_⟩⟩
                  · exact nodupB_set HND.out HPK.out HLT4.out (fun q hq => Nat.lt_of_lt_of_le (OBV.lt HOW.out q hq).2 HW34.out)
                  · exact hiB_set HHB.out HPK.out HLT4.out (Nat.le_trans HZW.out HW34.out)
                  · exact goodB_set HGB.out HPK.out HXG.out
                  · exact HS74.out.trans (HRES.out.2.mono notBin2)
                  · simpa [World.setCell] using HZ4.out
                  · exact (HDr4.out.stored hgb HB0.out.1 HB0.out.2 _).mono (by omega)
                  · rw [List.map_set, flat_len_set _ _ bn x (by rw [List.getElem?_map, HPK.out]; rfl)]; have := HFL.out; omega
                case measure => simp [intOf]; omega
              · have hz : ((x12 : Int) == 0) = false := by simpa using hz
                rw [hz]
                go_wp2
                go_roundw
                case rel => exact ⟨i + 1, ps, by omega, by go_num, HPN, hid ⟨⟨HOW.out, HND.out, HHB.out, HGB.out, HS7W.out, HZW.out, HDrW.out.mono (by omega)⟩, by have := HFL.out; omega⟩⟩
                case measure => simp [intOf]; omega
          · go_wp2
            refine bodyPost_ret (results_tmp2 rfl _ _ _) rfl ?_
            exact ⟨_, _, room, ps.map (fun p : List TaskD × Value => p.1), ps, rfl, RI.same HRO7.out (H.out.1.same.mono (fun t ht => .inr ht)), H.out.1.own, rfl, by rw [List.length_map, HPN.out]; omega, by have := H.out.2; omega, H.out.1.good, H.out.1.draw.mono (by omega)⟩
theorem dBins (b : Nat) (bv : Value) (bs : List Int) (p : Nat) (w : World) (h : Rd w b bv bs p) (hp : p ≤ 700000) :
    Calls Try.prog 88 #[.pointer (some ⟨b, 0, none⟩)] w (DrawnB w b bv bs p) :=
  (dBinsO b bv bs p w h hp).mono fun _ _ ⟨rv, nv, room, Bs, ps, he, h1, h2, h3, h4⟩ => ⟨rv, nv, room, Bs, he, h1, by rw [← h3]; exact OBV.read h2, h4⟩

end Go.Proofs.Ytoaabinpdjcimaa
