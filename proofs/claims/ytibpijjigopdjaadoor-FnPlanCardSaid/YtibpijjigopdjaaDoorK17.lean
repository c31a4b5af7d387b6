/- The program's candidates for a move. -/
import Derived.Test.YtibpijjigopdjaaDoorK16
import Derived.Test.YtibpijjigopdjaaDoorK13
namespace Go.Proofs.YtibpijjigopdjaaDoor
open Go.RowKit
set_option maxRecDepth 4000

/-- candidates in memory -/
def EC : Enc (TaskD × Nat) := fun w cs p => ∃ v, cs = [.int .i64 p.1.id, v, .int .i64 (p.2 : Int)] ∧ RI w v p.1.need
theorem EC.ok : EC.Ok (fun t => t = 3) := fun _ _ _ _ ⟨v, h, hr⟩ ha => ⟨v, h, hr.same ha⟩
theorem EC.flat : EC.Flat := fun _ _ _ ⟨v, h, hr⟩ u hu => by
  obtain ⟨A, c, hv, _⟩ := hr
  rw [h] at hu; simp at hu; rcases hu with rfl | rfl | rfl
  · rfl
  · rw [hv]; rfl
  · rfl
theorem EC.ne : ∀ t, (fun t => t = 3) t → t ≠ 139 := by rintro t rfl; decide
abbrev RC := RSl 139 3 EC
abbrev OC := Own 139 3 EC
theorem RC.ext {w w' : World} {v : Value} {xs : List (TaskD × Nat)} (h : RC w v xs) (ha : Ext w w') : RC w' v xs := RSl.same_ EC.ok h (ha.same _)
theorem info_cand : (Tryd.prog.info? 139).map (fun i => (i.zero, i.size, i.bytes)) = some (some (.agg #[.int .i64 0, .slice none 0 0, .int .i64 0]), 3, 40) := by kernel_rfl
/-- the candidates of the last m nodes -/
def candM (bs : List (List TaskD)) (m : Nat) : List (TaskD × Nat) := (List.range m).flatMap fun k => (bs.getD (bs.length - 1 - k) []).map fun t => (t, bs.length - 1 - k)
theorem candM_succ (bs : List (List TaskD)) (m : Nat) : candM bs (m + 1) = candM bs m ++ (bs.getD (bs.length - 1 - m) []).map fun t => (t, bs.length - 1 - m) := by
  unfold candM
  rw [List.range_succ, List.flatMap_append]
  simp
theorem candM_all (bs : List (List TaskD)) : candM bs bs.length = cands bs := by
  unfold candM cands
  have e : (List.range bs.length).reverse = (List.range bs.length).map fun k => bs.length - 1 - k := by
    refine List.ext_getElem (by simp) (fun i h1 h2 => ?_)
    simp
  rw [e, List.flatMap_map]
theorem candM_len (bs : List (List TaskD)) : ∀ m, (candM bs m).length ≤ m * bs.flatten.length
  | 0 => by simp [candM]
  | m + 1 => by
    rw [candM_succ, List.length_append, List.length_map, Nat.add_mul, Nat.one_mul]
    have h1 := candM_len bs m
    have h2 : (bs.getD (bs.length - 1 - m) []).length ≤ bs.flatten.length := by
      rw [List.getD_eq_getElem?_getD]
      cases h : bs[bs.length - 1 - m]? with
      | none => simp
      | some b => exact (List.sublist_flatten_of_mem (List.mem_of_getElem? h)).length_le
    omega

set_option maxHeartbeats 4000000 in
theorem iCandidates (v : Value) (bs : List (List TaskD)) (w : World) (h : RB w v bs) (hl : bs.length ≤ 14) (hfl : bs.flatten.length ≤ 14) (hb : ∀ b ∈ bs, b.length ≤ 900) :
    Calls Tryd.prog 115 #[v] w fun e w' => ∃ v', e = .returned v' ∧ RC w' v' (cands bs) ∧ Ext w w' := by
  have HB := hid h
  obtain ⟨A, c, rfl, hc, hc', hg⟩ := RB.get h
  have HGG := hid hg
  have HFL := hid hfl
  have HBB := hid hb
  clear h hg hfl hb
  obtain ⟨i0_cand, hi0_cand, hz0_cand, hz1_cand, hz2_cand⟩ := info_parts info_cand
  go_enter Tryd.func115, Tryd.ntmps115
  go_wp2
  go_loopw [3, 4] (fun o i wr => ∃ (u : Value) (m n : Nat), u = o ∧ m + n = bs.length ∧ i = .int .i64 ((n : Int) - 1) ∧ Hid (OC wr w.heap.size u (candM bs m) ∧ Ext w wr)) (fun _ i _ => (intOf i + 1).toNat)
  case atStart => exact ⟨_, 0, bs.length, rfl, by omega, rfl, hid ⟨Own.made #[] 0 (Nat.le_refl _) (by omega) rfl, Ext.alloc _ _⟩⟩
  case round =>
    obtain ⟨u, m, n1, rfl, hmn, rfl, H⟩ := hrel
    by_cases hn : 0 < n1
    · obtain ⟨n, rfl⟩ : ∃ n, n1 = n + 1 := ⟨n1 - 1, by omega⟩
      have e1 : ((n + 1 : Nat) : Int) - 1 = (n : Int) := by omega
      rw [e1]
      have hnl : n < bs.length := by omega
      have hnm : bs.length - 1 - m = n := by omega
      have HNM := hid hnm
      clear e1 hn hnm
      obtain ⟨b, o, d, Ad, cd, rfl, e, c1, hd⟩ := HGG.out n hnl
      have i1 : (n : Int) < (bs.length : Int) := by omega
      have i0 : (0 : Int) ≤ (n : Int) := by omega
      have c1r := H.out.2.cell c1
      have hdl : d.length ≤ 900 := HBB.out d (List.mem_of_getElem? e.out)
      have hdc : d.length ≤ 14 := by
        have := (List.sublist_flatten_of_mem (List.mem_of_getElem? e.out)).length_le
        have := HFL.out
        omega
      have HD := hid hd
      have HOU := hid H.out.1
      have HE := hid H.out.2
      have hcm : (candM bs m).length ≤ 400 := by
        have h1 := candM_len bs m
        have h2 : m * bs.flatten.length ≤ 14 * 14 := Nat.mul_le_mul (by omega) HFL.out
        omega
      have HCM := hid hcm
      clear c1 hd H hcm
      go_wp2
      go_loopw [3, 20] (fun o i w2 => ∃ (u2 : Value) (k : Nat), u2 = o ∧ k ≤ d.length ∧ i = .int .i64 k ∧ Hid (OC w2 w.heap.size u2 (candM bs m ++ (d.take k).map fun t => (t, n)) ∧ Ext w w2)) (fun _ i _ => d.length - (intOf i).toNat)
      case atStart => exact ⟨_, 0, rfl, Nat.zero_le _, rfl, hid ⟨by rw [List.take_zero, List.map_nil, List.append_nil]; exact HOU.out, HE.out⟩⟩
      case round =>
        obtain ⟨u2, k, rfl, hk, rfl, HH⟩ := hrel
        by_cases hkt : k < d.length
        · obtain ⟨Ad', cd', hvd, _, _, hgd⟩ := RT.get HD.out
          injection hvd with e1 _ e3
          subst e1 e3
          obtain ⟨b2, o2, x, Ax, cx, rfl, e2, d1, d2, hxr⟩ := hgd k hkt
          have k1 : (k : Int) < (d.length : Int) := by omega
          have k0 : (0 : Int) ≤ (k : Int) := by omega
          have d1r := HH.out.2.cell d1
          have d2r := HH.out.2.cell d2
          have HXR := hid (RI.ext hxr HH.out.2)
          have HO2 := hid HH.out.1
          have HE2 := hid HH.out.2
          obtain ⟨y0, y1, y0f, y1f, q1, q1f, hkk, _⟩ := box2 (heap_alloc_new wr (.cells #[.int .i64 0, .slice none 0 0] 44)) (.int .i64 x.id) (.slice Ax x.need.length cx)
          clear hgd d1 d2 hxr HH hkk
          have hE5 : Ext wr ((wr.alloc (.cells #[.int .i64 x.id, .slice Ax x.need.length cx] 44)).alloc (.cells #[.int .i64 x.id, .slice Ax x.need.length cx, .int .i64 (n : Int)] 139)) := (Ext.alloc _ _).trans (Ext.alloc _ _)
          have HO5 := hid (Own.ext EC.ok HO2.out hE5)
          have HX5 := hid (RI.ext HXR.out hE5)
          have HE5 := hid (HE2.out.trans hE5)
          have HLN : Hid ((candM bs m ++ (d.take k).map fun t => (t, n)).length ≤ 500) := hid (by rw [List.length_append, List.length_map, List.length_take]; have := HCM.out; omega)
          have hszr : w.heap.size ≤ wr.heap.size := HE2.out.size
          clear hE5
          go_wp2_with (at_builtin; refine wpList_append_sl _ (by rfl) _ _ 136 (by rfl) EC.ok EC.flat (w.heap.size) 139 EC.ne i0_cand _ 3 40 Tryd.underlying136 hi0_cand hz0_cand hz1_cand hz2_cand rfl (by omega) _ (by rfl) _ (HO5.out) _ (by rfl) _ (RSl.laid (cs := [.int .i64 x.id, .slice Ax x.need.length cx, .int .i64 (n : Int)]) (x := (x, n)) (heap_new (H := wr.heap.size + 1) (by simp)) rfl ⟨_, rfl, HX5.out⟩) (by have := HLN.out; simp at this; simp; omega) (by have := HLN.out; simp at this; simp; omega) ?_ ?_; (focus (first | exact Nat.le_refl _ | (simp; done) | (simp; omega) | omega)); intro v6 w6 hO6 hg6 hat6 hs6; have HO6 := hid hO6; have HE6 := hid (Ext.grown HE5.out hg6 (fun q hq => Own.lt HO5.out q hq)); clear hO6 hg6 hat6 hs6)
          go_roundw
          case rel => exact ⟨_, k + 1, rfl, by omega, by go_num, hid ⟨by rw [take_snoc e2.out, List.map_append, ← List.append_assoc]; exact HO6.out, HE6.out⟩⟩
          case measure => simp [intOf]; omega
        · have hk' : k = d.length := by omega
          have HK := hid hk'
          clear hk'
          go_wp2
          go_roundw
          case rel => exact ⟨_, m + 1, n, rfl, by omega, by go_num, hid ⟨by rw [candM_succ, HNM.out, List.getD_eq_getElem?_getD, e.out]; have h3 := HH.out.1; rw [HK.out, List.take_length] at h3; exact h3, HH.out.2⟩⟩
          case measure => simp [intOf]
    · have hn0 : n1 = 0 := by omega
      subst hn0
      have hm : m = bs.length := by omega
      have HM := hid hm
      clear hm hmn
      go_wp2
      go_ret
      exact ⟨_, rfl, by have h3 := H.out.1.read; rw [HM.out, candM_all] at h3; exact h3, H.out.2⟩

end Go.Proofs.YtibpijjigopdjaaDoor

/- The program's next move. -/
namespace Go.Proofs.YtibpijjigopdjaaDoor
open Go.RowKit
set_option maxRecDepth 4000

theorem RSl.rest_ {α : Type} {e : TypeId} {size : Nat} {E : Enc α} {w : World} {A : Option Addr} {n c : Nat} {xs : List α} (h : RSl e size E w (.slice A n c) xs) {k : Nat} (hk : k ≤ xs.length) : RSl e size E w (.slice (if c = k then A else Option.map (fun x => x.add (k * size)) A) (xs.length - k) (c - k)) (xs.drop k) := by
  obtain ⟨A', c', hv, hc, hc', h⟩ := h
  injection hv with h1 h2 h3
  subst h1 h2 h3
  refine ⟨_, c - k, by rw [List.length_drop], by rw [List.length_drop]; omega, by omega, fun hn => ?_⟩
  rw [List.length_drop] at hn
  obtain ⟨b, o, cur, fr, hA, hb, h9⟩ := h (by omega)
  subst hA
  refine ⟨b, o + k * size, cur, fr, ?_, hb, fun j x hx => ?_⟩
  · rw [if_neg (by omega), Option.map_some, Addr.add_lit]
  · rw [List.getElem?_drop] at hx
    obtain ⟨cs, hl, he, hcc⟩ := h9 _ x hx
    refine ⟨cs, hl, he, fun i u hu => ?_⟩
    have := hcc i u hu
    rw [show o + k * size + (j * size + i) = o + ((k + j) * size + i) by rw [Nat.add_mul]; omega]
    exact this
/-- a slice's length -/
def lenV : Value → Nat | .slice _ n _ => n | _ => 0
theorem RC.get {w : World} {v : Value} {xs : List (TaskD × Nat)} (h : RC w v xs) : ∃ A c, v = .slice A xs.length c ∧ xs.length ≤ c ∧ c ≤ 9223372036854775807 ∧
    ∀ (j : Nat), j < xs.length → ∃ b o x nv, A = some ⟨b, o, none⟩ ∧ Hid (xs[j]? = some x) ∧ w.cell? ⟨b, o + j * 3, none⟩ = some (.int .i64 x.1.id) ∧ w.cell? ⟨b, o + j * 3 + 1, none⟩ = some nv ∧ w.cell? ⟨b, o + j * 3 + 2, none⟩ = some (.int .i64 (x.2 : Int)) ∧ RI w nv x.1.need := by
  obtain ⟨A, c, hv, h1, h2, h⟩ := RSl.get_ h
  refine ⟨A, c, hv, h1, h2, fun j hj => ?_⟩
  obtain ⟨b, o, x, cs, hA, hx, _, ⟨nv, he, hr⟩, hc⟩ := h j hj
  subst he
  exact ⟨b, o, x, nv, hA, hx, by simpa using hc 0 _ rfl, by simpa [Nat.add_assoc] using hc 1 _ rfl, by simpa [Nat.add_assoc] using hc 2 _ rfl, hr⟩
theorem cands_mem {bs : List (List TaskD)} {p : TaskD × Nat} (h : p ∈ cands bs) : p.2 < bs.length ∧ p.1 ∈ bs.getD p.2 [] := by
  unfold cands at h
  obtain ⟨i, hi, hp⟩ := List.mem_flatMap.1 h
  obtain ⟨t, ht, rfl⟩ := List.mem_map.1 hp
  exact ⟨by simpa using hi, ht⟩
theorem box3 {w : World} {b : Nat} {x y z : Value} {t : TypeId} (h : w.heap[b]? = some (.cells #[x, y, z] t (0, 0))) (u v _q : Value) :
    w.cell? ⟨b, 0, none⟩ = some x ∧ w.cell? ⟨b, 1, none⟩ = some y ∧ w.cell? ⟨b, 2, none⟩ = some z ∧ w.frozen? ⟨b, 0, none⟩ = false ∧ w.frozen? ⟨b, 1, none⟩ = false ∧ w.frozen? ⟨b, 2, none⟩ = false ∧
    (w.setCell ⟨b, 0, none⟩ u).cell? ⟨b, 1, none⟩ = some y ∧ (w.setCell ⟨b, 0, none⟩ u).cell? ⟨b, 2, none⟩ = some z ∧ (w.setCell ⟨b, 0, none⟩ u).frozen? ⟨b, 1, none⟩ = false ∧ (w.setCell ⟨b, 0, none⟩ u).frozen? ⟨b, 2, none⟩ = false ∧
    ((w.setCell ⟨b, 0, none⟩ u).setCell ⟨b, 1, none⟩ v).cell? ⟨b, 2, none⟩ = some z ∧ ((w.setCell ⟨b, 0, none⟩ u).setCell ⟨b, 1, none⟩ v).frozen? ⟨b, 2, none⟩ = false := by
  have h1 : (w.setCell ⟨b, 0, none⟩ u).heap[b]? = some (.cells #[u, y, z] t (0, 0)) := by simpa using obj_set h 0 u
  have h2 : ((w.setCell ⟨b, 0, none⟩ u).setCell ⟨b, 1, none⟩ v).heap[b]? = some (.cells #[u, v, z] t (0, 0)) := by simpa using obj_set h1 1 v
  exact ⟨obj_cell h rfl, obj_cell h rfl, obj_cell h rfl, obj_frozen h _, obj_frozen h _, obj_frozen h _, obj_cell h1 rfl, obj_cell h1 rfl, obj_frozen h1 _, obj_frozen h1 _, obj_cell h2 rfl, obj_frozen h2 _⟩
theorem obj_set3 {w : World} {b : Nat} {x y z : Value} {t : TypeId} {fr : Nat × Nat} (h : w.heap[b]? = some (.cells #[x, y, z] t fr)) (u v q : Value) : (((w.setCell ⟨b, 0, none⟩ u).setCell ⟨b, 1, none⟩ v).setCell ⟨b, 2, none⟩ q).heap[b]? = some (.cells #[u, v, q] t fr) := by
  have h1 := obj_set h 0 u
  have h2 := obj_set h1 1 v
  have h3 := obj_set h2 2 q
  simpa using h3

set_option maxHeartbeats 4000000 in
theorem iNextMove (rv v : Value) (room : List Int) (bs : List (List TaskD)) (w : World) (hR : RI w rv room) (h : RB w v bs) (hv : binsOk room bs = true) :
    Calls Tryd.prog 79 #[rv, v] w (RetNx w (nextMv room bs)) := by
  have HR0 := hid hR
  have HB0 := hid h
  obtain ⟨Ar, cr, rfl, _⟩ := hR
  obtain ⟨A, c, rfl, hc, hc', _⟩ := h
  have HV := hid hv
  have HS := hid (bins_small hv)
  have HLR : Hid (room.length = 3) := hid HS.out.1
  obtain ⟨W, hW⟩ : ∃ W, W = w.alloc (.cells #[.int .i64 0, .int .i64 0] 32) := ⟨_, rfl⟩
  have hEW : Ext w W := by rw [hW]; exact Ext.alloc _ _
  have hbx : W.heap[w.heap.size]? = some (.cells #[.int .i64 0, .int .i64 0] 32 (0, 0)) := by rw [hW]; exact heap_alloc_new _ _
  have HBX := hid hbx
  have HEW := hid hEW
  have HB := hid (RB.ext HB0.out hEW)
  have hl14 : bs.length ≤ 14 := HS.out.2.1
  clear hbx hEW hv
  go_enter Tryd.func79, Tryd.ntmps79
  go_wp2_with (go_at_call 115; rw [← hW]; refine (iCandidates _ bs _ HB.out HS.out.2.1 HS.out.2.2.1 (fun b hb => (HS.out.2.2.2 b hb).2.1)).mono ?_; rintro e w1 ⟨v1, rfl, hO1, hE1⟩; have HO1 := hid hO1; have HE1 := hid hE1; clear hO1 hE1 hW)
  go_loopw [6] (fun o wr => ∃ (u : Value) (pre L : List (TaskD × Nat)), u = o ∧ Hid (RC wr u L ∧ cands bs = pre ++ L ∧ (∀ p ∈ pre, tryOne room bs p = none) ∧ Ext W wr)) (fun o _ => lenV o)
  case atStart => exact ⟨_, [], cands bs, rfl, hid ⟨HO1.out, rfl, fun p hp => by simp at hp, HE1.out⟩⟩
  case round =>
    obtain ⟨u, pre, L, rfl, H⟩ := hrel
    have HRL := hid H.out.1
    have HCS := hid H.out.2.1
    have HPN := hid H.out.2.2.1
    have HE := hid H.out.2.2.2
    clear H
    have hlc : L.length ≤ 400 := by
      have h1 : (cands bs).length ≤ 14 * 14 := by
        rw [← candM_all]
        exact Nat.le_trans (candM_len bs bs.length) (Nat.mul_le_mul hl14 HS.out.2.2.1)
      rw [HCS.out, List.length_append] at h1
      omega
    obtain ⟨AL, cL, hvL, hcL, hcL', hgL⟩ := RC.get HRL.out
    subst hvL
    cases L with
    | nil =>
      have HN : Hid (nextMv room bs = none) := hid (by unfold nextMv; rw [HCS.out, List.append_nil]; exact List.findSome?_eq_none_iff.2 HPN.out)
      obtain ⟨y0, y1, y0f, y1f, k1', k1f, hkk, hsm⟩ := box2 (HE.out.obj HBX.out) (.int .i64 0) (.int .i64 0)
      have r0 := obj_cell hkk (i := 0) rfl
      have r1 := obj_cell hkk (i := 1) rfl
      clear hgL hkk hsm
      go_wp2
      refine bodyPost_ret (v := .tuple #[.agg #[.int .i64 0, .int .i64 0], .bool false]) (by simp [results, Tryd.results79, go_sem, r0, r1]) rfl ?_
      exact ⟨by rw [HN.out]; rfl, Below.setCell (Below.setCell (HEW.out.trans HE.out) (Nat.le_refl _) _) (Nat.le_refl _) _⟩
    | cons p L =>
      obtain ⟨b, o, p', nv, rfl, e, c0, c1, c2, hn⟩ := hgL 0 (by simp)
      have hpp : p' = p := by have := e.out; simpa using this.symm
      subst hpp
      obtain ⟨x, f⟩ := p'
      have hn0 := hn
      obtain ⟨An, cn, hnv, _⟩ := hn
      subst hnv
      have HN0 := hid hn0
      clear hn0
      have c0 : wr.cell? ⟨b, o, none⟩ = some (.int .i64 x.id) := by simpa using c0
      have c1 : wr.cell? ⟨b, o + 1, none⟩ = some (.slice An x.need.length cn) := by simpa using c1
      have c2 : wr.cell? ⟨b, o + 2, none⟩ = some (.int .i64 (f : Int)) := by simpa using c2
      obtain ⟨y0, y1, y2, f0, f1, f2, k1, k2, k1f, k2f, m2, m2f⟩ := box3 (heap_alloc_new wr (.cells #[.int .i64 0, .slice none 0 0, .int .i64 0] 139)) (.int .i64 x.id) (.slice An x.need.length cn) (.int .i64 (f : Int))
      have hmem : (x, f) ∈ cands bs := by rw [HCS.out]; simp
      have hcm := cands_mem hmem
      have hfl : f < bs.length := hcm.1
      have hgd : bs.getD f [] ∈ bs := by rw [List.getD_eq_getElem?_getD, List.getElem?_eq_getElem hfl]; exact List.getElem_mem hfl
      have HXG := hid ((HS.out.2.2.2 _ hgd).2.2 x hcm.2)
      have HGB : Hid (∀ q ∈ bs.take f, GoodTs q) := hid (fun q hq => (HS.out.2.2.2 q (List.mem_of_mem_take hq)).1)
      have HTK : Hid ((bs.take f).length = f) := hid (by rw [List.length_take]; omega)
      have i2 : (f : Int) ≤ (bs.length : Int) := by omega
      have i3 : (f : Int) ≤ (c : Int) := by omega
      have i4 : (0 : Int) ≤ (f : Int) := by omega
      have HRS := hid (RSl.rest_ HRL.out (k := 1) (by simp))
      have hLc : L.length + 1 ≤ cL := hcL
      clear hgL hmem hcm hgd
      by_cases hcap : cL = 1
      · subst hcap
        have hL0 : L = [] := List.eq_nil_of_length_eq_zero (by omega)
        subst hL0
        have HRW : Hid (RC wr (.slice (some ⟨b, o, none⟩) 0 0) []) := hid (RSl.nil_ _ _ _ _ _ _ (by omega))
        go_wp2
        obtain ⟨W5, hW5⟩ : ∃ W5, W5 = wr.alloc (.cells #[.int .i64 x.id, .slice An x.need.length cn, .int .i64 (f : Int)] 139) := ⟨_, rfl⟩
        have hE5 : Ext wr W5 := by rw [hW5]; exact Ext.alloc _ _
        have hxb : W5.heap[wr.heap.size]? = some (.cells #[.int .i64 x.id, .slice An x.need.length cn, .int .i64 (f : Int)] 139 (0, 0)) := by rw [hW5]; exact heap_alloc_new _ _
        rw [← hW5]
        clear hW5 y0 y1 y2 f0 f1 f2 k1 k2 k1f k2f m2 m2f c0 c1 c2
        have HXB := hid hxb
        have HE5 := hid hE5
        clear hxb hE5
        have KS : Hid (∀ w', Ext W5 w' → w'.cell? ⟨wr.heap.size, 0, none⟩ = some (.int .i64 x.id) ∧ w'.cell? ⟨wr.heap.size, 1, none⟩ = some (.slice An x.need.length cn) ∧ w'.cell? ⟨wr.heap.size, 2, none⟩ = some (.int .i64 (f : Int))) := hid fun w' hw => ⟨obj_cell (hw.obj HXB.out) (i := 0) rfl, obj_cell (hw.obj HXB.out) (i := 1) rfl, obj_cell (hw.obj HXB.out) (i := 2) rfl⟩
        have HD : Hid (Ext W5 W5.drew) := hid (Below.drew (Below.refl _ _))
        have HX5 := hid ((HEW.out.trans HE.out).trans (HE5.out.trans HD.out))
        obtain ⟨fa, hfa⟩ : ∃ fa, firstAt room (bs.take f) x = fa := ⟨_, rfl⟩
        have hfg : -1 ≤ fa := by rw [← hfa]; exact firstAt_ge _ _ _
        have HFA := hid hfa
        clear hfa
        refine WG.start (fun w' => w'.cell? ⟨wr.heap.size, 0, none⟩ = some (.int .i64 x.id) ∧ w'.cell? ⟨wr.heap.size, 1, none⟩ = some (.slice An x.need.length cn) ∧ w'.cell? ⟨wr.heap.size, 2, none⟩ = some (.int .i64 (f : Int))) [7,8] (by kernel_rfl) (by exact KS.out _ HD.out) (fun hHeld => ?_)
        (refine WG.take (i := 0) (v := ?_) rfl (by kernel_rfl) (by kernel_rfl) (by kernel_rfl) (by kernel_rfl) (fun _ _ _ h => h) (Or.inl ⟨by rfl, ?_⟩) (by assumption) ?_; rotate_left; (intro w hSw; (try dsimp only at hSw); go_split_ands; go_simp; (try with_reducible rfl)); (try simp only [Act.put, List.setIfInBounds_toArray, List.set_cons_zero, List.set_cons_succ]))
        (refine WG.take (i := 1) (v := ?_) rfl (by kernel_rfl) (by kernel_rfl) (by kernel_rfl) (by kernel_rfl) (fun _ _ _ h => h) (Or.inl ⟨by rfl, ?_⟩) (by assumption) ?_; rotate_left; (intro w hSw; (try dsimp only at hSw); go_split_ands; go_simp; (try with_reducible rfl)); (try simp only [Act.put, List.setIfInBounds_toArray, List.set_cons_zero, List.set_cons_succ]))
        (refine WG.take (i := 2) (v := ?_) rfl (by kernel_rfl) (by kernel_rfl) (by kernel_rfl) (by kernel_rfl) (fun _ _ _ h => h) (Or.inl ⟨by rfl, ?_⟩) (by assumption) ?_; rotate_left; (intro w hSw; (try dsimp only at hSw); go_split_ands; go_simp; (try with_reducible rfl)); (try simp only [Act.put, List.setIfInBounds_toArray, List.set_cons_zero, List.set_cons_succ]))
        (refine WG.take (i := 3) (v := ?_) rfl (by kernel_rfl) (by kernel_rfl) (by kernel_rfl) (by kernel_rfl) (fun _ _ _ h => h) (Or.inl ⟨by rfl, ?_⟩) (by assumption) ?_; rotate_left; (intro w hSw; (try dsimp only at hSw); go_split_ands; go_simp; (try with_reducible rfl)); (try simp only [Act.put, List.setIfInBounds_toArray, List.set_cons_zero, List.set_cons_succ]))
        (refine WG.take (i := 4) (v := ?_) rfl (by kernel_rfl) (by kernel_rfl) (by kernel_rfl) (by kernel_rfl) (fun _ _ _ h => h) (Or.inl ⟨by rfl, ?_⟩) (by assumption) ?_; rotate_left; (intro w hSw; (try dsimp only at hSw); go_split_ands; go_simp; (try with_reducible rfl)); (try simp only [Act.put, List.setIfInBounds_toArray, List.set_cons_zero, List.set_cons_succ]))
        (refine WG.take (i := 5) (v := ?_) rfl (by kernel_rfl) (by kernel_rfl) (by kernel_rfl) (by kernel_rfl) (fun _ _ _ h => h) (Or.inl ⟨by rfl, ?_⟩) (by assumption) ?_; rotate_left; (intro w hSw; (try dsimp only at hSw); go_split_ands; go_simp; (try with_reducible rfl)); (try simp only [Act.put, List.setIfInBounds_toArray, List.set_cons_zero, List.set_cons_succ]))
        (refine WG.take (i := 6) (v := ?_) rfl (by kernel_rfl) (by kernel_rfl) (by kernel_rfl) (by kernel_rfl) (fun _ _ _ h => h) (Or.inl ⟨by rfl, ?_⟩) (by assumption) ?_; rotate_left; (intro w hSw; (try dsimp only at hSw); go_split_ands; go_simp; (try with_reducible rfl)); (try simp only [Act.put, List.setIfInBounds_toArray, List.set_cons_zero, List.set_cons_succ]))
        refine WG.last (i := 7) rfl (by kernel_rfl) (by kernel_rfl) (fun K hK => ?_)
        go_simp; have hq := iFirstOf room (bs.take f) x Ar cr A c An cn W5.drew (RI.ext HR0.out HX5.out) (by have h3 := RB.ext (RB.head HB0.out (k := f) (by omega)) HX5.out; rw [HTK.out]; exact h3) (RI.ext HN0.out (HE5.out.trans HD.out)) HLR.out HGB.out HXG.out (by rw [HTK.out]; omega); rw [HTK.out] at hq; refine hq.mono ?_; clear hq; rintro e6 w6 ⟨rfl, hE6⟩; rw [HFA.out]; have HE6 := hid (HD.out.trans hE6); clear hE6; (try dsimp only)
        refine hK.out _ _ ?_
        clear hK K
        (try simp only [Act.put, List.setIfInBounds_toArray, List.set_cons_zero, List.set_cons_succ])
        refine WG.last (i := 8) rfl (by kernel_rfl) (by kernel_rfl) (fun K hK => ?_)
        go_simp
        refine hK.out _ _ ?_
        clear hK K
        (try simp only [Act.put, List.setIfInBounds_toArray, List.set_cons_zero, List.set_cons_succ])
        refine WG.done (by kernel_rfl) ?_
        have HEA := hid (HE.out.trans (HE5.out.trans HE6.out))
        obtain ⟨c0, c1, c2⟩ := KS.out _ HE6.out
        by_cases hf : 0 ≤ fa
        · obtain ⟨y0, y1, y0f, y1f, k1', k1f, hkk, hsm⟩ := box2 (HEA.out.obj HBX.out) (.int .i64 x.id) (.int .i64 fa)
          have r0 := obj_cell hkk (i := 0) rfl
          have r1 := obj_cell hkk (i := 1) rfl
          have HH : Hid (nextMv room bs = some ⟨x.id, fa⟩) := hid (by
            unfold nextMv
            rw [HCS.out, List.findSome?_append, List.findSome?_eq_none_iff.2 HPN.out, List.findSome?_cons]
            have : tryOne room bs (x, f) = some ⟨x.id, fa⟩ := by unfold tryOne; rw [HFA.out, if_pos hf]
            rw [this]; rfl)
          clear hkk hsm
          go_wp2
          refine bodyPost_ret (v := .tuple #[.agg #[.int .i64 x.id, .int .i64 fa], .bool true]) (by simp [results, Tryd.results79, go_sem, r0, r1]) rfl ?_
          exact ⟨by rw [HH.out]; rfl, Below.setCell (Below.setCell (HEW.out.trans HEA.out) (Nat.le_refl _) _) (Nat.le_refl _) _⟩
        · have HT : Hid (tryOne room bs (x, f) = none) := hid (by unfold tryOne; rw [HFA.out, if_neg hf])
          go_wp2
          go_roundw
          case rel => exact ⟨_, pre ++ [(x, f)], [], rfl, hid ⟨RC.ext HRW.out (HE5.out.trans HE6.out), by rw [List.append_assoc]; exact HCS.out, fun p hp => by rcases List.mem_append.1 hp with hp | hp; exact HPN.out p hp; rw [List.mem_singleton.1 hp]; exact HT.out, HEA.out⟩⟩
          case measure => simp [lenV]
      · have HRW : Hid (RC wr (.slice (some ⟨b, o + 3, none⟩) L.length (cL - 1)) L) := hid (by have h3 := HRS.out; rw [if_neg hcap, Option.map_some, Addr.add_lit] at h3; simpa using h3)
        have icap : ¬ cL = 1 := hcap
        go_wp2
        obtain ⟨W5, hW5⟩ : ∃ W5, W5 = wr.alloc (.cells #[.int .i64 x.id, .slice An x.need.length cn, .int .i64 (f : Int)] 139) := ⟨_, rfl⟩
        have hE5 : Ext wr W5 := by rw [hW5]; exact Ext.alloc _ _
        have hxb : W5.heap[wr.heap.size]? = some (.cells #[.int .i64 x.id, .slice An x.need.length cn, .int .i64 (f : Int)] 139 (0, 0)) := by rw [hW5]; exact heap_alloc_new _ _
        rw [← hW5]
        clear hW5 y0 y1 y2 f0 f1 f2 k1 k2 k1f k2f m2 m2f c0 c1 c2
        have HXB := hid hxb
        have HE5 := hid hE5
        clear hxb hE5
        have KS : Hid (∀ w', Ext W5 w' → w'.cell? ⟨wr.heap.size, 0, none⟩ = some (.int .i64 x.id) ∧ w'.cell? ⟨wr.heap.size, 1, none⟩ = some (.slice An x.need.length cn) ∧ w'.cell? ⟨wr.heap.size, 2, none⟩ = some (.int .i64 (f : Int))) := hid fun w' hw => ⟨obj_cell (hw.obj HXB.out) (i := 0) rfl, obj_cell (hw.obj HXB.out) (i := 1) rfl, obj_cell (hw.obj HXB.out) (i := 2) rfl⟩
        have HD : Hid (Ext W5 W5.drew) := hid (Below.drew (Below.refl _ _))
        have HX5 := hid ((HEW.out.trans HE.out).trans (HE5.out.trans HD.out))
        obtain ⟨fa, hfa⟩ : ∃ fa, firstAt room (bs.take f) x = fa := ⟨_, rfl⟩
        have hfg : -1 ≤ fa := by rw [← hfa]; exact firstAt_ge _ _ _
        have HFA := hid hfa
        clear hfa
        refine WG.start (fun w' => w'.cell? ⟨wr.heap.size, 0, none⟩ = some (.int .i64 x.id) ∧ w'.cell? ⟨wr.heap.size, 1, none⟩ = some (.slice An x.need.length cn) ∧ w'.cell? ⟨wr.heap.size, 2, none⟩ = some (.int .i64 (f : Int))) [7,8] (by kernel_rfl) (by exact KS.out _ HD.out) (fun hHeld => ?_)
        (refine WG.take (i := 0) (v := ?_) rfl (by kernel_rfl) (by kernel_rfl) (by kernel_rfl) (by kernel_rfl) (fun _ _ _ h => h) (Or.inl ⟨by rfl, ?_⟩) (by assumption) ?_; rotate_left; (intro w hSw; (try dsimp only at hSw); go_split_ands; go_simp; (try with_reducible rfl)); (try simp only [Act.put, List.setIfInBounds_toArray, List.set_cons_zero, List.set_cons_succ]))
        (refine WG.take (i := 1) (v := ?_) rfl (by kernel_rfl) (by kernel_rfl) (by kernel_rfl) (by kernel_rfl) (fun _ _ _ h => h) (Or.inl ⟨by rfl, ?_⟩) (by assumption) ?_; rotate_left; (intro w hSw; (try dsimp only at hSw); go_split_ands; go_simp; (try with_reducible rfl)); (try simp only [Act.put, List.setIfInBounds_toArray, List.set_cons_zero, List.set_cons_succ]))
        (refine WG.take (i := 2) (v := ?_) rfl (by kernel_rfl) (by kernel_rfl) (by kernel_rfl) (by kernel_rfl) (fun _ _ _ h => h) (Or.inl ⟨by rfl, ?_⟩) (by assumption) ?_; rotate_left; (intro w hSw; (try dsimp only at hSw); go_split_ands; go_simp; (try with_reducible rfl)); (try simp only [Act.put, List.setIfInBounds_toArray, List.set_cons_zero, List.set_cons_succ]))
        (refine WG.take (i := 3) (v := ?_) rfl (by kernel_rfl) (by kernel_rfl) (by kernel_rfl) (by kernel_rfl) (fun _ _ _ h => h) (Or.inl ⟨by rfl, ?_⟩) (by assumption) ?_; rotate_left; (intro w hSw; (try dsimp only at hSw); go_split_ands; go_simp; (try with_reducible rfl)); (try simp only [Act.put, List.setIfInBounds_toArray, List.set_cons_zero, List.set_cons_succ]))
        (refine WG.take (i := 4) (v := ?_) rfl (by kernel_rfl) (by kernel_rfl) (by kernel_rfl) (by kernel_rfl) (fun _ _ _ h => h) (Or.inl ⟨by rfl, ?_⟩) (by assumption) ?_; rotate_left; (intro w hSw; (try dsimp only at hSw); go_split_ands; go_simp; (try with_reducible rfl)); (try simp only [Act.put, List.setIfInBounds_toArray, List.set_cons_zero, List.set_cons_succ]))
        (refine WG.take (i := 5) (v := ?_) rfl (by kernel_rfl) (by kernel_rfl) (by kernel_rfl) (by kernel_rfl) (fun _ _ _ h => h) (Or.inl ⟨by rfl, ?_⟩) (by assumption) ?_; rotate_left; (intro w hSw; (try dsimp only at hSw); go_split_ands; go_simp; (try with_reducible rfl)); (try simp only [Act.put, List.setIfInBounds_toArray, List.set_cons_zero, List.set_cons_succ]))
        (refine WG.take (i := 6) (v := ?_) rfl (by kernel_rfl) (by kernel_rfl) (by kernel_rfl) (by kernel_rfl) (fun _ _ _ h => h) (Or.inl ⟨by rfl, ?_⟩) (by assumption) ?_; rotate_left; (intro w hSw; (try dsimp only at hSw); go_split_ands; go_simp; (try with_reducible rfl)); (try simp only [Act.put, List.setIfInBounds_toArray, List.set_cons_zero, List.set_cons_succ]))
        refine WG.last (i := 7) rfl (by kernel_rfl) (by kernel_rfl) (fun K hK => ?_)
        go_simp; have hq := iFirstOf room (bs.take f) x Ar cr A c An cn W5.drew (RI.ext HR0.out HX5.out) (by have h3 := RB.ext (RB.head HB0.out (k := f) (by omega)) HX5.out; rw [HTK.out]; exact h3) (RI.ext HN0.out (HE5.out.trans HD.out)) HLR.out HGB.out HXG.out (by rw [HTK.out]; omega); rw [HTK.out] at hq; refine hq.mono ?_; clear hq; rintro e6 w6 ⟨rfl, hE6⟩; rw [HFA.out]; have HE6 := hid (HD.out.trans hE6); clear hE6; (try dsimp only)
        refine hK.out _ _ ?_
        clear hK K
        (try simp only [Act.put, List.setIfInBounds_toArray, List.set_cons_zero, List.set_cons_succ])
        refine WG.last (i := 8) rfl (by kernel_rfl) (by kernel_rfl) (fun K hK => ?_)
        go_simp
        refine hK.out _ _ ?_
        clear hK K
        (try simp only [Act.put, List.setIfInBounds_toArray, List.set_cons_zero, List.set_cons_succ])
        refine WG.done (by kernel_rfl) ?_
        have HEA := hid (HE.out.trans (HE5.out.trans HE6.out))
        obtain ⟨c0, c1, c2⟩ := KS.out _ HE6.out
        by_cases hf : 0 ≤ fa
        · obtain ⟨y0, y1, y0f, y1f, k1', k1f, hkk, hsm⟩ := box2 (HEA.out.obj HBX.out) (.int .i64 x.id) (.int .i64 fa)
          have r0 := obj_cell hkk (i := 0) rfl
          have r1 := obj_cell hkk (i := 1) rfl
          have HH : Hid (nextMv room bs = some ⟨x.id, fa⟩) := hid (by
            unfold nextMv
            rw [HCS.out, List.findSome?_append, List.findSome?_eq_none_iff.2 HPN.out, List.findSome?_cons]
            have : tryOne room bs (x, f) = some ⟨x.id, fa⟩ := by unfold tryOne; rw [HFA.out, if_pos hf]
            rw [this]; rfl)
          clear hkk hsm
          go_wp2
          refine bodyPost_ret (v := .tuple #[.agg #[.int .i64 x.id, .int .i64 fa], .bool true]) (by simp [results, Tryd.results79, go_sem, r0, r1]) rfl ?_
          exact ⟨by rw [HH.out]; rfl, Below.setCell (Below.setCell (HEW.out.trans HEA.out) (Nat.le_refl _) _) (Nat.le_refl _) _⟩
        · have HT : Hid (tryOne room bs (x, f) = none) := hid (by unfold tryOne; rw [HFA.out, if_neg hf])
          go_wp2
          go_roundw
          case rel => exact ⟨_, pre ++ [(x, f)], L, rfl, hid ⟨RC.ext HRW.out (HE5.out.trans HE6.out), by rw [List.append_assoc]; exact HCS.out, fun p hp => by rcases List.mem_append.1 hp with hp | hp; exact HPN.out p hp; rw [List.mem_singleton.1 hp]; exact HT.out, HEA.out⟩⟩
          case measure => simp [lenV]

end Go.Proofs.YtibpijjigopdjaaDoor

/- The program's plan of moves. -/
namespace Go.Proofs.YtibpijjigopdjaaDoor
open Go.RowKit
set_option maxRecDepth 4000

theorem plan_zero (room : List Int) (bs : List (List TaskD)) : plan room 0 bs = [] := rfl
theorem plan_none' {room : List Int} {bs : List (List TaskD)} (h : nextMv room bs = none) (n : Nat) : plan room n bs = [] := by
  cases n with
  | zero => rfl
  | succ n => unfold plan; rw [h]
theorem plan_some' {room : List Int} {bs : List (List TaskD)} {m : MoveD} (h : nextMv room bs = some m) (n : Nat) : plan room (n + 1) bs = m :: plan room n (doMove bs m) := by
  rw [plan, h]

set_option maxHeartbeats 1000000 in
theorem iPlan (rv v : Value) (room : List Int) (us : List BinW) (bs : List (List TaskD)) (n : Nat) (base : Nat) (a : Addr) (w0 w : World) (hR : RI w0 rv room) (hw0 : Ext w0 w) (hb0 : w0.heap.size ≤ base) (h : ODB w base v us) (hbs : us.map BinW.d = bs) (hnt : (rowBs us).Nodup) (hni : (binNs us).Nodup) (hv : binsOk room bs = true) (hga : w0.cell? ⟨0, 0, none⟩ = some (errV a)) (hbz : base ≤ w.heap.size) (hn : n ≤ 20) :
    Calls Tryd.prog 53 #[rv, v, .int .i64 (n : Int)] w fun e w' => ∃ v', e = .returned v' ∧ OM w' w.heap.size v' (plan room n bs) ∧ Below base w w' := by
  have HR0 := hid hR
  have HW0 := hid hw0
  have HGA := hid hga
  have HBZ := hid hbz
  have HB0 := hid hb0
  have HZ0 : Hid (0 < base) := hid (by have := World.block_lt_of_cell? w0 _ hga; simp only at this; omega)
  have HOB := hid (show ODB w base v us ∧ us.map BinW.d = bs ∧ (rowBs us).Nodup ∧ (binNs us).Nodup ∧ binsOk room bs = true from ⟨h, hbs, hnt, hni, hv⟩)
  have hAB : ∃ A c, v = .slice A bs.length c := by
    obtain ⟨A, c, h1, _⟩ := h.form
    exact ⟨A, c, by rw [h1, ← hbs, List.length_map]⟩
  obtain ⟨Ar, cr, rfl, _⟩ := hR
  obtain ⟨A, c, rfl⟩ := hAB
  clear h hbs hnt hni hv hga hw0
  obtain ⟨i0_move, hi0_move, hz0_move, hz1_move, hz2_move⟩ := info_parts info_move
  go_enter Tryd.func53, Tryd.ntmps53
  go_wp2
  go_loopw [7] (fun o wr => ∃ (u : Value) (k : Nat) (ms : List MoveD) (us' : List BinW) (cur : List (List TaskD)), u = o ∧ k ≤ n ∧ Hid (OM wr w.heap.size u ms ∧ ms.length = k ∧ plan room n bs = ms ++ plan room (n - k) cur ∧ Below base w wr) ∧ Hid (ODB wr base (.slice A bs.length c) us' ∧ us'.map BinW.d = cur ∧ (rowBs us').Nodup ∧ (binNs us').Nodup ∧ binsOk room cur = true)) (fun o _ => n - lenV o)
  case atStart => exact ⟨_, 0, [], us, bs, rfl, Nat.zero_le _, hid ⟨Own.made #[] 0 (Nat.le_refl _) (by omega) rfl, rfl, rfl, (Ext.alloc w _).mono HBZ.out⟩, hid ⟨Own.ext (EDB.ok _) HOB.out.1 (Ext.alloc _ _), HOB.out.2⟩⟩
  case round =>
    obtain ⟨u, k, ms, us', cur, rfl, hk, H1, H2⟩ := hrel
    have HM := hid H1.out.1
    have HML := hid H1.out.2.1
    have HPL := hid H1.out.2.2.1
    have HBW := hid H1.out.2.2.2
    clear H1
    obtain ⟨Au, cu, hu, hcu, hcu'⟩ := HM.out.form
    rw [HML.out] at hu hcu'
    subst hu
    have HE0 : Hid (Ext w0 wr) := hid (Below.trans HW0.out (HBW.out.mono HB0.out))
    have HBR : Hid (base ≤ wr.heap.size) := hid (Nat.le_trans HBZ.out HBW.out.size)
    have hszr : w.heap.size ≤ wr.heap.size := HBW.out.size
    by_cases hlt : k < n
    · have i1 : (k : Int) < (n : Int) := by omega
      obtain ⟨q, hq⟩ : ∃ q, n - k = q + 1 := ⟨n - k - 1, by omega⟩
      have hq2 : n - (k + 1) = q := by omega
      have HQ := hid hq
      have HQ2 := hid hq2
      have HKL : Hid (ms.length ≤ 20) := hid (by have := HML.out; omega)
      clear hq hq2
      have HRB : Hid (RB wr (.slice A bs.length c) cur) := hid (by have h3 := ODB.read H2.out.1; rw [H2.out.2.1] at h3; exact h3)
      cases hnx : nextMv room cur with
      | none =>
        have HNX := hid hnx
        clear hnx
        go_wp2_with (go_at_call 79; refine (iNextMove _ _ room cur _ (RI.ext HR0.out HE0.out) HRB.out H2.out.2.2.2.2).mono ?_; unfold RetNx; rw [HNX.out]; rintro e w2 ⟨rfl, hE2⟩; simp only [nxV]; have HE2 := hid hE2; obtain ⟨y0, y1, y0f, y1f, k1, k1f, hkk, _⟩ := box2 (heap_alloc_new w2 (.cells #[.int .i64 0, .int .i64 0] 32)) (.int .i64 0) (.int .i64 0); clear hE2 hkk)
        go_ret
        exact ⟨_, rfl, by rw [HPL.out, plan_none' HNX.out, List.append_nil]; exact Own.ext EM.ok HM.out (HE2.out.trans (Ext.alloc _ _)), HBW.out.trans ((HE2.out.trans (Ext.alloc _ _)).mono HBR.out)⟩
      | some m =>
        obtain ⟨mid, mto⟩ := m
        have HNX := hid hnx
        have HCM := hid (next_parts H2.out.2.2.2.2 hnx).1
        clear hnx
        go_wp2_with (first
          | (go_at_call 79; refine (iNextMove _ _ room cur _ (RI.ext HR0.out HE0.out) HRB.out H2.out.2.2.2.2).mono ?_; unfold RetNx; rw [HNX.out]; rintro e w2 ⟨rfl, hE2⟩; simp only [nxV]; have HE2 := hid hE2; obtain ⟨y0, y1, y0f, y1f, k1, k1f, hkk, _⟩ := box2 (heap_alloc_new w2 (.cells #[.int .i64 0, .int .i64 0] 32)) (.int .i64 mid) (.int .i64 mto); have q0 := obj_cell (heap_alloc_new w2 (.cells #[.int .i64 mid, .int .i64 mto] 32)) (i := 0) rfl; have q1 := obj_cell (heap_alloc_new w2 (.cells #[.int .i64 mid, .int .i64 mto] 32)) (i := 1) rfl; clear hE2 hkk)
          | (at_builtin; refine wpList_append_sl _ (by rfl) _ _ 27 (by rfl) EM.ok EM.flat (w.heap.size) 32 EM.ne i0_move _ 2 16 Tryd.underlying27 hi0_move hz0_move hz1_move hz2_move rfl (by omega) _ (by rfl) _ (HO7.out) _ (by rfl) _ (RSl.laid (cs := [.int .i64 mid, .int .i64 mto]) (heap_alloc_new _ _) rfl (EM.mk _ mid mto)) (by have := HKL.out; simp; omega) (by have := HKL.out; simp; omega) ?_ ?_; (focus (first | exact Nat.le_refl _ | (simp; done) | (simp; omega) | omega)); intro v8 w8 hO8 hg8 hat8 hs8; have HO8 := hid hO8; have HG8 := hid hg8; have HS8 := hid hs8; clear hO8 hg8 hat8 hs8)
          | (go_at_call 66; have hx5 := HE2.out.trans (Ext.alloc w2 (.cells #[.int .i64 mid, .int .i64 mto] 32)); refine (iMoveOk _ _ room us' cur mid mto base a _ (RI.ext HR0.out (HE0.out.trans hx5)) (Own.ext (EDB.ok _) H2.out.1 hx5) H2.out.2.1 H2.out.2.2.1 H2.out.2.2.2.1 H2.out.2.2.2.2 ((HE0.out.trans hx5).cell HGA.out) HZ0.out (Nat.le_trans HBR.out hx5.size) HCM.out).mono ?_; rintro e w6 ⟨rfl, us6, ho6, hd6, ht6, hn6, hb6, hs6⟩; have hbx6 := hs6 _ _ _ _ (by decide) (heap_alloc_new w2 (.cells #[.int .i64 mid, .int .i64 mto] 32)); have q0 := obj_cell hbx6 (i := 0) rfl; have q1 := obj_cell hbx6 (i := 1) rfl; have hx7 := Ext.alloc w6 (.cells #[.int .i64 mid, .int .i64 mto] 32); have HO7 := hid (Own.ext EM.ok (Own.same EM.ok (Own.ext EM.ok HM.out hx5) (hs6.mono (by rintro t (rfl | h) <;> first | decide | exact h.elim))) hx7); have HB7 := hid (HBW.out.trans (Below.trans (hx5.mono HBR.out) (hb6.trans (hx7.mono (Nat.le_trans HBR.out (Nat.le_trans hx5.size hb6.size)))))); have HU7 := hid (Own.ext (EDB.ok _) ho6 hx7); have HU := hid (show us6.map BinW.d = doMove cur ⟨mid, mto⟩ ∧ (rowBs us6).Nodup ∧ (binNs us6).Nodup from ⟨hd6, ht6, hn6⟩); have hsz6 : w.heap.size ≤ w6.heap.size := Nat.le_trans hszr (Nat.le_trans hx5.size hb6.size); clear ho6 hd6 ht6 hn6 hb6 hs6 hx5 hx7 hbx6))
        go_roundw
        case rel => exact ⟨_, k + 1, ms ++ [⟨mid, mto⟩], us6, doMove cur ⟨mid, mto⟩, rfl, by omega, hid ⟨HO8.out, by rw [List.length_append, HML.out]; rfl, by rw [HPL.out, HQ.out, plan_some' HNX.out, HQ2.out, List.append_assoc]; rfl, Below.grown HB7.out HG8.out (Nat.le_trans HBZ.out HB7.out.size) (fun q hq => Nat.le_trans HBZ.out (Own.lt HO7.out q hq).1)⟩, hid ⟨Own.same (EDB.ok _) HU7.out (HS8.out.mono (by rintro t (rfl | rfl | rfl) <;> decide)), HU.out.1, HU.out.2.1, HU.out.2.2, move_valid H2.out.2.2.2.2 HCM.out⟩⟩
        case measure =>
          obtain ⟨A8, c8, h8, _⟩ := HO8.out.form_app
          subst h8
          have := HML.out
          simp only [lenV]
          omega
    · have i1 : ¬ (k : Int) < (n : Int) := by omega
      have hkn : k = n := by omega
      have HKN := hid hkn
      clear hkn hlt
      go_wp2
      go_ret
      exact ⟨_, rfl, by have hz : n - k = 0 := (by have := HKN.out; omega); rw [HPL.out, hz, plan_zero, List.append_nil]; exact HM.out, HBW.out⟩

set_option maxHeartbeats 4000000 in
theorem iGatherPlan (rv v : Value) (room : List Int) (bs : List (List TaskD)) (most : Int) (a : Addr) (w : World) (hR : RI w rv room) (h : RB w v bs) (hfl : bs.flatten.length ≤ 4000000) (hid' : ∀ t ∈ bs.flatten, IdR t.id) (hga : w.cell? ⟨0, 0, none⟩ = some (errV a)) :
    Calls Tryd.prog 17 #[rv, v, .int .i64 most] w fun e w' => ∃ v', e = .returned v' ∧ OM w' w.heap.size v' (gatherPlan room bs most) ∧ Ext w w' := by
  have HB := hid h
  have HR := hid hR
  have HGA := hid hga
  clear hga
  by_cases h1 : binsOk room bs = true
  · have HV := hid h1
    have HRW := hid (bins_rows h1)
    by_cases h2 : inB most 0 20 = true
    · obtain ⟨n, rfl⟩ : ∃ n : Nat, most = (n : Int) := ⟨most.toNat, by simp only [inB, Bool.and_eq_true, decide_eq_true_eq] at h2; omega⟩
      have hn20 : n ≤ 20 := by simp only [inB, Bool.and_eq_true, decide_eq_true_eq] at h2; omega
      have HP : Hid (gatherPlan room bs (n : Int) = plan room n bs) := hid (by unfold gatherPlan; rw [h1, h2]; rfl)
      go_enter Tryd.func17, Tryd.ntmps17
      go_wp2_with (first
        | (go_at_call 28; refine (iBinsValid _ _ room bs _ hR h hfl hid').mono ?_; rintro e w1 ⟨rfl, hE1⟩; rw [h1]; have HE1 := hid hE1; clear hE1)
        | (go_at_call 52; refine (iWithin _ _ _ _).mono ?_; rintro e w2 ⟨rfl, n2, hw2⟩; rw [h2]; have HE2 : Hid (Ext w w2) := hid (by rw [hw2]; exact HE1.out.trans (Ext.drewN _ _)); clear hw2)
        | (go_at_call 54; refine (iCopyBinsD _ bs _ (RB.ext HB.out HE2.out) (by have := HRW.out.1; omega) HRW.out.2.2).mono ?_; rintro e w3 ⟨v3, us, rfl, hO3, hD3, hT3, hN3, hE3⟩; have HO3 := hid (ODB.low (base' := w.heap.size) hO3 HE2.out.size); have HD3 := hid hD3; have HT3 := hid hT3; have HN3 := hid hN3; have HE3 := hid (HE2.out.trans hE3); clear hO3 hD3 hT3 hN3 hE3)
        | (go_at_call 53; refine (iPlan _ _ room us bs n w.heap.size a w _ HR.out HE3.out (Nat.le_refl _) HO3.out HD3.out HT3.out HN3.out HV.out HGA.out HE3.out.size hn20).mono ?_; rintro e w4 ⟨v4, rfl, hO4, hB4⟩; have HO4 := hid (Own.low (base' := w.heap.size) hO4 HE3.out.size); have HB4 : Hid (Ext w w4) := hid (Below.trans HE3.out hB4); clear hO4 hB4))
      go_ret
      exact ⟨_, rfl, by rw [HP.out]; exact HO4.out, HB4.out⟩
    · have h2 : inB most 0 20 = false := by simpa using h2
      have HP : Hid (gatherPlan room bs most = []) := hid (by unfold gatherPlan; rw [h1, h2]; rfl)
      go_enter Tryd.func17, Tryd.ntmps17
      go_wp2_with (first
        | (go_at_call 28; refine (iBinsValid _ _ room bs _ hR h hfl hid').mono ?_; rintro e w1 ⟨rfl, hE1⟩; rw [h1]; have HE1 := hid hE1; clear hE1)
        | (go_at_call 52; refine (iWithin _ _ _ _).mono ?_; rintro e w2 ⟨rfl, n2, hw2⟩; rw [h2]; have HE2 : Hid (Ext w w2) := hid (by rw [hw2]; exact HE1.out.trans (Ext.drewN _ _)); clear hw2))
      go_ret
      exact ⟨_, rfl, by rw [HP.out]; exact Own.none_ _ _ _ _ _, HE2.out⟩
  · have h1 : binsOk room bs = false := by simpa using h1
    have HP : Hid (gatherPlan room bs most = []) := hid (by unfold gatherPlan; rw [h1]; rfl)
    go_enter Tryd.func17, Tryd.ntmps17
    go_wp2_with (go_at_call 28; refine (iBinsValid _ _ room bs _ hR h hfl hid').mono ?_; rintro e w1 ⟨rfl, hE1⟩; rw [h1]; have HE1 := hid hE1; clear hE1)
    go_ret
    exact ⟨_, rfl, by rw [HP.out]; exact Own.none_ _ _ _ _ _, HE1.out⟩

theorem iGatherNext (rv v : Value) (room : List Int) (bs : List (List TaskD)) (w : World) (hR : RI w rv room) (h : RB w v bs) (hfl : bs.flatten.length ≤ 4000000) (hid' : ∀ t ∈ bs.flatten, IdR t.id) (h1 : binsOk room bs = true) :
    Calls Tryd.prog 40 #[rv, v] w (RetNx w (nextMv room bs)) := by
  obtain ⟨W, hW⟩ : ∃ W, W = w.alloc (.cells #[.int .i64 0, .int .i64 0] 32) := ⟨_, rfl⟩
  have hEW : Ext w W := by rw [hW]; exact Ext.alloc _ _
  have hbx : W.heap[w.heap.size]? = some (.cells #[.int .i64 0, .int .i64 0] 32 (0, 0)) := by rw [hW]; exact heap_alloc_new _ _
  have HBX := hid hbx
  have HEW := hid hEW
  have HB := hid (RB.ext h hEW)
  have HR := hid (RI.ext hR hEW)
  obtain ⟨mid, mto, ok, hnv⟩ : ∃ mid mto ok, nxV (nextMv room bs) = .tuple #[.agg #[.int .i64 mid, .int .i64 mto], .bool ok] := by
    cases nextMv room bs with
    | none => exact ⟨0, 0, false, rfl⟩
    | some m => exact ⟨m.id, m.to, true, rfl⟩
  have HNV := hid hnv
  clear h hR hEW hbx hnv
  go_enter Tryd.func40, Tryd.ntmps40
  go_wp2_with (first
    | (go_at_call 28; rw [← hW]; refine (iBinsValid _ _ room bs _ HR.out HB.out hfl hid').mono ?_; rintro e w1 ⟨rfl, hE1⟩; rw [h1]; have HE1 := hid hE1; clear hE1 hW)
    | (go_at_call 79; refine (iNextMove _ _ room bs _ (RI.ext HR.out HE1.out) (RB.ext HB.out HE1.out) h1).mono ?_; unfold RetNx; rw [HNV.out]; rintro e w2 ⟨rfl, hE2⟩; have HE2 := hid (HE1.out.trans hE2); obtain ⟨y0, y1, y0f, y1f, k1, k1f, hkk, _⟩ := box2 (HE2.out.obj HBX.out) (.int .i64 mid) (.int .i64 mto); have r0 := obj_cell hkk (i := 0) rfl; have r1 := obj_cell hkk (i := 1) rfl; clear hE2 hkk))
  refine bodyPost_ret (v := .tuple #[.agg #[.int .i64 mid, .int .i64 mto], .bool ok]) (by simp [results, Tryd.results40, go_sem, r0, r1]) rfl ?_
  exact ⟨by rw [HNV.out], Below.setCell (Below.setCell (HEW.out.trans HE2.out) (Nat.le_refl _) _) (Nat.le_refl _) _⟩

end Go.Proofs.YtibpijjigopdjaaDoor
