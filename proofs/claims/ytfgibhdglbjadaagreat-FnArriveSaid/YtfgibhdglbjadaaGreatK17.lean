/- A number of a task is drawn. While a cluster and a task are drawn. -/
import Derived.Test.YtfgibhdglbjadaaGreatK9
import Derived.Test.YtfgibhdglbjadaaGreatK15
namespace Go.Proofs.YtfgibhdglbjadaaGreat
open Go.RowKit
set_option maxRecDepth 4000
set_option maxRecDepth 4000

set_option maxHeartbeats 4000000 in
theorem dId91 (b : Nat) (bv : Value) (bs : List Int) (p : Nat) (v : Value) (Bs : List (List TaskD)) (w : World) (h : Rd w b bv bs p) (hp : p ≤ 900000) (hv : RB w v Bs) (hl : Bs.flatten.length ≤ 900000) (hid' : ∀ t ∈ Bs.flatten, IdR t.id) :
    Calls Tryz.prog 130 #[.pointer (some ⟨b, 0, none⟩), v] w fun e w' => ∃ n : Int, e = .returned (.int .i64 n) ∧ IdR n ∧ DrawR w b bv bs p 2 w' := by
  have HR0 := hid h
  have HV := hid hv
  obtain ⟨ts, hts⟩ : ∃ ts, ts = Bs.flatten := ⟨_, rfl⟩
  have HT := hid hts
  have HID : Hid (∀ t ∈ ts, IdR t.id) := hid (by rw [hts]; exact hid')
  have hl2 : ts.length ≤ 900000 := by rw [hts]; exact hl
  have HLL : Hid (Bs.flatten.length ≤ 4000000) := hid (by omega)
  clear h hv hts hl hid'
  by_cases h0 : 0 < ts.length
  · have i0 : (0 : Int) < (ts.length : Int) := by omega
    go_enter Tryz.func130, Tryz.ntmps130
    go_wp2_with (first
      | (go_at_call 87; refine (dPick b bv bs _ _ _ HR2.out (by omega) (by omega)).mono ?_; rintro e w3 ⟨x3, rfl, ho3, hg3, hr3⟩; have hx3 := pick_lt ho3 (by omega); have hxl : x3 < ts.length := (by omega); have HT3 := hid (RT.same HT2.out (hg3.same HR2.out _ (by rintro t (rfl | rfl) <;> decide))); obtain ⟨A3, c3, hv3, _, _, hg⟩ := RT.get HT3.out; injection hv3 with e1 e2 e3; subst e1 e3; obtain ⟨bb, bo, y, Ay, cy, rfl, ey, cy1, cy2, _⟩ := hg x3 hxl; have i3 : (x3 : Int) < (ts.length : Int) := (by omega); have HD3 := hid (HD2.out.more hg3 hr3); clear hg3 hr3 ho3 hg hxl cy2)
      | (go_at_call 87; refine (dPick b bv bs _ _ _ HR2.out (by omega) (by omega)).mono ?_; rintro e w3 ⟨x3, rfl, ho3, hg3, hr3⟩; have hx3 := pick_lt ho3 (by decide); have HD3 := hid (HD2.out.more hg3 hr3); clear hg3 hr3 ho3)
      | (go_at_call 87; refine (dPick b bv bs _ _ _ HR1.out (by omega) (by omega)).mono ?_; rintro e w2 ⟨x2, rfl, ho2, hg2, hr2⟩; have hx2 := pick_lt ho2 (by decide); have HT2 := hid (RT.same HT1.out (hg2.same HR1.out _ (by rintro t (rfl | rfl) <;> decide))); have HD2 : Hid (DrawR w b bv bs p 1 w2) := hid ⟨HG1.out.trans hg2, _, Nat.le_refl _, hr2⟩; have HR2 := hid hr2; clear hg2 hr2 ho2)
      | (go_at_call 125; refine (sAll _ Bs _ HV.out HLL.out).mono ?_; rintro e w1 ⟨v1, rfl, hO1, hE1⟩; rw [← HT.out] at hO1; obtain ⟨A1, c1, rfl, _, _⟩ := hO1.form; have HT1 := hid hO1.read; have HR1 := hid (HR0.out.ext hE1); have HG1 := hid (Gr.of_ext (b := b) hE1); clear hO1 hE1))
    · go_ret
      exact ⟨_, rfl, HID.out _ (List.mem_of_getElem? ey.out), HD3.out⟩
    · go_ret
      exact ⟨_, rfl, by unfold IdR; omega, HD3.out⟩
  · have h0 : ts.length = 0 := by omega
    go_enter Tryz.func130, Tryz.ntmps130
    go_wp2_with (first
      | (go_at_call 87; refine (dPick b bv bs _ _ _ HR1.out (by omega) (by omega)).mono ?_; rintro e w3 ⟨x3, rfl, ho3, hg3, hr3⟩; have hx3 := pick_lt ho3 (by decide); have HD3 : Hid (DrawR w b bv bs p 2 w3) := hid ⟨HG1.out.trans hg3, _, by omega, hr3⟩; clear hg3 hr3 ho3)
      | (go_at_call 125; refine (sAll _ Bs _ HV.out HLL.out).mono ?_; rintro e w1 ⟨v1, rfl, hO1, hE1⟩; rw [← HT.out] at hO1; obtain ⟨A1, c1, rfl, _, _⟩ := hO1.form; rw [h0]; have HR1 := hid (HR0.out.ext hE1); have HG1 := hid (Gr.of_ext (b := b) hE1); clear hO1 hE1))
    go_ret
    exact ⟨_, rfl, by unfold IdR; omega, HD3.out⟩

set_option maxHeartbeats 2000000 in
theorem dId92 (b : Nat) (bv : Value) (bs : List Int) (p : Nat) (cv : Value) (C : ClusD) (w : World) (h : Rd w b bv bs p) (hp : p ≤ 900000) (hc : ClusV w cv C) (hS : SmallC C) :
    Calls Tryz.prog 75 #[.pointer (some ⟨b, 0, none⟩), cv] w fun e w' => ∃ n : Int, e = .returned (.int .i64 n) ∧ IdR n ∧ DrawR w b bv bs p 2 w' := by
  have hc0 := hc
  obtain ⟨rv, uv, rfl, hr, hu⟩ := hc
  obtain ⟨Ar, cr, rfl, _⟩ := hr
  obtain ⟨Au, cu, rfl, _⟩ := hu
  obtain ⟨W, hW⟩ : ∃ W, W = w.alloc (.cells #[.slice Ar C.room.length cr, .slice Au C.units.length cu] 26) := ⟨_, rfl⟩
  have hE : Ext w W := by rw [hW]; exact Ext.alloc _ _
  have hx : W.heap[w.heap.size]? = some (.cells #[.slice Ar C.room.length cr, .slice Au C.units.length cu] 26 (0, 0)) := by rw [hW]; exact heap_alloc_new _ _
  have c0 := obj_cell hx (i := 0) rfl
  have c1 := obj_cell hx (i := 1) rfl
  have HR0 := hid (h.ext hE)
  have HC := hid (hc0.ext hE)
  have HE := hid hE
  have HS := hid hS
  have hfl : (C.units.map (·.tasks)).flatten.length ≤ 900000 := by
    have h1 := flatten_le C.units (fun u hu => (hS.tasks u hu).1)
    have h2 : C.units.length * 902 ≤ 10 * 902 := Nat.mul_le_mul_right _ hS.units
    omega
  clear h hc0 hE hx hS
  go_enter Tryz.func75, Tryz.ntmps75
  go_wp2_with (first
    | (go_at_call 130; refine (dId91 b bv bs p _ _ _ (HR0.out.ext HE1.out) hp HB1.out hfl HS.out.ids).mono ?_; rintro e w2 ⟨n, rfl, hn, hd⟩; have HD := hid hd; have HN := hid hn; clear hd hn)
    | (go_at_call 65; rw [← hW]; refine (sBins21 _ C _ HC.out HS.out.len).mono ?_; rintro e w1 ⟨v1, rfl, hO1, hE1⟩; have HB1 := hid hO1.read; have HE1 := hid hE1; clear hO1 hE1 hW))
  go_ret
  exact ⟨n, rfl, HN.out, (Gr.of_ext (HE.out.trans HE1.out)).trans HD.out.1, HD.out.2⟩

/-- a cluster, all of whose blocks lie behind base, where only blocks ahead of base have turned -/
theorem OCl.far {w w' : World} {base base' : Nat} {cv : Value} {C : ClusD} (h : OCl w base cv C) (hb : ∀ k, base ≤ k → k < w.heap.size → w'.heap[k]? = w.heap[k]?) (hs : SameT (fun t => t = 3) w w') (hle : base' ≤ base) : OCl w' base' cv C := by
  obtain ⟨rv, uv, ps, h1, h2, h3, h4, h5⟩ := h
  exact ⟨rv, uv, ps, h1, RI.same h2 hs, OUV.low (OUV.far h3 (fun k hk => hb k (Own.lt h3 k hk).1 (Own.lt h3 k hk).2) (fun g hg => hb g (OUV.lt h3 g hg).1 (OUV.lt h3 g hg).2) hs) hle, h4, h5⟩

/-- while a task is drawn behind a cluster: the cluster lies in block H, the task in block G; the results' blocks are still zero -/
structure LA (w w2 : World) (b : Nat) (bv : Value) (bs : List Int) (p K H G : Nat) (wr : World) (rv uv nv : Value) (id : Int) (need : List Int) : Prop where
  low : b < w2.heap.size ∧ (0 < bs.length → ∀ b' o n c, bv = .slice (some ⟨b', o, none⟩) n c → b' < w2.heap.size)
  lb : w.heap.size + 1 < b
  l2 : w2.heap.size ≤ H
  xb : wr.heap[H]? = some (.cells #[rv, uv] 26 (0, 0))
  xg : wr.heap[G]? = some (.cells #[.int .i64 id, nv] 34 (0, 0))
  lg : w2.heap.size ≤ G
  z0 : wr.heap[w.heap.size]? = some (.cells #[.slice none 0 0, .slice none 0 0] 26 (0, 0))
  z1 : wr.heap[w.heap.size + 1]? = some (.cells #[.int .i64 0, .slice none 0 0] 34 (0, 0))
  sm : SameT (fun t => t ≠ 110) w2 wr
  on : OI wr w2.heap.size nv need
  bel : Ext w wr
  drw : DrawR w2 b bv bs p K wr
section
variable {w w2 wr w' : World} {b p K K' H G : Nat} {bv rv uv nv : Value} {bs need : List Int} {id : Int}
theorem LA.cells (h : LA w w2 b bv bs p K H G wr rv uv nv id need) : wr.cell? ⟨H, 0, none⟩ = some rv ∧ wr.cell? ⟨H, 1, none⟩ = some uv ∧ wr.cell? ⟨G, 0, none⟩ = some (.int .i64 id) ∧ wr.cell? ⟨G, 1, none⟩ = some nv ∧ wr.frozen? ⟨G, 0, none⟩ = false ∧ wr.frozen? ⟨G, 1, none⟩ = false := ⟨obj_cell h.xb (i := 0) rfl, obj_cell h.xb (i := 1) rfl, obj_cell h.xg (i := 0) rfl, obj_cell h.xg (i := 1) rfl, obj_frozen h.xg 0, obj_frozen h.xg 1⟩
theorem LA.mono (h : LA w w2 b bv bs p K H G wr rv uv nv id need) (hk : K ≤ K') : LA w w2 b bv bs p K' H G wr rv uv nv id need := ⟨h.low, h.lb, h.l2, h.xb, h.xg, h.lg, h.z0, h.z1, h.sm, h.on, h.bel, h.drw.mono hk⟩
theorem LA.ext (h : LA w w2 b bv bs p K H G wr rv uv nv id need) (ha : Ext wr w') : LA w w2 b bv bs p K H G w' rv uv nv id need :=
  ⟨h.low, h.lb, h.l2, ha.obj h.xb, ha.obj h.xg, h.lg, ha.obj h.z0, ha.obj h.z1, h.sm.trans (ha.same _), h.on.ext EI.ok ha, h.bel.trans ha, h.drw.ext ha⟩
theorem LA.draw (h : LA w w2 b bv bs p K H G wr rv uv nv id need) {p1 : Nat} (hp1 : p1 ≤ p + K) (hr : Rd wr b bv bs p1) (k : DrawR wr b bv bs p1 K' w') : LA w w2 b bv bs p (K + K') H G w' rv uv nv id need := by
  have hl := h.low.1
  have hlb := h.lb
  have h2 := h.l2
  have hg := h.lg
  exact ⟨h.low, h.lb, h.l2, k.1.obj h.xb (by omega), k.1.obj h.xg (by omega), h.lg, k.1.obj h.z0 (by omega), k.1.obj h.z1 (by omega), h.sm.trans (k.1.same hr _ (fun t ht => ht)), Own.same EI.ok h.on (k.1.same hr _ notRd), Below.trans h.bel (k.1.below (by omega) h.bel.size), DrawR.then h.drw.1 hp1 k⟩
theorem LA.pick (h : LA w w2 b bv bs p K H G wr rv uv nv id need) (hp : p + K ≤ 1000000) (n : Int) (hn : n ≤ 1000000) :
    Calls Tryz.prog 87 #[.pointer (some ⟨b, 0, none⟩), .int .i64 n] wr fun e w' => ∃ x : Nat, e = .returned (.int .i64 x) ∧ ((x : Int) < n ∨ x = 0) ∧ LA w w2 b bv bs p (K + 1) H G w' rv uv nv id need := by
  obtain ⟨hg, p', hp', hr⟩ := h.drw
  refine (dPick b bv bs p' n wr hr (by omega) hn).mono ?_
  rintro e w' ⟨x, rfl, hx, hg', hr'⟩
  exact ⟨x, rfl, hx, h.draw hp' hr ⟨hg', p' + 1, Nat.le_refl _, hr'⟩⟩
/-- its number is stored -/
theorem LA.setId (h : LA w w2 b bv bs p K H G wr rv uv nv id need) (id' : Int) : LA w w2 b bv bs p K H G (wr.setCell ⟨G, 0, none⟩ (.int .i64 id')) rv uv nv id' need := by
  have hl := h.low.1
  have hlb := h.lb
  have h2 := h.l2
  have hg := h.lg
  have hHG : H ≠ G := fun e => by
    have h1 := h.xb
    rw [e, h.xg] at h1
    injection h1 with h1
    injection h1 with _ h2 _
    revert h2
    decide
  have hs : SameT (fun t => t = 3 ∨ False) wr (wr.setCell ⟨G, 0, none⟩ (.int .i64 id')) := SameT.setCell (p := ⟨G, 0, none⟩) h.xg _ (by rintro t (rfl | ht) <;> first | decide | exact ht.elim)
  exact ⟨h.low, h.lb, h.l2, obj_far h.xb hHG _, by rw [obj_set h.xg 0]; rfl, h.lg, obj_far h.z0 (by show w.heap.size ≠ G; omega) _, obj_far h.z1 (by show w.heap.size + 1 ≠ G; omega) _,
    fun k cur t fr ht hk => (Below.heap_setCell _ _ _ _ (by have := obj_lt hk; show k ≠ G; omega)).trans (h.sm k cur t fr ht hk), Own.same EI.ok h.on hs, Below.setCell h.bel (by show w.heap.size ≤ G; omega) _, h.drw.stored hg h.low.1 h.low.2 _⟩
/-- a number of its need is stored -/
theorem LA.setNeed {g n c : Nat} (h : LA w w2 b bv bs p K H G wr rv uv (.slice (some ⟨g, 0, none⟩) n c) id need) {j : Nat} (hj : j < need.length) (y : Int) : LA w w2 b bv bs p K H G (wr.setCell ⟨g, j, none⟩ (.int .i64 y)) rv uv (.slice (some ⟨g, 0, none⟩) n c) id (need.set j y) := by
  have hl := h.low.1
  have hlb := h.lb
  have hg2 : w2.heap.size ≤ g := (h.on.lt g rfl).1
  obtain ⟨cur, hcur⟩ := h.on.type_ (a := g) rfl
  have hne : ∀ {k : Nat} {cs : Array Value} {t : TypeId}, t ≠ 3 → wr.heap[k]? = some (.cells cs t (0, 0)) → k ≠ g := fun ht hk e => by
    rw [e, hcur] at hk
    injection hk with hk
    injection hk with _ h2 _
    exact ht h2.symm
  exact ⟨h.low, h.lb, h.l2, obj_far h.xb (hne (by decide) h.xb) _, obj_far h.xg (hne (by decide) h.xg) _, h.lg, obj_far h.z0 (hne (by decide) h.z0) _, obj_far h.z1 (hne (by decide) h.z1) _,
    fun k cur t fr ht hk => (Below.heap_setCell _ _ _ _ (by have := obj_lt hk; show k ≠ g; omega)).trans (h.sm k cur t fr ht hk), (OI.set h.on hj y).1, Below.setCell h.bel (by show w.heap.size ≤ g; omega) _, h.drw.stored hg2 h.low.1 h.low.2 _⟩
end

end Go.Proofs.YtfgibhdglbjadaaGreat

/- A cluster and the number of a task are drawn. -/
namespace Go.Proofs.YtfgibhdglbjadaaGreat
open Go.RowKit
set_option maxRecDepth 4000

/-- what the draw leaves -/
def DrawnD (w : World) (e : Ending) (w' : World) : Prop := ∃ (cv : Value) (C : ClusD) (id : Int), e = .returned (.tuple #[cv, .int .i64 id]) ∧ OCl w' w.heap.size cv C ∧ SmallC C ∧ IdR id ∧ Ext w w'
set_option maxHeartbeats 4000000 in
theorem dDrawDepart (v : Value) (bs : List Int) (w : World) (h : XBy w v bs) (hl : bs.length ≤ 4000000) :
    Calls Tryz.prog 32 #[v] w (DrawnD w) := by
  have HW := hid (Ext.alloc w (.cells #[.slice none 0 0, .slice none 0 0] 26))
  have HB := hid (h.ext (Ext.alloc w (.cells #[.slice none 0 0, .slice none 0 0] 26)))
  have Z0 := hid (heap_alloc_new w (.cells #[.slice none 0 0, .slice none 0 0] 26))
  clear h
  go_enter Tryz.func32, Tryz.ntmps32
  go_wp2_with (first
    | (go_at_call 48; refine (dOpen _ bs _ HB.out hl).mono ?_; rintro e w1 ⟨rfl, ⟨bv, bs', hr1⟩, hE1⟩; have HR1 := hid hr1; have HE1 := hid (HW.out.trans hE1); have Z1 := hid (hE1.obj Z0.out); obtain ⟨b, hb⟩ : ∃ b, b = (w.alloc (.cells #[.slice none 0 0, .slice none 0 0] 26)).heap.size := ⟨_, rfl⟩; have hbw : w.heap.size < b := (by rw [hb]; simp); rw [← hb] at HR1 ⊢; clear hb hr1 hE1)
    | (go_at_call 49; refine (dCluster b bv bs' 0 _ HR1.out (by omega)).mono ?_; rintro e w2 ⟨cv, C, rfl, hO2, hS2, hD2⟩; have HSC := hid hS2; obtain ⟨Ar, cr, Au, cu, rfl⟩ := hO2.form; have Z2 := hid (hD2.1.obj Z1.out (by omega)); have HB2 : Hid (Ext w w2) := hid (Below.trans HE1.out (hD2.1.below (Nat.le_of_lt hbw) HE1.out.size)); have HO2 := hid (hO2.low HE1.out.size); have HD2 := hid hD2; obtain ⟨y0, y1, y0f, y1f, k1, k1f, hkk, _⟩ := box2 (heap_alloc_new w2 (.cells #[.slice none 0 0, .slice none 0 0] 26)) (.slice Ar C.room.length cr) (.slice Au C.units.length cu); clear hkk hO2 hS2 hD2))
  obtain ⟨W3, hW3⟩ : ∃ W3, W3 = w2.alloc (.cells #[.slice Ar C.room.length cr, .slice Au C.units.length cu] 26) := ⟨_, rfl⟩
  have hE3 : Ext w2 W3 := by rw [hW3]; exact Ext.alloc _ _
  have hX3 : W3.heap[w2.heap.size]? = some (.cells #[.slice Ar C.room.length cr, .slice Au C.units.length cu] 26 (0, 0)) := by rw [hW3]; exact heap_alloc_new _ _
  rw [← hW3]
  clear hW3 y0 y1 y0f y1f k1 k1f
  have X3 := hid hX3
  have Z3 := hid (hE3.obj Z2.out)
  have HO3 := hid (HO2.out.ext hE3)
  have HB3 := hid (HB2.out.trans hE3)
  have HD3 := hid (HD2.out.ext hE3)
  obtain ⟨H, hH⟩ : ∃ H, H = w2.heap.size := ⟨_, rfl⟩
  have hHw : w.heap.size < H := by rw [hH]; exact obj_lt Z2.out
  have hHb : b < H := by rw [hH]; obtain ⟨_, _, _, hr⟩ := HD2.out; exact obj_lt hr.1
  rw [← hH] at X3 ⊢
  clear hX3 hE3 hH
  have KS3 := hid (And.intro (obj_cell X3.out (i := 0) rfl) (obj_cell X3.out (i := 1) rfl))
  refine WG.start (fun w' => w'.cell? ⟨H, 0, none⟩ = some (.slice Ar C.room.length cr) ∧ w'.cell? ⟨H, 1, none⟩ = some (.slice Au C.units.length cu)) [4,5] (by kernel_rfl) (by exact KS3.out) (fun hHeld => ?_)
  (refine WG.take (i := 0) (v := ?_) rfl (by kernel_rfl) (by kernel_rfl) (by kernel_rfl) (by kernel_rfl) (fun _ _ _ h => h) (Or.inl ⟨by rfl, ?_⟩) (by assumption) ?_; rotate_left; (intro w hSw; (try dsimp only at hSw); go_split_ands; go_simp; (try with_reducible rfl)); (try simp only [Act.put, List.setIfInBounds_toArray, List.set_cons_zero, List.set_cons_succ]))
  (refine WG.take (i := 1) (v := ?_) rfl (by kernel_rfl) (by kernel_rfl) (by kernel_rfl) (by kernel_rfl) (fun _ _ _ h => h) (Or.inl ⟨by rfl, ?_⟩) (by assumption) ?_; rotate_left; (intro w hSw; (try dsimp only at hSw); go_split_ands; go_simp; (try with_reducible rfl)); (try simp only [Act.put, List.setIfInBounds_toArray, List.set_cons_zero, List.set_cons_succ]))
  (refine WG.take (i := 2) (v := ?_) rfl (by kernel_rfl) (by kernel_rfl) (by kernel_rfl) (by kernel_rfl) (fun _ _ _ h => h) (Or.inl ⟨by rfl, ?_⟩) (by assumption) ?_; rotate_left; (intro w hSw; (try dsimp only at hSw); go_split_ands; go_simp; (try with_reducible rfl)); (try simp only [Act.put, List.setIfInBounds_toArray, List.set_cons_zero, List.set_cons_succ]))
  refine WG.one (i := 3) rfl (by kernel_rfl) (fun K hK => ?_)
  go_simp; obtain ⟨hg3, p3, hp3, hr3⟩ := HD3.out; have hr3 := hr3.ext (Below.drew (Below.refl _ _)); refine (dId92 b bv bs' p3 _ C _ hr3 (by omega) (HO3.out.read.ext (Below.drew (Below.refl _ _))) HSC.out).mono ?_; rintro e w4 ⟨n, rfl, hN, hD4⟩; have X4 := hid (hD4.1.obj (k := H) X3.out (by omega)); have Z4 := hid (hD4.1.obj (k := w.heap.size) Z3.out (by omega)); have HO4 := hid (OCl.same (w := W3.drew) (HO3.out.ext (Below.drew (Below.refl _ _))) (hD4.1.same hr3 _ notRd3)); have HB4 : Hid (Ext w w4) := hid (Below.trans (HB3.out.trans (Below.drew (Below.refl _ _))) (hD4.1.below (Nat.le_of_lt hbw) HB3.out.size)); have HN := hid hN; clear hg3 hp3 hr3 hN hD4; (try dsimp only)
  refine hK.out _ _ (by exact (And.intro (obj_cell X4.out (i := 0) rfl) (obj_cell X4.out (i := 1) rfl))) (fun hHeld => ?_)
  clear hK K
  (try simp only [Act.put, List.setIfInBounds_toArray, List.set_cons_zero, List.set_cons_succ])
  obtain ⟨y0, y1, y0f, y1f, k1, k1f, hkk, hsm⟩ := box2 Z4.out (.slice Ar C.room.length cr) (.slice Au C.units.length cu)
  have r0 := obj_cell hkk (i := 0) rfl
  have r1 := obj_cell hkk (i := 1) rfl
  have HSM := hid hsm
  clear hkk hsm
  refine WG.last (i := 4) rfl (by kernel_rfl) (by kernel_rfl) (fun K hK => ?_)
  go_simp
  refine hK.out _ _ ?_
  clear hK K
  (try simp only [Act.put, List.setIfInBounds_toArray, List.set_cons_zero, List.set_cons_succ])
  refine WG.last (i := 5) rfl (by kernel_rfl) (by kernel_rfl) (fun K hK => ?_)
  go_simp
  refine hK.out _ _ ?_
  clear hK K
  (try simp only [Act.put, List.setIfInBounds_toArray, List.set_cons_zero, List.set_cons_succ])
  refine WG.done (by kernel_rfl) ?_
  go_wp2
  refine bodyPost_ret (v := .tuple #[.agg #[.slice Ar C.room.length cr, .slice Au C.units.length cu], .int .i64 n]) (by simp [results, Tryz.results32, go_sem, r0, r1]) rfl ?_
  exact ⟨_, _, _, rfl, HO4.out.same (HSM.out _ notClu), HSC.out, HN.out, Below.setCell (Below.setCell HB4.out (Nat.le_refl _) _) (Nat.le_refl _) _⟩

end Go.Proofs.YtfgibhdglbjadaaGreat

/- A cluster, a task and a grant are drawn. -/
namespace Go.Proofs.YtfgibhdglbjadaaGreat
open Go.RowKit
set_option maxRecDepth 4000

/-- what the draw leaves -/
def DrawnA (w : World) (e : Ending) (w' : World) : Prop := ∃ (cv : Value) (C : ClusD) (id : Int) (nv : Value) (need : List Int) (g : Bool), e = .returned (.tuple #[cv, .agg #[.int .i64 id, nv], .bool g]) ∧ OCl w' w.heap.size cv C ∧ SmallC C ∧ OI w' w.heap.size nv need ∧ need.length = 3 ∧ IdR id ∧ Ext w w'
set_option maxHeartbeats 8000000 in
theorem dDrawArrive (v : Value) (bs : List Int) (w : World) (h : XBy w v bs) (hl : bs.length ≤ 4000000) :
    Calls Tryz.prog 38 #[v] w (DrawnA w) := by
  obtain ⟨W0, hW0⟩ : ∃ W0, W0 = (w.alloc (.cells #[.slice none 0 0, .slice none 0 0] 26)).alloc (.cells #[.int .i64 0, .slice none 0 0] 34) := ⟨_, rfl⟩
  have hE0 : Ext w W0 := by rw [hW0]; exact (Ext.alloc _ _).trans (Ext.alloc _ _)
  have hz0 : W0.heap[w.heap.size]? = some (.cells #[.slice none 0 0, .slice none 0 0] 26 (0, 0)) := by rw [hW0]; exact (Ext.alloc _ _).obj (heap_alloc_new _ _)
  have hz1 : W0.heap[w.heap.size + 1]? = some (.cells #[.int .i64 0, .slice none 0 0] 34 (0, 0)) := by rw [hW0]; exact heap_new (by simp)
  have hbw0 : w.heap.size + 1 < W0.heap.size := obj_lt hz1
  have HW := hid hE0
  have HB := hid (h.ext hE0)
  have Z0 := hid hz0
  have Y0 := hid hz1
  clear h hE0 hz0 hz1
  go_enter Tryz.func38, Tryz.ntmps38
  go_wp2_with (first
    | (go_at_call 48; rw [← hW0]; refine (dOpen _ bs _ HB.out hl).mono ?_; rintro e w1 ⟨rfl, ⟨bv, bs', hr1⟩, hE1⟩; have HR1 := hid hr1; have HE1 := hid (HW.out.trans hE1); have Z1 := hid (hE1.obj Z0.out); have Y1 := hid (hE1.obj Y0.out); obtain ⟨b, hb⟩ : ∃ b, b = W0.heap.size := ⟨_, rfl⟩; have hbw : w.heap.size + 1 < b := (by rw [hb]; exact hbw0); rw [← hb] at HR1 ⊢; clear hb hr1 hE1 hW0 hbw0)
    | (go_at_call 49; refine (dCluster b bv bs' 0 _ HR1.out (by omega)).mono ?_; rintro e w2 ⟨cv, C, rfl, hO2, hS2, hD2⟩; have HSC := hid hS2; obtain ⟨Ar, cr, Au, cu, rfl⟩ := hO2.form; have Z2 := hid (hD2.1.obj Z1.out (by omega)); have Y2 := hid (hD2.1.obj Y1.out (by omega)); have HB2 : Hid (Ext w w2) := hid (Below.trans HE1.out (hD2.1.below (by omega) HE1.out.size)); have HO2 := hid hO2; obtain ⟨_, p2, hp2, hr2⟩ := hD2; have HR2 := hid hr2; obtain ⟨y0, y1, y0f, y1f, k1, k1f, hkk, _⟩ := box2 (heap_alloc_new w2 (.cells #[.slice none 0 0, .slice none 0 0] 26)) (.slice Ar C.room.length cr) (.slice Au C.units.length cu); clear hkk hO2 hS2 hr2))
  obtain ⟨W3, hW3⟩ : ∃ W3, W3 = w2.alloc (.cells #[.slice Ar C.room.length cr, .slice Au C.units.length cu] 26) := ⟨_, rfl⟩
  have hE3 : Ext w2 W3 := by rw [hW3]; exact Ext.alloc _ _
  have hX3 : W3.heap[w2.heap.size]? = some (.cells #[.slice Ar C.room.length cr, .slice Au C.units.length cu] 26 (0, 0)) := by rw [hW3]; exact heap_alloc_new _ _
  rw [← hW3]
  clear hW3 y0 y1 y0f y1f k1 k1f
  have X3 := hid hX3
  have HE3 := hid hE3
  have hlow := HR2.out.low
  obtain ⟨H, hH⟩ : ∃ H, H = w2.heap.size := ⟨_, rfl⟩
  have hHH := hid hH
  have hbH : b < H := by rw [hH]; exact hlow.1
  rw [← hH] at X3 ⊢
  clear hX3 hE3 hH hlow
  have cX0 := obj_cell X3.out (i := 0) rfl
  have cX1 := obj_cell X3.out (i := 1) rfl
  go_wp2_with (first
    | (go_at_call 75; obtain ⟨_, p', hp', hr'⟩ := HL7.out.drw; refine (dId92 b bv bs' p' _ C _ hr' (by omega) (OCl.same HO2.out (HL7.out.sm.mono notRd3)).read HSC.out).mono ?_; rintro e w8 ⟨n8, rfl, hn8, hd8⟩; have hl8 := LA.draw HL7.out hp' hr' hd8; have HL8 := hid hl8; have HN8 := hid hn8; obtain ⟨l0, l1, l2, l3, l4, l5⟩ := hl8.cells; clear hl8 hn8 hd8 hr' hp')
    | (go_at_call 87; refine (LA.pick HL6.out (by omega) _ (by omega)).mono ?_; rintro e w7 ⟨x7, rfl, hx, hl7⟩; have HL7 := hid hl7; have hx7 := pick_lt hx (by decide); obtain ⟨l0, l1, l2, l3, l4, l5⟩ := hl7.cells; clear hl7 hx)
    | (go_at_call 86; refine (dTask b bv bs' (p2 + 1) _ _ HR4.out (by omega)).mono ?_; rintro e w5 ⟨v5, xs, rfl, hO5, hl5, _, hD5⟩; obtain ⟨An, cn, rfl, _⟩ := hO5.form; have hlow := HR2.out.low; have hg3 : Gr b w2 w4 := (Gr.of_ext HE3.out).trans HG4.out; have hs3 : SameT (fun t => t ≠ 110) w2 w4 := (HE3.out.same _).trans (HG4.out.same HRI.out _ (fun t ht => ht)); have hx6 := Ext.alloc w5 (.cells #[.int .i64 (15 + (x4 : Int)), .slice An xs.length cn] 34); have hz2 : w2.heap.size ≤ w4.heap.size := hg3.size; have hz5 : w2.heap.size ≤ w5.heap.size := Nat.le_trans hz2 hD5.1.size; have HLN := hid hl5; have HL6 : Hid (LA w w2 b bv bs' p2 7 H w5.heap.size (w5.alloc (.cells #[.int .i64 (15 + (x4 : Int)), .slice An xs.length cn] 34)) (.slice Ar C.room.length cr) (.slice Au C.units.length cu) (.slice An xs.length cn) (15 + (x4 : Int)) xs) := hid ⟨⟨hlow.1, hlow.2⟩, hbw, Nat.le_of_eq hHH.out.symm, hx6.obj (hD5.1.obj (HG4.out.obj X3.out (by omega)) (by omega)), heap_alloc_new _ _, hz5, hx6.obj (hD5.1.obj (hg3.obj Z2.out (by omega)) (by omega)), hx6.obj (hD5.1.obj (hg3.obj Y2.out (by omega)) (by omega)), (hs3.trans (hD5.1.same HR4.out _ (fun t ht => ht))).trans (hx6.same _), (hO5.low hz2).ext EI.ok hx6, Below.trans (Below.trans (Below.trans HB2.out (hg3.below (by omega) HB2.out.size)) (hD5.1.below (by omega) (Nat.le_trans HB2.out.size hz2))) (hx6.mono (Nat.le_trans HB2.out.size hz5)), ((DrawR.then (w := w2) hg3 (Nat.le_refl (p2 + 1)) hD5).ext hx6)⟩; obtain ⟨y0, y1, y0f, y1f, k1, k1f, hkk, _⟩ := box2 (heap_alloc_new w5 (.cells #[.int .i64 0, .slice none 0 0] 34)) (.int .i64 (15 + (x4 : Int))) (.slice An xs.length cn); have wid : IntKind.i64.wrap (15 + (x4 : Int)) = 15 + (x4 : Int) := IntWalk.i64_in _ (by omega); obtain ⟨l0, l1, l2, l3, l4, l5⟩ := HL6.out.cells; clear hkk hO5 hl5 hD5 hg3 hs3 hx6 hz2 hz5 hlow)
    | (go_at_call 87; have hr := HR2.out.ext HE3.out; refine (dPick b bv bs' p2 _ _ hr (by omega) (by omega)).mono ?_; rintro e w4 ⟨x4, rfl, hx, hg4, hr4⟩; have HG4 := hid hg4; have HR4 := hid hr4; have HRI := hid hr; have hx4 := pick_lt hx (by decide); clear hr hg4 hr4 hx))
  · obtain ⟨V, hV⟩ : ∃ V, V = w8.setCell ⟨w5.heap.size, 0, none⟩ (.int .i64 n8) := ⟨_, rfl⟩
    have HLV : Hid (LA w w2 b bv bs' p2 (7 + 1 + 2) H w5.heap.size V (.slice Ar C.room.length cr) (.slice Au C.units.length cu) (.slice An xs.length cn) (n8) (xs)) := hid (by rw [hV]; exact LA.setId HL8.out n8)
    rw [← hV]
    clear hV l0 l1 l2 l3 l4 l5
    have KS := hid (And.intro HLV.out.cells.1 (And.intro HLV.out.cells.2.1 (And.intro HLV.out.cells.2.2.1 HLV.out.cells.2.2.2.1)))
    refine WG.start (fun w' => w'.cell? ⟨H, 0, none⟩ = some (.slice Ar C.room.length cr) ∧ w'.cell? ⟨H, 1, none⟩ = some (.slice Au C.units.length cu) ∧ w'.cell? ⟨w5.heap.size, 0, none⟩ = some (.int .i64 (n8)) ∧ w'.cell? ⟨w5.heap.size, 1, none⟩ = some (.slice An xs.length cn)) [7] (by kernel_rfl) (by exact KS.out) (fun hHeld => ?_)
    (refine WG.take (i := 0) (v := ?_) rfl (by kernel_rfl) (by kernel_rfl) (by kernel_rfl) (by kernel_rfl) (fun _ _ _ h => h) (Or.inl ⟨by rfl, ?_⟩) (by assumption) ?_; rotate_left; (intro w hSw; (try dsimp only at hSw); go_split_ands; go_simp; (try with_reducible rfl)); (try simp only [Act.put, List.setIfInBounds_toArray, List.set_cons_zero, List.set_cons_succ]))
    (refine WG.take (i := 1) (v := ?_) rfl (by kernel_rfl) (by kernel_rfl) (by kernel_rfl) (by kernel_rfl) (fun _ _ _ h => h) (Or.inl ⟨by rfl, ?_⟩) (by assumption) ?_; rotate_left; (intro w hSw; (try dsimp only at hSw); go_split_ands; go_simp; (try with_reducible rfl)); (try simp only [Act.put, List.setIfInBounds_toArray, List.set_cons_zero, List.set_cons_succ]))
    (refine WG.take (i := 2) (v := ?_) rfl (by kernel_rfl) (by kernel_rfl) (by kernel_rfl) (by kernel_rfl) (fun _ _ _ h => h) (Or.inl ⟨by rfl, ?_⟩) (by assumption) ?_; rotate_left; (intro w hSw; (try dsimp only at hSw); go_split_ands; go_simp; (try with_reducible rfl)); (try simp only [Act.put, List.setIfInBounds_toArray, List.set_cons_zero, List.set_cons_succ]))
    refine WG.one (i := 3) rfl (by kernel_rfl) (fun K hK => ?_)
    go_simp; refine (LA.pick (LA.ext HLV.out (Below.drew (Below.refl _ _))) (by omega) _ (by omega)).mono ?_; rintro e w9 ⟨x9, rfl, hx, hl9⟩; have HL9 := hid hl9; clear hl9 hx; (try dsimp only)
    refine hK.out _ _ (by exact (And.intro HL9.out.cells.1 (And.intro HL9.out.cells.2.1 (And.intro HL9.out.cells.2.2.1 HL9.out.cells.2.2.2.1)))) (fun hHeld => ?_)
    clear hK K
    (try simp only [Act.put, List.setIfInBounds_toArray, List.set_cons_zero, List.set_cons_succ])
    (refine WG.take (i := 4) (v := ?_) rfl (by kernel_rfl) (by kernel_rfl) (by kernel_rfl) (by kernel_rfl) (fun _ _ _ h => h) (Or.inl ⟨by rfl, ?_⟩) (by assumption) ?_; rotate_left; (intro w hSw; (try dsimp only at hSw); go_split_ands; go_simp; (try with_reducible rfl)); (try simp only [Act.put, List.setIfInBounds_toArray, List.set_cons_zero, List.set_cons_succ]))
    obtain ⟨y0, y1, y0f, y1f, k1, k1f, hkk, hsm⟩ := box2 HL9.out.z0 (.slice Ar C.room.length cr) (.slice Au C.units.length cu)
    have hH9 : w.heap.size ≠ H := by have := HL9.out.l2; have := HB2.out.size; omega
    have hG9 : w.heap.size ≠ w5.heap.size ∧ w.heap.size + 1 ≠ w5.heap.size ∧ w.heap.size + 1 ≠ H := by have := HL9.out.lg; have := HL9.out.l2; have := HL9.out.lb; have := HL9.out.low.1; omega
    have hXB : ((w9.setCell ⟨w.heap.size, 0, none⟩ (.slice Ar C.room.length cr)).setCell ⟨w.heap.size, 1, none⟩ (.slice Au C.units.length cu)).heap[H]? = _ := obj_far (p := ⟨w.heap.size, 1, none⟩) (obj_far (p := ⟨w.heap.size, 0, none⟩) HL9.out.xb (Ne.symm hH9) _) (Ne.symm hH9) _
    have hXG : ((w9.setCell ⟨w.heap.size, 0, none⟩ (.slice Ar C.room.length cr)).setCell ⟨w.heap.size, 1, none⟩ (.slice Au C.units.length cu)).heap[w5.heap.size]? = _ := obj_far (p := ⟨w.heap.size, 1, none⟩) (obj_far (p := ⟨w.heap.size, 0, none⟩) HL9.out.xg (Ne.symm hG9.1) _) (Ne.symm hG9.1) _
    have hYZ : ((w9.setCell ⟨w.heap.size, 0, none⟩ (.slice Ar C.room.length cr)).setCell ⟨w.heap.size, 1, none⟩ (.slice Au C.units.length cu)).heap[w.heap.size + 1]? = _ := obj_far (p := ⟨w.heap.size, 1, none⟩) (obj_far (p := ⟨w.heap.size, 0, none⟩) HL9.out.z1 (by show w.heap.size + 1 ≠ w.heap.size; omega) _) (by show w.heap.size + 1 ≠ w.heap.size; omega) _
    have HXB := hid hXB
    have HXG := hid hXG
    have HYZ := hid hYZ
    have HKK := hid hkk
    have HSM := hid hsm
    clear hkk hsm hXB hXG hYZ
    refine WG.one (i := 5) rfl (by kernel_rfl) (fun K hK => ?_)
    go_simp
    refine hK.out _ _ (by exact (And.intro (obj_cell HXB.out (i := 0) rfl) (And.intro (obj_cell HXB.out (i := 1) rfl) (And.intro (obj_cell HXG.out (i := 0) rfl) (obj_cell HXG.out (i := 1) rfl))))) (fun hHeld => ?_)
    clear hK K
    (try simp only [Act.put, List.setIfInBounds_toArray, List.set_cons_zero, List.set_cons_succ])
    clear y0 y1 y0f y1f k1 k1f
    obtain ⟨y0, y1, y0f, y1f, k1, k1f, hkk2, hsm2⟩ := box2 HYZ.out (.int .i64 (n8)) (.slice An xs.length cn)
    have HKK2 := hid hkk2
    have HSM2 := hid hsm2
    have hK9 := hid (obj_far (p := ⟨w.heap.size + 1, 1, none⟩) (obj_far (p := ⟨w.heap.size + 1, 0, none⟩) HKK.out (by show w.heap.size ≠ w.heap.size + 1; omega) (.int .i64 (n8))) (by show w.heap.size ≠ w.heap.size + 1; omega) (.slice An xs.length cn))
    have hXB2 := hid (obj_far (p := ⟨w.heap.size + 1, 1, none⟩) (obj_far (p := ⟨w.heap.size + 1, 0, none⟩) HXB.out (by show H ≠ w.heap.size + 1; omega) (.int .i64 (n8))) (by show H ≠ w.heap.size + 1; omega) (.slice An xs.length cn))
    have hXG2 := hid (obj_far (p := ⟨w.heap.size + 1, 1, none⟩) (obj_far (p := ⟨w.heap.size + 1, 0, none⟩) HXG.out (by show w5.heap.size ≠ w.heap.size + 1; omega) (.int .i64 (n8))) (by show w5.heap.size ≠ w.heap.size + 1; omega) (.slice An xs.length cn))
    clear hkk2 hsm2
    refine WG.one (i := 6) rfl (by kernel_rfl) (fun K hK => ?_)
    go_simp
    refine hK.out _ _ (by exact (And.intro (obj_cell hXB2.out (i := 0) rfl) (And.intro (obj_cell hXB2.out (i := 1) rfl) (And.intro (obj_cell hXG2.out (i := 0) rfl) (obj_cell hXG2.out (i := 1) rfl))))) (fun hHeld => ?_)
    clear hK K
    (try simp only [Act.put, List.setIfInBounds_toArray, List.set_cons_zero, List.set_cons_succ])
    refine WG.last (i := 7) rfl (by kernel_rfl) (by kernel_rfl) (fun K hK => ?_)
    go_simp
    refine hK.out _ _ ?_
    clear hK K
    (try simp only [Act.put, List.setIfInBounds_toArray, List.set_cons_zero, List.set_cons_succ])
    refine WG.done (by kernel_rfl) ?_
    have r0 := obj_cell hK9.out (i := 0) rfl
    have r1 := obj_cell hK9.out (i := 1) rfl
    have r2 := obj_cell HKK2.out (i := 0) rfl
    have r3 := obj_cell HKK2.out (i := 1) rfl
    clear y0 y1 y0f y1f k1 k1f
    go_wp2
    refine bodyPost_ret (v := .tuple #[.agg #[.slice Ar C.room.length cr, .slice Au C.units.length cu], .agg #[.int .i64 (n8), .slice An xs.length cn], .bool ((x9 : Int) == 0)]) (by simp [results, Tryz.results38, go_sem, r0, r1, r2, r3]) rfl ?_
    unfold DrawnA
    refine ⟨_, C, _, _, xs, _, rfl, ?_, HSC.out, ?_, HLN.out, HN8.out, ?_⟩
    · refine OCl.far HO2.out (fun k hk1 hk2 => ?_) (((HL9.out.sm.mono (by rintro t rfl; decide)).trans (HSM.out _ (by rintro t rfl; decide))).trans (HSM2.out _ (by rintro t rfl; decide))) HE1.out.size
      have hlw := HR1.out.low.1
      refine (Below.heap_setCell _ _ _ k (by show k ≠ w.heap.size + 1; omega)).trans ((Below.heap_setCell _ _ _ k (by show k ≠ w.heap.size + 1; omega)).trans ((Below.heap_setCell _ _ _ k (by show k ≠ w.heap.size; omega)).trans ((Below.heap_setCell _ _ _ k (by show k ≠ w.heap.size; omega)).trans ?_)))
      exact HL9.out.drw.1.block k hk2 (by intro he; injection he with he; omega)
    · exact (Own.same EI.ok (Own.same EI.ok (Own.low HL9.out.on HB2.out.size) (HSM.out _ notClu2)) (HSM2.out _ (by rintro t (rfl | h) <;> first | decide | exact h.elim)))
    · exact Below.setCell (Below.setCell (Below.setCell (Below.setCell HL9.out.bel (Nat.le_refl _) _) (Nat.le_refl _) _) (Nat.le_succ _) _) (Nat.le_succ _) _
  · have i0n : 0 < xs.length := by have := HLN.out; omega
    have i0 : (0 : Int) < (xs.length : Int) := by omega
    obtain ⟨gn, cn', hv, _⟩ := Own.row HL7.out.on (by omega)
    injection hv with e1 _ e3
    subst e1 e3
    obtain ⟨z0, hz0⟩ : ∃ z, xs[0]? = some z := ⟨_, List.getElem?_eq_getElem (by omega)⟩
    have HZ0 := hid hz0
    have KS := hid (And.intro HL7.out.cells.2.2.1 HL7.out.cells.2.2.2.1)
    clear hz0 l0 l1 l2 l3 l4 l5
    refine WG.start (fun w' => w'.cell? ⟨w5.heap.size, 0, none⟩ = some (.int .i64 (15 + (x4 : Int))) ∧ w'.cell? ⟨w5.heap.size, 1, none⟩ = some (.slice (some ⟨gn, 0, none⟩) xs.length cn)) [6] (by kernel_rfl) (by exact KS.out) (fun hHeld => ?_)
    (refine WG.take (i := 0) (v := ?_) rfl (by kernel_rfl) (by kernel_rfl) (by kernel_rfl) (by kernel_rfl) (fun _ _ _ h => h) (Or.inl ⟨by rfl, ?_⟩) (by assumption) ?_; rotate_left; (intro w hSw; (try dsimp only at hSw); go_split_ands; go_simp; (try with_reducible rfl)); (try simp only [Act.put, List.setIfInBounds_toArray, List.set_cons_zero, List.set_cons_succ]))
    (refine WG.take (i := 1) (v := ?_) rfl (by kernel_rfl) (by kernel_rfl) (by kernel_rfl) (by kernel_rfl) (fun _ _ _ h => h) (Or.inl ⟨by rfl, ?_⟩) (by assumption) ?_; rotate_left; (intro w hSw; (try dsimp only at hSw); go_split_ands; go_simp; (try with_reducible rfl)); (try simp only [Act.put, List.setIfInBounds_toArray, List.set_cons_zero, List.set_cons_succ]))
    (refine WG.take (i := 2) (v := ?_) rfl (by kernel_rfl) (by kernel_rfl) (by kernel_rfl) (by kernel_rfl) (fun _ _ _ h => h) (Or.inl ⟨by rfl, ?_⟩) (by assumption) ?_; rotate_left; (intro w hSw; (try dsimp only at hSw); go_split_ands; go_simp; (try with_reducible rfl)); (try simp only [Act.put, List.setIfInBounds_toArray, List.set_cons_zero, List.set_cons_succ]))
    refine WG.one (i := 3) rfl (by kernel_rfl) (fun K hK => ?_)
    go_simp; refine (LA.pick (LA.ext HL7.out (Below.drew (Below.refl _ _))) (by omega) _ (by omega)).mono ?_; rintro e w8 ⟨x8, rfl, hx, hl8⟩; have HL8 := hid hl8; have hx8 := pick_lt hx (by decide); clear hl8 hx; (try dsimp only)
    refine hK.out _ _ (by exact (And.intro HL8.out.cells.2.2.1 HL8.out.cells.2.2.2.1)) (fun hHeld => ?_)
    clear hK K
    (try simp only [Act.put, List.setIfInBounds_toArray, List.set_cons_zero, List.set_cons_succ])
    have w18 : IntKind.i64.wrap (18 + (x8 : Int)) = 18 + (x8 : Int) := IntWalk.i64_in _ (by omega)
    (refine WG.take (i := 4) (v := ?_) rfl (by kernel_rfl) (by kernel_rfl) (by kernel_rfl) (by kernel_rfl) (fun _ _ _ h => h) (Or.inl ⟨by rfl, ?_⟩) (by assumption) ?_; rotate_left; (intro w hSw; (try dsimp only at hSw); go_split_ands; go_simp; (try with_reducible rfl)); (try simp only [Act.put, List.setIfInBounds_toArray, List.set_cons_zero, List.set_cons_succ]))
    (refine WG.take (i := 5) (v := ?_) rfl (by kernel_rfl) (by kernel_rfl) (by kernel_rfl) (by kernel_rfl) (fun _ _ _ h => h) (Or.inl ⟨by rfl, ?_⟩) (by assumption) ?_; rotate_left; (intro w hSw; (try dsimp only at hSw); go_split_ands; go_simp; (try with_reducible rfl)); (try simp only [Act.put, List.setIfInBounds_toArray, List.set_cons_zero, List.set_cons_succ]))
    obtain ⟨c0, f0, _⟩ := OI.at_ HL8.out.on HZ0.out
    refine WG.last (i := 6) rfl (by kernel_rfl) (by kernel_rfl) (fun K hK => ?_)
    go_simp
    refine hK.out _ _ ?_
    clear hK K
    (try simp only [Act.put, List.setIfInBounds_toArray, List.set_cons_zero, List.set_cons_succ])
    refine WG.done (by kernel_rfl) ?_
    (try rw [w18])
    obtain ⟨V, hV⟩ : ∃ V, V = w8.setCell ⟨gn, 0, none⟩ (.int .i64 (18 + (x8 : Int))) := ⟨_, rfl⟩
    have HLV : Hid (LA w w2 b bv bs' p2 (7 + 1 + 1) H w5.heap.size V (.slice Ar C.room.length cr) (.slice Au C.units.length cu) (.slice (some ⟨gn, 0, none⟩) xs.length cn) (15 + (x4 : Int)) (xs.set 0 (18 + (x8 : Int)))) := hid (by rw [hV]; exact LA.setNeed HL8.out (j := 0) (by have := HLN.out; omega) _)
    rw [← hV]
    clear hV c0 f0
    go_wp2
    have KS := hid (And.intro HLV.out.cells.1 (And.intro HLV.out.cells.2.1 (And.intro HLV.out.cells.2.2.1 HLV.out.cells.2.2.2.1)))
    refine WG.start (fun w' => w'.cell? ⟨H, 0, none⟩ = some (.slice Ar C.room.length cr) ∧ w'.cell? ⟨H, 1, none⟩ = some (.slice Au C.units.length cu) ∧ w'.cell? ⟨w5.heap.size, 0, none⟩ = some (.int .i64 (15 + (x4 : Int))) ∧ w'.cell? ⟨w5.heap.size, 1, none⟩ = some (.slice (some ⟨gn, 0, none⟩) xs.length cn)) [7] (by kernel_rfl) (by exact KS.out) (fun hHeld => ?_)
    (refine WG.take (i := 0) (v := ?_) rfl (by kernel_rfl) (by kernel_rfl) (by kernel_rfl) (by kernel_rfl) (fun _ _ _ h => h) (Or.inl ⟨by rfl, ?_⟩) (by assumption) ?_; rotate_left; (intro w hSw; (try dsimp only at hSw); go_split_ands; go_simp; (try with_reducible rfl)); (try simp only [Act.put, List.setIfInBounds_toArray, List.set_cons_zero, List.set_cons_succ]))
    (refine WG.take (i := 1) (v := ?_) rfl (by kernel_rfl) (by kernel_rfl) (by kernel_rfl) (by kernel_rfl) (fun _ _ _ h => h) (Or.inl ⟨by rfl, ?_⟩) (by assumption) ?_; rotate_left; (intro w hSw; (try dsimp only at hSw); go_split_ands; go_simp; (try with_reducible rfl)); (try simp only [Act.put, List.setIfInBounds_toArray, List.set_cons_zero, List.set_cons_succ]))
    (refine WG.take (i := 2) (v := ?_) rfl (by kernel_rfl) (by kernel_rfl) (by kernel_rfl) (by kernel_rfl) (fun _ _ _ h => h) (Or.inl ⟨by rfl, ?_⟩) (by assumption) ?_; rotate_left; (intro w hSw; (try dsimp only at hSw); go_split_ands; go_simp; (try with_reducible rfl)); (try simp only [Act.put, List.setIfInBounds_toArray, List.set_cons_zero, List.set_cons_succ]))
    refine WG.one (i := 3) rfl (by kernel_rfl) (fun K hK => ?_)
    go_simp; refine (LA.pick (LA.ext HLV.out (Below.drew (Below.refl _ _))) (by omega) _ (by omega)).mono ?_; rintro e w9 ⟨x9, rfl, hx, hl9⟩; have HL9 := hid hl9; clear hl9 hx; (try dsimp only)
    refine hK.out _ _ (by exact (And.intro HL9.out.cells.1 (And.intro HL9.out.cells.2.1 (And.intro HL9.out.cells.2.2.1 HL9.out.cells.2.2.2.1)))) (fun hHeld => ?_)
    clear hK K
    (try simp only [Act.put, List.setIfInBounds_toArray, List.set_cons_zero, List.set_cons_succ])
    (refine WG.take (i := 4) (v := ?_) rfl (by kernel_rfl) (by kernel_rfl) (by kernel_rfl) (by kernel_rfl) (fun _ _ _ h => h) (Or.inl ⟨by rfl, ?_⟩) (by assumption) ?_; rotate_left; (intro w hSw; (try dsimp only at hSw); go_split_ands; go_simp; (try with_reducible rfl)); (try simp only [Act.put, List.setIfInBounds_toArray, List.set_cons_zero, List.set_cons_succ]))
    obtain ⟨y0, y1, y0f, y1f, k1, k1f, hkk, hsm⟩ := box2 HL9.out.z0 (.slice Ar C.room.length cr) (.slice Au C.units.length cu)
    have hH9 : w.heap.size ≠ H := by have := HL9.out.l2; have := HB2.out.size; omega
    have hG9 : w.heap.size ≠ w5.heap.size ∧ w.heap.size + 1 ≠ w5.heap.size ∧ w.heap.size + 1 ≠ H := by have := HL9.out.lg; have := HL9.out.l2; have := HL9.out.lb; have := HL9.out.low.1; omega
    have hXB : ((w9.setCell ⟨w.heap.size, 0, none⟩ (.slice Ar C.room.length cr)).setCell ⟨w.heap.size, 1, none⟩ (.slice Au C.units.length cu)).heap[H]? = _ := obj_far (p := ⟨w.heap.size, 1, none⟩) (obj_far (p := ⟨w.heap.size, 0, none⟩) HL9.out.xb (Ne.symm hH9) _) (Ne.symm hH9) _
    have hXG : ((w9.setCell ⟨w.heap.size, 0, none⟩ (.slice Ar C.room.length cr)).setCell ⟨w.heap.size, 1, none⟩ (.slice Au C.units.length cu)).heap[w5.heap.size]? = _ := obj_far (p := ⟨w.heap.size, 1, none⟩) (obj_far (p := ⟨w.heap.size, 0, none⟩) HL9.out.xg (Ne.symm hG9.1) _) (Ne.symm hG9.1) _
    have hYZ : ((w9.setCell ⟨w.heap.size, 0, none⟩ (.slice Ar C.room.length cr)).setCell ⟨w.heap.size, 1, none⟩ (.slice Au C.units.length cu)).heap[w.heap.size + 1]? = _ := obj_far (p := ⟨w.heap.size, 1, none⟩) (obj_far (p := ⟨w.heap.size, 0, none⟩) HL9.out.z1 (by show w.heap.size + 1 ≠ w.heap.size; omega) _) (by show w.heap.size + 1 ≠ w.heap.size; omega) _
    have HXB := hid hXB
    have HXG := hid hXG
    have HYZ := hid hYZ
    have HKK := hid hkk
    have HSM := hid hsm
    clear hkk hsm hXB hXG hYZ
    refine WG.one (i := 5) rfl (by kernel_rfl) (fun K hK => ?_)
    go_simp
    refine hK.out _ _ (by exact (And.intro (obj_cell HXB.out (i := 0) rfl) (And.intro (obj_cell HXB.out (i := 1) rfl) (And.intro (obj_cell HXG.out (i := 0) rfl) (obj_cell HXG.out (i := 1) rfl))))) (fun hHeld => ?_)
    clear hK K
    (try simp only [Act.put, List.setIfInBounds_toArray, List.set_cons_zero, List.set_cons_succ])
    clear y0 y1 y0f y1f k1 k1f
    obtain ⟨y0, y1, y0f, y1f, k1, k1f, hkk2, hsm2⟩ := box2 HYZ.out (.int .i64 (15 + (x4 : Int))) (.slice (some ⟨gn, 0, none⟩) xs.length cn)
    have HKK2 := hid hkk2
    have HSM2 := hid hsm2
    have hK9 := hid (obj_far (p := ⟨w.heap.size + 1, 1, none⟩) (obj_far (p := ⟨w.heap.size + 1, 0, none⟩) HKK.out (by show w.heap.size ≠ w.heap.size + 1; omega) (.int .i64 (15 + (x4 : Int)))) (by show w.heap.size ≠ w.heap.size + 1; omega) (.slice (some ⟨gn, 0, none⟩) xs.length cn))
    have hXB2 := hid (obj_far (p := ⟨w.heap.size + 1, 1, none⟩) (obj_far (p := ⟨w.heap.size + 1, 0, none⟩) HXB.out (by show H ≠ w.heap.size + 1; omega) (.int .i64 (15 + (x4 : Int)))) (by show H ≠ w.heap.size + 1; omega) (.slice (some ⟨gn, 0, none⟩) xs.length cn))
    have hXG2 := hid (obj_far (p := ⟨w.heap.size + 1, 1, none⟩) (obj_far (p := ⟨w.heap.size + 1, 0, none⟩) HXG.out (by show w5.heap.size ≠ w.heap.size + 1; omega) (.int .i64 (15 + (x4 : Int)))) (by show w5.heap.size ≠ w.heap.size + 1; omega) (.slice (some ⟨gn, 0, none⟩) xs.length cn))
    clear hkk2 hsm2
    refine WG.one (i := 6) rfl (by kernel_rfl) (fun K hK => ?_)
    go_simp
    refine hK.out _ _ (by exact (And.intro (obj_cell hXB2.out (i := 0) rfl) (And.intro (obj_cell hXB2.out (i := 1) rfl) (And.intro (obj_cell hXG2.out (i := 0) rfl) (obj_cell hXG2.out (i := 1) rfl))))) (fun hHeld => ?_)
    clear hK K
    (try simp only [Act.put, List.setIfInBounds_toArray, List.set_cons_zero, List.set_cons_succ])
    refine WG.last (i := 7) rfl (by kernel_rfl) (by kernel_rfl) (fun K hK => ?_)
    go_simp
    refine hK.out _ _ ?_
    clear hK K
    (try simp only [Act.put, List.setIfInBounds_toArray, List.set_cons_zero, List.set_cons_succ])
    refine WG.done (by kernel_rfl) ?_
    have r0 := obj_cell hK9.out (i := 0) rfl
    have r1 := obj_cell hK9.out (i := 1) rfl
    have r2 := obj_cell HKK2.out (i := 0) rfl
    have r3 := obj_cell HKK2.out (i := 1) rfl
    clear y0 y1 y0f y1f k1 k1f
    go_wp2
    refine bodyPost_ret (v := .tuple #[.agg #[.slice Ar C.room.length cr, .slice Au C.units.length cu], .agg #[.int .i64 (15 + (x4 : Int)), .slice (some ⟨gn, 0, none⟩) xs.length cn], .bool ((x9 : Int) == 0)]) (by simp [results, Tryz.results38, go_sem, r0, r1, r2, r3]) rfl ?_
    unfold DrawnA
    refine ⟨_, C, _, _, xs.set 0 (18 + (x8 : Int)), _, rfl, ?_, HSC.out, ?_, by rw [List.length_set]; exact HLN.out, by unfold IdR; omega, ?_⟩
    · refine OCl.far HO2.out (fun k hk1 hk2 => ?_) (((HL9.out.sm.mono (by rintro t rfl; decide)).trans (HSM.out _ (by rintro t rfl; decide))).trans (HSM2.out _ (by rintro t rfl; decide))) HE1.out.size
      have hlw := HR1.out.low.1
      refine (Below.heap_setCell _ _ _ k (by show k ≠ w.heap.size + 1; omega)).trans ((Below.heap_setCell _ _ _ k (by show k ≠ w.heap.size + 1; omega)).trans ((Below.heap_setCell _ _ _ k (by show k ≠ w.heap.size; omega)).trans ((Below.heap_setCell _ _ _ k (by show k ≠ w.heap.size; omega)).trans ?_)))
      exact HL9.out.drw.1.block k hk2 (by intro he; injection he with he; omega)
    · exact (Own.same EI.ok (Own.same EI.ok (Own.low HL9.out.on HB2.out.size) (HSM.out _ notClu2)) (HSM2.out _ (by rintro t (rfl | h) <;> first | decide | exact h.elim)))
    · exact Below.setCell (Below.setCell (Below.setCell (Below.setCell HL9.out.bel (Nat.le_refl _) _) (Nat.le_refl _) _) (Nat.le_succ _) _) (Nat.le_succ _) _
  · clear l0 l1 l2 l3 l4 l5
    have KS := hid (And.intro HL7.out.cells.1 (And.intro HL7.out.cells.2.1 (And.intro HL7.out.cells.2.2.1 HL7.out.cells.2.2.2.1)))
    refine WG.start (fun w' => w'.cell? ⟨H, 0, none⟩ = some (.slice Ar C.room.length cr) ∧ w'.cell? ⟨H, 1, none⟩ = some (.slice Au C.units.length cu) ∧ w'.cell? ⟨w5.heap.size, 0, none⟩ = some (.int .i64 (15 + (x4 : Int))) ∧ w'.cell? ⟨w5.heap.size, 1, none⟩ = some (.slice An xs.length cn)) [7] (by kernel_rfl) (by exact KS.out) (fun hHeld => ?_)
    (refine WG.take (i := 0) (v := ?_) rfl (by kernel_rfl) (by kernel_rfl) (by kernel_rfl) (by kernel_rfl) (fun _ _ _ h => h) (Or.inl ⟨by rfl, ?_⟩) (by assumption) ?_; rotate_left; (intro w hSw; (try dsimp only at hSw); go_split_ands; go_simp; (try with_reducible rfl)); (try simp only [Act.put, List.setIfInBounds_toArray, List.set_cons_zero, List.set_cons_succ]))
    (refine WG.take (i := 1) (v := ?_) rfl (by kernel_rfl) (by kernel_rfl) (by kernel_rfl) (by kernel_rfl) (fun _ _ _ h => h) (Or.inl ⟨by rfl, ?_⟩) (by assumption) ?_; rotate_left; (intro w hSw; (try dsimp only at hSw); go_split_ands; go_simp; (try with_reducible rfl)); (try simp only [Act.put, List.setIfInBounds_toArray, List.set_cons_zero, List.set_cons_succ]))
    (refine WG.take (i := 2) (v := ?_) rfl (by kernel_rfl) (by kernel_rfl) (by kernel_rfl) (by kernel_rfl) (fun _ _ _ h => h) (Or.inl ⟨by rfl, ?_⟩) (by assumption) ?_; rotate_left; (intro w hSw; (try dsimp only at hSw); go_split_ands; go_simp; (try with_reducible rfl)); (try simp only [Act.put, List.setIfInBounds_toArray, List.set_cons_zero, List.set_cons_succ]))
    refine WG.one (i := 3) rfl (by kernel_rfl) (fun K hK => ?_)
    go_simp; refine (LA.pick (LA.ext HL7.out (Below.drew (Below.refl _ _))) (by omega) _ (by omega)).mono ?_; rintro e w9 ⟨x9, rfl, hx, hl9⟩; have HL9 := hid hl9; clear hl9 hx; (try dsimp only)
    refine hK.out _ _ (by exact (And.intro HL9.out.cells.1 (And.intro HL9.out.cells.2.1 (And.intro HL9.out.cells.2.2.1 HL9.out.cells.2.2.2.1)))) (fun hHeld => ?_)
    clear hK K
    (try simp only [Act.put, List.setIfInBounds_toArray, List.set_cons_zero, List.set_cons_succ])
    (refine WG.take (i := 4) (v := ?_) rfl (by kernel_rfl) (by kernel_rfl) (by kernel_rfl) (by kernel_rfl) (fun _ _ _ h => h) (Or.inl ⟨by rfl, ?_⟩) (by assumption) ?_; rotate_left; (intro w hSw; (try dsimp only at hSw); go_split_ands; go_simp; (try with_reducible rfl)); (try simp only [Act.put, List.setIfInBounds_toArray, List.set_cons_zero, List.set_cons_succ]))
    obtain ⟨y0, y1, y0f, y1f, k1, k1f, hkk, hsm⟩ := box2 HL9.out.z0 (.slice Ar C.room.length cr) (.slice Au C.units.length cu)
    have hH9 : w.heap.size ≠ H := by have := HL9.out.l2; have := HB2.out.size; omega
    have hG9 : w.heap.size ≠ w5.heap.size ∧ w.heap.size + 1 ≠ w5.heap.size ∧ w.heap.size + 1 ≠ H := by have := HL9.out.lg; have := HL9.out.l2; have := HL9.out.lb; have := HL9.out.low.1; omega
    have hXB : ((w9.setCell ⟨w.heap.size, 0, none⟩ (.slice Ar C.room.length cr)).setCell ⟨w.heap.size, 1, none⟩ (.slice Au C.units.length cu)).heap[H]? = _ := obj_far (p := ⟨w.heap.size, 1, none⟩) (obj_far (p := ⟨w.heap.size, 0, none⟩) HL9.out.xb (Ne.symm hH9) _) (Ne.symm hH9) _
    have hXG : ((w9.setCell ⟨w.heap.size, 0, none⟩ (.slice Ar C.room.length cr)).setCell ⟨w.heap.size, 1, none⟩ (.slice Au C.units.length cu)).heap[w5.heap.size]? = _ := obj_far (p := ⟨w.heap.size, 1, none⟩) (obj_far (p := ⟨w.heap.size, 0, none⟩) HL9.out.xg (Ne.symm hG9.1) _) (Ne.symm hG9.1) _
    have hYZ : ((w9.setCell ⟨w.heap.size, 0, none⟩ (.slice Ar C.room.length cr)).setCell ⟨w.heap.size, 1, none⟩ (.slice Au C.units.length cu)).heap[w.heap.size + 1]? = _ := obj_far (p := ⟨w.heap.size, 1, none⟩) (obj_far (p := ⟨w.heap.size, 0, none⟩) HL9.out.z1 (by show w.heap.size + 1 ≠ w.heap.size; omega) _) (by show w.heap.size + 1 ≠ w.heap.size; omega) _
    have HXB := hid hXB
    have HXG := hid hXG
    have HYZ := hid hYZ
    have HKK := hid hkk
    have HSM := hid hsm
    clear hkk hsm hXB hXG hYZ
    refine WG.one (i := 5) rfl (by kernel_rfl) (fun K hK => ?_)
    go_simp
    refine hK.out _ _ (by exact (And.intro (obj_cell HXB.out (i := 0) rfl) (And.intro (obj_cell HXB.out (i := 1) rfl) (And.intro (obj_cell HXG.out (i := 0) rfl) (obj_cell HXG.out (i := 1) rfl))))) (fun hHeld => ?_)
    clear hK K
    (try simp only [Act.put, List.setIfInBounds_toArray, List.set_cons_zero, List.set_cons_succ])
    clear y0 y1 y0f y1f k1 k1f
    obtain ⟨y0, y1, y0f, y1f, k1, k1f, hkk2, hsm2⟩ := box2 HYZ.out (.int .i64 (15 + (x4 : Int))) (.slice An xs.length cn)
    have HKK2 := hid hkk2
    have HSM2 := hid hsm2
    have hK9 := hid (obj_far (p := ⟨w.heap.size + 1, 1, none⟩) (obj_far (p := ⟨w.heap.size + 1, 0, none⟩) HKK.out (by show w.heap.size ≠ w.heap.size + 1; omega) (.int .i64 (15 + (x4 : Int)))) (by show w.heap.size ≠ w.heap.size + 1; omega) (.slice An xs.length cn))
    have hXB2 := hid (obj_far (p := ⟨w.heap.size + 1, 1, none⟩) (obj_far (p := ⟨w.heap.size + 1, 0, none⟩) HXB.out (by show H ≠ w.heap.size + 1; omega) (.int .i64 (15 + (x4 : Int)))) (by show H ≠ w.heap.size + 1; omega) (.slice An xs.length cn))
    have hXG2 := hid (obj_far (p := ⟨w.heap.size + 1, 1, none⟩) (obj_far (p := ⟨w.heap.size + 1, 0, none⟩) HXG.out (by show w5.heap.size ≠ w.heap.size + 1; omega) (.int .i64 (15 + (x4 : Int)))) (by show w5.heap.size ≠ w.heap.size + 1; omega) (.slice An xs.length cn))
    clear hkk2 hsm2
    refine WG.one (i := 6) rfl (by kernel_rfl) (fun K hK => ?_)
    go_simp
    refine hK.out _ _ (by exact (And.intro (obj_cell hXB2.out (i := 0) rfl) (And.intro (obj_cell hXB2.out (i := 1) rfl) (And.intro (obj_cell hXG2.out (i := 0) rfl) (obj_cell hXG2.out (i := 1) rfl))))) (fun hHeld => ?_)
    clear hK K
    (try simp only [Act.put, List.setIfInBounds_toArray, List.set_cons_zero, List.set_cons_succ])
    refine WG.last (i := 7) rfl (by kernel_rfl) (by kernel_rfl) (fun K hK => ?_)
    go_simp
    refine hK.out _ _ ?_
    clear hK K
    (try simp only [Act.put, List.setIfInBounds_toArray, List.set_cons_zero, List.set_cons_succ])
    refine WG.done (by kernel_rfl) ?_
    have r0 := obj_cell hK9.out (i := 0) rfl
    have r1 := obj_cell hK9.out (i := 1) rfl
    have r2 := obj_cell HKK2.out (i := 0) rfl
    have r3 := obj_cell HKK2.out (i := 1) rfl
    clear y0 y1 y0f y1f k1 k1f
    go_wp2
    refine bodyPost_ret (v := .tuple #[.agg #[.slice Ar C.room.length cr, .slice Au C.units.length cu], .agg #[.int .i64 (15 + (x4 : Int)), .slice An xs.length cn], .bool ((x9 : Int) == 0)]) (by simp [results, Tryz.results38, go_sem, r0, r1, r2, r3]) rfl ?_
    unfold DrawnA
    refine ⟨_, C, _, _, xs, _, rfl, ?_, HSC.out, ?_, HLN.out, by unfold IdR; omega, ?_⟩
    · refine OCl.far HO2.out (fun k hk1 hk2 => ?_) (((HL9.out.sm.mono (by rintro t rfl; decide)).trans (HSM.out _ (by rintro t rfl; decide))).trans (HSM2.out _ (by rintro t rfl; decide))) HE1.out.size
      have hlw := HR1.out.low.1
      refine (Below.heap_setCell _ _ _ k (by show k ≠ w.heap.size + 1; omega)).trans ((Below.heap_setCell _ _ _ k (by show k ≠ w.heap.size + 1; omega)).trans ((Below.heap_setCell _ _ _ k (by show k ≠ w.heap.size; omega)).trans ((Below.heap_setCell _ _ _ k (by show k ≠ w.heap.size; omega)).trans ?_)))
      exact HL9.out.drw.1.block k hk2 (by intro he; injection he with he; omega)
    · exact (Own.same EI.ok (Own.same EI.ok (Own.low HL9.out.on HB2.out.size) (HSM.out _ notClu2)) (HSM2.out _ (by rintro t (rfl | h) <;> first | decide | exact h.elim)))
    · exact Below.setCell (Below.setCell (Below.setCell (Below.setCell HL9.out.bel (Nat.le_refl _) _) (Nat.le_refl _) _) (Nat.le_succ _) _) (Nat.le_succ _) _

end Go.Proofs.YtfgibhdglbjadaaGreat
