/- The load of all tasks: the program, beside goroutines that only leave. -/
import Derived.Test.YtcfpilkhjpegcaaK67
import Derived.Test.YtcfpilkhjpegcaaK64
namespace Go.Proofs.Ytcfpilkhjpegcaa
open Go Go.Conc Go.ConcN Go.RowKit

theorem loads_good {C : ClusD} (h : clusOk C = true) : (C.units.map fun u => loadL u.tasks).length ≤ 10 ∧ ∀ a ∈ (C.units.map fun u => loadL u.tasks), a.length = 3 ∧ Bd 20 a := by
  refine ⟨by rw [List.length_map]; exact (clusOk_len h).2, fun a ha => ?_⟩
  obtain ⟨u, hu, rfl⟩ := List.mem_map.1 ha
  exact ⟨loadL_len _, vecOk_bd (load_vec h hu)⟩
theorem ClusV.units {w : World} {Ar Au : Option Addr} {lr cr cu : Nat} {C : ClusD} (h : ClusV w (.agg #[.slice Ar lr cr, .slice Au C.units.length cu]) C) : RU w (.slice Au C.units.length cu) C.units := by
  obtain ⟨_, _, he, _, h2⟩ := h
  injection he with he
  injection he with he
  injection he with _ he
  injection he with he _
  rw [he]
  exact h2
theorem ClusV.room {w : World} {Ar Au : Option Addr} {lu cr cu : Nat} {C : ClusD} (h : ClusV w (.agg #[.slice Ar C.room.length cr, .slice Au lu cu]) C) : RI w (.slice Ar C.room.length cr) C.room := by
  obtain ⟨_, _, he, h1, _⟩ := h
  injection he with he
  injection he with he
  injection he with he _
  rw [he]
  exact h1
theorem own_live {w : World} {base : Nat} {v : Value} {us : List Int} (h : OI w base v us) (hp : 0 < us.length) {b : Nat} (hb : v.ownBlock = some b) {ty : TypeId} {fr : Nat × Nat} (hd : w.heap[b]? = some (.cells #[] ty fr)) : False := by
  obtain ⟨g, c, rfl, _⟩ := Own.row h hp
  have hg : g = b := by simpa [Value.ownBlock] using hb
  subst hg
  have := (OI.at_ h (j := 0) (List.getElem?_eq_getElem hp)).1
  simp [World.cell?, hd] at this
noncomputable def bodyUf : Code := (Try.f13.body).getD .skip
noncomputable def uf0 : Code := codeAt bodyUf [0]
noncomputable def uf1 : Code := codeAt bodyUf [1, 0]
noncomputable def ufR : Code := codeAt bodyUf [1, 1, 1]
noncomputable def ufO : Array Oper := opsOf (codeAt bodyUf [1, 1, 0])
theorem bodyUf_eq : bodyUf = .seq uf0 (.seq uf1 (.seq (.region 3 ufO false) ufR)) := by kernel_rfl
theorem frameUf (v0 : Value) : Frame.enter Try.prog 13 #[v0] .normal = (base 13).at ⟨#[v0, undef, undef, undef, undef, undef, undef, undef, undef], []⟩ [.code bodyUf] := by
  rw [enter_at _ Try.func13 (c := bodyUf) rfl]
  rw [show (Try.f13).ntmps = 9 by kernel_rfl]
  simp [Array.replicate]

section
variable {D : Nat → Prop} {Post : Value → World → Prop} {cs : List Frame}

/-- usage, on a valid cluster, and on. -/
theorem usageClus {Ar Au : Option Addr} {lr cr cu : Nat} {C : ClusD} {w : World} {c : Frame} (h : ClusV w (.agg #[.slice Ar lr cr, .slice Au C.units.length cu]) C) (hok : clusOk C = true) (hdead : Dead D w)
    (hEnd : ∀ (w' : World) (D' : Nat → Prop) (B : Nat), Sup w w' → Dead D' w' → DMore w D D' → RVs w' (.slice (some ⟨B, 0, none⟩) C.units.length C.units.length) (C.units.map fun u => loadL u.tasks) → Wn Try.prog Post D' (G (c.finish (.slice (some ⟨B, 0, none⟩) C.units.length C.units.length)) cs) w') :
    Wn Try.prog Post D (G (Frame.enter Try.prog 36 #[.agg #[.slice Ar lr cr, .slice Au C.units.length cu]] .normal) (c :: cs)) w := by
  have hlen := clusOk_len hok
  refine usageWn (us := C.units) h.units (fun u hu => (clusOk_unit hok hu).1) (by omega) hdead ?_
  intro w4 B4 cc rs a1 a2 a3 a4 a5 a6 a7 a8 a9 a10
  have hS : Sup w w4 := ⟨a1, a2, Nat.le_of_lt a4, a3⟩
  exact hEnd w4 _ B4 hS (fun b hb => hb.elim (fun h => hdead.sup hS b h) (fun h => by rw [h]; exact a5)) (fun b hb => hb.imp id (fun h => by omega))
    (loads_read (n := C.units.length) a8 a9 rfl (by omega) (fun i hi => ⟨(a10 i hi).1, (a10 i hi).2.2.2⟩))

set_option maxRecDepth 100000 in
set_option maxHeartbeats 4000000 in
theorem usageOfWn {cv : Value} {C : ClusD} {w : World} {c : Frame} (h : ClusV w cv C) (hl : C.units.length ≤ 4000000) (hfl : (C.units.map (·.tasks)).flatten.length ≤ 4000000) (hid' : ∀ t ∈ (C.units.map (·.tasks)).flatten, IdR t.id) (hdead : Dead D w)
    (hEnd : ∀ (w' : World) (D' : Nat → Prop) (v : Value), Sup w w' → Dead D' w' → DMore w D D' → OI w' w.heap.size v (usageOf C) → (∀ b, v.ownBlock = some b → ¬ D' b) → Wn Try.prog Post D' (G (c.finish v) cs) w') :
    Wn Try.prog Post D (G (Frame.enter Try.prog 13 #[cv] .normal) (c :: cs)) w := by
  have HH := hid h
  obtain ⟨Ar, cr, Au, cu, rfl⟩ := h.form
  have HD := hid hdead
  have HE := hid hEnd
  clear hdead hEnd h
  rw [frameUf, bodyUf_eq]
  refine Wn.seqK ⟨_, Try.func13⟩ (by kernel_rfl) (by kernel_rfl) (fun w1 hS1 hz1 => ?_)
  have HS1 := hid hS1
  clear hS1
  simp only [uf0, bodyUf, codeAt, Try.f13, Option.getD_some]
  go_wp2
  refine EndK.on ?_
  obtain ⟨W, hW⟩ : ∃ W, W = w1.alloc (.cells #[.slice Ar C.room.length cr, .slice Au C.units.length cu] 26) := ⟨_, rfl⟩
  have hB : W.heap[w.heap.size]? = some (.cells #[.slice Ar C.room.length cr, .slice Au C.units.length cu] 26 (0, 0)) := by rw [hW, ← hz1]; exact heap_alloc_new _ _
  have HSW : Hid (Sup w W) := hid (HS1.out.trans (by rw [hW]; exact Sup.of (Ext.alloc _ _)))
  rw [← hW]
  clear hW hz1 HS1
  dsimp only
  refine Wn.seqK ⟨_, Try.func13⟩ (by kernel_rfl) (by kernel_rfl) (fun w2 hS2 hz2 => ?_)
  have HB := hid (hS2.obj hB)
  have HS2 := hid (HSW.out.trans hS2)
  clear hS2 hB HSW hz2
  simp only [uf1, bodyUf, codeAt, Try.f13, Option.getD_some]
  have hb0 := obj_cell HB.out (i := 0) rfl
  have hb1 := obj_cell HB.out (i := 1) rfl
  cases hv : clusOk C with
  | false =>
    have HV := hid hv
    clear hv
    go_wp2_with (go_at_call 32; refine (iClusterValid _ C _ (HH.out.sup HS2.out) hl hfl hid').mono ?_; rintro e w3 ⟨rfl, hE3⟩; rw [HV.out]; have HE3 := hid hE3; clear hE3)
    refine EndK.out fun todo => ?_
    refine Wn.leaveK Try.func13 rfl ?_
    have hS3 := HS2.out.trans (Sup.of HE3.out)
    refine HE.out w3 D _ hS3 (HD.out.sup hS3) (DMore.refl _ _) ?_ (fun b hb => by cases hb)
    unfold usageOf
    rw [HV.out]
    exact Own.none_ _ _ _ _ _
  | true =>
  have HV := hid hv
  clear hv
  go_wp2_with (go_at_call 32; refine (iClusterValid _ C _ (HH.out.sup HS2.out) hl hfl hid').mono ?_; rintro e w3 ⟨rfl, hE3⟩; rw [HV.out]; have HE3 := hid hE3; clear hE3)
  refine EndK.on ?_
  dsimp only
  have HS3 := hid (HS2.out.trans (Sup.of HE3.out))
  have HB3 := hid (HE3.out.obj HB.out)
  clear HB HS2 hb0 hb1
  refine Wn.silent rfl (fun u => stepG_seq) ?_
  refine Wn.silent rfl (fun u => stepG_region) ?_
  rw [show List.range ufO.size = [0, 1, 2, 3] by kernel_rfl]
  simp only [ufO, opsOf, codeAt, bodyUf, Try.f13, Option.getD_some]
  refine Wn.opK rfl rfl rfl (fun w5 hS5 hz5 => ?_)
  have HB5 := hid (hS5.obj HB3.out)
  have HS5 := hid (HS3.out.trans hS5)
  have hb0 := obj_cell HB5.out (i := 0) rfl
  have hb1 := obj_cell HB5.out (i := 1) rfl
  clear hS5 hz5 HS3 HB3
  refine ⟨.value (.agg #[.slice Ar C.room.length cr, .slice Au C.units.length cu]), w5, ?_, fun v hv => ?_⟩
  · go_simp
  obtain rfl : v = .agg #[.slice Ar C.room.length cr, .slice Au C.units.length cu] := by
    rcases hv with h | ⟨h, _⟩
    · injection h with h; exact h.symm
    · cases h
  clear hv hb0 hb1
  simp only [Act.put, List.setIfInBounds_toArray, List.getElem_toArray, List.getElem_cons_zero, List.set_cons_succ, List.set_cons_zero]
  refine Wn.enter rfl rfl rfl Try.func36 (by kernel_rfl) (by kernel_rfl) ?_
  simp only [List.map_toArray, List.map_cons, List.map_nil, Act.eval, Array.getD_eq_getD_getElem?, List.getElem?_toArray, List.getElem?_cons_succ, List.getElem?_cons_zero, Option.getD_some]
  refine usageClus (HH.out.sup HS5.out) HV.out (HD.out.sup HS5.out) ?_
  intro w6 D' B6 hS6 hD6 hM6 hR6
  have HS6 := hid (HS5.out.trans hS6)
  have HD6 := hid hD6
  have HM6 := hid (DMore.trans (DMore.refl w D) HS5.out hM6)
  have HR6 := hid hR6
  rw [finish_at rfl rfl]
  simp only [List.setIfInBounds_toArray, List.set_cons_succ, List.set_cons_zero]
  clear hS6 hD6 hM6 hR6 HS5 HB5
  refine Wn.listK 2 ⟨_, Try.func13⟩ (by kernel_rfl) (by kernel_rfl) (by kernel_rfl) (fun w7 hS7 hz7 => ?_)
  have HS7 := hid (HS6.out.trans hS7)
  have HR7 := hid (HR6.out.sup hS7)
  have HD7 := hid (HD6.out.sup hS7)
  have HG := hid (loads_good HV.out)
  clear hS7 hz7 HS6 HR6 HD6
  simp only [List.drop_succ_cons, List.drop_zero]
  go_wp2_with (go_at_call 35; refine (iTogether _ _ _ HR7.out HG.out.1 HG.out.2).mono ?_; rintro e w8 ⟨v8, rfl, hO8, hE8⟩; have HO8 := hid hO8; have HE8 := hid hE8; clear hO8 hE8)
  refine EndK.on ?_
  dsimp only
  refine Wn.codeK ⟨_, Try.func13⟩ (by kernel_rfl) (by kernel_rfl) (fun w9 hS9 hz9 => ?_)
  have HS9 := hid hS9
  clear hS9 hz9
  simp only [ufR, bodyUf, codeAt, Try.f13, Option.getD_some]
  go_wp2
  refine EndK.out fun todo => ?_
  refine Wn.leaveK Try.func13 rfl ?_
  have hS := (Sup.of HE8.out).trans HS9.out
  have hO9 : OI w9 w.heap.size v8 (usageOf C) := by
    unfold usageOf
    rw [if_pos HV.out, ← tog_usage]
    exact Own.low (HO8.out.sup HS9.out) HS7.out.size
  refine HE.out w9 D' _ (HS7.out.trans hS) (HD7.out.sup hS) HM6.out hO9 (fun b hb hd => ?_)
  obtain ⟨ty, fr, e⟩ := HD7.out.sup hS b hd
  exact own_live hO9 (by unfold usageOf; rw [if_pos HV.out, usageL_len]; omega) hb e
end
end Go.Proofs.Ytcfpilkhjpegcaa

/- The share that is used: the program, beside goroutines that only leave. -/
namespace Go.Proofs.Ytcfpilkhjpegcaa
open Go Go.Conc Go.ConcN Go.RowKit

noncomputable def bodyUh : Code := (Try.f10.body).getD .skip
noncomputable def uh0 : Code := codeAt bodyUh [0]
noncomputable def uh1 : Code := codeAt bodyUh [1, 0]
noncomputable def uh2 : Code := codeAt bodyUh [1, 1, 0]
noncomputable def uh3 : Code := codeAt bodyUh [1, 1, 1, 0]
noncomputable def uhR : Code := codeAt bodyUh [1, 1, 1, 1, 1]
noncomputable def uhO : Array Oper := opsOf (codeAt bodyUh [1, 1, 1, 1, 0])
theorem bodyUh_eq : bodyUh = .seq uh0 (.seq uh1 (.seq uh2 (.seq uh3 (.seq (.region 6 uhO true) uhR)))) := by kernel_rfl
theorem frameUh (v0 v1 : Value) : Frame.enter Try.prog 10 #[v0, v1] .normal = (base 10).at ⟨#[v0, v1, undef, undef, undef, undef, undef, undef, undef, undef, undef, undef, undef, undef, undef, undef, undef, undef, undef, undef, undef, undef, undef, undef, undef, undef, undef, undef, undef, undef, undef, undef, undef], []⟩ [.code bodyUh] := by
  rw [enter_at _ Try.func10 (c := bodyUh) rfl]
  rw [show (Try.f10).ntmps = 33 by kernel_rfl]
  simp [Array.replicate]

/-- What the region keeps beside its own temporaries. -/
structure ShS (H d n : Nat) (a : Array Value) : Prop where
  size : a.size = 33
  s1 : a.getD 1 undef = .int .i64 d
  s2 : a.getD 2 undef = .pointer (some ⟨H, 0, none⟩)
  s5 : a.getD 5 undef = .int .i64 n
theorem ShS.put {H d n : Nat} {a : Array Value} (h : ShS H d n a) {t : Nat} (ht : 17 < t ∨ t = 4) (v : Value) : ShS H d n (a.setIfInBounds t v) := by
  obtain ⟨h1, h2, h3, h4⟩ := h
  refine ⟨by simpa using h1, ?_, ?_, ?_⟩ <;> (rw [getD_setU _ (by omega)]; assumption)
/-- What each operation of the region yields. -/
def shVal (cv : Value) (B : Nat) (nu : Nat) (g c3 d H : Nat) (rv : Value) (rb ro n : Nat) (u m1 rd m2 q : Int) : Nat → Value
  | 0 => cv
  | 1 => .slice (some ⟨B, 0, none⟩) nu nu
  | 2 => .slice (some ⟨g, 0, none⟩) 3 c3
  | 3 => .int .i64 d
  | 4 => .pointer (some ⟨g, d, none⟩)
  | 5 => .int .i64 u
  | 6 => .int .i64 m1
  | 7 => .pointer (some ⟨H, 0, none⟩)
  | 8 => rv
  | 9 => .int .i64 d
  | 10 => .pointer (some ⟨rb, ro + d, none⟩)
  | 11 => .int .i64 rd
  | 12 => .int .i64 n
  | 13 => .int .i64 m2
  | 14 => .int .i64 q
  | _ => undef
theorem shVal_B {cv rv : Value} {B B' nu g c3 d H rb ro n : Nat} {u m1 rd m2 q : Int} {j : Nat} (h : j ≠ 1) : shVal cv B nu g c3 d H rv rb ro n u m1 rd m2 q j = shVal cv B' nu g c3 d H rv rb ro n u m1 rd m2 q j := by
  unfold shVal
  split <;> first | rfl | exact absurd rfl h
theorem shVal_g {cv rv : Value} {B nu g g' c3 c3' d H rb ro n : Nat} {u m1 rd m2 q : Int} {j : Nat} (h : j ≠ 2) (h' : j ≠ 4) : shVal cv B nu g c3 d H rv rb ro n u m1 rd m2 q j = shVal cv B nu g' c3' d H rv rb ro n u m1 rd m2 q j := by
  unfold shVal
  split <;> first | rfl | exact absurd rfl h | exact absurd rfl h'
section
variable {D : Nat → Prop} {Post : Value → World → Prop} {cs : List Frame}

set_option maxRecDepth 100000 in
set_option maxHeartbeats 8000000 in
/-- The region that reckons the share. -/
theorem shareRegion {C : ClusD} {w : World} {c : Frame} {H d n rb ro cr cu : Nat} {Au : Option Addr} {a : Array Value} {k : List Item} {u m1 rd m2 q : Int}
    (hS : ShS H d n a) (hok : clusOk C = true) (hcv : ClusV w (.agg #[.slice (some ⟨rb, ro, none⟩) C.room.length cr, .slice Au C.units.length cu]) C) (hbx : w.heap[H]? = some (.cells #[.slice (some ⟨rb, ro, none⟩) C.room.length cr, .slice Au C.units.length cu] 26 (0, 0)))
    (hd : d < 3) (hrc : w.cell? ⟨rb, ro + d, none⟩ = some (.int .i64 rd)) (hu : (usageL C)[d]? = some u) (hw1 : IntKind.i64.wrap (100 * u) = m1) (hw2 : IntKind.i64.wrap (rd * n) = m2) (hm2 : (m2 == 0) = false) (hw3 : IntKind.i64.wrap (m1.tdiv m2) = q) (hdead : Dead D w)
    (hEnd : ∀ (w' : World) (D' : Nat → Prop) (a' : Array Value), Sup w w' → Dead D' w' → DMore w D D' → a'.getD 4 undef = .int .i64 q → Wn Try.prog Post D' (G ((base 10).at ⟨a', []⟩ k) (c :: cs)) w') :
    Wn Try.prog Post D (G ((base 10).at ⟨a, []⟩ (.code (.region 6 uhO true) :: k)) (c :: cs)) w := by
  have hsz : uhO.size = 16 := by kernel_rfl
  have hr3 : C.room.length = 3 := vecOk_len (roomOk_vec (clusOk_room hok))
  have i1 : (d : Int) < 3 := by omega
  have i2 : (d : Int) < (C.room.length : Int) := by omega
  refine Wn.draw (by kernel_rfl) fun t => ?_
  let Inv : Array Bool → (Nat → Prop) → Array Value → World → Prop := fun l D' a' w' => ∃ (B g c3 : Nat), ShS H d n a' ∧ (∀ j, j < 15 → l.getD j false = true → a'.getD (18 + j) undef = shVal (.agg #[.slice (some ⟨rb, ro, none⟩) C.room.length cr, .slice Au C.units.length cu]) B C.units.length g c3 d H (.slice (some ⟨rb, ro, none⟩) C.room.length cr) rb ro n u m1 rd m2 q j) ∧
    (l.getD 15 false = true → a'.getD 4 undef = .int .i64 q) ∧ Sup w w' ∧ Dead D' w' ∧ DMore w D D' ∧ (l.getD 1 false = true → RVs w' (.slice (some ⟨B, 0, none⟩) C.units.length C.units.length) (C.units.map fun u => loadL u.tasks)) ∧ (l.getD 2 false = true → w'.cell? ⟨g, d, none⟩ = some (.int .i64 u)) ∧ (l.getD 4 false = true → l.getD 2 false = true)
  have key := Wn.drawn (P := Try.prog) (Post := Post) (ops := uhO) (f := 10) (k := k) (cs := c :: cs) Inv (by kernel_rfl) ?step ?done
  case done =>
    intro l D' a' w' hl hall ⟨B, g, c3, hS', hv, hq, hs, hdd, hm, _⟩
    refine Wn.silent rfl (fun u => stepG_region_end) ?_
    exact hEnd w' D' a' hs hdd hm (hq (hall 15 (by omega)))
  case step =>
    intro l D' a' w' i o rest hl ho h0 hdep ⟨B, g, c3, hS', hv, hq, hs, hdd, hm, hg1, hg2, hg4⟩ hnext
    have hi16 : i < 16 := by
      have := (Array.getElem?_eq_some_iff.1 ho).1
      omega
    have hset : ∀ {j : Nat}, i ≠ j → ∀ b, (l.setIfInBounds i true).getD j b = l.getD j b := fun {j} hij b => by
      simp only [Array.getD_eq_getD_getElem?]
      rw [Array.getElem?_setIfInBounds_ne hij]
    have vstep : ∀ (v : Value), i ≠ 1 → i ≠ 2 → i < 15 → v = shVal (.agg #[.slice (some ⟨rb, ro, none⟩) C.room.length cr, .slice Au C.units.length cu]) B C.units.length g c3 d H (.slice (some ⟨rb, ro, none⟩) C.room.length cr) rb ro n u m1 rd m2 q i → o.dst = some (18 + i) → Region.wanted o (yielded uhO a') = true → plainOp Try.prog o.op = true → (i = 4 → l.getD 2 false = true) →
        (∀ w₁, Sup w w₁ → (execOp (Act.eval ⟨a', []⟩) o).run Try.prog w₁ = .ok (.value v) w₁) →
        Wn Try.prog Post D' (G ((base 10).at ⟨a', []⟩ (.inRegion uhO (i :: rest) :: k)) (c :: cs)) w' := by
      intro v hi1 hi2 hi hv' hd' hw hp hdep4 hr
      refine Wn.opK ho hw hp fun w1 hs1 hz1 => ⟨.value v, w1, hr w1 (hs.trans hs1), fun v2 hv2 => ?_⟩
      obtain rfl : v2 = v := by
        rcases hv2 with h | ⟨h, _⟩
        · injection h with h; exact h.symm
        · cases h
      rw [hd']
      refine hnext _ _ _ ⟨B, g, c3, hS'.put (.inl (by omega)) _, fun j hj hl' => ?_, fun hl' => ?_, hs.trans hs1, hdd.sup hs1, hm, fun hl' => ?_, fun hl' => ?_, fun hl' => ?_⟩
      · by_cases e : j = i
        · subst e; rw [getD_setU_same _ (by rw [hS'.size]; omega)]; exact hv'
        · rw [getD_setU _ (by omega)]
          exact hv j hj (by rwa [hset (Ne.symm e)] at hl')
      · rw [getD_setU _ (by omega)]
        exact hq (by rwa [hset (by omega)] at hl')
      · exact (hg1 (by rwa [hset (by omega)] at hl')).sup hs1
      · exact hs1.cell (hg2 (by rwa [hset (by omega)] at hl'))
      · rw [hset (by omega)]
        by_cases e : i = 4
        · subst e
          exact hdep4 rfl
        · exact hg4 (by rwa [hset e] at hl')
    have ho1 := ho
    have hi : i = 0 ∨ i = 1 ∨ i = 2 ∨ i = 3 ∨ i = 4 ∨ i = 5 ∨ i = 6 ∨ i = 7 ∨ i = 8 ∨ i = 9 ∨ i = 10 ∨ i = 11 ∨ i = 12 ∨ i = 13 ∨ i = 14 ∨ i = 15 := by omega
    simp only [uhO, opsOf, codeAt, bodyUh, Try.f10, Option.getD_some] at ho1
    rcases hi with rfl | rfl | rfl | rfl | rfl | rfl | rfl | rfl | rfl | rfl | rfl | rfl | rfl | rfl | rfl | rfl <;> simp only [List.getElem?_toArray, List.getElem?_cons_zero, List.getElem?_cons_succ, Option.some.injEq] at ho1 <;> subst ho1
    · have e2 : (Act.eval ⟨a', []⟩) (.tmp 2) = .pointer (some ⟨H, 0, none⟩) := hS'.s2
      generalize Act.eval ⟨a', []⟩ = ev at e2 vstep
      refine vstep (.agg #[.slice (some ⟨rb, ro, none⟩) C.room.length cr, .slice Au C.units.length cu]) (by omega) (by omega) (by omega) rfl rfl rfl rfl (fun h => absurd h (by omega)) (fun w₁ hs1 => ?_)
      have hb0 := obj_cell (hs1.obj hbx) (i := 0) rfl
      have hb1 := obj_cell (hs1.obj hbx) (i := 1) rfl
      (go_simp; try rfl)
    · have e18 : a'.getD 18 undef = .agg #[.slice (some ⟨rb, ro, none⟩) C.room.length cr, .slice Au C.units.length cu] := hv 0 (by omega) (hdep { on := 0, ground := .data } (by simp) rfl)
      refine Wn.enter ho rfl rfl Try.func36 (by kernel_rfl) (by kernel_rfl) ?_
      simp only [List.map_toArray, List.map_cons, List.map_nil, Act.eval, e18]
      refine usageClus (hcv.sup hs) hok hdd ?_
      intro w2 D2 B2 hs2 hd2 hm2' hR2
      rw [finish_at ho rfl]
      refine hnext _ _ _ ⟨B2, g, c3, hS'.put (.inl (by omega)) _, fun j hj hl' => ?_, fun hl' => ?_, hs.trans hs2, hd2, DMore.trans hm hs hm2', fun _ => hR2, fun hl' => ?_, fun hl' => ?_⟩
      · by_cases e : j = 1
        · subst e; rw [getD_setU_same _ (by rw [hS'.size]; omega)]; rfl
        · rw [getD_setU _ (by omega), shVal_B (B' := B) e]
          exact hv j hj (by rwa [hset (Ne.symm e)] at hl')
      · rw [getD_setU _ (by omega)]
        exact hq (by rwa [hset (by omega)] at hl')
      · exact hs2.cell (hg2 (by rwa [hset (by omega)] at hl'))
      · rw [hset (by omega)]
        exact hg4 (by rwa [hset (by omega)] at hl')
    · have e19 : a'.getD 19 undef = .slice (some ⟨B, 0, none⟩) C.units.length C.units.length := hv 1 (by omega) (hdep { on := 1, ground := .data } (by simp) rfl)
      have hR := hg1 (hdep { on := 1, ground := .data } (by simp) rfl)
      refine Wn.enter ho rfl rfl Try.func35 (by kernel_rfl) (by kernel_rfl) ?_
      simp only [List.map_toArray, List.map_cons, List.map_nil, Act.eval, e19]
      refine Wn.callK (by kernel_rfl) (by kernel_rfl) (fun w1 hs1 hz1 => ?_)
      refine (iTogether _ _ _ (hR.sup hs1) (loads_good hok).1 (loads_good hok).2).mono ?_
      rintro e w2 ⟨v2, rfl, hO2, hE2⟩
      refine ⟨v2, rfl, ?_⟩
      rw [show togL (C.units.map fun u => loadL u.tasks) = usageL C from tog_usage C] at hO2
      obtain ⟨g2, c2, rfl, _⟩ := Own.row hO2 (by rw [usageL_len]; omega)
      have hc2 := (OI.at_ hO2 hu).1
      rw [usageL_len, finish_at ho rfl]
      have hs2 := hs1.trans (Sup.of hE2)
      have hno : l.getD 2 false = true → False := fun h => by
        have h2 : (2 : Nat) < l.size := by rw [hl, hsz]; omega
        simp [Array.getD, h2] at h0 h
        rw [h0] at h
        cases h
      refine hnext _ _ _ ⟨B, g2, c2, hS'.put (.inl (by omega)) _, fun j hj hl' => ?_, fun hl' => ?_, hs.trans hs2, hdd.sup hs2, hm, fun hl' => ?_, fun _ => hc2, fun hl' => ?_⟩
      · by_cases e : j = 2
        · subst e; rw [getD_setU_same _ (by rw [hS'.size]; omega)]; rfl
        · rw [hset (Ne.symm e)] at hl'
          have e4 : j ≠ 4 := fun e4 => hno (hg4 (by rw [← e4]; exact hl'))
          rw [getD_setU _ (by omega), shVal_g (g' := g) (c3' := c3) e e4]
          exact hv j hj hl'
      · rw [getD_setU _ (by omega)]
        exact hq (by rwa [hset (by omega)] at hl')
      · exact (hg1 (by rwa [hset (by omega)] at hl')).sup hs2
      · rw [hset (by omega)] at hl'
        exact (hno (hg4 hl')).elim
    · have e1 : (Act.eval ⟨a', []⟩) (.tmp 1) = .int .i64 d := hS'.s1
      generalize Act.eval ⟨a', []⟩ = ev at e1 vstep
      refine vstep (.int .i64 d) (by omega) (by omega) (by omega) rfl rfl rfl rfl (fun h => absurd h (by omega)) (fun w₁ hs1 => ?_)
      (go_simp; try rfl)
    · have e20 : (Act.eval ⟨a', []⟩) (.tmp 20) = .slice (some ⟨g, 0, none⟩) 3 c3 := hv 2 (by omega) (hdep { on := 2, ground := .data } (by simp) rfl)
      have e21 : (Act.eval ⟨a', []⟩) (.tmp 21) = .int .i64 d := hv 3 (by omega) (hdep { on := 3, ground := .data } (by simp) rfl)
      generalize Act.eval ⟨a', []⟩ = ev at e20 e21 vstep
      refine vstep (.pointer (some ⟨g, d, none⟩)) (by omega) (by omega) (by omega) rfl rfl rfl rfl (fun _ => hdep { on := 2, ground := .data } (by simp) rfl) (fun w₁ hs1 => ?_)
      (go_simp; try rfl)
    · have e22 : (Act.eval ⟨a', []⟩) (.tmp 22) = .pointer (some ⟨g, d, none⟩) := hv 4 (by omega) (hdep { on := 4, ground := .data } (by simp) rfl)
      have hcu := hg2 (hg4 (hdep { on := 4, ground := .data } (by simp) rfl))
      refine Wn.opK ho rfl rfl fun w1 hs1 hz1 => ⟨.value (.int .i64 u), w1, ?_, fun v2 hv2 => ?_⟩
      · have hb0 := hs1.cell hcu
        generalize Act.eval ⟨a', []⟩ = ev at e22 ⊢
        (go_simp; try rfl)
      obtain rfl : v2 = .int .i64 u := by
        rcases hv2 with h | ⟨h, _⟩
        · injection h with h; exact h.symm
        · cases h
      refine hnext _ _ _ ⟨B, g, c3, hS'.put (.inl (by omega)) _, fun j hj hl' => ?_, fun hl' => ?_, hs.trans hs1, hdd.sup hs1, hm, fun hl' => ?_, fun hl' => ?_, fun hl' => ?_⟩
      · by_cases e : j = 5
        · subst e; rw [getD_setU_same _ (by rw [hS'.size]; omega)]; rfl
        · rw [getD_setU _ (by omega)]
          exact hv j hj (by rwa [hset (Ne.symm e)] at hl')
      · rw [getD_setU _ (by omega)]
        exact hq (by rwa [hset (by omega)] at hl')
      · exact (hg1 (by rwa [hset (by omega)] at hl')).sup hs1
      · exact hs1.cell (hg2 (by rwa [hset (by omega)] at hl'))
      · rw [hset (by omega)]
        exact hg4 (by rwa [hset (by omega)] at hl')
    · have e23 : (Act.eval ⟨a', []⟩) (.tmp 23) = .int .i64 u := hv 5 (by omega) (hdep { on := 5, ground := .data } (by simp) rfl)
      have ec : (Act.eval ⟨a', []⟩) (.const (.int .i64 100)) = .int .i64 100 := rfl
      generalize Act.eval ⟨a', []⟩ = ev at e23 ec vstep
      refine vstep (.int .i64 m1) (by omega) (by omega) (by omega) rfl rfl rfl rfl (fun h => absurd h (by omega)) (fun w₁ hs1 => ?_)
      (go_simp; try rfl)
    · have e2 : (Act.eval ⟨a', []⟩) (.tmp 2) = .pointer (some ⟨H, 0, none⟩) := hS'.s2
      generalize Act.eval ⟨a', []⟩ = ev at e2 vstep
      refine vstep (.pointer (some ⟨H, 0, none⟩)) (by omega) (by omega) (by omega) rfl rfl rfl rfl (fun h => absurd h (by omega)) (fun w₁ hs1 => ?_)
      (go_simp; try rfl)
    · have e25 : (Act.eval ⟨a', []⟩) (.tmp 25) = .pointer (some ⟨H, 0, none⟩) := hv 7 (by omega) (hdep { on := 7, ground := .data } (by simp) rfl)
      generalize Act.eval ⟨a', []⟩ = ev at e25 vstep
      refine vstep (.slice (some ⟨rb, ro, none⟩) C.room.length cr) (by omega) (by omega) (by omega) rfl rfl rfl rfl (fun h => absurd h (by omega)) (fun w₁ hs1 => ?_)
      have hb0 := obj_cell (hs1.obj hbx) (i := 0) rfl
      (go_simp; try rfl)
    · have e1 : (Act.eval ⟨a', []⟩) (.tmp 1) = .int .i64 d := hS'.s1
      generalize Act.eval ⟨a', []⟩ = ev at e1 vstep
      refine vstep (.int .i64 d) (by omega) (by omega) (by omega) rfl rfl rfl rfl (fun h => absurd h (by omega)) (fun w₁ hs1 => ?_)
      (go_simp; try rfl)
    · have e26 : (Act.eval ⟨a', []⟩) (.tmp 26) = .slice (some ⟨rb, ro, none⟩) C.room.length cr := hv 8 (by omega) (hdep { on := 8, ground := .data } (by simp) rfl)
      have e27 : (Act.eval ⟨a', []⟩) (.tmp 27) = .int .i64 d := hv 9 (by omega) (hdep { on := 9, ground := .data } (by simp) rfl)
      generalize Act.eval ⟨a', []⟩ = ev at e26 e27 vstep
      refine vstep (.pointer (some ⟨rb, ro + d, none⟩)) (by omega) (by omega) (by omega) rfl rfl rfl rfl (fun h => absurd h (by omega)) (fun w₁ hs1 => ?_)
      (go_simp; try rfl)
    · have e28 : (Act.eval ⟨a', []⟩) (.tmp 28) = .pointer (some ⟨rb, ro + d, none⟩) := hv 10 (by omega) (hdep { on := 10, ground := .data } (by simp) rfl)
      generalize Act.eval ⟨a', []⟩ = ev at e28 vstep
      refine vstep (.int .i64 rd) (by omega) (by omega) (by omega) rfl rfl rfl rfl (fun h => absurd h (by omega)) (fun w₁ hs1 => ?_)
      have hb0 := hs1.cell hrc
      (go_simp; try rfl)
    · have e5 : (Act.eval ⟨a', []⟩) (.tmp 5) = .int .i64 n := hS'.s5
      generalize Act.eval ⟨a', []⟩ = ev at e5 vstep
      refine vstep (.int .i64 n) (by omega) (by omega) (by omega) rfl rfl rfl rfl (fun h => absurd h (by omega)) (fun w₁ hs1 => ?_)
      (go_simp; try rfl)
    · have e29 : (Act.eval ⟨a', []⟩) (.tmp 29) = .int .i64 rd := hv 11 (by omega) (hdep { on := 11, ground := .data } (by simp) rfl)
      have e30 : (Act.eval ⟨a', []⟩) (.tmp 30) = .int .i64 n := hv 12 (by omega) (hdep { on := 12, ground := .data } (by simp) rfl)
      generalize Act.eval ⟨a', []⟩ = ev at e29 e30 vstep
      refine vstep (.int .i64 m2) (by omega) (by omega) (by omega) rfl rfl rfl rfl (fun h => absurd h (by omega)) (fun w₁ hs1 => ?_)
      (go_simp; try rfl)
    · have e24 : (Act.eval ⟨a', []⟩) (.tmp 24) = .int .i64 m1 := hv 6 (by omega) (hdep { on := 6, ground := .data } (by simp) rfl)
      have e31 : (Act.eval ⟨a', []⟩) (.tmp 31) = .int .i64 m2 := hv 13 (by omega) (hdep { on := 13, ground := .data } (by simp) rfl)
      have hm3 : ¬ m2 = 0 := by simpa using hm2
      generalize Act.eval ⟨a', []⟩ = ev at e24 e31 vstep
      refine vstep (.int .i64 q) (by omega) (by omega) (by omega) rfl rfl rfl rfl (fun h => absurd h (by omega)) (fun w₁ hs1 => ?_)
      (go_simp; try rfl)
    · have e32 : (Act.eval ⟨a', []⟩) (.tmp 32) = .int .i64 q := hv 14 (by omega) (hdep { on := 14, ground := .data } (by simp) rfl)
      refine Wn.opK ho rfl rfl fun w1 hs1 hz1 => ⟨.value (.int .i64 q), w1, ?_, fun v2 hv2 => ?_⟩
      · generalize Act.eval ⟨a', []⟩ = ev at e32 ⊢
        (go_simp; try rfl)
      obtain rfl : v2 = .int .i64 q := by
        rcases hv2 with h | ⟨h, _⟩
        · injection h with h; exact h.symm
        · cases h
      refine hnext _ _ _ ⟨B, g, c3, hS'.put (.inr rfl) _, fun j hj hl' => ?_, fun hl' => ?_, hs.trans hs1, hdd.sup hs1, hm, fun hl' => ?_, fun hl' => ?_, fun hl' => ?_⟩
      · rw [getD_setU _ (by omega)]
        exact hv j hj (by rwa [hset (by omega)] at hl')
      · exact getD_setU_same _ (by rw [hS'.size]; omega)
      · exact (hg1 (by rwa [hset (by omega)] at hl')).sup hs1
      · exact hs1.cell (hg2 (by rwa [hset (by omega)] at hl'))
      · rw [hset (by omega)]
        exact hg4 (by rwa [hset (by omega)] at hl')
  have h16 : (Array.replicate 16 false).toList.count false = 16 := by decide
  have none : ∀ j b, (Array.replicate 16 false).getD j false = true → b := fun j b h => by
    exfalso
    revert h
    simp [Array.getD]
  have := key 16 t (Array.replicate 16 false) D a w (by rw [hsz]; rfl) h16 ⟨0, 0, 0, hS, fun j _ h => none j _ h, fun h => none 15 _ h, Sup.refl w, hdead, DMore.refl _ _, fun h => none 1 _ h, fun h => none 2 _ h, fun h => none 4 _ h⟩
  unfold Region.linearise
  rw [hsz]
  exact this

set_option maxRecDepth 100000 in
set_option maxHeartbeats 4000000 in
theorem usageShareWn {cv : Value} {C : ClusD} {dim : Int} {w : World} {c : Frame} (h : ClusV w cv C) (hl : C.units.length ≤ 4000000) (hfl : (C.units.map (·.tasks)).flatten.length ≤ 4000000) (hid' : ∀ t ∈ (C.units.map (·.tasks)).flatten, IdR t.id) (hdead : Dead D w)
    (hEnd : ∀ (w' : World) (D' : Nat → Prop), Sup w w' → Dead D' w' → DMore w D D' → Wn Try.prog Post D' (G (c.finish (.int .i64 (shareN C dim))) cs) w') :
    Wn Try.prog Post D (G (Frame.enter Try.prog 10 #[cv, .int .i64 dim] .normal) (c :: cs)) w := by
  have HH := hid h
  obtain ⟨Ar, cr, Au, cu, rfl⟩ := h.form
  have HD := hid hdead
  have HE := hid hEnd
  clear hdead hEnd h
  rw [frameUh, bodyUh_eq]
  refine Wn.seqK ⟨_, Try.func10⟩ (by kernel_rfl) (by kernel_rfl) (fun w1 hS1 hz1 => ?_)
  have HS1 := hid hS1
  clear hS1
  simp only [uh0, bodyUh, codeAt, Try.f10, Option.getD_some]
  go_wp2
  refine EndK.on ?_
  obtain ⟨W, hW⟩ : ∃ W, W = w1.alloc (.cells #[.slice Ar C.room.length cr, .slice Au C.units.length cu] 26) := ⟨_, rfl⟩
  have hB : W.heap[w.heap.size]? = some (.cells #[.slice Ar C.room.length cr, .slice Au C.units.length cu] 26 (0, 0)) := by rw [hW, ← hz1]; exact heap_alloc_new _ _
  have HSW : Hid (Sup w W) := hid (HS1.out.trans (by rw [hW]; exact Sup.of (Ext.alloc _ _)))
  rw [← hW]
  clear hW hz1 HS1
  dsimp only
  refine Wn.seqK ⟨_, Try.func10⟩ (by kernel_rfl) (by kernel_rfl) (fun w2 hS2 hz2 => ?_)
  have HB := hid (hS2.obj hB)
  have HS2 := hid (HSW.out.trans hS2)
  clear hS2 hB HSW hz2
  simp only [uh1, bodyUh, codeAt, Try.f10, Option.getD_some]
  have hb0 := obj_cell HB.out (i := 0) rfl
  have hb1 := obj_cell HB.out (i := 1) rfl
  cases hv : clusOk C with
  | false =>
    have HV := hid hv
    clear hv
    go_wp2_with (go_at_call 32; refine (iClusterValid _ C _ (HH.out.sup HS2.out) hl hfl hid').mono ?_; rintro e w3 ⟨rfl, hE3⟩; rw [HV.out]; have HE3 := hid hE3; clear hE3)
    refine EndK.out fun todo => ?_
    refine Wn.leaveK Try.func10 rfl ?_
    have hS3 := HS2.out.trans (Sup.of HE3.out)
    have := HE.out w3 D hS3 (HD.out.sup hS3) (DMore.refl _ _)
    unfold shareN at this
    rw [HV.out] at this
    exact this
  | true =>
  have HV := hid hv
  clear hv
  cases hi : inB dim 0 2 with
  | false =>
    have HI := hid hi
    clear hi
    go_wp2_with (first
      | (go_at_call 32; refine (iClusterValid _ C _ (HH.out.sup HS2.out) hl hfl hid').mono ?_; rintro e w3 ⟨rfl, hE3⟩; rw [HV.out]; have HE3 := hid hE3; clear hE3)
      | (go_at_call 33; refine (iWithin _ _ _ _).mono ?_; rintro e w4 ⟨rfl, nd, rfl⟩; rw [HI.out]; have HE4 : Hid (Ext w2 (w3.drewN nd)) := hid (HE3.out.trans (Ext.drewN _ _))))
    refine EndK.out fun todo => ?_
    refine Wn.leaveK Try.func10 rfl ?_
    have hS3 := HS2.out.trans (Sup.of HE4.out)
    have := HE.out _ D hS3 (HD.out.sup hS3) (DMore.refl _ _)
    unfold shareN at this
    rw [HV.out, HI.out] at this
    exact this
  | true =>
  have HI := hid hi
  obtain ⟨d, rfl⟩ : ∃ d : Nat, dim = d := ⟨dim.toNat, by simp [inB] at hi; omega⟩
  have hd : d < 3 := by simp [inB] at hi; omega
  have HDd := hid hd
  clear hi hd
  go_wp2_with (first
    | (go_at_call 32; refine (iClusterValid _ C _ (HH.out.sup HS2.out) hl hfl hid').mono ?_; rintro e w3 ⟨rfl, hE3⟩; rw [HV.out]; have HE3 := hid hE3; clear hE3)
    | (go_at_call 33; refine (iWithin _ _ _ _).mono ?_; rintro e w4 ⟨rfl, nd, rfl⟩; rw [HI.out]; have HE4 : Hid (Ext w2 (w3.drewN nd)) := hid (HE3.out.trans (Ext.drewN _ _))))
  refine EndK.on ?_
  dsimp only
  have HS4 := hid (HS2.out.trans (Sup.of HE4.out))
  have HB4 := hid (HE4.out.obj HB.out)
  clear HB HS2 hb0 hb1 HE3 HE4
  generalize w3.drewN nd = w4 at *
  obtain ⟨n, hn⟩ : ∃ n, n = openN C := ⟨_, rfl⟩
  have HN := hid hn
  clear hn
  refine Wn.seqK ⟨_, Try.func10⟩ (by kernel_rfl) (by kernel_rfl) (fun w5 hS5 hz5 => ?_)
  have HB5 := hid (hS5.obj HB4.out)
  have HS5 := hid (HS4.out.trans hS5)
  have hb0 := obj_cell HB5.out (i := 0) rfl
  have hb1 := obj_cell HB5.out (i := 1) rfl
  clear hS5 hz5 HS4 HB4
  simp only [uh2, bodyUh, codeAt, Try.f10, Option.getD_some]
  go_wp2_with (go_at_call 34; refine (iOpen _ C _ (HH.out.sup HS5.out) hl).mono ?_; rw [← HN.out]; rintro e w6 ⟨rfl, hE6⟩; have HE6 := hid hE6; clear hE6)
  refine EndK.on ?_
  dsimp only
  have HS6 := hid (HS5.out.trans (Sup.of HE6.out))
  have HB6 := hid (HE6.out.obj HB5.out)
  clear HB5 HS5 hb0 hb1 HE6
  refine Wn.seqK ⟨_, Try.func10⟩ (by kernel_rfl) (by kernel_rfl) (fun w7 hS7 hz7 => ?_)
  have HB7 := hid (hS7.obj HB6.out)
  have HS7 := hid (HS6.out.trans hS7)
  clear hS7 hz7 HS6 HB6
  simp only [uh3, bodyUh, codeAt, Try.f10, Option.getD_some]
  by_cases hn0 : n = 0
  · have hn1 : ((n : Int) == 0) = true := by simp [hn0]
    have hn0 := hid hn0
    go_wp2
    refine EndK.out fun todo => ?_
    refine Wn.leaveK Try.func10 rfl ?_
    have := HE.out w7 D HS7.out (HD.out.sup HS7.out) (DMore.refl _ _)
    unfold shareN at this
    rw [HV.out, HI.out, if_pos (by rfl : (true && true) = true), if_pos (by rw [← HN.out]; exact hn0.out : openN C = 0)] at this
    exact this
  have hn1 : ((n : Int) == 0) = false := by simp; omega
  have hn0 := hid hn0
  go_wp2
  refine EndK.on ?_
  dsimp only
  clear hn1
  refine Wn.silent rfl (fun u => stepG_seq) ?_
  have hd := HDd.out
  have hr3 : C.room.length = 3 := vecOk_len (roomOk_vec (clusOk_room HV.out))
  obtain ⟨A', c', hA, q1, q2, hg⟩ := RI.get ((HH.out.sup HS7.out).room)
  obtain ⟨rb, ro, rd, rfl, erd, crd⟩ := hg d (by omega)
  injection hA with hA1 hA2 hA3
  subst hA1
  have hrd : rd = C.room.getD d 0 := by rw [List.getD_eq_getElem?_getD, erd.out]; rfl
  obtain ⟨u, hu⟩ : ∃ u, u = (usageL C).getD d 0 := ⟨_, rfl⟩
  have hul := usageL_len C
  have hu' : (usageL C)[d]? = some u := by rw [hu, List.getD_eq_getElem?_getD, List.getElem?_eq_getElem (by omega)]; rfl
  have hub := usage_bd HV.out hd
  have hab := all_bd HV.out hd
  have hrb := room_bd HV.out hd
  have hm2e : rd * (n : Int) = (openN C : Int) * C.room.getD d 0 := by rw [hrd, HN.out, Int.mul_comm]
  have hno : openN C ≠ 0 := by rw [← HN.out]; exact hn0.out
  have hpos := hab.2.2 hno
  have hq : (100 * u).tdiv (rd * (n : Int)) = (100 * u) / (rd * (n : Int)) := Int.tdiv_eq_ediv_of_nonneg (by omega)
  have hq0 : 0 ≤ (100 * u) / (rd * (n : Int)) := Int.ediv_nonneg (by omega) (by omega)
  have hq1 : (100 * u) / (rd * (n : Int)) ≤ 100 * u := Int.ediv_le_self _ (by omega)
  refine shareRegion (H := w.heap.size) (d := d) (n := n) (rb := rb) (ro := ro) (cr := cr) (cu := cu) (Au := Au) (u := u) (rd := rd) (m1 := 100 * u) (m2 := rd * (n : Int)) (q := (100 * u).tdiv (rd * (n : Int)))
    ⟨rfl, rfl, rfl, rfl⟩ HV.out (HH.out.sup HS7.out) HB7.out hd crd hu' (IntWalk.i64_in _ (by omega)) (IntWalk.i64_in _ (by omega)) (by simp; omega) (IntWalk.i64_in _ (by omega)) (HD.out.sup HS7.out) ?_
  intro w8 D' a8 hS8 hD8 hM8 ha8
  refine Wn.codeK ⟨_, Try.func10⟩ (by kernel_rfl) (by kernel_rfl) (fun w9 hS9 hz9 => ?_)
  have HS9 := hid hS9
  clear hS9 hz9
  have hret : uhR = .ret := by kernel_rfl
  rw [hret]
  refine wp_ret ?_
  refine EndK.out fun todo => ?_
  refine Wn.leaveK Try.func10 rfl ?_
  rw [ha8]
  have := HE.out w9 D' (HS7.out.trans (hS8.trans HS9.out)) (hD8.sup HS9.out) (DMore.trans (DMore.refl w D) HS7.out hM8)
  rw [share_eq HV.out hd hno, ← hu, ← hm2e, ← hq] at this
  exact this
end
end Go.Proofs.Ytcfpilkhjpegcaa
