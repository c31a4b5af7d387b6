/- Needs and tasks that are drawn. -/
import Derived.Test.YtfgibhdglbjadaaDr3
namespace Go.Proofs.Ytfgibhdglbjadaa
open Go.RowKit
set_option maxRecDepth 4000

theorem three_at {x : Nat} (h : x < 3) : ∃ y : Int, ([-1, 20, 21] : List Int)[x]? = some y ∧ -1 ≤ y ∧ y ≤ 21 := by
  match x, h with
  | 0, _ => exact ⟨-1, rfl, by omega, by omega⟩
  | 1, _ => exact ⟨20, rfl, by omega, by omega⟩
  | 2, _ => exact ⟨21, rfl, by omega, by omega⟩
theorem Gr.obj {b : Nat} {w w' : World} (h : Gr b w w') {k : Nat} {o : Obj} (hk : w.heap[k]? = some o) (hb : k ≠ b) : w'.heap[k]? = some o := (h.block k (Array.getElem?_eq_some_iff.1 hk).1 (by intro he; injection he with he; exact hb he)).trans hk
theorem bd3 {l h a b c : Int} (ha : l ≤ a ∧ a ≤ h) (hb : l ≤ b ∧ b ≤ h) (hc : l ≤ c ∧ c ≤ h) : ∀ x ∈ ([a, b, c] : List Int), l ≤ x ∧ x ≤ h := by
  intro x hx
  simp only [List.mem_cons, List.not_mem_nil, or_false] at hx
  rcases hx with rfl | rfl | rfl
  · exact ha
  · exact hb
  · exact hc

set_option maxHeartbeats 2000000 in
theorem dNeed (b : Nat) (bv : Value) (bs : List Int) (p : Nat) (w : World) (h : Rd w b bv bs p) (hp : p ≤ 900000) :
    Calls Try.prog 54 #[.pointer (some ⟨b, 0, none⟩)] w fun e w' => ∃ v xs, e = .returned v ∧ OI w' w.heap.size v xs ∧ xs.length = 3 ∧ (∀ x ∈ xs, -1 ≤ x ∧ x ≤ 21) ∧ DrawR w b bv bs p 5 w' := by
  have HR0 := hid h
  have HL := hid h.low
  clear h
  go_enter Try.func54, Try.ntmps54
  go_wp2_with (first
    | (go_at_call 75; have hq := HR4.out.ext (Ext.alloc w4 (.cells #[.int .i64 (-1), .int .i64 20, .int .i64 21] 3)); have HB4 : Hid (OI (w4.alloc (.cells #[.int .i64 (-1), .int .i64 20, .int .i64 21] 3)) w4.heap.size (.slice (some ⟨w4.heap.size, 0, none⟩) 3 3) [-1, 20, 21]) := hid (OI.lit w4 [-1, 20, 21] (by simp) w4.heap.size (Nat.le_refl _)); refine (dPick b bv bs _ _ _ hq (by omega) (by omega)).mono ?_; rintro e w5 ⟨x5, rfl, ho5, hg5, hr5⟩; have hx5 := pick_lt ho5 (by decide); clear ho5; have HO5 := hid (Own.same EI.ok (HO4.out.ext EI.ok (Ext.alloc _ _)) (hg5.same hq (fun t => t = 3 ∨ False) notRd)); have HB5 := hid (Own.same EI.ok HB4.out (hg5.same hq (fun t => t = 3 ∨ False) notRd)); have HT5 := hid ((HT4.out.ext (Ext.alloc _ _)).more hg5 hr5); obtain ⟨y5, hy5, hyb⟩ := three_at (x := x5) (by omega); obtain ⟨cb5, _, _⟩ := OI.at_ HB5.out hy5; obtain ⟨co5, fo5, _⟩ := OI.at_ (j := 0) HO5.out rfl; clear hg5 hr5 hq)
    | (go_at_call 75; have hq := HR3.out; refine (dPick b bv bs _ _ _ hq (by omega) (by omega)).mono ?_; rintro e w4 ⟨x4, rfl, ho4, hg4, hr4⟩; have hx4 := pick_lt ho4 (by decide); clear ho4; have HR4 := hid hr4; have HT4 := hid (HT3.out.more hg4 hr4); have HO4 := hid (Own.same EI.ok HO3.out (hg4.same hq (fun t => t = 3 ∨ False) notRd)); clear hg4 hr4 hq)
    | (go_at_call 75; have hq := HR2.out; refine (dPick b bv bs _ _ _ hq (by omega) (by omega)).mono ?_; rintro e w3 ⟨x3, rfl, ho3, hg3, hr3⟩; have hx3 := pick_lt ho3 (by decide); clear ho3; have HT3 := hid ((HT2.out.more hg3 hr3).ext (Ext.alloc w3 (.cells #[.int .i64 (x1 : Int), .int .i64 (x2 : Int), .int .i64 (1 + (x3 : Int))] 3))); have HR3 := hid (hr3.ext (Ext.alloc w3 (.cells #[.int .i64 (x1 : Int), .int .i64 (x2 : Int), .int .i64 (1 + (x3 : Int))] 3))); have HO3 : Hid (OI (w3.alloc (.cells #[.int .i64 (x1 : Int), .int .i64 (x2 : Int), .int .i64 (1 + (x3 : Int))] 3)) w.heap.size (.slice (some ⟨w3.heap.size, 0, none⟩) 3 3) [(x1 : Int), (x2 : Int), 1 + (x3 : Int)]) := hid (OI.lit w3 [(x1 : Int), (x2 : Int), 1 + (x3 : Int)] (by simp) w.heap.size (HT2.out.1.trans hg3).size); clear hg3 hr3 hq)
    | (go_at_call 75; have hq := HR1.out; refine (dPick b bv bs _ _ _ hq (by omega) (by omega)).mono ?_; rintro e w2 ⟨x2, rfl, ho2, hg2, hr2⟩; have hx2 := pick_lt ho2 (by decide); clear ho2; have HR2 := hid hr2; have HT2 := hid (HT1.out.more hg2 hr2); clear hg2 hr2 hq)
    | (go_at_call 75; refine (dPick b bv bs _ _ _ HR0.out (by omega) (by omega)).mono ?_; rintro e w1 ⟨x1, rfl, ho1, hg1, hr1⟩; have hx1 := pick_lt ho1 (by decide); clear ho1; have HR1 := hid hr1; have HT1 : Hid (DrawR w b bv bs p 1 w1) := hid ⟨hg1, _, Nat.le_refl _, hr1⟩; clear hg1 hr1))
  · go_ret
    exact ⟨_, [0, 0, 0], rfl, OI.lit w4 [0, 0, 0] (by simp) w.heap.size HT4.out.1.size, rfl, bd3 (by omega) (by omega) (by omega), (HT4.out.ext (Ext.alloc _ _)).mono (by omega)⟩
  · go_ret
    have hlow := (HO5.out.lt _ rfl).1
    have hs := (OI.set HO5.out (j := 0) (by show 0 < 3; omega) y5).1
    exact ⟨_, _, rfl, hs, rfl, bd3 hyb (by omega) (by omega), HT5.out.stored hlow HL.out.1 HL.out.2 _⟩
  · go_ret
    exact ⟨_, _, rfl, HO4.out, rfl, bd3 (by omega) (by omega) (by omega), HT4.out.mono (by omega)⟩

theorem set3 {l h a b c y : Int} {i : Nat} (ha : l ≤ a ∧ a ≤ h) (hb : l ≤ b ∧ b ≤ h) (hc : l ≤ c ∧ c ≤ h) (hy : l ≤ y ∧ y ≤ h) : ∀ x ∈ ([a, b, c] : List Int).set i y, l ≤ x ∧ x ≤ h := by
  intro x hx
  rcases List.mem_or_eq_of_mem_set hx with hx | rfl
  · exact bd3 ha hb hc x hx
  · exact hy
/-- a struct of two cells is taken into the block of the results -/
theorem res2 {W : World} {H G : Nat} {z0 z1 u v : Value} {t : TypeId} (pH : W.heap[H]? = some (.cells #[z0, z1] t (0, 0))) (pG : W.heap[G]? = some (.cells #[u, v] t (0, 0))) :
    W.cell? ⟨G, 0, none⟩ = some u ∧ W.cell? ⟨G, 1, none⟩ = some v ∧ W.cell? ⟨H, 0, none⟩ = some z0 ∧ W.cell? ⟨H, 1, none⟩ = some z1 ∧ W.frozen? ⟨H, 0, none⟩ = false ∧ W.frozen? ⟨H, 1, none⟩ = false ∧
    (W.setCell ⟨H, 0, none⟩ u).cell? ⟨H, 1, none⟩ = some z1 ∧ (W.setCell ⟨H, 0, none⟩ u).frozen? ⟨H, 1, none⟩ = false ∧
    ((W.setCell ⟨H, 0, none⟩ u).setCell ⟨H, 1, none⟩ v).cell? ⟨H, 0, none⟩ = some u ∧ ((W.setCell ⟨H, 0, none⟩ u).setCell ⟨H, 1, none⟩ v).cell? ⟨H, 1, none⟩ = some v ∧
    (∀ T : TypeId → Prop, (∀ s, T s → s ≠ t) → SameT T W ((W.setCell ⟨H, 0, none⟩ u).setCell ⟨H, 1, none⟩ v)) := by
  have k := obj_set pH 0 u
  have r := obj_set2 pH u v
  exact ⟨obj_cell pG (i := 0) rfl, obj_cell pG (i := 1) rfl, obj_cell pH (i := 0) rfl, obj_cell pH (i := 1) rfl, obj_frozen pH 0, obj_frozen pH 1, obj_cell k (i := 1) rfl, obj_frozen k 1, obj_cell r (i := 0) rfl, obj_cell r (i := 1) rfl,
    fun T hT => (SameT.setCell (p := ⟨H, 0, none⟩) pH u hT).trans (SameT.setCell (p := ⟨H, 1, none⟩) k v hT)⟩

set_option maxHeartbeats 4000000 in
theorem dTask (b : Nat) (bv : Value) (bs : List Int) (p : Nat) (id : Int) (w : World) (h : Rd w b bv bs p) (hp : p ≤ 900000) :
    Calls Try.prog 84 #[.pointer (some ⟨b, 0, none⟩), .int .i64 id] w fun e w' => ∃ v xs, e = .returned (.agg #[.int .i64 id, v]) ∧ OI w' w.heap.size v xs ∧ xs.length = 3 ∧ (∀ x ∈ xs, 0 ≤ x ∧ x ≤ 7) ∧ DrawR w b bv bs p 6 w' := by
  have HR0 := hid (h.ext (Ext.alloc w (.cells #[.int .i64 0, .slice none 0 0] 64)))
  have HG0 := hid (Gr.of_ext (b := b) (Ext.alloc w (.cells #[.int .i64 0, .slice none 0 0] 64)))
  have HL := hid h.low
  have hbl : b < w.heap.size := h.low.1
  have P0 := hid (heap_alloc_new w (.cells #[.int .i64 0, .slice none 0 0] 64))
  clear h
  go_enter Try.func84, Try.ntmps84
  go_wp2_with (first
    | (go_at_call 75; have hq := HR3.out; refine (dPick b bv bs _ _ _ hq (by omega) (by omega)).mono ?_; rintro e w4 ⟨x4, rfl, ho4, hg4, hr4⟩; have hx4 := pick_lt ho4 (by decide); clear ho4; have HR4 := hid hr4; have HT4 := hid (HT3.out.more hg4 hr4); have HO4 := hid (Own.same EI.ok HO3.out (hg4.same hq (fun t => t = 3 ∨ False) notRd)); have P4 := hid (hg4.obj P3.out (by omega)); have Q4 := hid (hg4.obj Q3.out (by omega)); obtain ⟨e0, e1, y0, y1, y0f, y1f, k1, k1f, r0, r1, hsm⟩ := res2 P4.out Q4.out; have HSM := hid hsm; clear hg4 hr4 hq hsm)
    | (go_at_call 75; have hq := HR2.out; refine (dPick b bv bs _ _ _ hq (by omega) (by omega)).mono ?_; rintro e w3 ⟨x3, rfl, ho3, hg3, hr3⟩; have hx3 := pick_lt ho3 (by decide); clear ho3; have hEE := (Ext.alloc w3 (.cells #[.int .i64 (x1 : Int), .int .i64 (x2 : Int), .int .i64 (x3 : Int)] 3)).trans (Ext.alloc _ (.cells #[.int .i64 id, .slice (some ⟨w3.heap.size, 0, none⟩) 3 3] 64)); have HT3 := hid ((HT2.out.more hg3 hr3).ext hEE); have HR3 := hid (hr3.ext hEE); have HO3 : Hid (OI ((w3.alloc (.cells #[.int .i64 (x1 : Int), .int .i64 (x2 : Int), .int .i64 (x3 : Int)] 3)).alloc (.cells #[.int .i64 id, .slice (some ⟨w3.heap.size, 0, none⟩) 3 3] 64)) w.heap.size (.slice (some ⟨w3.heap.size, 0, none⟩) 3 3) [(x1 : Int), (x2 : Int), (x3 : Int)]) := hid ((OI.lit w3 [(x1 : Int), (x2 : Int), (x3 : Int)] (by simp) w.heap.size (HT2.out.1.trans hg3).size).ext EI.ok (Ext.alloc _ _)); have P3 := hid (hEE.obj (hg3.obj P2.out (by omega))); have Q3 : Hid (((w3.alloc (.cells #[.int .i64 (x1 : Int), .int .i64 (x2 : Int), .int .i64 (x3 : Int)] 3)).alloc (.cells #[.int .i64 id, .slice (some ⟨w3.heap.size, 0, none⟩) 3 3] 64)).heap[w3.heap.size + 1]? = some (.cells #[.int .i64 id, .slice (some ⟨w3.heap.size, 0, none⟩) 3 3] 64 (0, 0))) := hid (heap_new (by simp)); have hsz3 := obj_lt (hg3.obj P2.out (by omega)); clear hg3 hr3 hq hEE)
    | (go_at_call 75; have hq := HR1.out; refine (dPick b bv bs _ _ _ hq (by omega) (by omega)).mono ?_; rintro e w2 ⟨x2, rfl, ho2, hg2, hr2⟩; have hx2 := pick_lt ho2 (by decide); clear ho2; have HR2 := hid hr2; have HT2 := hid (HT1.out.more hg2 hr2); have P2 := hid (hg2.obj P1.out (by omega)); clear hg2 hr2 hq)
    | (go_at_call 75; refine (dPick b bv bs _ _ _ HR0.out (by omega) (by omega)).mono ?_; rintro e w1 ⟨x1, rfl, ho1, hg1, hr1⟩; have hx1 := pick_lt ho1 (by decide); clear ho1; have HR1 := hid hr1; have HT1 : Hid (DrawR w b bv bs p 1 w1) := hid ⟨HG0.out.trans hg1, _, Nat.le_refl _, hr1⟩; have P1 := hid (hg1.obj P0.out (by omega)); clear hg1 hr1))
  · have KS := hid (obj_cell Q4.out (i := 1) rfl)
    refine WG.start (fun w' => w'.cell? ⟨w3.heap.size + 1, 1, none⟩ = some (.slice (some ⟨w3.heap.size, 0, none⟩) 3 3)) [8] (by kernel_rfl) (by exact KS.out) (fun hHeld => ?_)
    (refine WG.take (i := 0) (v := ?_) rfl (by kernel_rfl) (by kernel_rfl) (by kernel_rfl) (by kernel_rfl) (fun _ _ _ h => h) (Or.inl ⟨by rfl, ?_⟩) (by assumption) ?_; rotate_left; (intro w hSw; (try dsimp only at hSw); go_split_ands; go_simp; (try with_reducible rfl)); (try simp only [Act.put, List.setIfInBounds_toArray, List.set_cons_zero, List.set_cons_succ]))
    (refine WG.take (i := 1) (v := ?_) rfl (by kernel_rfl) (by kernel_rfl) (by kernel_rfl) (by kernel_rfl) (fun _ _ _ h => h) (Or.inl ⟨by rfl, ?_⟩) (by assumption) ?_; rotate_left; (intro w hSw; (try dsimp only at hSw); go_split_ands; go_simp; (try with_reducible rfl)); (try simp only [Act.put, List.setIfInBounds_toArray, List.set_cons_zero, List.set_cons_succ]))
    (refine WG.take (i := 2) (v := ?_) rfl (by kernel_rfl) (by kernel_rfl) (by kernel_rfl) (by kernel_rfl) (fun _ _ _ h => h) (Or.inl ⟨by rfl, ?_⟩) (by assumption) ?_; rotate_left; (intro w hSw; (try dsimp only at hSw); go_split_ands; go_simp; (try with_reducible rfl)); (try simp only [Act.put, List.setIfInBounds_toArray, List.set_cons_zero, List.set_cons_succ]))
    (refine WG.take (i := 4) (v := ?_) rfl (by kernel_rfl) (by kernel_rfl) (by kernel_rfl) (by kernel_rfl) (fun _ _ _ h => h) (Or.inl ⟨by rfl, ?_⟩) (by assumption) ?_; rotate_left; (intro w hSw; (try dsimp only at hSw); go_split_ands; go_simp; (try with_reducible rfl)); (try simp only [Act.put, List.setIfInBounds_toArray, List.set_cons_zero, List.set_cons_succ]))
    refine WG.one (i := 3) rfl (by kernel_rfl) (fun K hK => ?_)
    go_simp; refine (dPick b bv bs _ _ _ (HR4.out.ext (Below.drew (Below.refl _ _))) (by omega) (by omega)).mono ?_; rintro e5 w5 ⟨x5, rfl, ho5, hg5, hr5⟩; have hx5 := pick_lt ho5 (by decide); clear ho5; have hg5 := (Gr.of_ext (b := b) (Below.drew (Below.refl w4.heap.size w4))).trans hg5; have HR5 := hid hr5; have HT5 := hid (HT4.out.more hg5 hr5); have HO5 := hid (Own.same EI.ok HO4.out (hg5.same HR4.out (fun t => t = 3 ∨ False) notRd)); have P5 := hid (hg5.obj P4.out (by omega)); have Q5 := hid (hg5.obj Q4.out (by omega)); clear hg5 hr5; (try dsimp only)
    refine hK.out _ _ (by exact obj_cell Q5.out (i := 1) rfl) (fun hHeld => ?_)
    clear hK K
    (try simp only [Act.put, List.setIfInBounds_toArray, List.set_cons_zero, List.set_cons_succ])
    refine WG.one (i := 5) rfl (by kernel_rfl) (fun K hK => ?_)
    go_simp; refine (dPick b bv bs _ _ _ HR5.out (by omega) (by omega)).mono ?_; rintro e6 w6 ⟨x6, rfl, ho6, hg6, hr6⟩; have hx6 := pick_lt ho6 (by decide); clear ho6; have HR6 := hid hr6; have HT6 := hid (HT5.out.more hg6 hr6); have HO6 := hid (Own.same EI.ok HO5.out (hg6.same HR5.out (fun t => t = 3 ∨ False) notRd)); have P6 := hid (hg6.obj P5.out (by omega)); have Q6 := hid (hg6.obj Q5.out (by omega)); clear hg6 hr6; (try dsimp only)
    refine hK.out _ _ (by exact obj_cell Q6.out (i := 1) rfl) (fun hHeld => ?_)
    clear hK K
    (try simp only [Act.put, List.setIfInBounds_toArray, List.set_cons_zero, List.set_cons_succ])
    (refine WG.take (i := 6) (v := ?_) rfl (by kernel_rfl) (by kernel_rfl) (by kernel_rfl) (by kernel_rfl) (fun _ _ _ h => h) (Or.inl ⟨by rfl, ?_⟩) (by assumption) ?_; rotate_left; (intro w hSw; (try dsimp only at hSw); go_split_ands; go_simp; (try with_reducible rfl)); (try simp only [Act.put, List.setIfInBounds_toArray, List.set_cons_zero, List.set_cons_succ]))
    (refine WG.take (i := 7) (v := ?_) rfl (by kernel_rfl) (by kernel_rfl) (by kernel_rfl) (by kernel_rfl) (fun _ _ _ h => h) (Or.inl ⟨by rfl, ?_⟩) (by assumption) ?_; rotate_left; (intro w hSw; (try dsimp only at hSw); go_split_ands; go_simp; (try with_reducible rfl)); (try simp only [Act.put, List.setIfInBounds_toArray, List.set_cons_zero, List.set_cons_succ]))
    obtain ⟨z6, hz6⟩ : ∃ z, ([(x1 : Int), (x2 : Int), (x3 : Int)] : List Int)[x5]? = some z := ⟨_, List.getElem?_eq_getElem (by show x5 < 3; omega)⟩
    obtain ⟨co6, fo6, hlow⟩ := OI.at_ HO6.out hz6
    refine WG.last (i := 8) rfl (by kernel_rfl) (by kernel_rfl) (fun K hK => ?_)
    go_simp
    refine hK.out _ _ ?_
    clear hK K
    (try simp only [Act.put, List.setIfInBounds_toArray, List.set_cons_zero, List.set_cons_succ])
    refine WG.done (by kernel_rfl) ?_
    clear e0 e1 y0 y1 y0f y1f k1 k1f r0 r1
    obtain ⟨W7, hW7⟩ : ∃ W7, W7 = w6.setCell ⟨w3.heap.size, x5, none⟩ (.int .i64 (4 + (x6 : Int))) := ⟨_, rfl⟩
    rw [show IntKind.i64.wrap (4 + (x6 : Int)) = 4 + (x6 : Int) from IntWalk.i64_in _ (by omega), ← hW7]
    have P7 : W7.heap[w.heap.size]? = some (.cells #[.int .i64 0, .slice none 0 0] 64 (0, 0)) := by rw [hW7]; exact obj_far P6.out (by show w.heap.size ≠ w3.heap.size; omega) _
    have Q7 : W7.heap[w3.heap.size + 1]? = some (.cells #[.int .i64 id, .slice (some ⟨w3.heap.size, 0, none⟩) 3 3] 64 (0, 0)) := by rw [hW7]; exact obj_far Q6.out (by show w3.heap.size + 1 ≠ w3.heap.size; omega) _
    have HO7 : Hid (OI W7 w.heap.size (.slice (some ⟨w3.heap.size, 0, none⟩) 3 3) (([(x1 : Int), (x2 : Int), (x3 : Int)] : List Int).set x5 (4 + (x6 : Int)))) := hid (by rw [hW7]; exact (OI.set HO6.out (j := x5) (by show x5 < 3; omega) (4 + (x6 : Int))).1)
    have HT7 := hid (HT6.out.stored hlow HL.out.1 HL.out.2 (i := x5) (.int .i64 (4 + (x6 : Int))))
    rw [← hW7] at HT7
    clear hW7
    obtain ⟨e0, e1, y0, y1, y0f, y1f, k1, k1f, r0, r1, hsm⟩ := res2 P7 Q7
    have HSM := hid hsm
    clear hsm P7 Q7
    go_wp2
    refine bodyPost_ret (v := .agg #[.int .i64 id, .slice (some ⟨w3.heap.size, 0, none⟩) 3 3]) (by simp [results, Try.results84, go_sem, r0, r1]) rfl ⟨_, _, rfl, Own.same EI.ok HO7.out (HSM.out (fun t => t = 3 ∨ False) (by rintro t (rfl | h) <;> first | decide | exact h.elim)), by simp, set3 (by omega) (by omega) (by omega) (by omega), ((HT7.out.stored (Nat.le_refl _) HL.out.1 HL.out.2 _).stored (Nat.le_refl _) HL.out.1 HL.out.2 _).mono (by omega)⟩
  · refine bodyPost_ret (v := .agg #[.int .i64 id, .slice (some ⟨w3.heap.size, 0, none⟩) 3 3]) (by simp [results, Try.results84, go_sem, r0, r1]) rfl ⟨_, _, rfl, Own.same EI.ok HO4.out (HSM.out (fun t => t = 3 ∨ False) (by rintro t (rfl | h) <;> first | decide | exact h.elim)), rfl, bd3 (by omega) (by omega) (by omega), ((HT4.out.stored (Nat.le_refl _) HL.out.1 HL.out.2 _).stored (Nat.le_refl _) HL.out.1 HL.out.2 _).mono (by omega)⟩

end Go.Proofs.Ytfgibhdglbjadaa
