/- The program's host finds a task. -/
import Derived.Test.YtkdkmihgnplooaaGreatK11
import Derived.Test.YtkdkmihgnplooaaGreatK8
namespace Go.Proofs.YtkdkmihgnplooaaGreat
open Go.RowKit
set_option maxRecDepth 4000

/-- the node and the place of a task -/
def findU (us : List UnitD) (id : Int) : Int × Int := match us.findIdx? (fun u => hasId u.tasks id) with
  | some i => (i, idxI (fun t : TaskD => t.id == id) (us.getD i default).tasks)
  | none => (-1, -1)
theorem HostV.units10 {w : World} {H base : Nat} {C : ClusD} {ps : List (UnitD × Value)} {rv : Value} {cells : List Value} {l : Int} (h : HostV w H base C ps rv cells l) : RUc w (.slice (some ⟨H, 4, none⟩) C.units.length 10) C.units := by
  obtain ⟨A, c, hv, _, _, hg⟩ := h.units_
  injection hv with e1 e2 e3
  subst e1
  exact ⟨_, 10, rfl, h.n10, by omega, hg⟩

theorem iHasId1 (x : TaskD) (An : Option Addr) (cn b : Nat) (id : Int) (w : World) (h : w.cell? ⟨b, 0, none⟩ = some (.int .i64 id)) :
    Calls Tryz.prog 96 #[.agg #[.int .i64 x.id, .slice An x.need.length cn], .pointer (some ⟨b, 0, none⟩)] w (RetB w (x.id == id)) := by
  have hE := Ext.alloc w (.cells #[.int .i64 x.id, .slice An x.need.length cn] 36)
  have g0 := obj_cell (heap_alloc_new w (.cells #[.int .i64 x.id, .slice An x.need.length cn] 36)) (i := 0) rfl
  have h0 := hE.cell h
  have HE := hid hE
  clear hE h
  go_enter Tryz.func96, Tryz.ntmps96
  go_wp2
  go_ret
  exact ⟨rfl, HE.out⟩
theorem iHasIdFn (id : Int) (w : World) :
    Calls Tryz.prog 76 #[.int .i64 id] w fun e w' => ∃ b, e = .returned (.func (.func 96) #[] #[.pointer (some ⟨b, 0, none⟩)]) ∧ w'.cell? ⟨b, 0, none⟩ = some (.int .i64 id) ∧ Ext w w' := by
  go_enter Tryz.func76, Tryz.ntmps76
  go_wp2
  go_ret
  exact ⟨_, rfl, cell_new _ _ _ 0, Ext.alloc _ _⟩

set_option maxHeartbeats 2000000 in
theorem iIndexT (v : Value) (ts : List TaskD) (b : Nat) (id : Int) (w : World) (h : RT w v ts) (hb : w.cell? ⟨b, 0, none⟩ = some (.int .i64 id)) :
    Calls Tryz.prog 75 #[v, .func (.func 96) #[] #[.pointer (some ⟨b, 0, none⟩)]] w (RetN w (idxI (fun t : TaskD => t.id == id) ts)) := by
  obtain ⟨A, c, rfl, hc, hc', hr⟩ := RT.get h
  have HB := hid hb
  clear h hb
  go_enter Tryz.func75, Tryz.ntmps75
  go_wp2
  go_loopw [8] (fun i wr => ∃ k : Nat, k ≤ ts.length ∧ i = .int .i64 k ∧ Hid (∀ (j : Nat) y, j < k → ts[j]? = some y → (y.id == id) = false) ∧ Ext w wr) (fun i _ => ts.length - (intOf i).toNat)
  case atStart => exact ⟨0, Nat.zero_le _, rfl, fun j y hj => absurd hj (by omega), Ext.refl _⟩
  case round =>
    obtain ⟨k, hk, rfl, H, hE⟩ := hrel
    by_cases hlt : k < ts.length
    · obtain ⟨b1, o, x, An, cn, rfl, e, c1, c2, hn⟩ := hr k hlt
      have i1 : (k : Int) < (ts.length : Int) := by omega
      have c1r := hE.cell c1
      have c2r := hE.cell c2
      clear c1 c2 hn
      go_wp2_with fail
      refine (iHasId1 x An cn b id _ (hE.cell HB.out)).mono ?_
      rintro e1 w1 ⟨rfl, hE1⟩
      by_cases hx : (x.id == id) = true
      · rw [hx]
        go_wp2
        go_ret
        exact ⟨ret_i (idxI_hit (p := fun t : TaskD => t.id == id) e.out hx H.out).symm, hE.trans hE1⟩
      · have hx : (x.id == id) = false := by simpa using hx
        rw [hx]
        go_wp2
        go_roundw
        case rel => exact ⟨k + 1, by omega, by go_num, idx_more (p := fun t : TaskD => t.id == id) e.out hx H.out, hE.trans hE1⟩
        case measure => simp [intOf]; omega
    · go_wp2
      go_ret
      have hk' : k = ts.length := by omega
      subst hk'
      exact ⟨ret_i (idxI_miss (p := fun t : TaskD => t.id == id) fun j y hj => H.out j y (List.getElem?_eq_some_iff.1 hj).1 hj).symm, hE⟩

theorem findU_hit {us : List UnitD} {id : Int} {k : Nat} {u : UnitD} (hb : us[k]? = some u) (h : hasId u.tasks id = true) (hn : ∀ (j : Nat) c, j < k → us[j]? = some c → hasId c.tasks id = false) : findU us id = ((k : Int), idxI (fun t : TaskD => t.id == id) u.tasks) := by
  have hk : k < us.length := (List.getElem?_eq_some_iff.1 hb).1
  have hbk : us[k] = u := (List.getElem?_eq_some_iff.1 hb).2
  have : us.findIdx? (fun u => hasId u.tasks id) = some k := by
    rw [List.findIdx?_eq_some_iff_getElem]
    exact ⟨hk, by rw [hbk]; exact h, fun j hj => by simpa using hn j us[j] hj (List.getElem?_eq_getElem (by omega))⟩
  unfold findU
  rw [this]
  simp [List.getD, hb]
theorem findU_miss {us : List UnitD} {id : Int} (hn : ∀ (j : Nat) c, us[j]? = some c → hasId c.tasks id = false) : findU us id = (-1, -1) := by
  have : us.findIdx? (fun u => hasId u.tasks id) = none := by
    rw [List.findIdx?_eq_none_iff]
    intro b hb
    obtain ⟨k, hk⟩ := List.getElem?_of_mem hb
    exact hn k b hk
  unfold findU
  rw [this]
theorem idx_has (ts : List TaskD) (id : Int) : decide (0 ≤ idxI (fun t : TaskD => t.id == id) ts) = hasId ts id := idxI_ge _ _

set_option maxHeartbeats 4000000 in
theorem iFind (H base : Nat) (C : ClusD) (ps : List (UnitD × Value)) (rv : Value) (cells : List Value) (l : Int) (id : Int) (w : World) (h : HostV w H base C ps rv cells l) :
    Calls Tryz.prog 50 #[.pointer (some ⟨H, 0, none⟩), .int .i64 id] w fun e w' => e = .returned (.tuple #[.int .i64 (findU C.units id).1, .int .i64 (findU C.units id).2]) ∧ Ext w w' := by
  have HH := hid h
  have hn10 := h.n10
  have i10 : (C.units.length : Int) ≤ 10 := by omega
  have KS : Hid (∀ w', Ext w w' → w'.cell? ⟨H, 3, none⟩ = some (.int .i64 (C.units.length : Int))) := hid fun w' hw => (HH.out.ext hw).at.2.2.1
  clear h
  go_enter Tryz.func50, Tryz.ntmps50
  go_wp2
  refine WG.start (fun w' => w'.cell? ⟨H, 3, none⟩ = some (.int .i64 (C.units.length : Int))) [] (by kernel_rfl) (by exact KS.out _ (Below.drew (Below.refl _ _))) (fun hHeld => ?_)
  (refine WG.take (i := 0) (v := ?_) rfl (by kernel_rfl) (by kernel_rfl) (by kernel_rfl) (by kernel_rfl) (fun _ _ _ h => h) (Or.inl ⟨by rfl, ?_⟩) (by assumption) ?_; rotate_left; (intro w hSw; (try dsimp only at hSw); go_split_ands; go_simp; (try with_reducible rfl)); (try simp only [Act.put, List.setIfInBounds_toArray, List.set_cons_zero, List.set_cons_succ]))
  (refine WG.take (i := 1) (v := ?_) rfl (by kernel_rfl) (by kernel_rfl) (by kernel_rfl) (by kernel_rfl) (fun _ _ _ h => h) (Or.inl ⟨by rfl, ?_⟩) (by assumption) ?_; rotate_left; (intro w hSw; (try dsimp only at hSw); go_split_ands; go_simp; (try with_reducible rfl)); (try simp only [Act.put, List.setIfInBounds_toArray, List.set_cons_zero, List.set_cons_succ]))
  (refine WG.take (i := 2) (v := ?_) rfl (by kernel_rfl) (by kernel_rfl) (by kernel_rfl) (by kernel_rfl) (fun _ _ _ h => h) (Or.inl ⟨by rfl, ?_⟩) (by assumption) ?_; rotate_left; (intro w hSw; (try dsimp only at hSw); go_split_ands; go_simp; (try with_reducible rfl)); (try simp only [Act.put, List.setIfInBounds_toArray, List.set_cons_zero, List.set_cons_succ]))
  (refine WG.take (i := 3) (v := ?_) rfl (by kernel_rfl) (by kernel_rfl) (by kernel_rfl) (by kernel_rfl) (fun _ _ _ h => h) (Or.inl ⟨by rfl, ?_⟩) (by assumption) ?_; rotate_left; (intro w hSw; (try dsimp only at hSw); go_split_ands; go_simp; (try with_reducible rfl)); (try simp only [Act.put, List.setIfInBounds_toArray, List.set_cons_zero, List.set_cons_succ]))
  (refine WG.take (i := 4) (v := ?_) rfl (by kernel_rfl) (by kernel_rfl) (by kernel_rfl) (by kernel_rfl) (fun _ _ _ h => h) (Or.inl ⟨by rfl, ?_⟩) (by assumption) ?_; rotate_left; (intro w hSw; (try dsimp only at hSw); go_split_ands; go_simp; (try with_reducible rfl)); (try simp only [Act.put, List.setIfInBounds_toArray, List.set_cons_zero, List.set_cons_succ]))
  (refine WG.take (i := 5) (v := ?_) rfl (by kernel_rfl) (by kernel_rfl) (by kernel_rfl) (by kernel_rfl) (fun _ _ _ h => h) (Or.inl ⟨by rfl, ?_⟩) (by assumption) ?_; rotate_left; (intro w hSw; (try dsimp only at hSw); go_split_ands; go_simp; (try with_reducible rfl)); (try simp only [Act.put, List.setIfInBounds_toArray, List.set_cons_zero, List.set_cons_succ]))
  (refine WG.take (i := 6) (v := ?_) rfl (by kernel_rfl) (by kernel_rfl) (by kernel_rfl) (by kernel_rfl) (fun _ _ _ h => h) (Or.inl ⟨by rfl, ?_⟩) (by assumption) ?_; rotate_left; (intro w hSw; (try dsimp only at hSw); go_split_ands; go_simp; (try with_reducible rfl)); (try simp only [Act.put, List.setIfInBounds_toArray, List.set_cons_zero, List.set_cons_succ]))
  (refine WG.take (i := 7) (v := ?_) rfl (by kernel_rfl) (by kernel_rfl) (by kernel_rfl) (by kernel_rfl) (fun _ _ _ h => h) (Or.inl ⟨by rfl, ?_⟩) (by assumption) ?_; rotate_left; (intro w hSw; (try dsimp only at hSw); go_split_ands; go_simp; (try with_reducible rfl)); (try simp only [Act.put, List.setIfInBounds_toArray, List.set_cons_zero, List.set_cons_succ]))
  (refine WG.take (i := 8) (v := ?_) rfl (by kernel_rfl) (by kernel_rfl) (by kernel_rfl) (by kernel_rfl) (fun _ _ _ h => h) (Or.inl ⟨by rfl, ?_⟩) (by assumption) ?_; rotate_left; (intro w hSw; (try dsimp only at hSw); go_split_ands; go_simp; (try with_reducible rfl)); (try simp only [Act.put, List.setIfInBounds_toArray, List.set_cons_zero, List.set_cons_succ]))
  (refine WG.take (i := 9) (v := ?_) rfl (by kernel_rfl) (by kernel_rfl) (by kernel_rfl) (by kernel_rfl) (fun _ _ _ h => h) (Or.inl ⟨by rfl, ?_⟩) (by assumption) ?_; rotate_left; (intro w hSw; (try dsimp only at hSw); go_split_ands; go_simp; (try with_reducible rfl)); (try simp only [Act.put, List.setIfInBounds_toArray, List.set_cons_zero, List.set_cons_succ]))
  refine WG.done (by kernel_rfl) ?_
  go_wp2
  go_loopw [18] (fun i wr => ∃ k : Nat, k ≤ C.units.length ∧ i = .int .i64 k ∧ Hid (∀ (j : Nat) y, j < k → C.units[j]? = some y → hasId y.tasks id = false) ∧ Hid (Ext w wr)) (fun i _ => C.units.length - (intOf i).toNat)
  case atStart => exact ⟨0, Nat.zero_le _, rfl, hid (fun j y hj => absurd hj (by omega)), hid (Below.drew (Below.refl _ _))⟩
  case round =>
    obtain ⟨k, hk, rfl, HN, hE⟩ := hrel
    by_cases hlt : k < C.units.length
    · obtain ⟨A', c', hv, _, _, hg⟩ := (HH.out.ext hE.out).units10
      injection hv with e1 e2 e3
      subst e1 e3
      obtain ⟨b, o, x, An, cn, hA, e, c1, c2, hnx⟩ := hg k hlt
      injection hA with hA
      injection hA with e1 e2 _
      subst e1 e2
      have i1 : (k : Int) < (C.units.length : Int) := by omega
      have i0 : (0 : Int) ≤ (k : Int) := by omega
      have HT := hid hnx
      obtain ⟨y0, y1, y0f, y1f, k1, k1f, hkk, _⟩ := box2 (heap_alloc_new wr (.cells #[.bool false, .slice none 0 0] 66)) (.bool x.opened) (.slice An x.tasks.length cn)
      clear hg hnx hkk
      go_wp2
      obtain ⟨W5, hW5⟩ : ∃ W5, W5 = wr.alloc (.cells #[.bool x.opened, .slice An x.tasks.length cn] 66) := ⟨_, rfl⟩
      have hE5 : Ext wr W5 := by rw [hW5]; exact Ext.alloc _ _
      have hub : W5.heap[wr.heap.size]? = some (.cells #[.bool x.opened, .slice An x.tasks.length cn] 66 (0, 0)) := by rw [hW5]; exact heap_alloc_new _ _
      rw [← hW5]
      clear hW5 y0 y1 y0f y1f k1 k1f c1 c2
      have KU : Hid (∀ w', Ext W5 w' → w'.cell? ⟨wr.heap.size, 1, none⟩ = some (.slice An x.tasks.length cn)) := hid fun w' hw => obj_cell (hw.obj hub) (i := 1) rfl
      have HE5 := hid hE5
      have HD : Hid (Ext W5 W5.drew) := hid (Below.drew (Below.refl _ _))
      clear hE5 hub
      refine WG.start (fun w' => w'.cell? ⟨wr.heap.size, 1, none⟩ = some (.slice An x.tasks.length cn)) [4,5] (by kernel_rfl) (by exact KU.out _ HD.out) (fun hHeld => ?_)
      (refine WG.take (i := 0) (v := ?_) rfl (by kernel_rfl) (by kernel_rfl) (by kernel_rfl) (by kernel_rfl) (fun _ _ _ h => h) (Or.inl ⟨by rfl, ?_⟩) (by assumption) ?_; rotate_left; (intro w hSw; (try dsimp only at hSw); go_split_ands; go_simp; (try with_reducible rfl)); (try simp only [Act.put, List.setIfInBounds_toArray, List.set_cons_zero, List.set_cons_succ]))
      (refine WG.take (i := 1) (v := ?_) rfl (by kernel_rfl) (by kernel_rfl) (by kernel_rfl) (by kernel_rfl) (fun _ _ _ h => h) (Or.inl ⟨by rfl, ?_⟩) (by assumption) ?_; rotate_left; (intro w hSw; (try dsimp only at hSw); go_split_ands; go_simp; (try with_reducible rfl)); (try simp only [Act.put, List.setIfInBounds_toArray, List.set_cons_zero, List.set_cons_succ]))
      (refine WG.take (i := 2) (v := ?_) rfl (by kernel_rfl) (by kernel_rfl) (by kernel_rfl) (by kernel_rfl) (fun _ _ _ h => h) (Or.inl ⟨by rfl, ?_⟩) (by assumption) ?_; rotate_left; (intro w hSw; (try dsimp only at hSw); go_split_ands; go_simp; (try with_reducible rfl)); (try simp only [Act.put, List.setIfInBounds_toArray, List.set_cons_zero, List.set_cons_succ]))
      refine WG.one (i := 3) rfl (by kernel_rfl) (fun K hK => ?_)
      go_simp; refine (iHasIdFn id _).mono ?_; rintro e3 w3 ⟨b3, rfl, hb3, hE3⟩; have HB3 := hid hb3; have HE3 := hid (HD.out.trans hE3); clear hb3 hE3; (try dsimp only)
      refine hK.out _ _ (by exact KU.out _ HE3.out) (fun hHeld => ?_)
      clear hK K
      (try simp only [Act.put, List.setIfInBounds_toArray, List.set_cons_zero, List.set_cons_succ])
      refine WG.last (i := 4) rfl (by kernel_rfl) (by kernel_rfl) (fun K hK => ?_)
      go_simp; refine (iIndexT _ x.tasks b3 id _ (RT.ext HT.out (HE5.out.trans HE3.out)) HB3.out).mono ?_; rintro e4 w4 ⟨rfl, hE4⟩; have HE4 := hid (HE3.out.trans hE4); clear hE4; (try dsimp only)
      refine hK.out _ _ ?_
      clear hK K
      (try simp only [Act.put, List.setIfInBounds_toArray, List.set_cons_zero, List.set_cons_succ])
      refine WG.last (i := 5) rfl (by kernel_rfl) (by kernel_rfl) (fun K hK => ?_)
      go_simp
      refine hK.out _ _ ?_
      clear hK K
      (try simp only [Act.put, List.setIfInBounds_toArray, List.set_cons_zero, List.set_cons_succ])
      refine WG.done (by kernel_rfl) ?_
      by_cases hx : hasId x.tasks id = true
      · have hx0 : 0 ≤ idxI (fun t : TaskD => t.id == id) x.tasks := by
          have := idx_has x.tasks id
          rw [hx] at this
          exact of_decide_eq_true this
        have HF := hid (findU_hit e.out hx HN.out)
        obtain ⟨q, hq⟩ : ∃ q, q = idxI (fun t : TaskD => t.id == id) x.tasks := ⟨_, rfl⟩
        rw [← hq] at hx0 HF ⊢
        clear hq
        go_wp2
        refine bodyPost_ret (results_tmp2 rfl _ _ _) rfl ?_
        rw [HF.out]
        exact ⟨rfl, hE.out.trans (HE5.out.trans HE4.out)⟩
      · have hx : hasId x.tasks id = false := by simpa using hx
        have hx0 : ¬ 0 ≤ idxI (fun t : TaskD => t.id == id) x.tasks := by
          have := idx_has x.tasks id
          rw [hx] at this
          exact of_decide_eq_false this
        obtain ⟨q, hq⟩ : ∃ q, q = idxI (fun t : TaskD => t.id == id) x.tasks := ⟨_, rfl⟩
        rw [← hq] at hx0 ⊢
        clear hq
        go_wp2
        go_roundw
        case rel =>
          refine ⟨k + 1, by omega, by go_num, hid (fun j y hj hy => ?_), hid (hE.out.trans (HE5.out.trans HE4.out))⟩
          by_cases hjk : j = k
          · subst hjk
            have := e.out
            rw [hy] at this
            injection this with this
            rw [this]; exact hx
          · exact HN.out j y (by omega) hy
        case measure => simp [intOf]; omega
    · go_wp2
      refine bodyPost_ret (results_tmp2 rfl _ _ _) rfl ?_
      have hk' : k = C.units.length := by omega
      subst hk'
      rw [findU_miss (fun j y hy => HN.out j y (List.getElem?_eq_some_iff.1 hy).1 hy)]
      exact ⟨rfl, hE.out⟩

end Go.Proofs.YtkdkmihgnplooaaGreat

/- The program's host counts, and finds a place. -/
namespace Go.Proofs.YtkdkmihgnplooaaGreat
open Go.RowKit
set_option maxRecDepth 4000

set_option maxHeartbeats 1000000 in
theorem iHasRoom (rv v xv : Value) (room : List Int) (b : List TaskD) (t : TaskD) (w : World) (hR : RI w rv room) (h : RT w v b) (hx : TaskV w xv t)
    (hlr : room.length = 3) (hg : GoodTs b) (hn : t.need.length = 3 ∧ Bd 1000 t.need) :
    Calls Tryz.prog 77 #[rv, v, xv] w (RetB w (l11fits room b t)) := by
  obtain ⟨nv, rfl, hnv⟩ := hx
  have hE0 := Ext.alloc w (.cells #[.int .i64 t.id, nv] 36)
  have HX := hid (hE0)
  have H1 := hid (h.ext hE0)
  have H2 := hid (hnv.ext hE0)
  have H3 := hid (hR.ext hE0)
  have HG := hid hg
  have HN := hid hn
  have HLR := hid hlr
  have HL := hid (loadL_len b)
  have HB := hid (load_bd hg)
  clear h hR hnv hg hn hlr hE0
  have KH : Hid (∀ w', Ext (w.alloc (.cells #[.int .i64 t.id, nv] 36)) w' → w'.cell? ⟨w.heap.size, 1, none⟩ = some nv ∧ Ext (w.alloc (.cells #[.int .i64 t.id, nv] 36)) w') :=
    hid fun w' hw => ⟨hw.cell (cell_new _ _ _ _), hw⟩
  go_enter Tryz.func77, Tryz.ntmps77
  go_wp2
  go_region_held3 (fun w' => w'.cell? ⟨w.heap.size, 1, none⟩ = some nv ∧ Ext (w.alloc (.cells #[.int .i64 t.id, nv] 36)) w')
    (first | exact KH.out _ (by assumption) | exact KH.out _ (Below.drew (Below.refl _ _)))
    (first
      | (go_at_call 81; refine (iLoad _ b _ (H1.out.ext (by first | assumption | exact Below.drew (Below.refl _ _))) HG.out).mono ?_; rintro e w1 ⟨v1, rfl, hv1, hE1⟩; have hv1 := hv1.read; have h01 : Ext (w.alloc (.cells #[.int .i64 t.id, nv] 36)) w1 := Ext.trans (by first | assumption | exact Below.drew (Below.refl _ _)) hE1)
      | (go_at_call 97; refine (iPlus _ _ (loadL b) t.need _ (by assumption) (H2.out.ext (by assumption)) HL.out HN.out.1 HB.out (HN.out.2.mono (by omega))).mono ?_; rintro e w2 ⟨v2, rfl, hv2, hE2⟩; have hv2 := hv2.read; have h02 : Ext (w.alloc (.cells #[.int .i64 t.id, nv] 36)) w2 := Ext.trans (by assumption) hE2)
      | (go_at_call 82; refine (iFits _ _ (addL (loadL b) t.need 1) room _ (by assumption) (H3.out.ext (by assumption)) (addL_len _ _ _) HLR.out).mono ?_; rintro e w3 ⟨rfl, n3, rfl⟩; have h03 : Ext (w.alloc (.cells #[.int .i64 t.id, nv] 36)) (w2.drewN n3) := Ext.trans (by assumption) (Ext.drewN _ _)))
  go_wp2
  go_ret
  exact ⟨rfl, HX.out.trans (by assumption)⟩

set_option maxHeartbeats 2000000 in
theorem iHostTasks (H base : Nat) (C : ClusD) (ps : List (UnitD × Value)) (rv : Value) (cells : List Value) (l : Int) (w : World) (h : HostV w H base C ps rv cells l) (hs : (C.units.map (·.tasks)).flatten.length ≤ 4000000) :
    Calls Tryz.prog 52 #[.pointer (some ⟨H, 0, none⟩)] w (RetN w ((C.units.map (·.tasks)).flatten.length : Int)) := by
  have HH := hid h
  have HFL := hid hs
  have hn10 := h.n10
  have i10 : (C.units.length : Int) ≤ 10 := by omega
  have KS : Hid (∀ w', Ext w w' → w'.cell? ⟨H, 3, none⟩ = some (.int .i64 (C.units.length : Int))) := hid fun w' hw => (HH.out.ext hw).at.2.2.1
  clear h hs
  go_enter Tryz.func52, Tryz.ntmps52
  go_wp2
  refine WG.start (fun w' => w'.cell? ⟨H, 3, none⟩ = some (.int .i64 (C.units.length : Int))) [] (by kernel_rfl) (by exact KS.out _ (Below.drew (Below.refl _ _))) (fun hHeld => ?_)
  (refine WG.take (i := 0) (v := ?_) rfl (by kernel_rfl) (by kernel_rfl) (by kernel_rfl) (by kernel_rfl) (fun _ _ _ h => h) (Or.inl ⟨by rfl, ?_⟩) (by assumption) ?_; rotate_left; (intro w hSw; (try dsimp only at hSw); go_split_ands; go_simp; (try with_reducible rfl)); (try simp only [Act.put, List.setIfInBounds_toArray, List.set_cons_zero, List.set_cons_succ]))
  (refine WG.take (i := 1) (v := ?_) rfl (by kernel_rfl) (by kernel_rfl) (by kernel_rfl) (by kernel_rfl) (fun _ _ _ h => h) (Or.inl ⟨by rfl, ?_⟩) (by assumption) ?_; rotate_left; (intro w hSw; (try dsimp only at hSw); go_split_ands; go_simp; (try with_reducible rfl)); (try simp only [Act.put, List.setIfInBounds_toArray, List.set_cons_zero, List.set_cons_succ]))
  (refine WG.take (i := 2) (v := ?_) rfl (by kernel_rfl) (by kernel_rfl) (by kernel_rfl) (by kernel_rfl) (fun _ _ _ h => h) (Or.inl ⟨by rfl, ?_⟩) (by assumption) ?_; rotate_left; (intro w hSw; (try dsimp only at hSw); go_split_ands; go_simp; (try with_reducible rfl)); (try simp only [Act.put, List.setIfInBounds_toArray, List.set_cons_zero, List.set_cons_succ]))
  (refine WG.take (i := 3) (v := ?_) rfl (by kernel_rfl) (by kernel_rfl) (by kernel_rfl) (by kernel_rfl) (fun _ _ _ h => h) (Or.inl ⟨by rfl, ?_⟩) (by assumption) ?_; rotate_left; (intro w hSw; (try dsimp only at hSw); go_split_ands; go_simp; (try with_reducible rfl)); (try simp only [Act.put, List.setIfInBounds_toArray, List.set_cons_zero, List.set_cons_succ]))
  (refine WG.take (i := 4) (v := ?_) rfl (by kernel_rfl) (by kernel_rfl) (by kernel_rfl) (by kernel_rfl) (fun _ _ _ h => h) (Or.inl ⟨by rfl, ?_⟩) (by assumption) ?_; rotate_left; (intro w hSw; (try dsimp only at hSw); go_split_ands; go_simp; (try with_reducible rfl)); (try simp only [Act.put, List.setIfInBounds_toArray, List.set_cons_zero, List.set_cons_succ]))
  (refine WG.take (i := 5) (v := ?_) rfl (by kernel_rfl) (by kernel_rfl) (by kernel_rfl) (by kernel_rfl) (fun _ _ _ h => h) (Or.inl ⟨by rfl, ?_⟩) (by assumption) ?_; rotate_left; (intro w hSw; (try dsimp only at hSw); go_split_ands; go_simp; (try with_reducible rfl)); (try simp only [Act.put, List.setIfInBounds_toArray, List.set_cons_zero, List.set_cons_succ]))
  (refine WG.take (i := 6) (v := ?_) rfl (by kernel_rfl) (by kernel_rfl) (by kernel_rfl) (by kernel_rfl) (fun _ _ _ h => h) (Or.inl ⟨by rfl, ?_⟩) (by assumption) ?_; rotate_left; (intro w hSw; (try dsimp only at hSw); go_split_ands; go_simp; (try with_reducible rfl)); (try simp only [Act.put, List.setIfInBounds_toArray, List.set_cons_zero, List.set_cons_succ]))
  (refine WG.take (i := 7) (v := ?_) rfl (by kernel_rfl) (by kernel_rfl) (by kernel_rfl) (by kernel_rfl) (fun _ _ _ h => h) (Or.inl ⟨by rfl, ?_⟩) (by assumption) ?_; rotate_left; (intro w hSw; (try dsimp only at hSw); go_split_ands; go_simp; (try with_reducible rfl)); (try simp only [Act.put, List.setIfInBounds_toArray, List.set_cons_zero, List.set_cons_succ]))
  (refine WG.take (i := 8) (v := ?_) rfl (by kernel_rfl) (by kernel_rfl) (by kernel_rfl) (by kernel_rfl) (fun _ _ _ h => h) (Or.inl ⟨by rfl, ?_⟩) (by assumption) ?_; rotate_left; (intro w hSw; (try dsimp only at hSw); go_split_ands; go_simp; (try with_reducible rfl)); (try simp only [Act.put, List.setIfInBounds_toArray, List.set_cons_zero, List.set_cons_succ]))
  (refine WG.take (i := 9) (v := ?_) rfl (by kernel_rfl) (by kernel_rfl) (by kernel_rfl) (by kernel_rfl) (fun _ _ _ h => h) (Or.inl ⟨by rfl, ?_⟩) (by assumption) ?_; rotate_left; (intro w hSw; (try dsimp only at hSw); go_split_ands; go_simp; (try with_reducible rfl)); (try simp only [Act.put, List.setIfInBounds_toArray, List.set_cons_zero, List.set_cons_succ]))
  refine WG.done (by kernel_rfl) ?_
  go_wp2
  go_loopw [3, 15] (fun s i wr => ∃ (k : Nat) (m : Nat), k ≤ C.units.length ∧ i = .int .i64 k ∧ s = .int .i64 m ∧ Hid (m = ((C.units.map (·.tasks)).take k).flatten.length) ∧ Hid (Ext w wr)) (fun _ i _ => C.units.length - (intOf i).toNat)
  case atStart => exact ⟨0, 0, Nat.zero_le _, rfl, rfl, hid (by simp), hid (Below.drew (Below.refl _ _))⟩
  case round =>
    obtain ⟨k, m, hk, rfl, rfl, HN, hE⟩ := hrel
    by_cases hlt : k < C.units.length
    · obtain ⟨A', c', hv, _, _, hg⟩ := (HH.out.ext hE.out).units10
      injection hv with e1 e2 e3
      subst e1 e3
      obtain ⟨b, o, x, An, cn, hA, e, c1, c2, hnx⟩ := hg k hlt
      injection hA with hA
      injection hA with e1 e2 _
      subst e1 e2
      have i1 : (k : Int) < (C.units.length : Int) := by omega
      have i0 : (0 : Int) ≤ (k : Int) := by omega
      have hm1 : m + x.tasks.length = ((C.units.map (·.tasks)).take (k + 1)).flatten.length := by
        rw [flatten_take_succ (b := x.tasks) (by rw [List.getElem?_map, e.out]; rfl), List.length_append, HN.out]
      have hm2 : m + x.tasks.length ≤ 4000000 := by
        have := flatten_take_le (C.units.map (·.tasks)) (k + 1)
        have := HFL.out
        omega
      have HM1 := hid hm1
      obtain ⟨y0, y1, y0f, y1f, k1, k1f, hkk, _⟩ := box2 (heap_alloc_new wr (.cells #[.bool false, .slice none 0 0] 66)) (.bool x.opened) (.slice An x.tasks.length cn)
      clear hg hnx hkk hm1
      go_wp2
      go_roundw
      case rel => exact ⟨k + 1, m + x.tasks.length, by omega, by go_num, by go_num, HM1, hid (hE.out.trans (Ext.alloc _ _))⟩
      case measure => simp [intOf]; omega
    · go_wp2
      refine bodyPost_ret (results_tmp rfl _ _ _) rfl ?_
      have hk' : k = C.units.length := by omega
      subst hk'
      have hm : m = (C.units.map (·.tasks)).flatten.length := by rw [HN.out, List.take_of_length_le (by simp)]
      exact ⟨by rw [hm]; rfl, hE.out⟩

theorem idxI_snoc {α : Type} (p : α → Bool) (xs : List α) (x : α) : idxI p (xs ++ [x]) = if idxI p xs < 0 then (if p x then (xs.length : Int) else -1) else idxI p xs := by
  unfold idxI
  rw [List.findIdx?_append]
  cases h : xs.findIdx? p with
  | some i => simp [show ¬ (i : Int) < 0 by omega]
  | none => cases hx : p x <;> simp [hx]

/-- the node that the program's host takes for a task -/
def placeU (C : ClusD) (x : TaskD) (grant : Bool) : Int :=
  if 0 ≤ atC C x true then atC C x true else if grant then idxI (fun u : UnitD => !u.opened) C.units else -1

set_option maxHeartbeats 4000000 in
theorem iPlace (H base : Nat) (C : ClusD) (ps : List (UnitD × Value)) (rv : Value) (cells : List Value) (l : Int) (xv : Value) (x : TaskD) (grant : Bool) (w : World) (h : HostV w H base C ps rv cells l) (hx : TaskV w xv x) (hC : clusOk C = true) (hn : x.need.length = 3 ∧ Bd 1000 x.need) :
    Calls Tryz.prog 51 #[.pointer (some ⟨H, 0, none⟩), xv, .bool grant] w (RetN w (placeU C x grant)) := by
  have HTX := hid hx
  obtain ⟨nv, rfl, hnv⟩ := hx
  obtain ⟨Ax, cx, rfl, _⟩ := hnv
  obtain ⟨W, hW⟩ : ∃ W, W = w.alloc (.cells #[.int .i64 x.id, .slice Ax x.need.length cx] 36) := ⟨_, rfl⟩
  have hEW : Ext w W := by rw [hW]; exact Ext.alloc _ _
  have hb1 : W.heap[w.heap.size]? = some (.cells #[.int .i64 x.id, .slice Ax x.need.length cx] 36 (0, 0)) := by rw [hW]; exact heap_alloc_new _ _
  have HH := hid (h.ext hEW)
  have HX := hid (HTX.out.ext hEW)
  have hn10 := h.n10
  have HR := hid ((h.ext hEW).room)
  obtain ⟨Ar, cr, rfl, _⟩ := h.room
  have i10 : (C.units.length : Int) ≤ 10 := by omega
  have HC := hid hC
  have HN := hid hn
  have HEW := hid hEW
  have KS : Hid (∀ w', Ext W w' → w'.cell? ⟨H, 3, none⟩ = some (.int .i64 (C.units.length : Int))) := hid fun w' hw => (HH.out.ext hw).at.2.2.1
  have KR : Hid (∀ w', Ext W w' → w'.cell? ⟨H, 2, none⟩ = some (.slice Ar C.room.length cr) ∧ w'.cell? ⟨w.heap.size, 0, none⟩ = some (.int .i64 x.id) ∧ w'.cell? ⟨w.heap.size, 1, none⟩ = some (.slice Ax x.need.length cx)) := hid fun w' hw => ⟨(HH.out.ext hw).at.2.1, obj_cell (hw.obj hb1) (i := 0) rfl, obj_cell (hw.obj hb1) (i := 1) rfl⟩
  clear h hC hn hEW hb1 HTX
  go_enter Tryz.func51, Tryz.ntmps51
  go_wp2
  rw [← hW]
  clear hW
  refine WG.start (fun w' => w'.cell? ⟨H, 3, none⟩ = some (.int .i64 (C.units.length : Int))) [] (by kernel_rfl) (by exact KS.out _ (Below.drew (Below.refl _ _))) (fun hHeld => ?_)
  (refine WG.take (i := 0) (v := ?_) rfl (by kernel_rfl) (by kernel_rfl) (by kernel_rfl) (by kernel_rfl) (fun _ _ _ h => h) (Or.inl ⟨by rfl, ?_⟩) (by assumption) ?_; rotate_left; (intro w hSw; (try dsimp only at hSw); go_split_ands; go_simp; (try with_reducible rfl)); (try simp only [Act.put, List.setIfInBounds_toArray, List.set_cons_zero, List.set_cons_succ]))
  (refine WG.take (i := 1) (v := ?_) rfl (by kernel_rfl) (by kernel_rfl) (by kernel_rfl) (by kernel_rfl) (fun _ _ _ h => h) (Or.inl ⟨by rfl, ?_⟩) (by assumption) ?_; rotate_left; (intro w hSw; (try dsimp only at hSw); go_split_ands; go_simp; (try with_reducible rfl)); (try simp only [Act.put, List.setIfInBounds_toArray, List.set_cons_zero, List.set_cons_succ]))
  (refine WG.take (i := 2) (v := ?_) rfl (by kernel_rfl) (by kernel_rfl) (by kernel_rfl) (by kernel_rfl) (fun _ _ _ h => h) (Or.inl ⟨by rfl, ?_⟩) (by assumption) ?_; rotate_left; (intro w hSw; (try dsimp only at hSw); go_split_ands; go_simp; (try with_reducible rfl)); (try simp only [Act.put, List.setIfInBounds_toArray, List.set_cons_zero, List.set_cons_succ]))
  (refine WG.take (i := 3) (v := ?_) rfl (by kernel_rfl) (by kernel_rfl) (by kernel_rfl) (by kernel_rfl) (fun _ _ _ h => h) (Or.inl ⟨by rfl, ?_⟩) (by assumption) ?_; rotate_left; (intro w hSw; (try dsimp only at hSw); go_split_ands; go_simp; (try with_reducible rfl)); (try simp only [Act.put, List.setIfInBounds_toArray, List.set_cons_zero, List.set_cons_succ]))
  (refine WG.take (i := 4) (v := ?_) rfl (by kernel_rfl) (by kernel_rfl) (by kernel_rfl) (by kernel_rfl) (fun _ _ _ h => h) (Or.inl ⟨by rfl, ?_⟩) (by assumption) ?_; rotate_left; (intro w hSw; (try dsimp only at hSw); go_split_ands; go_simp; (try with_reducible rfl)); (try simp only [Act.put, List.setIfInBounds_toArray, List.set_cons_zero, List.set_cons_succ]))
  (refine WG.take (i := 5) (v := ?_) rfl (by kernel_rfl) (by kernel_rfl) (by kernel_rfl) (by kernel_rfl) (fun _ _ _ h => h) (Or.inl ⟨by rfl, ?_⟩) (by assumption) ?_; rotate_left; (intro w hSw; (try dsimp only at hSw); go_split_ands; go_simp; (try with_reducible rfl)); (try simp only [Act.put, List.setIfInBounds_toArray, List.set_cons_zero, List.set_cons_succ]))
  (refine WG.take (i := 6) (v := ?_) rfl (by kernel_rfl) (by kernel_rfl) (by kernel_rfl) (by kernel_rfl) (fun _ _ _ h => h) (Or.inl ⟨by rfl, ?_⟩) (by assumption) ?_; rotate_left; (intro w hSw; (try dsimp only at hSw); go_split_ands; go_simp; (try with_reducible rfl)); (try simp only [Act.put, List.setIfInBounds_toArray, List.set_cons_zero, List.set_cons_succ]))
  (refine WG.take (i := 7) (v := ?_) rfl (by kernel_rfl) (by kernel_rfl) (by kernel_rfl) (by kernel_rfl) (fun _ _ _ h => h) (Or.inl ⟨by rfl, ?_⟩) (by assumption) ?_; rotate_left; (intro w hSw; (try dsimp only at hSw); go_split_ands; go_simp; (try with_reducible rfl)); (try simp only [Act.put, List.setIfInBounds_toArray, List.set_cons_zero, List.set_cons_succ]))
  (refine WG.take (i := 8) (v := ?_) rfl (by kernel_rfl) (by kernel_rfl) (by kernel_rfl) (by kernel_rfl) (fun _ _ _ h => h) (Or.inl ⟨by rfl, ?_⟩) (by assumption) ?_; rotate_left; (intro w hSw; (try dsimp only at hSw); go_split_ands; go_simp; (try with_reducible rfl)); (try simp only [Act.put, List.setIfInBounds_toArray, List.set_cons_zero, List.set_cons_succ]))
  (refine WG.take (i := 9) (v := ?_) rfl (by kernel_rfl) (by kernel_rfl) (by kernel_rfl) (by kernel_rfl) (fun _ _ _ h => h) (Or.inl ⟨by rfl, ?_⟩) (by assumption) ?_; rotate_left; (intro w hSw; (try dsimp only at hSw); go_split_ands; go_simp; (try with_reducible rfl)); (try simp only [Act.put, List.setIfInBounds_toArray, List.set_cons_zero, List.set_cons_succ]))
  refine WG.done (by kernel_rfl) ?_
  go_wp2
  go_loopw [7, 19] (fun c i wr => ∃ (k : Nat) (m : Int), k ≤ C.units.length ∧ i = .int .i64 k ∧ c = .int .i64 m ∧ Hid (∀ (j : Nat) y, j < k → C.units[j]? = some y → canC C x true y = false) ∧ Hid (m = idxI (fun u : UnitD => !u.opened) (C.units.take k)) ∧ Hid (Ext W wr)) (fun _ i _ => C.units.length - (intOf i).toNat)
  case atStart => exact ⟨0, -1, Nat.zero_le _, rfl, rfl, hid (fun j y hj => absurd hj (by omega)), hid (by simp [idxI]), hid (Below.drew (Below.refl _ _))⟩
  case round =>
    obtain ⟨k, m, hk, rfl, rfl, HN0, HM, hE⟩ := hrel
    by_cases hlt : k < C.units.length
    · obtain ⟨A', c', hv, _, _, hg⟩ := (HH.out.ext hE.out).units10
      injection hv with e1 e2 e3
      subst e1 e3
      obtain ⟨b, o, u, An, cn, hA, e, c1, c2, hnx⟩ := hg k hlt
      injection hA with hA
      injection hA with e1 e2 _
      subst e1 e2
      have i1 : (k : Int) < (C.units.length : Int) := by omega
      have i0 : (0 : Int) ≤ (k : Int) := by omega
      have HT := hid hnx
      have HGU := hid (clusOk_unit HC.out (List.mem_of_getElem? e.out)).1
      have HS := hid (idxI_snoc (fun u : UnitD => !u.opened) (C.units.take k) u)
      have HTS := hid (take_snoc e.out)
      obtain ⟨op, ts⟩ := u
      dsimp only at c1 c2
      obtain ⟨y0, y1, y0f, y1f, k1, k1f, hkk, _⟩ := box2 (heap_alloc_new wr (.cells #[.bool false, .slice none 0 0] 66)) (.bool op) (.slice An ts.length cn)
      clear hg hnx hkk
      go_wp2
      obtain ⟨W5, hW5⟩ : ∃ W5, W5 = wr.alloc (.cells #[.bool op, .slice An ts.length cn] 66) := ⟨_, rfl⟩
      have hE5 : Ext wr W5 := by rw [hW5]; exact Ext.alloc _ _
      have hub : W5.heap[wr.heap.size]? = some (.cells #[.bool op, .slice An ts.length cn] 66 (0, 0)) := by rw [hW5]; exact heap_alloc_new _ _
      rw [← hW5]
      clear hW5 y0 y1 y0f y1f k1 k1f c1 c2
      have KU : Hid (∀ w', Ext W5 w' → w'.cell? ⟨wr.heap.size, 0, none⟩ = some (.bool op) ∧ w'.cell? ⟨wr.heap.size, 1, none⟩ = some (.slice An ts.length cn) ∧ w'.cell? ⟨H, 2, none⟩ = some (.slice Ar C.room.length cr) ∧ w'.cell? ⟨w.heap.size, 0, none⟩ = some (.int .i64 x.id) ∧ w'.cell? ⟨w.heap.size, 1, none⟩ = some (.slice Ax x.need.length cx)) := hid fun w' hw => ⟨obj_cell (hw.obj hub) (i := 0) rfl, obj_cell (hw.obj hub) (i := 1) rfl, KR.out _ (hE.out.trans (hE5.trans hw))⟩
      have HE5 := hid (hE.out.trans hE5)
      have HT5 := hid (RT.ext HT.out hE5)
      have HD : Hid (Ext W5 W5.drew) := hid (Below.drew (Below.refl _ _))
      clear hE5 hub HT
      cases op with
      | true =>
        refine WG.start (fun w' => w'.cell? ⟨wr.heap.size, 0, none⟩ = some (.bool true) ∧ w'.cell? ⟨wr.heap.size, 1, none⟩ = some (.slice An ts.length cn) ∧ w'.cell? ⟨H, 2, none⟩ = some (.slice Ar C.room.length cr) ∧ w'.cell? ⟨w.heap.size, 0, none⟩ = some (.int .i64 x.id) ∧ w'.cell? ⟨w.heap.size, 1, none⟩ = some (.slice Ax x.need.length cx)) [10,11,12] (by kernel_rfl) (by exact KU.out _ HD.out) (fun hHeld => ?_)
        (refine WG.take (i := 0) (v := ?_) rfl (by kernel_rfl) (by kernel_rfl) (by kernel_rfl) (by kernel_rfl) (fun _ _ _ h => h) (Or.inl ⟨by rfl, ?_⟩) (by assumption) ?_; rotate_left; (intro w hSw; (try dsimp only at hSw); go_split_ands; go_simp; (try with_reducible rfl)); (try simp only [Act.put, List.setIfInBounds_toArray, List.set_cons_zero, List.set_cons_succ]))
        (refine WG.take (i := 1) (v := ?_) rfl (by kernel_rfl) (by kernel_rfl) (by kernel_rfl) (by kernel_rfl) (fun _ _ _ h => h) (Or.inl ⟨by rfl, ?_⟩) (by assumption) ?_; rotate_left; (intro w hSw; (try dsimp only at hSw); go_split_ands; go_simp; (try with_reducible rfl)); (try simp only [Act.put, List.setIfInBounds_toArray, List.set_cons_zero, List.set_cons_succ]))
        (refine WG.take (i := 2) (v := ?_) rfl (by kernel_rfl) (by kernel_rfl) (by kernel_rfl) (by kernel_rfl) (fun _ _ _ h => h) (Or.inl ⟨by rfl, ?_⟩) (by assumption) ?_; rotate_left; (intro w hSw; (try dsimp only at hSw); go_split_ands; go_simp; (try with_reducible rfl)); (try simp only [Act.put, List.setIfInBounds_toArray, List.set_cons_zero, List.set_cons_succ]))
        (refine WG.take (i := 3) (v := ?_) rfl (by kernel_rfl) (by kernel_rfl) (by kernel_rfl) (by kernel_rfl) (fun _ _ _ h => h) (Or.inl ⟨by rfl, ?_⟩) (by assumption) ?_; rotate_left; (intro w hSw; (try dsimp only at hSw); go_split_ands; go_simp; (try with_reducible rfl)); (try simp only [Act.put, List.setIfInBounds_toArray, List.set_cons_zero, List.set_cons_succ]))
        (refine WG.take (i := 4) (v := ?_) rfl (by kernel_rfl) (by kernel_rfl) (by kernel_rfl) (by kernel_rfl) (fun _ _ _ h => h) (Or.inl ⟨by rfl, ?_⟩) (by assumption) ?_; rotate_left; (intro w hSw; (try dsimp only at hSw); go_split_ands; go_simp; (try with_reducible rfl)); (try simp only [Act.put, List.setIfInBounds_toArray, List.set_cons_zero, List.set_cons_succ]))
        (refine WG.take (i := 5) (v := ?_) rfl (by kernel_rfl) (by kernel_rfl) (by kernel_rfl) (by kernel_rfl) (fun _ _ _ h => h) (Or.inl ⟨by rfl, ?_⟩) (by assumption) ?_; rotate_left; (intro w hSw; (try dsimp only at hSw); go_split_ands; go_simp; (try with_reducible rfl)); (try simp only [Act.put, List.setIfInBounds_toArray, List.set_cons_zero, List.set_cons_succ]))
        (refine WG.take (i := 6) (v := ?_) rfl (by kernel_rfl) (by kernel_rfl) (by kernel_rfl) (by kernel_rfl) (fun _ _ _ h => h) (Or.inl ⟨by rfl, ?_⟩) (by assumption) ?_; rotate_left; (intro w hSw; (try dsimp only at hSw); go_split_ands; go_simp; (try with_reducible rfl)); (try simp only [Act.put, List.setIfInBounds_toArray, List.set_cons_zero, List.set_cons_succ]))
        (refine WG.take (i := 7) (v := ?_) rfl (by kernel_rfl) (by kernel_rfl) (by kernel_rfl) (by kernel_rfl) (fun _ _ _ h => h) (Or.inl ⟨by rfl, ?_⟩) (by assumption) ?_; rotate_left; (intro w hSw; (try dsimp only at hSw); go_split_ands; go_simp; (try with_reducible rfl)); (try simp only [Act.put, List.setIfInBounds_toArray, List.set_cons_zero, List.set_cons_succ]))
        (refine WG.take (i := 8) (v := ?_) rfl (by kernel_rfl) (by kernel_rfl) (by kernel_rfl) (by kernel_rfl) (fun _ _ _ h => h) (Or.inl ⟨by rfl, ?_⟩) (by assumption) ?_; rotate_left; (intro w hSw; (try dsimp only at hSw); go_split_ands; go_simp; (try with_reducible rfl)); (try simp only [Act.put, List.setIfInBounds_toArray, List.set_cons_zero, List.set_cons_succ]))
        (refine WG.take (i := 9) (v := ?_) rfl (by kernel_rfl) (by kernel_rfl) (by kernel_rfl) (by kernel_rfl) (fun _ _ _ h => h) (Or.inl ⟨by rfl, ?_⟩) (by assumption) ?_; rotate_left; (intro w hSw; (try dsimp only at hSw); go_split_ands; go_simp; (try with_reducible rfl)); (try simp only [Act.put, List.setIfInBounds_toArray, List.set_cons_zero, List.set_cons_succ]))
        refine WG.last (i := 10) rfl (by kernel_rfl) (by kernel_rfl) (fun K hK => ?_)
        go_simp; refine (iHasRoom _ _ _ C.room ts x _ (HR.out.ext (HE5.out.trans HD.out)) (RT.ext HT5.out HD.out) (HX.out.ext (HE5.out.trans HD.out)) (vecOk_len (roomOk_vec (clusOk_room HC.out))) HGU.out HN.out).mono ?_; rintro e4 w4 ⟨rfl, hE4⟩; have HE4 := hid (HE5.out.trans (HD.out.trans hE4)); have k0 := (KU.out _ (HD.out.trans hE4)).1; clear hE4; (try dsimp only)
        refine hK.out _ _ ?_
        clear hK K
        (try simp only [Act.put, List.setIfInBounds_toArray, List.set_cons_zero, List.set_cons_succ])
        refine WG.last (i := 11) rfl (by kernel_rfl) (by kernel_rfl) (fun K hK => ?_)
        go_simp
        refine hK.out _ _ ?_
        clear hK K
        (try simp only [Act.put, List.setIfInBounds_toArray, List.set_cons_zero, List.set_cons_succ])
        refine WG.last (i := 12) rfl (by kernel_rfl) (by kernel_rfl) (fun K hK => ?_)
        go_simp
        refine hK.out _ _ ?_
        clear hK K
        (try simp only [Act.put, List.setIfInBounds_toArray, List.set_cons_zero, List.set_cons_succ])
        refine WG.done (by kernel_rfl) ?_
        by_cases hf : l11fits C.room ts x = true
        · rw [hf]
          go_wp2
          refine bodyPost_ret (results_tmp rfl _ _ _) rfl ?_
          have ha : atC C x true = k := idxI_hit e.out (by unfold canC; rw [hf]; rfl) HN0.out
          have hp : placeU C x grant = k := by unfold placeU; rw [ha, if_pos i0]
          exact ⟨by rw [hp]; rfl, HEW.out.trans HE4.out⟩
        · have hf : l11fits C.room ts x = false := by simpa using hf
          rw [hf]
          go_wp2
          go_roundw
          case rel =>
            refine ⟨k + 1, m, by omega, by go_num, rfl, hid (fun j y hj hy => ?_), hid ?_, HE4⟩
            · by_cases hjk : j = k
              · subst hjk
                have := e.out
                rw [hy] at this
                injection this with this
                rw [this]; unfold canC; rw [hf]; rfl
              · exact HN0.out j y (by omega) hy
            · rw [HTS.out, HS.out, ← HM.out]
              split
              · have := idxI_ge (fun u : UnitD => !u.opened) (C.units.take k)
                rename_i hm
                have h1 : -1 ≤ m := by rw [HM.out]; unfold idxI; split <;> omega
                simp
                omega
              · rfl
          case measure => simp [intOf]; omega
      | false =>
        refine WG.start (fun w' => w'.cell? ⟨wr.heap.size, 0, none⟩ = some (.bool false) ∧ w'.cell? ⟨wr.heap.size, 1, none⟩ = some (.slice An ts.length cn) ∧ w'.cell? ⟨H, 2, none⟩ = some (.slice Ar C.room.length cr) ∧ w'.cell? ⟨w.heap.size, 0, none⟩ = some (.int .i64 x.id) ∧ w'.cell? ⟨w.heap.size, 1, none⟩ = some (.slice Ax x.need.length cx)) [10,11,12] (by kernel_rfl) (by exact KU.out _ HD.out) (fun hHeld => ?_)
        (refine WG.take (i := 0) (v := ?_) rfl (by kernel_rfl) (by kernel_rfl) (by kernel_rfl) (by kernel_rfl) (fun _ _ _ h => h) (Or.inl ⟨by rfl, ?_⟩) (by assumption) ?_; rotate_left; (intro w hSw; (try dsimp only at hSw); go_split_ands; go_simp; (try with_reducible rfl)); (try simp only [Act.put, List.setIfInBounds_toArray, List.set_cons_zero, List.set_cons_succ]))
        (refine WG.take (i := 1) (v := ?_) rfl (by kernel_rfl) (by kernel_rfl) (by kernel_rfl) (by kernel_rfl) (fun _ _ _ h => h) (Or.inl ⟨by rfl, ?_⟩) (by assumption) ?_; rotate_left; (intro w hSw; (try dsimp only at hSw); go_split_ands; go_simp; (try with_reducible rfl)); (try simp only [Act.put, List.setIfInBounds_toArray, List.set_cons_zero, List.set_cons_succ]))
        (refine WG.take (i := 2) (v := ?_) rfl (by kernel_rfl) (by kernel_rfl) (by kernel_rfl) (by kernel_rfl) (fun _ _ _ h => h) (Or.inl ⟨by rfl, ?_⟩) (by assumption) ?_; rotate_left; (intro w hSw; (try dsimp only at hSw); go_split_ands; go_simp; (try with_reducible rfl)); (try simp only [Act.put, List.setIfInBounds_toArray, List.set_cons_zero, List.set_cons_succ]))
        (refine WG.take (i := 3) rfl (by kernel_rfl) (by kernel_rfl) (by kernel_rfl) (by kernel_rfl) (fun _ _ _ h => h) (Or.inr ⟨?_, rfl⟩) (by assumption) ?_; go_simp; (try simp only [Act.put, List.setIfInBounds_toArray, List.set_cons_zero, List.set_cons_succ]))
        (refine WG.take (i := 4) rfl (by kernel_rfl) (by kernel_rfl) (by kernel_rfl) (by kernel_rfl) (fun _ _ _ h => h) (Or.inr ⟨?_, rfl⟩) (by assumption) ?_; go_simp; (try simp only [Act.put, List.setIfInBounds_toArray, List.set_cons_zero, List.set_cons_succ]))
        (refine WG.take (i := 5) rfl (by kernel_rfl) (by kernel_rfl) (by kernel_rfl) (by kernel_rfl) (fun _ _ _ h => h) (Or.inr ⟨?_, rfl⟩) (by assumption) ?_; go_simp; (try simp only [Act.put, List.setIfInBounds_toArray, List.set_cons_zero, List.set_cons_succ]))
        (refine WG.take (i := 6) rfl (by kernel_rfl) (by kernel_rfl) (by kernel_rfl) (by kernel_rfl) (fun _ _ _ h => h) (Or.inr ⟨?_, rfl⟩) (by assumption) ?_; go_simp; (try simp only [Act.put, List.setIfInBounds_toArray, List.set_cons_zero, List.set_cons_succ]))
        (refine WG.take (i := 7) rfl (by kernel_rfl) (by kernel_rfl) (by kernel_rfl) (by kernel_rfl) (fun _ _ _ h => h) (Or.inr ⟨?_, rfl⟩) (by assumption) ?_; go_simp; (try simp only [Act.put, List.setIfInBounds_toArray, List.set_cons_zero, List.set_cons_succ]))
        (refine WG.take (i := 8) rfl (by kernel_rfl) (by kernel_rfl) (by kernel_rfl) (by kernel_rfl) (fun _ _ _ h => h) (Or.inr ⟨?_, rfl⟩) (by assumption) ?_; go_simp; (try simp only [Act.put, List.setIfInBounds_toArray, List.set_cons_zero, List.set_cons_succ]))
        (refine WG.take (i := 9) rfl (by kernel_rfl) (by kernel_rfl) (by kernel_rfl) (by kernel_rfl) (fun _ _ _ h => h) (Or.inr ⟨?_, rfl⟩) (by assumption) ?_; go_simp; (try simp only [Act.put, List.setIfInBounds_toArray, List.set_cons_zero, List.set_cons_succ]))
        refine WG.last (i := 10) rfl (by kernel_rfl) (by kernel_rfl) (fun K hK => ?_)
        go_simp
        refine hK.out _ _ ?_
        clear hK K
        (try simp only [Act.put, List.setIfInBounds_toArray, List.set_cons_zero, List.set_cons_succ])
        refine WG.last (i := 11) rfl (by kernel_rfl) (by kernel_rfl) (fun K hK => ?_)
        go_simp
        refine hK.out _ _ ?_
        clear hK K
        (try simp only [Act.put, List.setIfInBounds_toArray, List.set_cons_zero, List.set_cons_succ])
        refine WG.last (i := 12) rfl (by kernel_rfl) (by kernel_rfl) (fun K hK => ?_)
        go_simp
        refine hK.out _ _ ?_
        clear hK K
        (try simp only [Act.put, List.setIfInBounds_toArray, List.set_cons_zero, List.set_cons_succ])
        refine WG.done (by kernel_rfl) ?_
        have k0 := (KU.out _ HD.out).1
        have HE4 := hid (HE5.out.trans HD.out)
        have HNX : Hid (∀ (j : Nat) y, j < k + 1 → C.units[j]? = some y → canC C x true y = false) := hid (fun j y hj hy => by
          by_cases hjk : j = k
          · subst hjk
            have := e.out
            rw [hy] at this
            injection this with this
            rw [this]; rfl
          · exact HN0.out j y (by omega) hy)
        by_cases hm : m < 0
        · go_wp2
          go_roundw
          case rel =>
            refine ⟨k + 1, k, by omega, by go_num, rfl, HNX, hid ?_, HE4⟩
            rw [HTS.out, HS.out, ← HM.out, if_pos hm, List.length_take, Nat.min_eq_left hk]; rfl
          case measure => simp [intOf]; omega
        · go_wp2
          go_roundw
          case rel =>
            refine ⟨k + 1, m, by omega, by go_num, rfl, HNX, hid ?_, HE4⟩
            rw [HTS.out, HS.out, ← HM.out, if_neg hm]
          case measure => simp [intOf]; omega
    · have hk' : k = C.units.length := by omega
      have ha : atC C x true = -1 := idxI_miss (fun j y hy => HN0.out j y (by rw [hk']; exact (List.getElem?_eq_some_iff.1 hy).1) hy)
      have hm : m = idxI (fun u : UnitD => !u.opened) C.units := by rw [HM.out, List.take_of_length_le (by omega)]
      cases grant with
      | true =>
        have hp : placeU C x true = m := by unfold placeU; rw [ha, hm]; rfl
        clear hm ha
        go_wp2
        refine bodyPost_ret (results_tmp rfl _ _ _) rfl ?_
        exact ⟨by rw [hp]; rfl, HEW.out.trans hE.out⟩
      | false =>
        have hp : placeU C x false = -1 := by unfold placeU; rw [ha]; rfl
        clear hm ha
        go_wp2
        refine bodyPost_ret (results_tmp rfl _ _ _) rfl ?_
        exact ⟨by rw [hp]; rfl, HEW.out.trans hE.out⟩

end Go.Proofs.YtkdkmihgnplooaaGreat
