/- The program's score of a node; the best node. -/
import Derived.Test.YtllchacophapoaaDoorK34
import Derived.Test.YtllchacophapoaaDoorK3
import Derived.Test.YtllchacophapoaaDoorK26
import Derived.Test.YtllchacophapoaaDoorK28
namespace Go.Proofs.YtllchacophapoaaDoor
open Go.RowKit
set_option maxRecDepth 4000

theorem taS1 (v : Value) (w : World) : (Instr.typeAssert (.iface 116 v) 110 116 true).run Tryd.prog w = .ok (.tuple #[v, .bool true]) w := by kernel_rfl
theorem taS2 (v : Value) (w : World) : (Instr.typeAssert (.iface 118 v) 110 116 true).run Tryd.prog w = .ok (.tuple #[.int .i64 0, .bool false]) w := by kernel_rfl
theorem taS3 (v : Value) (w : World) : (Instr.typeAssert (.iface 118 v) 110 118 true).run Tryd.prog w = .ok (.tuple #[v, .bool true]) w := by kernel_rfl

theorem iScoreNumS (s : Int) (w : World) : Calls Tryd.prog 105 #[.iface 116 (.int .i64 s)] w (RetN w s) := by
  have h1 := taS1
  go_enter Tryd.func105, Tryd.ntmps105
  go_wp2
  go_ret
  exact ⟨rfl, Ext.refl _⟩
theorem iScoreNumF (w : World) : Calls Tryd.prog 105 #[.iface 118 (.agg #[])] w (RetN w (-1)) := by
  have h2 := taS2
  have h3 := taS3
  have hE := hid (Ext.alloc w (.cells #[] 118))
  go_enter Tryd.func105, Tryd.ntmps105
  go_wp2
  go_ret
  exact ⟨rfl, hE.out⟩

def scoreV (room : List Int) (b : List TaskD) (x : TaskD) : Value := if l11fits room b x then .iface 116 (.int .i64 (scoreL room b x)) else .iface 118 (.agg #[])
def scoreI (room : List Int) (b : List TaskD) (x : TaskD) : Int := if l11fits room b x then scoreL room b x else -1
theorem iScoreNum (room : List Int) (b : List TaskD) (x : TaskD) (w : World) : Calls Tryd.prog 105 #[scoreV room b x] w (RetN w (scoreI room b x)) := by
  unfold scoreV scoreI
  cases l11fits room b x with
  | true => exact iScoreNumS _ w
  | false => exact iScoreNumF w

set_option maxHeartbeats 1000000 in
theorem iScoreOf (rv v xv : Value) (room : List Int) (b : List TaskD) (x : TaskD) (w : World) (hR : RI w rv room) (h : RT w v b) (hx : TaskV w xv x) (hrv : vecOk room = true) (hg : GoodTs b) (hv : vecOk x.need = true) :
    Calls Tryd.prog 106 #[rv, v, xv] w fun e w' => e = .returned (scoreV room b x) ∧ Ext w w' := by
  obtain ⟨nv, rfl, hnv⟩ := hx
  obtain ⟨An, cn, rfl, _⟩ := RI.get hnv
  obtain ⟨W, hW⟩ : ∃ W, W = w.alloc (.cells #[.int .i64 x.id, .slice An x.need.length cn] 44) := ⟨_, rfl⟩
  have hbx : W.heap[w.heap.size]? = some (.cells #[.int .i64 x.id, .slice An x.need.length cn] 44 (0, 0)) := by rw [hW]; exact heap_alloc_new _ _
  have hEW : Ext w W := by rw [hW]; exact Ext.alloc _ _
  have HE0 := hid hEW
  have KB : Hid (∀ w', Ext W w' → w'.cell? ⟨w.heap.size, 1, none⟩ = some (.slice An x.need.length cn)) := hid fun w' hw => obj_cell (hw.obj hbx) (i := 1) rfl
  have H1 := hid (h.ext hEW)
  have H2 := hid (hnv.ext hEW)
  have H3 := hid (hR.ext hEW)
  have HG := hid hg
  have HLR := hid (vecOk_len hrv)
  have HRB := hid ((vecOk_bd hrv).mono (show (20 : Int) ≤ 1000000 by omega))
  have HNB := hid (vecOk_bd hv)
  have HNL := hid (vecOk_len hv)
  have HL := hid (loadL_len b)
  have HB := hid (load_bd hg)
  have HBL := hid (Bd.mono (Bd.add HRB.out HB.out (by omega) (by omega) (-1) (.inr rfl)) (show (1000000 + 1000000 : Int) ≤ 2000000 by omega))
  have TK0 : Hid True := hid trivial
  clear h hR hnv hg hv hrv hbx hEW
  cases hf : l11fits room b x with
  | true =>
    have HF : Hid (fitsL x.need (leftL room b) = true) := hid (by rw [fits_left]; exact hf)
    have HS : Hid (scoreV room b x = .iface 116 (.int .i64 (scoreL room b x))) := hid (by unfold scoreV; rw [hf]; rfl)
    go_enter Tryd.func106, Tryd.ntmps106
    go_wp2_with (first
      | (go_at_call 50; rw [← hW]; refine (iLoad _ b _ H1.out HG.out).mono ?_; rintro e w1 ⟨v1, rfl, hO1, hE1⟩; have HO1 := hid hO1.read; have HE1 := hid hE1; clear hO1 hE1 hW)
      | (go_at_call 111; refine (iMinus _ _ room (loadL b) _ (RI.ext H3.out HE1.out) HO1.out HLR.out HL.out HRB.out HB.out).mono ?_; rintro e w2 ⟨v2, rfl, hO2, hE2⟩; have HO2 := hid hO2.read; have HE2 := hid (HE1.out.trans hE2); have q0 := KB.out _ HE2.out; clear hO2 hE2)
      | (go_at_call 51; refine (iFits _ _ x.need (leftL room b) _ (RI.ext H2.out HE2.out) HO2.out HNL.out (addL_len _ _ _)).mono ?_; rw [HF.out]; rintro e w3 ⟨rfl, n3, hw3⟩; have hE3 : Ext w2 w3 := (by rw [hw3]; exact Ext.drewN _ _); have HE3 := hid (HE2.out.trans hE3); have HO3 := hid (RI.ext HO2.out hE3); have q1 := KB.out _ HE3.out; clear hw3 hE3)
      | (go_at_call 112; refine (iDot _ _ x.need (leftL room b) _ (RI.ext H2.out HE3.out) HO3.out HNL.out (addL_len _ _ _) HNB.out HBL.out).mono ?_; rintro e w4 ⟨rfl, rfl⟩))
    go_ret
    exact ⟨by rw [HS.out]; rfl, HE0.out.trans HE3.out⟩
  | false =>
    have HF : Hid (fitsL x.need (leftL room b) = false) := hid (by rw [fits_left]; exact hf)
    have HS : Hid (scoreV room b x = .iface 118 (.agg #[])) := hid (by unfold scoreV; rw [hf]; rfl)
    go_enter Tryd.func106, Tryd.ntmps106
    go_wp2_with (first
      | (go_at_call 50; rw [← hW]; refine (iLoad _ b _ H1.out HG.out).mono ?_; rintro e w1 ⟨v1, rfl, hO1, hE1⟩; have HO1 := hid hO1.read; have HE1 := hid hE1; clear hO1 hE1 hW)
      | (go_at_call 111; refine (iMinus _ _ room (loadL b) _ (RI.ext H3.out HE1.out) HO1.out HLR.out HL.out HRB.out HB.out).mono ?_; rintro e w2 ⟨v2, rfl, hO2, hE2⟩; have HO2 := hid hO2.read; have HE2 := hid (HE1.out.trans hE2); have q0 := KB.out _ HE2.out; clear hO2 hE2)
      | (go_at_call 51; refine (iFits _ _ x.need (leftL room b) _ (RI.ext H2.out HE2.out) HO2.out HNL.out (addL_len _ _ _)).mono ?_; rw [HF.out]; rintro e w3 ⟨rfl, n3, hw3⟩; have hE3 : Ext w2 w3 := (by rw [hw3]; exact Ext.drewN _ _); have HE3 := hid (HE2.out.trans hE3); clear hw3 hE3))
    go_ret
    exact ⟨by rw [HS.out]; rfl, HE0.out.trans HE3.out⟩

/-- the best score among the first k -/
def bestN (room : List Int) (bs : List (List TaskD)) (x : TaskD) (k : Nat) : Int := match bestTo room bs x k with
  | none => -1
  | some j => scoreAt room bs x j
theorem bestN_ge {room : List Int} {bs : List (List TaskD)} {x : TaskD} (hx : vecOk x.need = true) (k : Nat) : -1 ≤ bestN room bs x k := by
  unfold bestN
  cases h : bestTo room bs x k with
  | none => exact Int.le_refl _
  | some j =>
    have := score_nn (b := bs.getD j []) hx (bestTo_some h).2
    show -1 ≤ scoreL room (bs.getD j []) x
    omega
theorem best_more {room : List Int} {bs : List (List TaskD)} {x : TaskD} (hx : vecOk x.need = true) {k : Nat} {y : List TaskD} (h : bs[k]? = some y) (hm : bestN room bs x k < scoreI room y x) : bestTo room bs x (k + 1) = some k ∧ bestN room bs x (k + 1) = scoreI room y x := by
  have e : bs.getD k [] = y := by rw [List.getD_eq_getElem?_getD, h]; rfl
  cases hf : l11fits room y x with
  | false =>
    have h1 : scoreI room y x = -1 := by unfold scoreI; rw [hf]; rfl
    have := bestN_ge (room := room) (bs := bs) hx k
    omega
  | true =>
    have h1 : scoreI room y x = scoreL room y x := by unfold scoreI; rw [hf]; rfl
    have key : bestTo room bs x (k + 1) = some k := by
      cases hb : bestTo room bs x k with
      | none => exact bestTo_new h hf hb
      | some j =>
        have hj := (bestTo_some hb).1
        have hk : k < bs.length := (List.getElem?_eq_some_iff.1 h).1
        have hjg : bs[j]? = some (bs.getD j []) := by rw [List.getD_eq_getElem?_getD, List.getElem?_eq_getElem (by omega)]; rfl
        rw [bestTo_more h hjg hf hb]
        unfold bestN at hm
        rw [hb, h1] at hm
        exact if_pos hm
    refine ⟨key, ?_⟩
    unfold bestN
    rw [key, h1]
    show scoreL room (bs.getD k []) x = _
    rw [e]
theorem best_same {room : List Int} {bs : List (List TaskD)} {x : TaskD} (hx : vecOk x.need = true) {k : Nat} {y : List TaskD} (h : bs[k]? = some y) (hm : ¬ bestN room bs x k < scoreI room y x) : bestTo room bs x (k + 1) = bestTo room bs x k := by
  cases hf : l11fits room y x with
  | false => exact bestTo_nofit h hf
  | true =>
    have h1 : scoreI room y x = scoreL room y x := by unfold scoreI; rw [hf]; rfl
    cases hb : bestTo room bs x k with
    | none =>
      have := score_nn (b := y) hx hf
      unfold bestN at hm
      rw [hb, h1] at hm
      simp only at hm
      omega
    | some j =>
      have hj := (bestTo_some hb).1
      have hk : k < bs.length := (List.getElem?_eq_some_iff.1 h).1
      have hjg : bs[j]? = some (bs.getD j []) := by rw [List.getD_eq_getElem?_getD, List.getElem?_eq_getElem (by omega)]; rfl
      rw [bestTo_more h hjg hf hb]
      unfold bestN at hm
      rw [hb, h1] at hm
      exact if_neg hm

set_option maxHeartbeats 2000000 in
theorem iBestOf (room : List Int) (bs : List (List TaskD)) (x : TaskD) (Ar : Option Addr) (cr : Nat) (Ab : Option Addr) (cb : Nat) (Ax : Option Addr) (cx : Nat) (w : World)
    (hr : RI w (.slice Ar room.length cr) room) (hb : RB w (.slice Ab bs.length cb) bs) (hx : RI w (.slice Ax x.need.length cx) x.need) (hrv : vecOk room = true) (hg : ∀ b ∈ bs, GoodTs b) (hv : vecOk x.need = true) :
    Calls Tryd.prog 97 #[.slice Ar room.length cr, .slice Ab bs.length cb, .agg #[.int .i64 x.id, .slice Ax x.need.length cx]] w (RetN w (bestAt room bs x)) := by
  obtain ⟨_, _, hv0, hc, hc', hgb⟩ := RB.get hb
  injection hv0 with h1 h2 h3
  subst h1 h3
  obtain ⟨W, hW⟩ : ∃ W, W = w.alloc (.cells #[.int .i64 x.id, .slice Ax x.need.length cx] 44) := ⟨_, rfl⟩
  have hEW : Ext w W := by rw [hW]; exact Ext.alloc _ _
  have hbx : W.heap[w.heap.size]? = some (.cells #[.int .i64 x.id, .slice Ax x.need.length cx] 44 (0, 0)) := by rw [hW]; exact heap_alloc_new _ _
  have KB : Hid (∀ w', Ext W w' → w'.cell? ⟨w.heap.size, 0, none⟩ = some (.int .i64 x.id) ∧ w'.cell? ⟨w.heap.size, 1, none⟩ = some (.slice Ax x.need.length cx)) := hid fun w' hw => ⟨obj_cell (hw.obj hbx) (i := 0) rfl, obj_cell (hw.obj hbx) (i := 1) rfl⟩
  have HEW := hid hEW
  have HR := hid (RI.ext hr hEW)
  have HN := hid (RI.ext hx hEW)
  have HGB := hid hgb
  have HBG := hid hg
  have HXV := hid hv
  have HRV := hid hrv
  clear hb hgb hr hx hg hv hrv hbx hEW h2
  go_enter Tryd.func97, Tryd.ntmps97
  go_wp2
  rw [← hW]
  clear hW
  go_loopw [7, 8, 14] (fun s t i wr => ∃ (k : Nat) (z n : Int), k ≤ bs.length ∧ i = .int .i64 k ∧ s = .int .i64 z ∧ t = .int .i64 n ∧ Hid (z = natI (bestTo room bs x k)) ∧ Hid (n = bestN room bs x k) ∧ Hid (Ext W wr)) (fun _ _ i _ => bs.length - (intOf i).toNat)
  case atStart => exact ⟨0, -1, -1, Nat.zero_le _, rfl, rfl, rfl, hid rfl, hid rfl, hid (Ext.refl _)⟩
  case round =>
    obtain ⟨k, z, n, hk, rfl, rfl, rfl, HZ, HNN, HE⟩ := hrel
    by_cases hlt : k < bs.length
    · obtain ⟨b, o, y, Ak, ck, rfl, ey, c1, hny⟩ := HGB.out k hlt
      have i1 : (k : Int) < (bs.length : Int) := by omega
      have i0 : (0 : Int) ≤ (k : Int) := by omega
      have HYG := hid (HBG.out y (List.mem_of_getElem? ey.out))
      have HY := hid (RT.ext hny (HEW.out.trans HE.out))
      have c1r := (HEW.out.trans HE.out).cell c1
      obtain ⟨q0, q1⟩ := KB.out _ HE.out
      obtain ⟨m, hm⟩ : ∃ m, m = scoreI room y x := ⟨_, rfl⟩
      have HM := hid hm
      clear c1 hny
      by_cases hs : n < m
      · have hbm := best_more HXV.out ey.out (by rw [← HNN.out, ← hm]; exact hs)
        have HBM := hid hbm
        clear hbm hm
        go_wp2_with (first
          | (go_at_call 106; refine (iScoreOf _ _ _ room y x _ (RI.ext HR.out HE.out) HY.out ⟨_, rfl, RI.ext HN.out HE.out⟩ HRV.out HYG.out HXV.out).mono ?_; rintro e w1 ⟨rfl, hE1⟩; have HE1 := hid hE1; clear hE1 q0 q1)
          | (go_at_call 105; refine (iScoreNum room y x _).mono ?_; rw [← HM.out]; rintro e w2 ⟨rfl, hE2⟩; have HE2 := hid (HE1.out.trans hE2); clear hE2))
        go_roundw
        case rel => exact ⟨k + 1, (k : Int), m, by omega, by go_num, rfl, rfl, hid (by rw [HBM.out.1]; rfl), hid (by rw [HBM.out.2]; exact HM.out), hid (HE.out.trans HE2.out)⟩
        case measure => simp [intOf]; omega
      · have hbm := best_same HXV.out ey.out (by rw [← HNN.out, ← hm]; exact hs)
        have HBM := hid hbm
        clear hbm hm
        go_wp2_with (first
          | (go_at_call 106; refine (iScoreOf _ _ _ room y x _ (RI.ext HR.out HE.out) HY.out ⟨_, rfl, RI.ext HN.out HE.out⟩ HRV.out HYG.out HXV.out).mono ?_; rintro e w1 ⟨rfl, hE1⟩; have HE1 := hid hE1; clear hE1 q0 q1)
          | (go_at_call 105; refine (iScoreNum room y x _).mono ?_; rw [← HM.out]; rintro e w2 ⟨rfl, hE2⟩; have HE2 := hid (HE1.out.trans hE2); clear hE2))
        go_roundw
        case rel => exact ⟨k + 1, z, n, by omega, by go_num, rfl, rfl, hid (by rw [HBM.out]; exact HZ.out), hid (by unfold bestN; rw [HBM.out]; exact HNN.out), hid (HE.out.trans HE2.out)⟩
        case measure => simp [intOf]; omega
    · have hk' : k = bs.length := by omega
      have hR : Hid (z = bestAt room bs x) := hid (by rw [HZ.out, hk']; rfl)
      clear hk'
      go_wp2
      go_ret
      exact ⟨ret_i hR.out, HEW.out.trans HE.out⟩

end Go.Proofs.YtllchacophapoaaDoor

/- The program's BestAll, DownAll, DownBest. (Printed by genod2.py.) -/
namespace Go.Proofs.YtllchacophapoaaDoor
open Go.RowKit
set_option maxRecDepth 4000

set_option maxHeartbeats 4000000 in
theorem iAllBest (rv tv : Value) (room : List Int) (ts : List TaskD) (w : World) (hR : RI w rv room) (h : RT w tv ts) (hok : tasksOk room ts = true) :
    Calls Tryd.prog 96 #[.func (.func 97) #[] #[], rv, tv] w fun e w' => ∃ v, e = .returned v ∧ DB w' w.heap.size v (allBy (fun bs x => bestAt room bs x) ts) ∧ Ext w w' := by
  have HR := hid hR
  obtain ⟨Ar, cr, rfl, _⟩ := hR
  obtain ⟨A, c, rfl, hc, hc', hg⟩ := RT.get h
  have HOK := hid hok
  have HSM := hid (fun k => bins_small (all_small (chooses_best room) hok k))
  have HRW := hid (fun k => bins_rows (all_small (chooses_best room) hok k))
  have HGT := hid (tasksOk_good hok)
  have HVV := hid (tasksOk_all hok).1
  have HRV := hid (roomOk_vec (tasksOk_room hok))
  have HG := hid hg
  have hl14 := tasksOk_len hok
  obtain ⟨W, hW⟩ : ∃ W, W = w.alloc (.cells #[] 28) := ⟨_, rfl⟩
  have hEW : Ext w W := by rw [hW]; exact Ext.alloc _ _
  have hD0 : DB W w.heap.size (.slice (some ⟨w.heap.size, 0, none⟩) 0 0) [] := ⟨[], by rw [hW]; exact Own.made #[] 0 (Nat.le_refl _) (by omega) rfl, rfl, by simp [rowBs], by simp [binNs]⟩
  have HEW := hid hEW
  have HD0 := hid hD0
  clear hEW hD0 h hg hok
  go_enter Tryd.func96, Tryd.ntmps96
  go_wp2
  rw [← hW]
  clear hW
  go_loopw [7, 13] (fun o i wr => ∃ (u : Value) (k : Nat), u = o ∧ k ≤ ts.length ∧ i = .int .i64 k ∧ Hid (DB wr w.heap.size u (allBy (fun bs x => bestAt room bs x) (ts.take k)) ∧ Ext w wr)) (fun _ i _ => ts.length - (intOf i).toNat)
  case atStart => exact ⟨_, 0, rfl, Nat.zero_le _, rfl, hid ⟨HD0.out, HEW.out⟩⟩
  case round =>
    obtain ⟨u, k, rfl, hk, rfl, H⟩ := hrel
    by_cases hlt : k < ts.length
    · obtain ⟨b, o, x, An, cn, rfl, e, c0, c1, hnx⟩ := HG.out k hlt
      have i1 : (k : Int) < (ts.length : Int) := by omega
      have i0 : (0 : Int) ≤ (k : Int) := by omega
      have HDB := hid H.out.1
      have HE := hid H.out.2
      have c0r := HE.out.cell c0
      have c1r := HE.out.cell c1
      have HNX := hid (RI.ext hnx HE.out)
      have HXG := hid (HGT.out.2 x (List.mem_of_getElem? e.out))
      have HXV := hid (HVV.out x (List.mem_of_getElem? e.out))
      have HST := hid (allBy_take_succ (fun bs x => bestAt room bs x) e.out)
      obtain ⟨Bs, hBs⟩ : ∃ Bs, Bs = allBy (fun bs x => bestAt room bs x) (ts.take k) := ⟨_, rfl⟩
      have HSK := hid (hBs ▸ HSM.out k)
      have HRK := hid (hBs ▸ HRW.out k)
      rw [← hBs] at HDB HST
      obtain ⟨Au, cu, hu⟩ := HDB.out.form
      subst hu
      clear hBs H c0 c1 hnx
      obtain ⟨xi, xn⟩ := x
      obtain ⟨y0, y1, y0f, y1f, k1, k1f, hkk, _⟩ := box2 (heap_alloc_new wr (.cells #[.int .i64 0, .slice none 0 0] 44)) (.int .i64 xi) (.slice An xn.length cn)
      obtain ⟨W5, hW5⟩ : ∃ W5, W5 = wr.alloc (.cells #[.int .i64 xi, .slice An xn.length cn] 44) := ⟨_, rfl⟩
      have hE5 : Ext wr W5 := by rw [hW5]; exact Ext.alloc _ _
      have hxb : W5.heap[wr.heap.size]? = some (.cells #[.int .i64 xi, .slice An xn.length cn] 44 (0, 0)) := by rw [hW5]; exact heap_alloc_new _ _
      have KB : Hid (∀ w', Ext W5 w' → w'.cell? ⟨wr.heap.size, 0, none⟩ = some (.int .i64 xi) ∧ w'.cell? ⟨wr.heap.size, 1, none⟩ = some (.slice An xn.length cn)) := hid fun w' hw => ⟨obj_cell (hw.obj hxb) (i := 0) rfl, obj_cell (hw.obj hxb) (i := 1) rfl⟩
      have HE5 := hid hE5
      have HDr : Hid (Ext W5 W5.drew) := hid (Below.drew (Below.refl _ _))
      clear hkk hxb hE5
      go_wp2
      rw [← hW5]
      clear hW5 y0 y1 y0f y1f k1 k1f c0r c1r
      obtain ⟨zz, hzz⟩ : ∃ zz, zz = bestAt room Bs ⟨xi, xn⟩ := ⟨_, rfl⟩
      have HZC : Hid (zz < 0 ∨ ∃ (k : Nat) (b : List TaskD), zz = (k : Int) ∧ Bs[k]? = some b ∧ l11fits room b ⟨xi, xn⟩ = true) := hid (by rw [hzz]; exact (chooses_best room) Bs ⟨xi, xn⟩)
      have HZZ := hid hzz
      clear hzz
      refine WG.start (fun w' => w'.cell? ⟨wr.heap.size, 0, none⟩ = some (.int .i64 xi) ∧ w'.cell? ⟨wr.heap.size, 1, none⟩ = some (.slice An xn.length cn)) [7,8] (by kernel_rfl) (by exact KB.out _ HDr.out) (fun hHeld => ?_)
      obtain ⟨pz, hpz⟩ : ∃ x, x = W5.drew := ⟨_, rfl⟩
      rw [← hpz] at hHeld HDr ⊢
      clear hpz
      (refine WG.take (i := 0) (v := ?_) rfl (by kernel_rfl) (by kernel_rfl) (by kernel_rfl) (by kernel_rfl) (fun _ _ _ h => h) (Or.inl ⟨by rfl, ?_⟩) (by assumption) ?_; rotate_left; (intro w hSw; (try dsimp only at hSw); go_split_ands; go_simp; (try with_reducible rfl)); (try simp only [Act.put, List.setIfInBounds_toArray, List.set_cons_zero, List.set_cons_succ]))
      (refine WG.take (i := 1) (v := ?_) rfl (by kernel_rfl) (by kernel_rfl) (by kernel_rfl) (by kernel_rfl) (fun _ _ _ h => h) (Or.inl ⟨by rfl, ?_⟩) (by assumption) ?_; rotate_left; (intro w hSw; (try dsimp only at hSw); go_split_ands; go_simp; (try with_reducible rfl)); (try simp only [Act.put, List.setIfInBounds_toArray, List.set_cons_zero, List.set_cons_succ]))
      (refine WG.take (i := 2) (v := ?_) rfl (by kernel_rfl) (by kernel_rfl) (by kernel_rfl) (by kernel_rfl) (fun _ _ _ h => h) (Or.inl ⟨by rfl, ?_⟩) (by assumption) ?_; rotate_left; (intro w hSw; (try dsimp only at hSw); go_split_ands; go_simp; (try with_reducible rfl)); (try simp only [Act.put, List.setIfInBounds_toArray, List.set_cons_zero, List.set_cons_succ]))
      (refine WG.take (i := 3) (v := ?_) rfl (by kernel_rfl) (by kernel_rfl) (by kernel_rfl) (by kernel_rfl) (fun _ _ _ h => h) (Or.inl ⟨by rfl, ?_⟩) (by assumption) ?_; rotate_left; (intro w hSw; (try dsimp only at hSw); go_split_ands; go_simp; (try with_reducible rfl)); (try simp only [Act.put, List.setIfInBounds_toArray, List.set_cons_zero, List.set_cons_succ]))
      (refine WG.take (i := 4) (v := ?_) rfl (by kernel_rfl) (by kernel_rfl) (by kernel_rfl) (by kernel_rfl) (fun _ _ _ h => h) (Or.inl ⟨by rfl, ?_⟩) (by assumption) ?_; rotate_left; (intro w hSw; (try dsimp only at hSw); go_split_ands; go_simp; (try with_reducible rfl)); (try simp only [Act.put, List.setIfInBounds_toArray, List.set_cons_zero, List.set_cons_succ]))
      (refine WG.take (i := 6) (v := ?_) rfl (by kernel_rfl) (by kernel_rfl) (by kernel_rfl) (by kernel_rfl) (fun _ _ _ h => h) (Or.inl ⟨by rfl, ?_⟩) (by assumption) ?_; rotate_left; (intro w hSw; (try dsimp only at hSw); go_split_ands; go_simp; (try with_reducible rfl)); (try simp only [Act.put, List.setIfInBounds_toArray, List.set_cons_zero, List.set_cons_succ]))
      refine WG.one (i := 5) rfl (by kernel_rfl) (fun K hK => ?_)
      go_simp; refine (iBestOf room Bs ⟨xi, xn⟩ Ar cr Au cu An cn _ (RI.ext HR.out (HE.out.trans (HE5.out.trans HDr.out))) (RB.ext HDB.out.read (HE5.out.trans HDr.out)) (RI.ext HNX.out (HE5.out.trans HDr.out)) HRV.out (fun b hb => (HSK.out.2.2.2 b hb).1) HXV.out).mono ?_; rw [← HZZ.out]; rintro e6 w6 ⟨rfl, hE6⟩; have HE6 := hid (HDr.out.trans hE6); clear hE6; (try dsimp only)
      refine hK.out _ _ (by exact KB.out _ HE6.out) (fun hHeld => ?_)
      clear hK K
      (try simp only [Act.put, List.setIfInBounds_toArray, List.set_cons_zero, List.set_cons_succ])
      refine WG.last (i := 7) rfl (by kernel_rfl) (by kernel_rfl) (fun K hK => ?_)
      go_simp; refine (iPlaced _ _ room Bs zz ⟨xi, xn⟩ w.heap.size _ (HDB.out.ext (HE5.out.trans HE6.out)) ⟨_, rfl, RI.ext HNX.out (HE5.out.trans HE6.out)⟩ HZC.out (by have h3 : xn.length = 3 := HXG.out.1; show xn.length ≤ 4000000; omega) (by have := HSK.out.2.1; omega) (fun b hb => (HRK.out.2.2 b hb).1) (HE.out.trans (HE5.out.trans HE6.out)).size).mono ?_; rintro e7 w7 ⟨v7, rfl, hD7, hB7⟩; have HD7 := hid hD7; have HB7 : Hid (Ext w w7) := hid (Below.trans (HE.out.trans (HE5.out.trans HE6.out)) hB7); clear hD7 hB7; (try dsimp only)
      refine hK.out _ _ ?_
      clear hK K
      (try simp only [Act.put, List.setIfInBounds_toArray, List.set_cons_zero, List.set_cons_succ])
      refine WG.last (i := 8) rfl (by kernel_rfl) (by kernel_rfl) (fun K hK => ?_)
      go_simp
      refine hK.out _ _ ?_
      clear hK K
      (try simp only [Act.put, List.setIfInBounds_toArray, List.set_cons_zero, List.set_cons_succ])
      refine WG.done (by kernel_rfl) ?_
      go_wp2
      go_roundw
      case rel => exact ⟨_, k + 1, rfl, by omega, by go_num, hid ⟨by rw [HST.out, ← HZZ.out]; exact HD7.out, HB7.out⟩⟩
      case measure => simp [intOf]; omega
    · have hk' : k = ts.length := by omega
      subst hk'
      have HDB := hid H.out.1
      have HE := hid H.out.2
      go_wp2
      go_ret
      have h1 := HDB.out
      rw [List.take_length] at h1
      exact ⟨_, rfl, h1, HE.out⟩

set_option maxHeartbeats 1000000 in
theorem iBestAll (rv tv : Value) (room : List Int) (ts : List TaskD) (w : World) (hR : RI w rv room) (h : RT w tv ts) (hids : ∀ t ∈ ts, IdR t.id) :
    Calls Tryd.prog 80 #[rv, tv] w (RetDB (bestAllN room ts) w) := by
  have HR := hid hR
  have HT := hid h
  have HID := hid hids
  obtain ⟨Ar, cr, rfl, _⟩ := hR
  obtain ⟨At, ct, rfl, _⟩ := RT.get h
  clear h hids
  cases hq : tasksOk room ts with
  | true =>
    have HRS : Hid (bestAllN room ts = allBy (fun bs x => bestAt room bs x) ts) := hid (by unfold bestAllN; rw [hq]; rfl)
    go_enter Tryd.func80, Tryd.ntmps80
    go_wp2_with (first
      | (go_at_call 49; refine (iTasksValid _ _ room ts _ HR.out HT.out HID.out).mono ?_; rw [hq]; rintro e w1 ⟨rfl, hE1⟩; have HE1 := hid hE1; clear hE1)
      | (go_at_call 96; refine (iAllBest _ _ room ts _ (RI.ext HR.out HE1.out) (RT.ext HT.out HE1.out) hq).mono ?_; rintro e w2 ⟨v2, rfl, hB2, hE2⟩; have HB2 := hid (hB2.low HE1.out.size); have HE2 := hid (HE1.out.trans hE2); clear hB2 hE2))
    go_ret
    exact ⟨_, rfl, by rw [HRS.out]; exact HB2.out, HE2.out⟩
  | false =>
    have HRS : Hid (bestAllN room ts = []) := hid (by unfold bestAllN; rw [hq]; rfl)
    go_enter Tryd.func80, Tryd.ntmps80
    go_wp2_with (go_at_call 49; refine (iTasksValid _ _ room ts _ HR.out HT.out HID.out).mono ?_; rw [hq]; rintro e w1 ⟨rfl, hE1⟩; have HE1 := hid hE1; clear hE1)
    go_ret
    exact ⟨_, rfl, by rw [HRS.out]; exact DB.none_ _ _, HE1.out⟩

theorem sort_ids {room : List Int} {ts : List TaskD} (h : ∀ t ∈ ts, IdR t.id) : ∀ t ∈ sortN room ts, IdR t.id := fun t ht => by
  unfold sortN at ht
  split at ht
  · exact h t ((sortT_perm ts).mem_iff.1 ht)
  · cases ht
theorem iDownAll (rv tv : Value) (room : List Int) (ts : List TaskD) (w : World) (hR : RI w rv room) (h : RT w tv ts) (hids : ∀ t ∈ ts, IdR t.id) :
    Calls Tryd.prog 81 #[rv, tv] w (RetDB (downAllN room ts) w) := by
  have HR := hid hR
  have HT := hid h
  have HID := hid hids
  have HID2 : Hid (∀ t ∈ sortN room ts, IdR t.id) := hid (sort_ids hids)
  obtain ⟨Ar, cr, rfl, _⟩ := hR
  obtain ⟨At, ct, rfl, _⟩ := RT.get h
  clear h hids
  go_enter Tryd.func81, Tryd.ntmps81
  go_wp2_with (first
    | (go_at_call 98; refine (iTasksSort _ _ room ts _ HR.out HT.out HID.out).mono ?_; rintro e w1 ⟨v1, rfl, hO1, hE1⟩; have HO1 := hid (OT.read hO1); have HE1 := hid hE1; clear hO1 hE1)
    | (go_at_call 79; refine (iFirstAll _ _ room (sortN room ts) _ (RI.ext HR.out HE1.out) HO1.out HID2.out).mono ?_; rintro e w2 ⟨v2, rfl, hB2, hE2⟩; have HB2 := hid (hB2.low HE1.out.size); have HE2 := hid (HE1.out.trans hE2); clear hB2 hE2))
  go_ret
  exact ⟨_, rfl, HB2.out, HE2.out⟩
theorem iDownBest (rv tv : Value) (room : List Int) (ts : List TaskD) (w : World) (hR : RI w rv room) (h : RT w tv ts) (hids : ∀ t ∈ ts, IdR t.id) :
    Calls Tryd.prog 82 #[rv, tv] w (RetDB (downBestN room ts) w) := by
  have HR := hid hR
  have HT := hid h
  have HID := hid hids
  have HID2 : Hid (∀ t ∈ sortN room ts, IdR t.id) := hid (sort_ids hids)
  obtain ⟨Ar, cr, rfl, _⟩ := hR
  obtain ⟨At, ct, rfl, _⟩ := RT.get h
  clear h hids
  go_enter Tryd.func82, Tryd.ntmps82
  go_wp2_with (first
    | (go_at_call 98; refine (iTasksSort _ _ room ts _ HR.out HT.out HID.out).mono ?_; rintro e w1 ⟨v1, rfl, hO1, hE1⟩; have HO1 := hid (OT.read hO1); have HE1 := hid hE1; clear hO1 hE1)
    | (go_at_call 80; refine (iBestAll _ _ room (sortN room ts) _ (RI.ext HR.out HE1.out) HO1.out HID2.out).mono ?_; rintro e w2 ⟨v2, rfl, hB2, hE2⟩; have HB2 := hid (hB2.low HE1.out.size); have HE2 := hid (HE1.out.trans hE2); clear hB2 hE2))
  go_ret
  exact ⟨_, rfl, HB2.out, HE2.out⟩

end Go.Proofs.YtllchacophapoaaDoor
