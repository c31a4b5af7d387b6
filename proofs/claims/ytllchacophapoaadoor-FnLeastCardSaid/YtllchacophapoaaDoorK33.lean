/- container/heap.Init; the queue's Pop. -/
import Derived.Test.YtllchacophapoaaDoorK32
import Derived.Test.YtllchacophapoaaDoorK16
import Derived.Test.YtllchacophapoaaDoorK7
import Derived.Test.YtllchacophapoaaDoorK3
import Derived.Test.YtllchacophapoaaDoorK5
namespace Go.Proofs.YtllchacophapoaaDoor
open Go.RowKit
set_option maxRecDepth 4000

theorem Cells.take_ {α : Type} {size : Nat} {E : Enc α} {w : World} {cells : List Value} {xs : List α} (h : Cells size E w cells xs) {n : Nat} (hn : n ≤ xs.length) : Cells size E w (cells.take (n * size)) (xs.take n) := by
  have hl : n * size ≤ cells.length := by rw [h.1]; exact Nat.mul_le_mul_right _ hn
  refine ⟨by rw [List.length_take, List.length_take, Nat.min_eq_left hl, Nat.min_eq_left hn], fun j x hx => ?_⟩
  rw [List.getElem?_take] at hx
  split at hx
  · rename_i hj
    obtain ⟨cs, h1, h2, h3⟩ := h.2 j x hx
    refine ⟨cs, h1, h2, fun i u hu => ?_⟩
    have hi : i < size := by rw [← h1]; exact (List.getElem?_eq_some_iff.1 hu).1
    have hlt : j * size + i < n * size := by
      have : (j + 1) * size ≤ n * size := Nat.mul_le_mul_right _ hj
      rw [Nat.add_mul] at this
      omega
    rw [List.getElem?_take, if_pos hlt]
    exact h3 i u hu
  · cases hx
theorem Own.take_ {α : Type} {e : TypeId} {size : Nat} {E : Enc α} {w : World} {base g N c : Nat} {xs : List α} (h : Own e size E w base (.slice (some ⟨g, 0, none⟩) N c) xs) {n : Nat} (hn : n ≤ xs.length) : Own e size E w base (.slice (some ⟨g, 0, none⟩) n c) (xs.take n) := by
  obtain ⟨cells, ho, hc⟩ := h
  have hlen : (xs.take n).length = n := by rw [List.length_take]; exact Nat.min_eq_left hn
  refine ⟨cells.take (n * size), ⟨?_, ?_⟩, hc.take_ hn⟩
  · rw [(hc.take_ hn).1]
  · rcases ho.2 with ⟨h1, _⟩ | ⟨g', cap, cur, h1, h2, h3, h4, h5, h6, h7⟩
    · cases h1
    · injection h1 with h1 hN hc'
      injection h1 with h1
      injection h1 with h1 _ _
      subst h1 hc'
      refine .inr ⟨g, c, cur, by rw [hlen], h2, h3, by rw [hlen]; exact Nat.le_trans hn h4, h5, h6, ?_⟩
      rw [hlen, ← h7, List.take_take, Nat.min_eq_left (Nat.mul_le_mul_right _ hn)]

theorem iLen (A : Option Addr) (n c : Nat) (w : World) : Calls Tryd.prog 114 #[.slice A n c] w fun e w' => e = .returned (.int .i64 (n : Int)) ∧ w = w' := by
  go_enter Tryd.func114, Tryd.ntmps114
  go_wp2
  go_ret
  exact ⟨rfl, rfl⟩
theorem hDownI (H base g c N n i0 : Nat) (a b : Int) (xs : List TaskD) (w : World) (ha : a = (i0 : Int)) (hb : b = (n : Int)) (hq : w.cell? ⟨H, 0, none⟩ = some (.slice (some ⟨g, 0, none⟩) N c)) (hg : H ≠ g) (hH : H < w.heap.size) (h : OT w base (.slice (some ⟨g, 0, none⟩) N c) xs) (hN : xs.length = N) (hN2 : N ≤ 1000000) (hn : n ≤ N) (hi0 : i0 ≤ N) (hv : AllOk xs) (hh : Heap beforeT xs n (i0 + 1)) :
    Calls Tryd.prog 117 #[.iface 122 (.pointer (some ⟨H, 0, none⟩)), .int .i64 a, .int .i64 b] w (RetDown xs base g c N n i0 w) := by
  subst ha hb
  exact hDown H base g c N n i0 xs w hq hg hH h hN hN2 hn hi0 hv hh

set_option maxHeartbeats 1000000 in
theorem hInit (H base g c N : Nat) (xs : List TaskD) (w : World) (hq : w.cell? ⟨H, 0, none⟩ = some (.slice (some ⟨g, 0, none⟩) N c)) (hg : H ≠ g) (hH : H < w.heap.size) (h : OT w base (.slice (some ⟨g, 0, none⟩) N c) xs) (hN : xs.length = N) (hN2 : N ≤ 1000000) (hv : AllOk xs) :
    Calls Tryd.prog 113 #[.iface 122 (.pointer (some ⟨H, 0, none⟩))] w (RetDown xs base g c N N 0 w) := by
  have KQ : Hid (∀ w', Touch [g] w w' → w'.cell? ⟨H, 0, none⟩ = some (.slice (some ⟨g, 0, none⟩) N c)) := hid fun w' hw => by
    have := hw.block H hH (by simpa using hg)
    unfold World.cell? at hq ⊢
    simp only at hq ⊢
    rw [this]
    exact hq
  have hmL : ∀ {w' : World}, w'.cell? ⟨H, 0, none⟩ = some (.slice (some ⟨g, 0, none⟩) N c) → (Go.method 250 122 (.pointer (some ⟨H, 0, none⟩)) "Len").run Tryd.prog w' = .ok (114, .slice (some ⟨g, 0, none⟩) N c) w' := qmLen
  have H0 := hid h
  have HV := hid hv
  have HN := hid hN
  clear h hN hv
  go_enter Tryd.func113, Tryd.ntmps113
  go_wp2_with (go_at_call 114; refine (iLen _ N c _).mono ?_; rintro e w1 ⟨rfl, rfl⟩)
  clear hmL
  go_loopw [3] (fun i wr => ∃ (m : Nat) (zs : List TaskD), i = .int .i64 ((m : Int) - 1) ∧ m ≤ N ∧ Hid (OT wr base (.slice (some ⟨g, 0, none⟩) N c) zs) ∧ Hid (zs.Perm xs) ∧ Hid (Heap beforeT zs N m) ∧ Hid (Touch [g] w wr)) (fun i _ => (intOf i + 1).toNat)
  case atStart => exact ⟨N / 2, xs, by first | omega | exact congrArg (Value.int .i64) (by omega), by omega, H0, hid (List.Perm.refl _), hid (Heap.none (by omega)), hid (Touch.refl _ _)⟩
  case round =>
    obtain ⟨m, zs, rfl, hm, HO, HP, HHp, HT⟩ := hrel
    by_cases hm0 : 0 < m
    · have g1 : 0 ≤ (m : Int) - 1 := by omega
      have hqr := KQ.out _ HT.out
      have HHp' : Hid (Heap beforeT zs N (m - 1 + 1)) := hid (by rw [show m - 1 + 1 = m by omega]; exact HHp.out)
      go_wp2_with (go_at_call 117; refine (hDownI H base g c N N (m - 1) _ _ zs _ (by omega) rfl hqr hg (Nat.lt_of_lt_of_le hH HT.out.size) HO.out (HP.out.length_eq.trans HN.out) hN2 (Nat.le_refl _) (by omega) (AllOk.perm HV.out HP.out) HHp'.out).mono ?_; rintro e w2 ⟨v2, zs2, rfl, hO2, hp2, _, hh2, hT2⟩; have HO2 := hid hO2; have HP2 := hid (hp2.trans HP.out); have HH2 := hid hh2; have HT2 := hid (HT.out.trans hT2); clear hO2 hp2 hh2 hT2)
      go_roundw
      case rel => exact ⟨m - 1, zs2, by first | omega | exact congrArg (Value.int .i64) (by omega), by omega, HO2, HP2, HH2, HT2⟩
      case measure => simp [intOf]; omega
    · have hm1 : m = 0 := by omega
      subst hm1
      go_wp2
      refine bodyPost_end (v := .tuple #[]) (by simp [results, Tryd.results113, go_sem]) rfl ⟨_, zs, rfl, HO.out, HP.out, fun k hk => ?_, HHp.out, HT.out⟩
      have h1 : zs.length ≤ k := by rw [HP.out.length_eq, HN.out]; exact hk
      have h2 : xs.length ≤ k := by rw [HN.out]; exact hk
      rw [List.getD_eq_getElem?_getD, List.getD_eq_getElem?_getD, List.getElem?_eq_none h1, List.getElem?_eq_none h2]

end Go.Proofs.YtllchacophapoaaDoor

/- The queue's Pop; container/heap.Pop. -/
namespace Go.Proofs.YtllchacophapoaaDoor
open Go.RowKit
set_option maxRecDepth 4000

/-- what the queue's Pop gives -/
def RetQPop (xs : List TaskD) (H base g c n : Nat) (w : World) (e : Ending) (w' : World) : Prop := ∃ nv, e = .returned (.iface 44 (.agg #[.int .i64 (xs.getD n default).id, nv])) ∧ RI w' nv (xs.getD n default).need ∧
  w'.heap[H]? = some (.cells #[.slice (some ⟨g, 0, none⟩) n c] 120 (0, 0)) ∧ OT w' base (.slice (some ⟨g, 0, none⟩) n c) (xs.take n) ∧ Touch [H] w w'

set_option maxHeartbeats 1000000 in
theorem iQPop (H base g c n : Nat) (xs : List TaskD) (w : World) (hq : w.heap[H]? = some (.cells #[.slice (some ⟨g, 0, none⟩) (n + 1) c] 120 (0, 0))) (h : OT w base (.slice (some ⟨g, 0, none⟩) (n + 1) c) xs) (hN : xs.length = n + 1) (hN2 : n ≤ 1000000) :
    Calls Tryd.prog 142 #[.pointer (some ⟨H, 0, none⟩)] w (RetQPop xs H base g c n w) := by
  obtain ⟨A, c', hv, hc, hc', hg⟩ := RT.get (show RT w _ xs from h.read)
  obtain ⟨b, o, x, Ax, cx, hA, ex, cx1, cx2, hxn⟩ := hg n (by omega)
  injection hv with h1 h2 h3
  subst h1 h3
  injection hA with hA
  injection hA with h1 h2 _
  subst h1 h2
  have exd : xs.getD n default = x := by have := ex.out; rw [getD_some (by omega)] at this; injection this
  simp only [Nat.zero_add] at cx1 cx2
  unfold RetQPop
  rw [exd]
  have hHl : H < w.heap.size := (Array.getElem?_eq_some_iff.1 hq).1
  have KB : Hid (∀ w', Ext w w' → w'.cell? ⟨H, 0, none⟩ = some (.slice (some ⟨g, 0, none⟩) (n + 1) c) ∧ w'.cell? ⟨g, n * 2, none⟩ = some (.int .i64 x.id) ∧ w'.cell? ⟨g, n * 2 + 1, none⟩ = some (.slice Ax x.need.length cx)) := hid fun w' hw => ⟨obj_cell (hw.obj hq) (i := 0) rfl, hw.cell cx1, hw.cell cx2⟩
  have HXN := hid hxn
  have H0 := hid h
  have HQ := hid hq
  have HN := hid hN
  have HDr : Hid (Ext w w.drew) := hid (Below.drew (Below.refl _ _))
  have g1 : IntKind.i64.wrap (n : Int) = (n : Int) := IntWalk.i64_in _ (by omega)
  have g2 : (n : Int) < (n : Int) + 1 := by omega
  clear hg h hxn exd ex cx1 cx2 hq hN h2
  go_enter Tryd.func142, Tryd.ntmps142
  go_wp2
  refine WG.start (fun w' => w'.cell? ⟨H, 0, none⟩ = some (.slice (some ⟨g, 0, none⟩) (n + 1) c) ∧ w'.cell? ⟨g, n * 2, none⟩ = some (.int .i64 x.id) ∧ w'.cell? ⟨g, n * 2 + 1, none⟩ = some (.slice Ax x.need.length cx)) [11] (by kernel_rfl) (by exact KB.out _ HDr.out) (fun hHeld => ?_)
  obtain ⟨pz, hpz⟩ : ∃ x, x = w.drew := ⟨_, rfl⟩
  rw [← hpz] at hHeld HDr ⊢
  clear hpz
  (refine WG.take (i := 0) (v := ?_) rfl (by kernel_rfl) (by kernel_rfl) (by kernel_rfl) (by kernel_rfl) (fun _ _ _ h => h) (Or.inl ⟨by rfl, ?_⟩) (by assumption) ?_; rotate_left; (intro w hSw; (try dsimp only at hSw); go_split_ands; go_simp; (try with_reducible rfl)); (try simp only [Act.put, List.setIfInBounds_toArray, List.set_cons_zero, List.set_cons_succ]))
  (refine WG.take (i := 1) (v := ?_) rfl (by kernel_rfl) (by kernel_rfl) (by kernel_rfl) (by kernel_rfl) (fun _ _ _ h => h) (Or.inl ⟨by rfl, ?_⟩) (by assumption) ?_; rotate_left; (intro w hSw; (try dsimp only at hSw); go_split_ands; go_simp; (try with_reducible rfl)); (try simp only [Act.put, List.setIfInBounds_toArray, List.set_cons_zero, List.set_cons_succ]))
  (refine WG.take (i := 2) (v := ?_) rfl (by kernel_rfl) (by kernel_rfl) (by kernel_rfl) (by kernel_rfl) (fun _ _ _ h => h) (Or.inl ⟨by rfl, ?_⟩) (by assumption) ?_; rotate_left; (intro w hSw; (try dsimp only at hSw); go_split_ands; go_simp; (try with_reducible rfl)); (try simp only [Act.put, List.setIfInBounds_toArray, List.set_cons_zero, List.set_cons_succ]))
  (refine WG.take (i := 3) (v := ?_) rfl (by kernel_rfl) (by kernel_rfl) (by kernel_rfl) (by kernel_rfl) (fun _ _ _ h => h) (Or.inl ⟨by rfl, ?_⟩) (by assumption) ?_; rotate_left; (intro w hSw; (try dsimp only at hSw); go_split_ands; go_simp; (try with_reducible rfl)); (try simp only [Act.put, List.setIfInBounds_toArray, List.set_cons_zero, List.set_cons_succ]))
  (refine WG.take (i := 4) (v := ?_) rfl (by kernel_rfl) (by kernel_rfl) (by kernel_rfl) (by kernel_rfl) (fun _ _ _ h => h) (Or.inl ⟨by rfl, ?_⟩) (by assumption) ?_; rotate_left; (intro w hSw; (try dsimp only at hSw); go_split_ands; go_simp; (try with_reducible rfl)); (try simp only [Act.put, List.setIfInBounds_toArray, List.set_cons_zero, List.set_cons_succ]))
  (refine WG.take (i := 5) (v := ?_) rfl (by kernel_rfl) (by kernel_rfl) (by kernel_rfl) (by kernel_rfl) (fun _ _ _ h => h) (Or.inl ⟨by rfl, ?_⟩) (by assumption) ?_; rotate_left; (intro w hSw; (try dsimp only at hSw); go_split_ands; go_simp; (try with_reducible rfl)); (try simp only [Act.put, List.setIfInBounds_toArray, List.set_cons_zero, List.set_cons_succ]))
  (refine WG.take (i := 6) (v := ?_) rfl (by kernel_rfl) (by kernel_rfl) (by kernel_rfl) (by kernel_rfl) (fun _ _ _ h => h) (Or.inl ⟨by rfl, ?_⟩) (by assumption) ?_; rotate_left; (intro w hSw; (try dsimp only at hSw); go_split_ands; go_simp; (try with_reducible rfl)); (try simp only [Act.put, List.setIfInBounds_toArray, List.set_cons_zero, List.set_cons_succ]))
  (refine WG.take (i := 7) (v := ?_) rfl (by kernel_rfl) (by kernel_rfl) (by kernel_rfl) (by kernel_rfl) (fun _ _ _ h => h) (Or.inl ⟨by rfl, ?_⟩) (by assumption) ?_; rotate_left; (intro w hSw; (try dsimp only at hSw); go_split_ands; go_simp; (try with_reducible rfl)); (try simp only [Act.put, List.setIfInBounds_toArray, List.set_cons_zero, List.set_cons_succ]))
  (refine WG.take (i := 8) (v := ?_) rfl (by kernel_rfl) (by kernel_rfl) (by kernel_rfl) (by kernel_rfl) (fun _ _ _ h => h) (Or.inl ⟨by rfl, ?_⟩) (by assumption) ?_; rotate_left; (intro w hSw; (try dsimp only at hSw); go_split_ands; go_simp; (try with_reducible rfl)); (try simp only [Act.put, List.setIfInBounds_toArray, List.set_cons_zero, List.set_cons_succ]))
  (refine WG.take (i := 9) (v := ?_) rfl (by kernel_rfl) (by kernel_rfl) (by kernel_rfl) (by kernel_rfl) (fun _ _ _ h => h) (Or.inl ⟨by rfl, ?_⟩) (by assumption) ?_; rotate_left; (intro w hSw; (try dsimp only at hSw); go_split_ands; go_simp; (try with_reducible rfl)); (try simp only [Act.put, List.setIfInBounds_toArray, List.set_cons_zero, List.set_cons_succ]))
  refine WG.one (i := 10) rfl (by kernel_rfl) (fun K hK => ?_)
  go_simp
  refine hK.out _ _ (by exact KB.out _ (HDr.out.trans (Ext.alloc _ _))) (fun hHeld => ?_)
  clear hK K
  (try simp only [Act.put, List.setIfInBounds_toArray, List.set_cons_zero, List.set_cons_succ])
  obtain ⟨y0, y1, y0f, y1f, k1, k1f, hk, _⟩ := box2 (heap_alloc_new pz (.cells #[.int .i64 0, .slice none 0 0] 44)) (.int .i64 x.id) (.slice Ax x.need.length cx)
  refine WG.last (i := 11) rfl (by kernel_rfl) (by kernel_rfl) (fun K hK => ?_)
  go_simp
  refine hK.out _ _ ?_
  clear hK K
  (try simp only [Act.put, List.setIfInBounds_toArray, List.set_cons_zero, List.set_cons_succ])
  refine WG.done (by kernel_rfl) ?_
  clear y0 y1 y0f y1f k1 k1f hHeld hk
  obtain ⟨B, hB⟩ : ∃ B, B = pz.heap.size := ⟨_, rfl⟩
  obtain ⟨W1, hW1⟩ : ∃ y, y = pz.alloc (.cells #[.int .i64 x.id, .slice Ax x.need.length cx] 44) := ⟨_, rfl⟩
  have hbx : W1.heap[B]? = some (.cells #[.int .i64 x.id, .slice Ax x.need.length cx] 44 (0, 0)) := by rw [hW1, hB]; exact heap_alloc_new _ _
  have hE1 : Ext w W1 := by rw [hW1]; exact HDr.out.trans (Ext.alloc _ _)
  have hBH : B ≠ H := by rw [hB]; have := HDr.out.size; omega
  rw [← hB, ← hW1]
  have HE1 := hid hE1
  have HBX := hid hbx
  have HBH := hid hBH
  clear hbx hE1 hBH hW1 hB HDr
  have HDr : Hid (Ext W1 W1.drew) := hid (Below.drew (Below.refl _ _))
  have KC : Hid (∀ w', Ext W1 w' → w'.cell? ⟨H, 0, none⟩ = some (.slice (some ⟨g, 0, none⟩) (n + 1) c) ∧ w'.frozen? ⟨H, 0, none⟩ = false) := hid fun w' hw => ⟨obj_cell (hw.obj (HE1.out.obj HQ.out)) (i := 0) rfl, obj_frozen (hw.obj (HE1.out.obj HQ.out)) 0⟩
  have g3 : ((n + 1 : Nat) : Int) = (n : Int) + 1 := by omega
  have g4 : (n : Int) ≤ (c : Int) := by have := HN.out; omega
  have g5 : n ≤ c := by have := HN.out; omega
  have g6 : n ≤ n + 1 := by omega
  go_wp2
  refine WG.start (fun w' => w'.cell? ⟨H, 0, none⟩ = some (.slice (some ⟨g, 0, none⟩) (n + 1) c) ∧ w'.frozen? ⟨H, 0, none⟩ = false) [11] (by kernel_rfl) (by exact KC.out _ HDr.out) (fun hHeld => ?_)
  obtain ⟨pz2, hpz⟩ : ∃ x, x = W1.drew := ⟨_, rfl⟩
  rw [← hpz] at hHeld HDr ⊢
  clear hpz
  obtain ⟨q0, q1⟩ := KC.out _ HDr.out
  (refine WG.take (i := 0) (v := ?_) rfl (by kernel_rfl) (by kernel_rfl) (by kernel_rfl) (by kernel_rfl) (fun _ _ _ h => h) (Or.inl ⟨by rfl, ?_⟩) (by assumption) ?_; rotate_left; (intro w hSw; (try dsimp only at hSw); go_split_ands; go_simp; (try with_reducible rfl)); (try simp only [Act.put, List.setIfInBounds_toArray, List.set_cons_zero, List.set_cons_succ]))
  (refine WG.take (i := 1) (v := ?_) rfl (by kernel_rfl) (by kernel_rfl) (by kernel_rfl) (by kernel_rfl) (fun _ _ _ h => h) (Or.inl ⟨by rfl, ?_⟩) (by assumption) ?_; rotate_left; (intro w hSw; (try dsimp only at hSw); go_split_ands; go_simp; (try with_reducible rfl)); (try simp only [Act.put, List.setIfInBounds_toArray, List.set_cons_zero, List.set_cons_succ]))
  (refine WG.take (i := 2) (v := ?_) rfl (by kernel_rfl) (by kernel_rfl) (by kernel_rfl) (by kernel_rfl) (fun _ _ _ h => h) (Or.inl ⟨by rfl, ?_⟩) (by assumption) ?_; rotate_left; (intro w hSw; (try dsimp only at hSw); go_split_ands; go_simp; (try with_reducible rfl)); (try simp only [Act.put, List.setIfInBounds_toArray, List.set_cons_zero, List.set_cons_succ]))
  (refine WG.take (i := 3) (v := ?_) rfl (by kernel_rfl) (by kernel_rfl) (by kernel_rfl) (by kernel_rfl) (fun _ _ _ h => h) (Or.inl ⟨by rfl, ?_⟩) (by assumption) ?_; rotate_left; (intro w hSw; (try dsimp only at hSw); go_split_ands; go_simp; (try with_reducible rfl)); (try simp only [Act.put, List.setIfInBounds_toArray, List.set_cons_zero, List.set_cons_succ]))
  (refine WG.take (i := 4) (v := ?_) rfl (by kernel_rfl) (by kernel_rfl) (by kernel_rfl) (by kernel_rfl) (fun _ _ _ h => h) (Or.inl ⟨by rfl, ?_⟩) (by assumption) ?_; rotate_left; (intro w hSw; (try dsimp only at hSw); go_split_ands; go_simp; (try with_reducible rfl)); (try simp only [Act.put, List.setIfInBounds_toArray, List.set_cons_zero, List.set_cons_succ]))
  (refine WG.take (i := 5) (v := ?_) rfl (by kernel_rfl) (by kernel_rfl) (by kernel_rfl) (by kernel_rfl) (fun _ _ _ h => h) (Or.inl ⟨by rfl, ?_⟩) (by assumption) ?_; rotate_left; (intro w hSw; (try dsimp only at hSw); go_split_ands; go_simp; (try with_reducible rfl)); (try simp only [Act.put, List.setIfInBounds_toArray, List.set_cons_zero, List.set_cons_succ]))
  (refine WG.take (i := 6) (v := ?_) rfl (by kernel_rfl) (by kernel_rfl) (by kernel_rfl) (by kernel_rfl) (fun _ _ _ h => h) (Or.inl ⟨by rfl, ?_⟩) (by assumption) ?_; rotate_left; (intro w hSw; (try dsimp only at hSw); go_split_ands; go_simp; (try with_reducible rfl)); (try simp only [Act.put, List.setIfInBounds_toArray, List.set_cons_zero, List.set_cons_succ]))
  (refine WG.take (i := 7) (v := ?_) rfl (by kernel_rfl) (by kernel_rfl) (by kernel_rfl) (by kernel_rfl) (fun _ _ _ h => h) (Or.inl ⟨by rfl, ?_⟩) (by assumption) ?_; rotate_left; (intro w hSw; (try dsimp only at hSw); go_split_ands; go_simp; (try with_reducible rfl)); (try simp only [Act.put, List.setIfInBounds_toArray, List.set_cons_zero, List.set_cons_succ]))
  (refine WG.take (i := 8) (v := ?_) rfl (by kernel_rfl) (by kernel_rfl) (by kernel_rfl) (by kernel_rfl) (fun _ _ _ h => h) (Or.inl ⟨by rfl, ?_⟩) (by assumption) ?_; rotate_left; (intro w hSw; (try dsimp only at hSw); go_split_ands; go_simp; (try with_reducible rfl)); (try simp only [Act.put, List.setIfInBounds_toArray, List.set_cons_zero, List.set_cons_succ]))
  (refine WG.take (i := 9) (v := ?_) rfl (by kernel_rfl) (by kernel_rfl) (by kernel_rfl) (by kernel_rfl) (fun _ _ _ h => h) (Or.inl ⟨by rfl, ?_⟩) (by assumption) ?_; rotate_left; (intro w hSw; (try dsimp only at hSw); go_split_ands; go_simp; (try with_reducible rfl)); (try simp only [Act.put, List.setIfInBounds_toArray, List.set_cons_zero, List.set_cons_succ]))
  (refine WG.take (i := 10) (v := ?_) rfl (by kernel_rfl) (by kernel_rfl) (by kernel_rfl) (by kernel_rfl) (fun _ _ _ h => h) (Or.inl ⟨by rfl, ?_⟩) (by assumption) ?_; rotate_left; (intro w hSw; (try dsimp only at hSw); go_split_ands; go_simp; (try with_reducible rfl)); (try simp only [Act.put, List.setIfInBounds_toArray, List.set_cons_zero, List.set_cons_succ]))
  refine WG.last (i := 11) rfl (by kernel_rfl) (by kernel_rfl) (fun K hK => ?_)
  go_simp
  refine hK.out _ _ ?_
  clear hK K
  (try simp only [Act.put, List.setIfInBounds_toArray, List.set_cons_zero, List.set_cons_succ])
  refine WG.done (by kernel_rfl) ?_
  have hq2 : pz2.heap[H]? = some (.cells #[.slice (some ⟨g, 0, none⟩) (n + 1) c] 120 (0, 0)) := HDr.out.obj (HE1.out.obj HQ.out)
  obtain ⟨W2, hW2⟩ : ∃ y, y = pz2.setCell ⟨H, 0, none⟩ (.slice (some ⟨g, 0, none⟩) n c) := ⟨_, rfl⟩
  rw [← hW2]
  have hS : SameT (fun t => t = 44 ∨ t = 3) pz2 W2 := by rw [hW2]; exact SameT.setCell (p := ⟨H, 0, none⟩) hq2 _ (by rintro t (rfl | rfl) <;> decide)
  have hq3 : W2.heap[H]? = some (.cells #[.slice (some ⟨g, 0, none⟩) n c] 120 (0, 0)) := by rw [hW2]; exact obj_set1 hq2 _
  have hT : Touch [H] w W2 := by rw [hW2]; exact (Touch.ext (HE1.out.trans HDr.out) [H]).setCell (p := ⟨H, 0, none⟩) (by simp) _
  have hO : OT W2 base (.slice (some ⟨g, 0, none⟩) n c) (xs.take n) := Own.take_ (Own.same ET.ok (Own.ext ET.ok H0.out (HE1.out.trans HDr.out)) (hS.mono (by rintro t (rfl | ht); exact .inl rfl; exact .inr ht))) (by have := HN.out; omega)
  have hR : RI W2 (.slice Ax x.need.length cx) x.need := (RI.ext HXN.out (HE1.out.trans HDr.out)).same (hS.mono (by rintro t rfl; exact .inr rfl))
  have hb2 : W2.heap[B]? = some (.cells #[.int .i64 x.id, .slice Ax x.need.length cx] 44 (0, 0)) := hS _ _ _ _ (.inl rfl) (HDr.out.obj HBX.out)
  have c0 := obj_cell hb2 (i := 0) rfl
  have c1 := obj_cell hb2 (i := 1) rfl
  have HO := hid hO
  have HR := hid hR
  have HT := hid hT
  have HQ3 := hid hq3
  clear hq2 hS hq3 hT hO hR hb2 hW2 q0 q1 hHeld
  go_wp2
  go_ret
  exact ⟨_, rfl, HR.out, HQ3.out, HO.out, HT.out⟩

end Go.Proofs.YtllchacophapoaaDoor

/- container/heap.Pop. -/
namespace Go.Proofs.YtllchacophapoaaDoor
open Go.RowKit
set_option maxRecDepth 4000

/-- what heap.Pop gives -/
def RetHPop (xs : List TaskD) (H base g c n : Nat) (w : World) (e : Ending) (w' : World) : Prop := ∃ nv zs, e = .returned (.iface 44 (.agg #[.int .i64 (zs.getD n default).id, nv])) ∧ RI w' nv (zs.getD n default).need ∧
  zs.Perm (swapL xs 0 n) ∧ (∀ k, n ≤ k → zs.getD k default = (swapL xs 0 n).getD k default) ∧ Heap beforeT zs n 0 ∧
  w'.heap[H]? = some (.cells #[.slice (some ⟨g, 0, none⟩) n c] 120 (0, 0)) ∧ OT w' base (.slice (some ⟨g, 0, none⟩) n c) (zs.take n) ∧ Touch [H, g] w w'

set_option maxHeartbeats 2000000 in
theorem hPop (H base g c n : Nat) (xs : List TaskD) (w : World) (hq : w.heap[H]? = some (.cells #[.slice (some ⟨g, 0, none⟩) (n + 1) c] 120 (0, 0))) (h : OT w base (.slice (some ⟨g, 0, none⟩) (n + 1) c) xs) (hN : xs.length = n + 1) (hN2 : n ≤ 100000) (hv : AllOk xs) (hh : Heap beforeT xs (n + 1) 0) :
    Calls Tryd.prog 115 #[.iface 122 (.pointer (some ⟨H, 0, none⟩))] w (RetHPop xs H base g c n w) := by
  have hg : H ≠ g := by
    intro he
    obtain ⟨cur, hc⟩ := Own.obj h
    rw [he, hc] at hq
    injection hq with hq
    injection hq with _ hq _
    exact absurd hq (by decide)
  have hH : H < w.heap.size := (Array.getElem?_eq_some_iff.1 hq).1
  have KQ : Hid (∀ w', Touch [g] w w' → w'.heap[H]? = some (.cells #[.slice (some ⟨g, 0, none⟩) (n + 1) c] 120 (0, 0)) ∧ w'.cell? ⟨H, 0, none⟩ = some (.slice (some ⟨g, 0, none⟩) (n + 1) c)) := hid fun w' hw => by
    have := (hw.block H hH (by simpa using hg)).trans hq
    exact ⟨this, obj_cell this (i := 0) rfl⟩
  have hmL : ∀ {w' : World}, w'.cell? ⟨H, 0, none⟩ = some (.slice (some ⟨g, 0, none⟩) (n + 1) c) → (Go.method 250 122 (.pointer (some ⟨H, 0, none⟩)) "Len").run Tryd.prog w' = .ok (114, .slice (some ⟨g, 0, none⟩) (n + 1) c) w' := qmLen
  have hmS : ∀ {w' : World}, w'.cell? ⟨H, 0, none⟩ = some (.slice (some ⟨g, 0, none⟩) (n + 1) c) → (Go.method 250 122 (.pointer (some ⟨H, 0, none⟩)) "Swap").run Tryd.prog w' = .ok (136, .slice (some ⟨g, 0, none⟩) (n + 1) c) w' := qmSwap
  have hmP : ∀ {w' : World}, (Go.method 250 122 (.pointer (some ⟨H, 0, none⟩)) "Pop").run Tryd.prog w' = .ok (142, .pointer (some ⟨H, 0, none⟩)) w' := qmPop
  have hq0 := (KQ.out w (Touch.refl _ _)).2
  have H0 := hid h
  have HH := hid hh
  have HV := hid hv
  have HN := hid hN
  have g1 : IntKind.i64.wrap (n : Int) = (n : Int) := IntWalk.i64_in _ (by omega)
  have g3 : ((n + 1 : Nat) : Int) = (n : Int) + 1 := by omega
  clear hq h hN hv hh
  go_enter Tryd.func115, Tryd.ntmps115
  go_wp2_with (first
    | (go_at_call 114; refine (iLen _ (n + 1) c _).mono ?_; rintro e w1 ⟨rfl, rfl⟩)
    | (go_at_call 136; refine (iSwap' base g c (n + 1) xs 0 n _ _ _ (by omega) (by omega) H0.out HN.out (by have := HN.out; omega) (by have := HN.out; omega)).mono ?_; rintro e w1 ⟨v1, rfl, hO1, hT1⟩; have hq1 := (KQ.out _ hT1).2; have HO1 := hid hO1; have HT1 := hid hT1; clear hO1 hT1)
    | (go_at_call 117; refine (hDownI H base g c (n + 1) n 0 _ _ (swapL xs 0 n) _ (by omega) (by omega) hq1 hg (Nat.lt_of_lt_of_le hH HT1.out.size) HO1.out (by rw [swapL_len]; exact HN.out) (by omega) (by omega) (by omega) (AllOk.perm HV.out (swapL_perm (by have := HN.out; omega) (by have := HN.out; omega))) (fun k c' hk hc hcn => by rw [swapL_k (by omega) (by omega), swapL_k (by omega) (by omega)]; exact HH.out k c' (by omega) hc (by omega))).mono ?_; rintro e w2 ⟨v2, zs, rfl, hO2, hp2, hr2, hh2, hT2⟩; have HO2 := hid hO2; have HP2 := hid hp2; have HR2 := hid hr2; have HH2 := hid hh2; have HT2 := hid (HT1.out.trans hT2); clear hO2 hp2 hr2 hh2 hT2)
    | (go_at_call 142; refine (iQPop H base g c n zs _ (KQ.out _ HT2.out).1 HO2.out (by rw [HP2.out.length_eq, swapL_len]; exact HN.out) (by omega)).mono ?_; rintro e w3 ⟨nv, rfl, hR3, hQ3, hO3, hT3⟩; have HR3 := hid hR3; have HQ3 := hid hQ3; have HO3 := hid hO3; have HT3 := hid ((HT2.out.mono (by simp) : Touch [H, g] w _).trans (hT3.mono (by simp))); clear hR3 hQ3 hO3 hT3))
  go_ret
  exact ⟨_, zs, rfl, HR3.out, HP2.out, HR2.out, HH2.out, HQ3.out, HO3.out, HT3.out⟩

end Go.Proofs.YtllchacophapoaaDoor

/- The program's sorted, TasksSort. -/
namespace Go.Proofs.YtllchacophapoaaDoor
open Go.RowKit
set_option maxRecDepth 4000

theorem Touch.same {L : List Nat} {w w' : World} (hT : Touch L w w') {T : TypeId → Prop} (hL : ∀ b ∈ L, ∀ cur t fr, w.heap[b]? = some (.cells cur t fr) → ¬ T t) : SameT T w w' := fun k cur t fr ht hk => by
  have hlt : k < w.heap.size := (Array.getElem?_eq_some_iff.1 hk).1
  have hn : k ∉ L := fun hm => hL k hm cur t fr hk ht
  rw [hT.block k hlt hn]
  exact hk
theorem taTask (v : Value) (w : World) : (Instr.typeAssert (.iface 44 v) 20 44 false).run Tryd.prog w = .ok v w := by kernel_rfl
theorem hInit0 (H c : Nat) (A : Option Addr) (w : World) (hq : w.cell? ⟨H, 0, none⟩ = some (.slice A 0 c)) :
    Calls Tryd.prog 113 #[.iface 122 (.pointer (some ⟨H, 0, none⟩))] w fun e w' => (∃ v, e = .returned v) ∧ w = w' := by
  have hmL : ∀ {w' : World}, w'.cell? ⟨H, 0, none⟩ = some (.slice A 0 c) → (Go.method 250 122 (.pointer (some ⟨H, 0, none⟩)) "Len").run Tryd.prog w' = .ok (114, .slice A 0 c) w' := qmLen
  go_enter Tryd.func113, Tryd.ntmps113
  go_wp2_with (go_at_call 114; refine (iLen _ 0 c _).mono ?_; rintro e w1 ⟨rfl, rfl⟩)
  refine wp_loop_rounds 1 ?_
  rw [rounds_succ]
  go_wp2
  exact bodyPost_end (v := .tuple #[]) (by simp [results, Tryd.results113, go_sem]) rfl ⟨⟨_, rfl⟩, rfl⟩
def lenV : Value → Nat
  | .slice _ n _ => n
  | _ => 0

set_option maxHeartbeats 2000000 in
theorem iSorted (v : Value) (ts : List TaskD) (w : World) (h : RT w v ts) (hl : ts.length ≤ 1000) (hv : AllOk ts) (hid' : (ts.map (·.id)).Nodup) :
    Calls Tryd.prog 107 #[v] w fun e w' => ∃ v', e = .returned v' ∧ OT w' w.heap.size v' (sortT ts) ∧ Ext w w' := by
  have H0 := hid h
  have HV := hid hv
  have HI := hid hid'
  have HLN : Hid (∀ t ∈ ts, t.need.length ≤ 4000000) := hid (fun t ht => by rw [vecOk_len (hv t ht)]; omega)
  have TK0 : Hid True := hid trivial
  obtain ⟨A0, c0, rfl, _⟩ := RT.get h
  clear h hv hid'
  obtain ⟨i0_task, hi0_task, hz0_task, hz1_task, hz2_task⟩ := info_parts info_task
  by_cases hp : 0 < ts.length
  · go_enter Tryd.func107, Tryd.ntmps107
    go_wp2_with (first
      | (go_at_call 46; clear TK0; refine (iCopyTasks _ ts _ H0.out (by omega) HLN.out).mono ?_; rintro e w1 ⟨v1, rfl, hO1, hE1⟩; obtain ⟨g, c, hv1, hg1⟩ := Own.row hO1 hp; subst hv1; have hb1 := Own.lt hO1 g rfl; have pbx := heap_alloc_new w1 (.cells #[.slice none 0 0] 120); have y0 := obj_cell pbx (i := 0) rfl; have y0f := obj_frozen pbx 0; have hEb := Ext.alloc w1 (.cells #[.slice (some ⟨g, 0, none⟩) ts.length c] 120); have qbx := heap_alloc_new w1 (.cells #[.slice (some ⟨g, 0, none⟩) ts.length c] 120); have hO2 := Own.ext ET.ok hO1 hEb; have hE2 : Ext w (w1.alloc (.cells #[.slice (some ⟨g, 0, none⟩) ts.length c] 120)) := hE1.trans hEb; have HO2 := hid hO2; have HE2 := hid hE2; have HQB := hid qbx; have TK1 : Hid True := hid trivial; clear hO1 hE1 hO2 hE2 qbx hEb hg1 pbx)
      | (go_at_call 113; clear TK1; refine (hInit w1.heap.size w.heap.size g c ts.length ts _ (obj_cell HQB.out (i := 0) rfl) (by omega) (by simp) HO2.out rfl (by omega) HV.out).mono ?_; rintro e w3 ⟨v3, zs, rfl, hO3, hP3, _, hH3, hT3⟩; have HP3 := hid hP3; have HO3 := hid hO3; have HH3 := hid hH3; have HT3 := hid hT3; have hsz3 : w1.heap.size + 1 ≤ w3.heap.size := Nat.le_trans (by simp) hT3.size; have HQ3 : Hid (w3.heap[w1.heap.size]? = some (.cells #[.slice (some ⟨g, 0, none⟩) ts.length c] 120 (0, 0))) := hid ((hT3.block w1.heap.size (by simp) (by simp; omega)).trans HQB.out); clear hO3 hP3 hH3 hT3)
      | (at_make; refine wpList_make_own _ rfl _ _ 28 rfl (w1.heap.size + 1) 44 i0_task _ 2 Tryd.underlying28 hi0_task hz0_task hz1_task _ _ _ ts.length rfl rfl rfl (by rw [hz2_task]; omega) (by unfold maxLen; omega) hsz3 ?_; intro w4 hO4 hg4; have hE4 : Ext w3 w4 := Below.grown (Below.refl _ _) hg4 (Nat.le_refl _) (fun k hk => by cases hk); have hO4 : OT w4 (w1.heap.size + 1) _ [] := ⟨[], hO4, Cells.nil_ _ _ _⟩; have HO4 := hid hO4; have HE4 := hid hE4; clear hO4 hE4 hg4))
    obtain ⟨H, hH⟩ : ∃ H, H = w1.heap.size := ⟨_, rfl⟩
    have HB4 : Hid (Below w.heap.size w w4) := hid (Below.trans HE2.out (Below.trans (HT3.out.below (H := w.heap.size) (fun k hk => by simp at hk; omega) (by have := HE2.out.size; omega)) (HE4.out.mono (by have := HE2.out.size; have := HT3.out.size; omega))))
    have HO4' := HO4
    have HOq : Hid (OT w4 w.heap.size (.slice (some ⟨g, 0, none⟩) ts.length c) zs) := hid (Own.ext ET.ok HO3.out HE4.out)
    have HQq : Hid (w4.heap[H]? = some (.cells #[.slice (some ⟨g, 0, none⟩) ts.length c] 120 (0, 0))) := hid (by rw [hH]; exact HE4.out.obj HQ3.out)
    rw [← hH] at HO4' hb1 ⊢
    have HS0 : Hid (Sorting (lt := beforeT) ts [] zs) := hid ⟨by simpa using HP3.out, List.Pairwise.nil, fun a ha => (by cases ha), by rw [HP3.out.length_eq]; exact HH3.out⟩
    have HL0 : Hid (zs.length = ts.length) := hid HP3.out.length_eq
    obtain ⟨N, hN⟩ : ∃ N, N = ts.length := ⟨_, rfl⟩
    rw [← hN] at hp hl HOq HQq HO4' HL0 ⊢
    have HN := hid hN
    clear HP3 HH3 HT3 HO3 HQ3 HE4 HO4 HQB HO2 y0 y0f hsz3 HE2 hN hH
    go_loopw [4] (fun v wr => ∃ (u : Value) (m : Nat) (out q : List TaskD), u = v ∧ m ≤ N ∧ Hid (q.length = m) ∧ Hid (Sorting (lt := beforeT) ts out q) ∧ Hid (wr.heap[H]? = some (.cells #[.slice (some ⟨g, 0, none⟩) m c] 120 (0, 0))) ∧ Hid (OT wr w.heap.size (.slice (some ⟨g, 0, none⟩) m c) q) ∧ Hid (OT wr (H + 1) u out) ∧ Hid (Below w.heap.size w wr)) (fun v _ => N - lenV v)
    case atStart => exact ⟨_, N, [], zs, rfl, Nat.le_refl _, HL0, HS0, HQq, HOq, HO4', HB4⟩
    case round =>
      obtain ⟨u, m, out, q, hu, hm, HL, HS, HQ, HO, HU, HB⟩ := hrel
      subst hu
      have hcr : wr.cell? ⟨H, 0, none⟩ = some (.slice (some ⟨g, 0, none⟩) m c) := obj_cell HQ.out (i := 0) rfl
      rcases Nat.eq_zero_or_pos m with hm0 | hm0
      · subst hm0
        have hq0 : q = [] := List.eq_nil_of_length_eq_zero HL.out
        subst hq0
        obtain ⟨hp1, ha1⟩ := Sorting.done HS.out
        have hR := sortT_of HI.out hp1 ha1
        go_wp2_with (go_at_call 114; refine (iLen _ 0 c _).mono ?_; rintro e w5 ⟨rfl, rfl⟩)
        go_ret
        exact ⟨_, rfl, by rw [← hR]; exact HU.out.low (by omega), HB.out⟩
      · obtain ⟨n, rfl⟩ : ∃ n, m = n + 1 := ⟨m - 1, by omega⟩
        have hta := taTask
        have g3 : ((n + 1 : Nat) : Int) = (n : Int) + 1 := by omega
        have g4 : 0 < (n : Int) + 1 := by omega
        have HAQ : Hid (AllOk q) := hid (fun t ht => HV.out t (HS.out.perm.mem_iff.1 (List.mem_append_right _ ht)))
        have HHq : Hid (Heap beforeT q (n + 1) 0) := hid (by rw [← HL.out]; exact HS.out.heap)
        have HOL : Hid (out.length + (n + 1) = N) := hid (by rw [HN.out, ← HS.out.perm.length_eq, List.length_append, HL.out])
        have HHlt : Hid (H < wr.heap.size) := hid (Array.getElem?_eq_some_iff.1 HQ.out).1
        go_wp2_with (first
          | (go_at_call 114; refine (iLen _ (n + 1) c _).mono ?_; rintro e w5 ⟨rfl, rfl⟩)
          | (go_at_call 115; refine (hPop H w.heap.size g c n q _ HQ.out HO.out HL.out (by omega) HAQ.out HHq.out).mono ?_; rintro e w5 ⟨nv, zz, rfl, hR5, hP5, hr5, hh5, hq5, hO5, hT5⟩; obtain ⟨An, cn, rfl, _⟩ := RI.get hR5; obtain ⟨x, hx⟩ : ∃ x, x = zz.getD n default := ⟨_, rfl⟩; rw [← hx] at hR5 ⊢; have HS5 := hid (Sorting.pop before_irr before_trans HS.out HL.out hP5 hr5 hh5); rw [← hx] at HS5; have HL5 : Hid ((zz.take n).length = n) := hid (by rw [List.length_take, hP5.length_eq, swapL_len, HL.out]; omega); have HU5 : Hid (OT w5 (H + 1) u out) := hid (OT.far HU.out (fun k hk => hT5.block k (Own.lt HU.out k hk).2 (by have := (Own.lt HU.out k hk).1; simp; omega)) (hT5.same (fun b hb cur t fr hc => by rcases List.mem_cons.1 hb with rfl | hb; (rw [HQ.out] at hc; injection hc with hc; injection hc with _ hc _; subst hc; decide); (rw [List.mem_singleton.1 hb] at hc; obtain ⟨cur', hc'⟩ := Own.obj HO.out; rw [hc'] at hc; injection hc with hc; injection hc with _ hc _; subst hc; decide)))); have HB5 : Hid (Below w.heap.size w w5) := hid (Below.trans HB.out (hT5.below (H := w.heap.size) (fun k hk => by simp at hk; omega) (by have := HB.out.size; omega))); have HR5 := hid hR5; have HQ5 := hid hq5; have HO5 := hid hO5; have HT5 := hid hT5; have HHl5 : Hid (H < w5.heap.size) := hid (Nat.lt_of_lt_of_le HHlt.out hT5.size); have HEA := hid (Ext.alloc w5 (.cells #[.int .i64 x.id, .slice An x.need.length cn] 44)); have HU5' := hid (Own.ext ET.ok HU5.out HEA.out); have hszA : H + 1 ≤ (w5.alloc (.cells #[.int .i64 x.id, .slice An x.need.length cn] 44)).heap.size := (by have h1 := HHl5.out; have h2 := HEA.out.size; simp; omega); clear hx hR5 hP5 hr5 hh5 hq5 hO5 hT5)
          | (at_builtin; refine wpList_append_sl _ (by rfl) _ _ 28 (by rfl) ET.ok ET.flat (H + 1) 44 ET.ne i0_task _ 2 32 Tryd.underlying28 hi0_task hz0_task hz1_task hz2_task rfl (by omega) _ (by rfl) _ (HU5'.out) _ (by rfl) _ (RSl.laid (cs := [.int .i64 x.id, .slice An x.need.length cn]) (x := x) (heap_alloc_new _ _) rfl ⟨_, rfl, RI.ext HR5.out HEA.out⟩) (by have := HOL.out; simp; omega) (by have := HOL.out; simp; omega) ?_ ?_; (focus (first | exact Nat.le_refl _ | (simp; done) | (simp; omega) | omega)); intro v6 w6 hO6 hg6 hat6 hs6; have HO6 := hid hO6; have HG6 := hid hg6; have HS6 := hid hs6; clear hO6 hg6 hat6 hs6))
        go_roundw
        case rel =>
          have hrow : ∀ k, u.ownBlock = some k → H + 1 ≤ k := fun k hk => (Own.lt HU5'.out k hk).1
          have hbH := HG6.out.block H (by simp; have := HHl5.out; omega) (fun he => by have := hrow H he.symm; omega)
          have hbg := HG6.out.block g (by simp; have := HHl5.out; omega) (fun he => by have := hrow g he.symm; omega)
          exact ⟨_, n, out ++ [x], zz.take n, rfl, by omega, HL5, HS5, hid (hbH.trans (HEA.out.obj HQ5.out)), hid (OT.far (Own.ext ET.ok HO5.out HEA.out) (fun k hk => by injection hk with hk; subst hk; exact hbg) (HS6.out.mono (by rintro t rfl; decide))), HO6, hid (Below.grown (Below.trans HB5.out (HEA.out.mono (by have := HB5.out.size; omega))) HG6.out (by have := HB5.out.size; have := HEA.out.size; omega) (fun k hk => by have := hrow k hk; omega))⟩
        case measure =>
          obtain ⟨_, _, hv6, _⟩ := Own.form HO6.out
          obtain ⟨_, _, hv5, _⟩ := Own.form HU.out
          have := HOL.out
          subst hv6 hv5
          simp [lenV]
          omega
  · have hts : ts = [] := List.eq_nil_of_length_eq_zero (by omega)
    subst hts
    go_enter Tryd.func107, Tryd.ntmps107
    go_wp2_with (first
      | (go_at_call 46; clear TK0; refine (iCopyTasks _ [] _ H0.out (by simp) (fun t ht => by cases ht)).mono ?_; rintro e w1 ⟨v1, rfl, hO1, hE1⟩; obtain ⟨A1, c1, hv1, hc1, _⟩ := Own.form hO1; simp only [List.length_nil] at hv1; subst hv1; have pbx := heap_alloc_new w1 (.cells #[.slice none 0 0] 120); have y0 := obj_cell pbx (i := 0) rfl; have y0f := obj_frozen pbx 0; have qbx := heap_alloc_new w1 (.cells #[.slice A1 0 c1] 120); have hcq : (w1.alloc (.cells #[.slice A1 0 c1] 120)).cell? ⟨w1.heap.size, 0, none⟩ = some (.slice A1 0 c1) := obj_cell qbx (i := 0) rfl; have HE2 : Hid (Ext w (w1.alloc (.cells #[.slice A1 0 c1] 120))) := hid (hE1.trans (Ext.alloc _ _)); have HQB := hid qbx; clear hO1 hE1 qbx pbx)
      | (go_at_call 113; refine (hInit0 w1.heap.size c1 A1 _ hcq).mono ?_; rintro e w3 ⟨⟨v3, rfl⟩, rfl⟩)
      | (at_make; refine wpList_make_own _ rfl _ _ 28 rfl w.heap.size 44 i0_task _ 2 Tryd.underlying28 hi0_task hz0_task hz1_task _ _ _ 0 rfl rfl rfl (by omega) (by omega) (HE2.out.size) ?_; intro w4 hO4 hg4; have hE4 : Ext w w4 := Below.grown HE2.out hg4 (HE2.out.size) (fun k hk => by cases hk); have hO4 : OT w4 w.heap.size _ [] := ⟨[], hO4, Cells.nil_ _ _ _⟩; have hc4 : w4.cell? ⟨w1.heap.size, 0, none⟩ = some (.slice A1 0 c1) := obj_cell ((hg4.block _ (by simp) (by simp)).trans HQB.out) (i := 0) rfl; have HO4 := hid hO4; have HE4 := hid hE4; clear hO4 hE4 hg4 y0 y0f hcq))
    refine wp_loop_rounds 1 ?_
    rw [rounds_succ]
    go_wp2_with (go_at_call 114; refine (iLen _ 0 c1 _).mono ?_; rintro e w5 ⟨rfl, rfl⟩)
    go_ret
    have HO5 : OT w4 w.heap.size (.slice (some ⟨w1.heap.size + 1, 0, none⟩) 0 0) [] := by have := HO4.out; simpa using this
    exact ⟨_, rfl, HO5, HE4.out⟩

theorem tasksOk_all {room : List Int} {ts : List TaskD} (h : tasksOk room ts = true) : AllOk ts ∧ (ts.map (·.id)).Nodup ∧ ts.length ≤ 14 := by
  refine ⟨fun t ht => (vecFits_ok (tasksOk_mem h ht).2).1, ((tasksOk_iff _ _).1 h).2.2.2, ?_⟩
  simp only [tasksOk, Bool.and_eq_true, decide_eq_true_eq] at h
  exact h.2.2

set_option maxHeartbeats 1000000 in
theorem iTasksSort (rv v : Value) (room : List Int) (ts : List TaskD) (w : World) (hR : RI w rv room) (h : RT w v ts) (hids : ∀ t ∈ ts, IdR t.id) :
    Calls Tryd.prog 98 #[rv, v] w fun e w' => ∃ v', e = .returned v' ∧ OT w' w.heap.size v' (sortN room ts) ∧ Ext w w' := by
  have H0 := hid h
  have HR := hid hR
  have HI := hid hids
  obtain ⟨A0, c0, rfl, _⟩ := RT.get h
  obtain ⟨A1, c1, rfl, _⟩ := RI.get hR
  clear h hR hids
  cases hok : tasksOk room ts with
  | true =>
    obtain ⟨a1, a2, a3⟩ := tasksOk_all hok
    have HA := hid a1
    have HN := hid a2
    have HS := hid (sortN_ok hok).1
    clear a1 a2
    go_enter Tryd.func98, Tryd.ntmps98
    go_wp2_with (first
      | (go_at_call 49; refine (iTasksValid _ _ room ts _ HR.out H0.out HI.out).mono ?_; rw [hok]; rintro e w1 ⟨rfl, hE1⟩; have HE1 := hid hE1; clear hE1)
      | (go_at_call 107; refine (iSorted _ ts _ (RT.ext H0.out HE1.out) (by omega) HA.out HN.out).mono ?_; rintro e w2 ⟨v2, rfl, hO2, hE2⟩; have HO2 := hid hO2; have HE2 := hid hE2; clear hO2 hE2))
    go_ret
    exact ⟨_, rfl, by rw [HS.out]; exact HO2.out.low HE1.out.size, HE1.out.trans HE2.out⟩
  | false =>
    have HS : Hid (sortN room ts = []) := hid (by unfold sortN; rw [hok]; rfl)
    go_enter Tryd.func98, Tryd.ntmps98
    go_wp2_with (first
      | (go_at_call 49; refine (iTasksValid _ _ room ts _ HR.out H0.out HI.out).mono ?_; rw [hok]; rintro e w1 ⟨rfl, hE1⟩; have HE1 := hid hE1; clear hE1))
    go_ret
    exact ⟨_, rfl, by rw [HS.out]; exact Own.none_ _ _ _ _ _, HE1.out⟩

end Go.Proofs.YtllchacophapoaaDoor
