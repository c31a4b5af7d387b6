/- The program's MoveDo and MovesDo. -/
import Derived.Test.YtllchacophapoaaDoorK9
import Derived.Test.YtllchacophapoaaDoorK10
import Derived.Test.YtllchacophapoaaDoorK4
import Derived.Test.YtllchacophapoaaDoorK2
namespace Go.Proofs.YtllchacophapoaaDoor
open Go.RowKit
set_option maxRecDepth 4000

/-- nodes whose rows are all the call's own, and apart -/
def DB (w : World) (base : Nat) (v : Value) (bs : List (List TaskD)) : Prop := ∃ us, ODB w base v us ∧ us.map BinW.d = bs ∧ (rowBs us).Nodup ∧ (binNs us).Nodup
theorem DB.read {w : World} {base : Nat} {v : Value} {bs : List (List TaskD)} (h : DB w base v bs) : RB w v bs := by
  obtain ⟨us, h1, h2, _⟩ := h
  rw [← h2]; exact h1.read
theorem DB.ext {w w' : World} {base : Nat} {v : Value} {bs : List (List TaskD)} (h : DB w base v bs) (ha : Ext w w') : DB w' base v bs := let ⟨us, h1, h2⟩ := h; ⟨us, Own.ext (EDB.ok _) h1 ha, h2⟩
theorem DB.low {w : World} {base base' : Nat} {v : Value} {bs : List (List TaskD)} (h : DB w base v bs) (hb : base' ≤ base) : DB w base' v bs := let ⟨us, h1, h2⟩ := h; ⟨us, ODB.low h1 hb, h2⟩
theorem DB.none_ (w : World) (base : Nat) : DB w base (.slice none 0 0) [] := ⟨[], Own.none_ _ _ _ _ _, rfl, by simp [rowBs], by simp [binNs]⟩
def RetMBD (w : World) (r : List (List TaskD) × Bool) (e : Ending) (w' : World) : Prop := ∃ v, e = .returned (.tuple #[v, .bool r.2]) ∧ DB w' w.heap.size v r.1 ∧ Ext w w'
def RetMND (w : World) (r : List (List TaskD) × Int) (e : Ending) (w' : World) : Prop := ∃ v, e = .returned (.tuple #[v, .int .i64 r.2]) ∧ DB w' w.heap.size v r.1 ∧ Ext w w'

end Go.Proofs.YtllchacophapoaaDoor

/- The program's MovesDo. -/
namespace Go.Proofs.YtllchacophapoaaDoor
open Go.RowKit
set_option maxRecDepth 4000

end Go.Proofs.YtllchacophapoaaDoor

/- The laws' tests for the same ints, tasks, cluster, where they are the same. -/
namespace Go.Proofs.YtllchacophapoaaDoor
open Go.RowKit
set_option maxRecDepth 4000

theorem lSameInts (v u : Value) (xs : List Int) (w : World) (h : RI w v xs) (h' : RI w u xs) :
    Calls Tryd.prog 48 #[v, u] w (RetB w true) := by
  obtain ⟨A, c, rfl, hc, hc', hr⟩ := h.get
  obtain ⟨A', c', rfl, _, _, hr'⟩ := h'.get
  clear h h'
  go_enter Tryd.func48, Tryd.ntmps48
  go_wp2
  go_loopw [5] (fun i wr => ∃ k : Nat, k ≤ xs.length ∧ i = .int .i64 k ∧ ∃ n, wr = w.drewN n) (fun i _ => xs.length - (intOf i).toNat)
  case atStart => exact ⟨0, Nat.zero_le _, rfl, 0, rfl⟩
  case round =>
    obtain ⟨k, hk, rfl, n, rfl⟩ := hrel
    by_cases hlt : k < xs.length
    · obtain ⟨b1, o1, x1, rfl, e1, c1⟩ := hr k hlt
      obtain ⟨b2, o2, x2, rfl, e2, c2⟩ := hr' k hlt
      have hx : x2 = x1 := by have a := e1.out; rw [e2.out] at a; injection a
      subst hx
      have i1 : (k : Int) < (xs.length : Int) := by omega
      go_wp2
      go_quiet (fail)
      go_wp2
      go_roundw
      case rel => exact ⟨k + 1, by omega, by go_num, _, rfl⟩
      case measure => simp [intOf]; omega
    · go_wp2
      go_ret
      exact ⟨rfl, Ext.drewN _ _⟩

set_option maxHeartbeats 2000000 in
theorem lSameTasks (v u : Value) (xs : List TaskD) (w : World) (h : RT w v xs) (h' : RT w u xs) :
    Calls Tryd.prog 41 #[v, u] w (RetB w true) := by
  obtain ⟨A, c, rfl, hc, hc', hr⟩ := h.get
  obtain ⟨A', c', rfl, _, _, hr'⟩ := h'.get
  clear h h'
  go_enter Tryd.func41, Tryd.ntmps41
  go_wp2
  go_loopw [5] (fun i wr => ∃ k : Nat, k ≤ xs.length ∧ i = .int .i64 k ∧ Ext w wr) (fun i _ => xs.length - (intOf i).toNat)
  case atStart => exact ⟨0, Nat.zero_le _, rfl, Ext.refl _⟩
  case round =>
    obtain ⟨k, hk, rfl, hE⟩ := hrel
    by_cases hlt : k < xs.length
    · obtain ⟨b1, o1, x1, An, cn, rfl, e1, c1, c2, hn⟩ := hr k hlt
      obtain ⟨b2, o2, x2, Am, cm, rfl, e2, d1, d2, hm⟩ := hr' k hlt
      have hx : x2 = x1 := by have a := e1.out; rw [e2.out] at a; injection a
      subst hx
      have i1 : (k : Int) < (xs.length : Int) := by omega
      have i0 : (0 : Int) ≤ (k : Int) := by omega
      have KH : Hid (∀ w', Ext wr w' → w'.cell? ⟨b1, o1 + k * 2, none⟩ = some (.int .i64 x2.id) ∧ w'.cell? ⟨b1, o1 + k * 2 + 1, none⟩ = some (.slice An x2.need.length cn) ∧ w'.cell? ⟨b2, o2 + k * 2, none⟩ = some (.int .i64 x2.id) ∧ w'.cell? ⟨b2, o2 + k * 2 + 1, none⟩ = some (.slice Am x2.need.length cm) ∧ Ext wr w') :=
        hid fun w' hw => ⟨hw.cell (hE.cell c1), hw.cell (hE.cell c2), hw.cell (hE.cell d1), hw.cell (hE.cell d2), hw⟩
      have H1 := hid (RI.ext hn hE)
      have H2 := hid (RI.ext hm hE)
      clear c1 c2 d1 d2 hn hm
      go_wp2
      go_region_held3 (fun w' => w'.cell? ⟨b1, o1 + k * 2, none⟩ = some (.int .i64 x2.id) ∧ w'.cell? ⟨b1, o1 + k * 2 + 1, none⟩ = some (.slice An x2.need.length cn) ∧ w'.cell? ⟨b2, o2 + k * 2, none⟩ = some (.int .i64 x2.id) ∧ w'.cell? ⟨b2, o2 + k * 2 + 1, none⟩ = some (.slice Am x2.need.length cm) ∧ Ext wr w')
        (first | exact KH.out _ (by assumption) | exact KH.out _ (Below.drew (Below.refl _ _)))
        ((go_at_call 48; refine (lSameInts _ _ x2.need _ (RI.ext H1.out (Below.drew (Below.refl _ _))) (RI.ext H2.out (Below.drew (Below.refl _ _)))).mono ?_; rintro e w1 ⟨rfl, hE1⟩; have h01 : Ext wr w1 := Ext.trans (Below.drew (Below.refl _ _)) hE1))
      go_wp2
      go_roundw
      case rel => exact ⟨k + 1, by omega, by go_num, hE.trans h01⟩
      case measure => simp [intOf]; omega
    · go_wp2
      go_ret
      exact ⟨rfl, hE⟩

end Go.Proofs.YtllchacophapoaaDoor

/- The laws' tests on nodes and moves; the program's tasks of nodes, and where one lies. -/
namespace Go.Proofs.YtllchacophapoaaDoor
open Go.RowKit
set_option maxRecDepth 4000

set_option maxHeartbeats 2000000 in
theorem lSameBins (v u : Value) (xs : List (List TaskD)) (w : World) (h : RB w v xs) (h' : RB w u xs) :
    Calls Tryd.prog 19 #[v, u] w (RetB w true) := by
  obtain ⟨A, c, rfl, hc, hc', hr⟩ := RB.get h
  obtain ⟨A', c', rfl, _, _, hr'⟩ := RB.get h'
  clear h h'
  go_enter Tryd.func19, Tryd.ntmps19
  go_wp2
  go_loopw [5] (fun i wr => ∃ k : Nat, k ≤ xs.length ∧ i = .int .i64 k ∧ Ext w wr) (fun i _ => xs.length - (intOf i).toNat)
  case atStart => exact ⟨0, Nat.zero_le _, rfl, Ext.refl _⟩
  case round =>
    obtain ⟨k, hk, rfl, hE⟩ := hrel
    by_cases hlt : k < xs.length
    · obtain ⟨b1, o1, x1, An, cn, rfl, e1, c1, hn⟩ := hr k hlt
      obtain ⟨b2, o2, x2, Am, cm, rfl, e2, d1, hm⟩ := hr' k hlt
      have hx : x2 = x1 := by have a := e1.out; rw [e2.out] at a; injection a
      subst hx
      have i1 : (k : Int) < (xs.length : Int) := by omega
      have i0 : (0 : Int) ≤ (k : Int) := by omega
      have KH : Hid (∀ w', Ext wr w' → w'.cell? ⟨b1, o1 + k, none⟩ = some (.slice An x2.length cn) ∧ w'.cell? ⟨b2, o2 + k, none⟩ = some (.slice Am x2.length cm) ∧ Ext wr w') :=
        hid fun w' hw => ⟨hw.cell (hE.cell c1), hw.cell (hE.cell d1), hw⟩
      have H1 := hid (RT.ext hn hE)
      have H2 := hid (RT.ext hm hE)
      clear c1 d1 hn hm
      go_wp2
      go_region_held3 (fun w' => w'.cell? ⟨b1, o1 + k, none⟩ = some (.slice An x2.length cn) ∧ w'.cell? ⟨b2, o2 + k, none⟩ = some (.slice Am x2.length cm) ∧ Ext wr w')
        (first | exact KH.out _ (by assumption) | exact KH.out _ (Below.drew (Below.refl _ _)))
        ((go_at_call 41; refine (lSameTasks _ _ x2 _ (RT.ext H1.out (Below.drew (Below.refl _ _))) (RT.ext H2.out (Below.drew (Below.refl _ _)))).mono ?_; rintro e w1 ⟨rfl, hE1⟩; have h01 : Ext wr w1 := Ext.trans (Below.drew (Below.refl _ _)) hE1))
      go_wp2
      go_roundw
      case rel => exact ⟨k + 1, by omega, by go_num, hE.trans h01⟩
      case measure => simp [intOf]; omega
    · go_wp2
      go_ret
      exact ⟨rfl, hE⟩

theorem iBinsTasks (rv v : Value) (room : List Int) (bs : List (List TaskD)) (w : World) (hR : RI w rv room) (h : RB w v bs) (hfl : bs.flatten.length ≤ 4000000) (hid' : ∀ t ∈ bs.flatten, IdR t.id) (hv : binsOk room bs = true) :
    Calls Tryd.prog 21 #[rv, v] w fun e w' => ∃ v, e = .returned v ∧ RT w' v bs.flatten ∧ Ext w w' := by
  have HB := hid h
  have HN : Hid (∀ t ∈ bs.flatten, t.need.length ≤ 4000000) := hid (fun t ht => by obtain ⟨b, hb, hx⟩ := List.mem_flatten.1 ht; exact ((bins_rows hv).2.2 b hb).2 t hx)
  go_enter Tryd.func21, Tryd.ntmps21
  go_wp2_with (first
    | (go_at_call 23; refine (iBinsValid _ _ room bs _ hR h hfl hid').mono ?_; rintro e w1 ⟨rfl, hE1⟩; rw [hv]; have HE1 := hid hE1; clear hE1)
    | (go_at_call 47; refine (iConcat _ bs _ (RB.ext HB.out HE1.out) hfl).mono ?_; rintro e w2 ⟨v2, rfl, hO2, hE2⟩; have HR2 := hid hO2.read; have HE2 := hid (HE1.out.trans hE2); clear hO2 hE2)
    | (go_at_call 46; refine (iCopyTasks _ bs.flatten _ HR2.out hfl HN.out).mono ?_; rintro e w3 ⟨v3, rfl, hO3, hE3⟩; have HR3 := hid hO3.read; have HE3 := hid (HE2.out.trans hE3); clear hO3 hE3))
  go_ret
  exact ⟨_, rfl, HR3.out, HE3.out⟩

end Go.Proofs.YtllchacophapoaaDoor
