/- The laws' sizes, copies and tests of nodes that came in. -/
import Derived.Test.YtllchacophapoaaDoorK11
import Derived.Test.YtllchacophapoaaDoorK18
import Derived.Test.YtllchacophapoaaDoorK8
namespace Go.Proofs.YtllchacophapoaaDoor
open Go.RowKit
set_option maxRecDepth 4000

def EXB : Enc (List TaskD) := fun w cs b => ∃ v, cs = [v] ∧ XT w v b
theorem EXB.okx : EXB.OkX := fun _ _ _ _ ⟨v, h, hr⟩ ha => ⟨v, h, XT.ext hr ha⟩
/-- nodes that came in -/
abbrev XTT := RXl 1 EXB
theorem XTT.ext {w w' : World} {v : Value} {xs : List (List TaskD)} (h : XTT w v xs) (ha : Ext w w') : XTT w' v xs := RXl.ext_ EXB.okx h ha
theorem XTT.get {w : World} {v : Value} {xs : List (List TaskD)} (h : XTT w v xs) : ∃ A c, v = .slice A xs.length c ∧ xs.length ≤ c ∧ c ≤ 9223372036854775807 ∧
    ∀ (j : Nat), j < xs.length → ∃ b o x An cn, A = some ⟨b, o, none⟩ ∧ Hid (xs[j]? = some x) ∧ w.cell? ⟨b, o + j, none⟩ = some (.slice An x.length cn) ∧ XT w (.slice An x.length cn) x := by
  obtain ⟨A, c, hv, h1, h2, h⟩ := RXl.get_ h
  refine ⟨A, c, hv, h1, h2, fun j hj => ?_⟩
  obtain ⟨b, o, x, cs, hA, hx, _, ⟨nv, he, hr⟩, hc⟩ := h j hj
  subst he
  have hr0 := hr
  obtain ⟨An, cn, rfl, _⟩ := hr
  have hr := hr0
  exact ⟨b, o, x, An, cn, hA, hx, by simpa using hc 0 _ rfl, hr⟩
def wTaskSS (xs : List (List TaskD)) : Nat := xs.length + sumN wTasks xs

set_option maxHeartbeats 1000000 in
theorem lEqTaskSS (v u : Value) (xs : List (List TaskD)) (w : World) (h : RB w v xs) (h' : RB w u xs) :
    Calls Tryd.prog 11 #[v, u] w (RetB w true) := by
  obtain ⟨A, c, rfl, hc, hc', hr⟩ := RB.get h
  obtain ⟨A', c', rfl, _, _, hr'⟩ := RB.get h'
  clear h h'
  go_enter Tryd.func11, Tryd.ntmps11
  go_wp2
  go_loopw [5] (fun i wr => ∃ k : Nat, k ≤ xs.length ∧ i = .int .i64 k ∧ Ext w wr) (fun i _ => xs.length - (intOf i).toNat)
  case atStart => exact ⟨0, Nat.zero_le _, rfl, Ext.refl _⟩
  case round =>
    obtain ⟨k, hk, rfl, hE⟩ := hrel
    by_cases hlt : k < xs.length
    · obtain ⟨b1, o1, x1, An, cn, rfl, e1, c1, hn⟩ := hr k hlt
      obtain ⟨b2, o2, x2, Am, cm, rfl, e2, d1, hm⟩ := hr' k hlt
      have hx : x2 = x1 := by have a := e1.out; rw [e2.out] at a; injection a
      subst hx
      have i1 : (k : Int) < (xs.length : Int) := by omega
      have i0 : (0 : Int) ≤ (k : Int) := by omega
      have KH : Hid (∀ w', Ext wr w' → w'.cell? ⟨b1, o1 + k, none⟩ = some (.slice An x2.length cn) ∧ w'.cell? ⟨b2, o2 + k, none⟩ = some (.slice Am x2.length cm) ∧ Ext wr w') :=
        hid fun w' hw => ⟨hw.cell (hE.cell c1), hw.cell (hE.cell d1), hw⟩
      have H1 := hid (RT.ext hn hE)
      have H2 := hid (RT.ext hm hE)
      clear c1 d1 hn hm
      go_wp2
      go_region_held3 (fun w' => w'.cell? ⟨b1, o1 + k, none⟩ = some (.slice An x2.length cn) ∧ w'.cell? ⟨b2, o2 + k, none⟩ = some (.slice Am x2.length cm) ∧ Ext wr w')
        (first | exact KH.out _ (by assumption) | exact KH.out _ (Below.drew (Below.refl _ _)))
        ((go_at_call 13; refine (lEqTasks _ _ x2 _ (RT.ext H1.out (Below.drew (Below.refl _ _))) (RT.ext H2.out (Below.drew (Below.refl _ _)))).mono ?_; rintro e w1 ⟨rfl, hE1⟩; have h01 : Ext wr w1 := Ext.trans (Below.drew (Below.refl _ _)) hE1))
      go_wp2
      go_roundw
      case rel => exact ⟨k + 1, by omega, by go_num, hE.trans h01⟩
      case measure => simp [intOf]; omega
    · go_wp2
      go_ret
      exact ⟨rfl, hE⟩

theorem binPad_row (n : Nat) : rowBs (List.replicate n ⟨.slice none 0 0, []⟩) = [] := by
  induction n with
  | zero => rfl
  | succ n ih => rw [List.replicate_succ]; unfold rowBs at *; rw [List.filterMap_cons, ih]; rfl
theorem binPad_ns (n : Nat) : binNs (List.replicate n ⟨.slice none 0 0, []⟩) = [] := by
  induction n with
  | zero => rfl
  | succ n ih => rw [List.replicate_succ]; unfold binNs at *; rw [List.flatMap_cons, ih]; rfl
theorem ODB.set1 {w : World} {base g n c : Nat} {us : List BinW} (h : ODB w base (.slice (some ⟨g, 0, none⟩) n c) us) {j : Nat} {u : BinW} (hj : us[j]? = some u) (v : Value) (qs : List (TaskD × Value)) (hv : ODT w base v qs) :
    ODB (w.setCell ⟨g, j, none⟩ v) base (.slice (some ⟨g, 0, none⟩) n c) (us.set j ⟨v, qs⟩) ∧ SameT (fun t => t ≠ 28) w (w.setCell ⟨g, j, none⟩ v) := by
  have := Own.set (EDB.ok base) EDB.ne h hj (i := 0) (u := v) (x' := ⟨v, qs⟩) (by omega) (fun w' hw cs hl ⟨he, hr⟩ => ⟨by rw [he]; rfl, Own.same (EDT.ok base) hv (hw.mono (fun t ht => ht))⟩)
  simpa using this

end Go.Proofs.YtllchacophapoaaDoor

/- The laws' marks on nodes; marks that are held. -/
namespace Go.Proofs.YtllchacophapoaaDoor
open Go.RowKit
set_option maxRecDepth 4000

def cntB (us : List BinW) : Nat := (us.map fun u => cntQ u.qs).sum
def markB : Int → List BinW → List BinW
  | _, [] => []
  | k, u :: us => ⟨u.tv, markQ k u.qs⟩ :: markB (k + (cntQ u.qs : Int)) us
theorem cntB_cons (u : BinW) (us : List BinW) : cntB (u :: us) = cntQ u.qs + cntB us := by simp [cntB]
theorem cntB_app (a b : List BinW) : cntB (a ++ b) = cntB a + cntB b := by simp [cntB]
theorem markB_len : ∀ (k : Int) (us : List BinW), (markB k us).length = us.length
  | _, [] => rfl
  | k, u :: us => by simp [markB, markB_len]
theorem markB_app : ∀ (k : Int) (a b : List BinW), markB k (a ++ b) = markB k a ++ markB (k + (cntB a : Int)) b
  | k, [], b => by simp [markB, cntB]
  | k, u :: a, b => by
    show ⟨u.tv, markQ k u.qs⟩ :: markB (k + (cntQ u.qs : Int)) (a ++ b) = _
    rw [markB_app, cntB_cons]
    show _ = ⟨u.tv, markQ k u.qs⟩ :: (markB (k + (cntQ u.qs : Int)) a ++ _)
    rw [show k + (cntQ u.qs : Int) + (cntB a : Int) = k + ((cntQ u.qs + cntB a : Nat) : Int) by omega]
theorem markB_rows : ∀ (k : Int) (us : List BinW), rowBs (markB k us) = rowBs us
  | _, [] => rfl
  | k, u :: us => by
    have ih := markB_rows (k + (cntQ u.qs : Int)) us
    unfold rowBs at ih ⊢
    show (⟨u.tv, markQ k u.qs⟩ :: markB (k + (cntQ u.qs : Int)) us).filterMap _ = _
    rw [List.filterMap_cons, List.filterMap_cons, ih]
theorem markB_ns : ∀ (k : Int) (us : List BinW), binNs (markB k us) = binNs us
  | _, [] => rfl
  | k, u :: us => by
    have ih := markB_ns (k + (cntQ u.qs : Int)) us
    unfold binNs at ih ⊢
    show (⟨u.tv, markQ k u.qs⟩ :: markB (k + (cntQ u.qs : Int)) us).flatMap _ = _
    rw [List.flatMap_cons, List.flatMap_cons, ih, markQ_bs]
theorem cntB_take_le (us : List BinW) (k : Nat) : cntB (us.take k) ≤ cntB us := by
  have := cntB_app (us.take k) (us.drop k)
  rw [List.take_append_drop] at this
  omega
theorem cntB_take_succ {us : List BinW} {k : Nat} {u : BinW} (h : us[k]? = some u) : cntB (us.take (k + 1)) = cntB (us.take k) + cntQ u.qs := by
  rw [take_snoc h, cntB_app]
  simp [cntB]
def someB (k : Int) (us : List BinW) (j : Nat) : List BinW := markB k (us.take j) ++ us.drop j
theorem someB_at {k : Int} {us : List BinW} {j : Nat} {u : BinW} (h : us[j]? = some u) : (someB k us j)[j]? = some u := by
  have hl : (markB k (us.take j)).length = j := by
    rw [markB_len, List.length_take]
    have := (List.getElem?_eq_some_iff.1 h).1
    omega
  unfold someB
  rw [List.getElem?_append_right (by omega), hl, Nat.sub_self, List.getElem?_drop]
  simpa using h
theorem someB_rows (k : Int) (us : List BinW) (j : Nat) : rowBs (someB k us j) = rowBs us := by
  unfold someB
  rw [rowBs_app, markB_rows, ← rowBs_app, List.take_append_drop]
theorem someB_ns (k : Int) (us : List BinW) (j : Nat) : binNs (someB k us j) = binNs us := by
  unfold someB
  rw [binNs_app, markB_ns, ← binNs_app, List.take_append_drop]
theorem someB_step {k : Int} {us : List BinW} {j : Nat} {u : BinW} (h : us[j]? = some u) {kk : Int} (hk : kk = k + (cntB (us.take j) : Int)) : (someB k us j).set j ⟨u.tv, markQ kk u.qs⟩ = someB k us (j + 1) := by
  have hj := (List.getElem?_eq_some_iff.1 h).1
  have hl : (markB k (us.take j)).length = j := by
    rw [markB_len, List.length_take]
    omega
  have hu := (List.getElem?_eq_some_iff.1 h).2
  unfold someB
  rw [List.set_append_right _ _ (by omega), hl, Nat.sub_self, List.drop_eq_getElem_cons hj, List.set_cons_zero, take_snoc h, markB_app, ← hk, List.append_assoc]
  rfl
theorem markB_at {k : Int} {us : List BinW} {j : Nat} {u : BinW} (h : us[j]? = some u) : (markB k us)[j]? = some ⟨u.tv, markQ (k + (cntB (us.take j) : Int)) u.qs⟩ := by
  have hj := (List.getElem?_eq_some_iff.1 h).1
  have hl : (markB k (us.take j)).length = j := by
    rw [markB_len, List.length_take]
    omega
  have e : us = us.take j ++ u :: us.drop (j + 1) := by
    have h2 := (List.getElem?_eq_some_iff.1 h).2
    rw [← h2, ← List.drop_eq_getElem_cons hj, List.take_append_drop]
  have : markB k us = markB k (us.take j) ++ markB (k + (cntB (us.take j) : Int)) (u :: us.drop (j + 1)) := by rw [← markB_app, ← e]
  rw [this, List.getElem?_append_right (by omega), hl, Nat.sub_self]
  rfl
theorem ns_apart {us : List BinW} (h : (binNs us).Nodup) {i k : Nat} {p q : BinW} (hi : us[i]? = some p) (hk : us[k]? = some q) (hik : i ≠ k) {a : Nat} (ha : a ∈ needBs p.qs) : a ∉ needBs q.qs := by
  intro hb
  unfold binNs at h
  rw [List.nodup_iff_pairwise_ne, List.pairwise_flatMap] at h
  have h := List.pairwise_iff_getElem.1 h.2
  obtain ⟨li, ei⟩ := List.getElem?_eq_some_iff.1 hi
  obtain ⟨lk, ek⟩ := List.getElem?_eq_some_iff.1 hk
  rcases Nat.lt_or_gt_of_ne hik with hlt | hlt
  · exact h i k li lk hlt a (by rw [ei]; exact ha) a (by rw [ek]; exact hb) rfl
  · exact h k i lk li hlt a (by rw [ek]; exact hb) a (by rw [ei]; exact ha) rfl
theorem ns_each {us : List BinW} (h : (binNs us).Nodup) {u : BinW} (hu : u ∈ us) : (needBs u.qs).Nodup := by
  unfold binNs at h
  rw [List.nodup_iff_pairwise_ne, List.pairwise_flatMap] at h
  exact List.nodup_iff_pairwise_ne.2 (h.1 u hu)
/-- a node's tasks have been marked: the row of nodes behind it -/
theorem ODB.marked {w w' : World} {base g n c : Nat} {us : List BinW} (h : ODB w base (.slice (some ⟨g, 0, none⟩) n c) us) (ht : (rowBs us).Nodup) (hi : (binNs us).Nodup) {j : Nat} {u : BinW} (hj : us[j]? = some u) {qs : List (TaskD × Value)} (hO : ODT w' base u.tv qs) (hT : Touch (u.tv.ownBlock.toList ++ needBs u.qs) w w') :
    ODB w' base (.slice (some ⟨g, 0, none⟩) n c) (us.set j ⟨u.tv, qs⟩) := by
  have hq := (ODB.at_ h hj).2.2.1
  refine Own.far2 h (by simp) (fun k hk => hT.block k (Own.lt h k hk).2 (fun hm => ?_)) (fun i cs x y hx hy he => ?_)
  · rcases List.mem_append.1 hm with hm | hm
    · exact Own.block_ne (by decide) h hq hk (by simpa using hm)
    · obtain ⟨p, hp, hb⟩ := List.mem_filterMap.1 hm
      exact Own.block_ne (by decide) h (ODT.need hq hp) hk hb
  · by_cases hij : j = i
    · subst hij
      rw [hj] at hx
      injection hx with hx
      subst hx
      rw [List.getElem?_set_self (List.getElem?_eq_some_iff.1 hj).1] at hy
      injection hy with hy
      subst hy
      exact ⟨he.1, hO⟩
    · rw [List.getElem?_set_ne hij, hx] at hy
      injection hy with hy
      subst hy
      refine ⟨he.1, ODT.far he.2 (fun k hk => hT.block k (Own.lt he.2 k hk).2 (fun hm => ?_)) (fun k hk => hT.block k (ODT.lt he.2 k hk).2 (fun hm => ?_))⟩
      · rcases List.mem_append.1 hm with hm | hm
        · exact rows_apart ht hj hx hij (by simpa using hm) hk
        · obtain ⟨p, hp, hb⟩ := List.mem_filterMap.1 hm
          exact Own.block_ne (by decide) he.2 (ODT.need hq hp) hk hb
      · rcases List.mem_append.1 hm with hm | hm
        · obtain ⟨p, hp, hb⟩ := List.mem_filterMap.1 hk
          exact Own.block_ne (by decide) (ODT.need he.2 hp) hq hb (by simpa using hm)
        · exact ns_apart hi hj hx hij hm hk

set_option maxHeartbeats 2000000 in
theorem lMarkTaskSS (A : Option Addr) (n c : Nat) (us : List BinW) (k : Int) (w : World) (base : Nat) (h : ODB w base (.slice A n c) us) (ht : (rowBs us).Nodup) (hi : (binNs us).Nodup) (hl : cntB us ≤ 4000000) (hk0 : 0 ≤ k) (hk1 : k ≤ 100000000) :
    Calls Tryd.prog 16 #[.slice A n c, .int .i64 k] w fun e w' => e = .returned (.int .i64 (k + (cntB us : Int))) ∧ ODB w' base (.slice A n c) (markB k us) ∧ Touch ((Value.slice A n c).ownBlock.toList ++ (rowBs us ++ binNs us)) w w' := by
  have hn := Own.form_eq h
  by_cases h0 : 0 < n
  · obtain ⟨g, c1, hv, _⟩ := Own.row h (by omega)
    injection hv with e1 e2 e3
    subst e1 e3
    clear e2
    have HX := hid hn
    have HO0 := hid h
    have HTN := hid ht
    have HIN := hid hi
    have hnb : n ≤ 9223372036854775807 := by have := h.form; obtain ⟨A', c', hv, h1, h2⟩ := this; omega
    have HCT : Hid (∀ j, cntB (us.take j) ≤ 4000000) := hid fun j => Nat.le_trans (cntB_take_le us j) hl
    clear h hn ht hi
    go_enter Tryd.func16, Tryd.ntmps16
    go_wp2
    go_loopw [1, 5] (fun s i wr => ∃ (j : Nat) (kk : Int), j ≤ n ∧ i = .int .i64 j ∧ s = .int .i64 kk ∧ Hid (kk = k + (cntB (us.take j) : Int)) ∧ 0 ≤ kk ∧ kk ≤ 200000000 ∧ Hid (ODB wr base (.slice (some ⟨g, 0, none⟩) n c) (someB k us j) ∧ Touch (g :: (rowBs us ++ binNs us)) w wr)) (fun _ i _ => n - (intOf i).toNat)
    case atStart => exact ⟨0, k, Nat.zero_le _, rfl, rfl, hid (by simp [cntB]), hk0, by omega, hid ⟨by unfold someB; simpa [markB] using HO0.out, Touch.refl _ _⟩⟩
    case round =>
      obtain ⟨j, kk, hj, rfl, rfl, hkk, hkk0, hkk1, H⟩ := hrel
      have HO := hid H.out.1
      have HT := hid H.out.2
      clear H
      by_cases hjl : j < n
      · have ij : (j : Int) < (n : Int) := by omega
        have i0 : (0 : Int) ≤ (j : Int) := by omega
        obtain ⟨u, hq⟩ : ∃ u, us[j]? = some u := ⟨_, List.getElem?_eq_getElem (by rw [← HX.out]; exact hjl)⟩
        have HQ := hid hq
        have HQS := hid (someB_at (k := k) hq)
        obtain ⟨c0, _, hneed, _⟩ := ODB.at_ HO.out HQS.out
        obtain ⟨tv, qs⟩ := u
        obtain ⟨An, cn, hnv, _⟩ := hneed.form
        have hnv : tv = .slice An qs.length cn := hnv
        subst hnv
        have HN1 := hid hneed
        have c0r : wr.cell? ⟨g, j, none⟩ = some (.slice An qs.length cn) := c0
        have hctx := HCT.out (j + 1)
        rw [cntB_take_succ HQ.out] at hctx
        have HCX : Hid (cntB (us.take j) + cntQ qs ≤ 4000000) := hid hctx
        have HTL : Hid (cntQ qs ≤ 4000000) := hid (by have := HCX.out; omega)
        have HND : Hid ((needBs qs).Nodup) := hid (ns_each HIN.out (List.mem_of_getElem? HQ.out))
        clear hq hneed hctx hnv c0
        go_wp2_with (go_at_call 15; refine (lMarkTasks An qs.length cn qs kk _ base HN1.out HND.out HTL.out (by omega) (by omega)).mono ?_; rintro e w2 ⟨rfl, hO2, hT2⟩; have HO2 := hid hO2; have HT2 := hid hT2; clear hO2 hT2)
        go_roundw
        case rel =>
          have hm := ODB.marked HO.out (by rw [someB_rows]; exact HTN.out) (by rw [someB_ns]; exact HIN.out) HQS.out HO2.out HT2.out
          have hst := someB_step HQ.out hkk.out
          refine ⟨j + 1, kk + (cntQ qs : Int), by omega, by go_num, by go_num, hid (by rw [cntB_take_succ HQ.out, hkk.out]; show _ = k + ((cntB (us.take j) + cntQ qs : Nat) : Int); omega), by omega, ?_, hid ⟨by rw [← hst]; exact hm, ?_⟩⟩
          · have h1 := HCX.out
            have h2 := hkk.out
            omega
          · refine Touch.trans HT.out (HT2.out.mono (fun a ha => ?_))
            refine List.mem_cons_of_mem _ (List.mem_append.2 ?_)
            rcases List.mem_append.1 ha with ha | ha
            · exact .inl (List.mem_filterMap.2 ⟨_, List.mem_of_getElem? HQ.out, by simpa using ha⟩)
            · exact .inr (List.mem_flatMap.2 ⟨_, List.mem_of_getElem? HQ.out, ha⟩)
        case measure => simp [intOf]; omega
      · go_wp2
        go_ret
        have hj' : j = us.length := by rw [← HX.out]; omega
        have hs : someB k us j = markB k us := by unfold someB; rw [hj', List.take_length, List.drop_length, List.append_nil]
        have ho := HO.out
        rw [hs] at ho
        exact ⟨ret_i (by rw [hkk.out, hj', List.take_length]), ho, HT.out⟩
  · have hz : n = 0 := by omega
    subst hz
    have hx : us = [] := List.eq_nil_of_length_eq_zero hn.symm
    subst hx
    have HO0 := hid h
    clear h hn ht hi
    go_enter Tryd.func16, Tryd.ntmps16
    go_wp2
    go_loopw [1, 5] (fun s i wr => i = .int .i64 0 ∧ s = .int .i64 k ∧ wr = w) (fun _ _ _ => 0)
    case atStart => exact ⟨rfl, rfl, rfl⟩
    case round =>
      obtain ⟨rfl, rfl, rfl⟩ := hrel
      go_wp2
      go_ret
      exact ⟨by simp [cntB], HO0.out, Touch.refl _ _⟩

set_option maxHeartbeats 1000000 in
theorem lHeldTaskSS (v : Value) (us : List BinW) (k : Int) (w : World) (h : RB w v ((markB k us).map BinW.d)) (hl : cntB us ≤ 4000000) (hk0 : 0 ≤ k) (hk1 : k ≤ 100000000) :
    Calls Tryd.prog 17 #[v, .int .i64 k] w (RetN w (k + (cntB us : Int))) := by
  obtain ⟨A, c, rfl, hc, hc', hg⟩ := RB.get h
  rw [List.length_map, markB_len] at hc hg ⊢
  have HCT : Hid (∀ j, cntB (us.take j) ≤ 4000000) := hid fun j => Nat.le_trans (cntB_take_le us j) hl
  clear h
  obtain ⟨n, hn⟩ : ∃ n, n = us.length := ⟨_, rfl⟩
  have HN := hid hn
  rw [← hn] at hc hg ⊢
  clear hn
  go_enter Tryd.func17, Tryd.ntmps17
  go_wp2
  go_loopw [1, 5] (fun s i wr => ∃ (j : Nat) (kk : Int), j ≤ n ∧ i = .int .i64 j ∧ s = .int .i64 kk ∧ Hid (kk = k + (cntB (us.take j) : Int)) ∧ 0 ≤ kk ∧ kk ≤ 200000000 ∧ Ext w wr) (fun _ i _ => n - (intOf i).toNat)
  case atStart => exact ⟨0, k, Nat.zero_le _, rfl, rfl, hid (by simp [cntB]), hk0, by omega, Ext.refl _⟩
  case round =>
    obtain ⟨j, kk, hj, rfl, rfl, hkk, hkk0, hkk1, hE⟩ := hrel
    by_cases hjl : j < n
    · obtain ⟨b, o, x, An, cn, rfl, e, c1, hnx⟩ := hg j hjl
      obtain ⟨q, hq⟩ : ∃ q, us[j]? = some q := ⟨_, List.getElem?_eq_getElem (by rw [← HN.out]; exact hjl)⟩
      have hx : x = (markQ kk q.qs).map (·.1) := by
        have h1 := e.out
        rw [List.getElem?_map, markB_at hq, ← hkk.out] at h1
        injection h1 with h1
        exact h1.symm
      have ij : (j : Int) < (n : Int) := by omega
      have hctx := HCT.out (j + 1)
      rw [cntB_take_succ hq] at hctx
      have HQ := hid hq
      subst hx
      have hlx : ((markQ kk q.qs).map (·.1)).length = q.qs.length := by rw [List.length_map, markQ_len]
      have c1r : wr.cell? ⟨b, o + j, none⟩ = some (.slice An q.qs.length cn) := by have := hE.cell c1; rw [hlx] at this; exact this
      have HNX : Hid (RT wr (.slice An q.qs.length cn) ((markQ kk q.qs).map (·.1))) := hid (by have := RT.ext hnx hE; rw [hlx] at this; exact this)
      have HQL := hid (show cntQ q.qs ≤ 4000000 by omega)
      have HCX := hid hctx
      obtain ⟨m, hm⟩ : ∃ m, m = cntQ q.qs := ⟨_, rfl⟩
      have HM := hid hm
      have hmb : m ≤ 4000000 := by rw [hm]; exact HQL.out
      have hnn : ¬ kk + (m : Int) < 0 := by omega
      clear c1 hnx hlx hctx hq hm
      go_wp2_with (go_at_call 38; refine (lHeldTasks _ q.qs kk _ HNX.out HQL.out (by omega) (by omega)).mono ?_; rintro e w2 ⟨rfl, hE2⟩; rw [← HM.out]; have HE2 := hid hE2; clear hE2)
      go_roundw
      case rel =>
        refine ⟨j + 1, kk + (m : Int), by omega, by go_num, by go_num, hid (by rw [cntB_take_succ HQ.out, hkk.out, HM.out]; omega), by omega, ?_, hE.trans HE2.out⟩
        have h1 := HCX.out
        have h2 := hkk.out
        have h3 := HM.out
        omega
      case measure => simp [intOf]; omega
    · go_wp2
      go_ret
      have hj' : j = us.length := by rw [← HN.out]; omega
      exact ⟨ret_i (by rw [hkk.out, hj', List.take_length]), hE⟩

end Go.Proofs.YtllchacophapoaaDoor

/- The laws' copy of a move. -/
namespace Go.Proofs.YtllchacophapoaaDoor
open Go.RowKit
set_option maxRecDepth 4000

theorem wTasks_cons (t : TaskD) (ts : List TaskD) : wTasks (t :: ts) = 1 + t.need.length + wTasks ts := by simp [wTasks, sumN, wTask, wInts]; omega
theorem cntQ_eq : ∀ qs : List (TaskD × Value), cntQ qs = wTasks (qs.map (·.1))
  | [] => rfl
  | q :: qs => by
    rw [List.map_cons, wTasks_cons, ← cntQ_eq qs]
    simp [cntQ]
theorem cntB_le (us : List BinW) : cntB us ≤ wTaskSS (us.map BinW.d) := by
  unfold wTaskSS
  induction us with
  | nil => simp [cntB, sumN]
  | cons u us ih =>
    rw [cntB_cons, cntQ_eq]
    simp only [List.map_cons, List.length_cons, sumN, List.sum_cons] at ih ⊢
    show wTasks u.d + cntB us ≤ _
    omega
theorem wTaskSS_bd {xs : List (List TaskD)} {M : Nat} (h : wTaskSS xs ≤ M) : xs.length ≤ M ∧ xs.flatten.length ≤ M ∧ ∀ b ∈ xs, b.length ≤ M ∧ ∀ t ∈ b, t.need.length ≤ M := by
  unfold wTaskSS at h
  have key : ∀ ys : List (List TaskD), ys.flatten.length ≤ sumN wTasks ys ∧ ∀ b ∈ ys, wTasks b ≤ sumN wTasks ys := by
    intro ys
    induction ys with
    | nil => simp
    | cons y ys ih =>
      simp only [List.flatten_cons, List.length_append, sumN, List.map_cons, List.sum_cons] at ih ⊢
      refine ⟨?_, fun b hb => ?_⟩
      · have : y.length ≤ wTasks y := by unfold wTasks; omega
        omega
      · rcases List.mem_cons.1 hb with rfl | hb
        · omega
        · have := ih.2 b hb; omega
  have key2 : ∀ ts : List TaskD, ∀ t ∈ ts, t.need.length ≤ sumN wTask ts := by
    intro ts
    induction ts with
    | nil => simp
    | cons y ts ih =>
      intro t ht
      simp only [sumN, List.map_cons, List.sum_cons] at ih ⊢
      rcases List.mem_cons.1 ht with rfl | ht
      · unfold wTask wInts; omega
      · have := ih t ht; omega
  obtain ⟨k1, k2⟩ := key xs
  refine ⟨by omega, by omega, fun b hb => ?_⟩
  have hb2 := k2 b hb
  have hb3 : wTasks b = b.length + sumN wTask b := rfl
  exact ⟨by omega, fun t ht => by have := key2 b t ht; omega⟩

end Go.Proofs.YtllchacophapoaaDoor
