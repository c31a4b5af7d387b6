/- The fewest nodes: the first way, node by node. No program in sight. -/
import Derived.Test.YtllchacophapoaaDoorK31
namespace Go.Proofs.YtllchacophapoaaDoor

/-- tasks lie in at most m nodes -/
def Packs (room : List Int) (ts : List TaskD) (m : Nat) : Prop := ∃ bs : List (List TaskD), bs.flatten.Perm ts ∧ bs.length ≤ m ∧ ∀ b ∈ bs, fitsL (loadL b) room = true
/-- all ways, the first nodes first -/
def tryL (room : List Int) (most : Nat) : List TaskD → List (List TaskD) → Option (List (List TaskD))
  | [], bs => some bs
  | x :: xs, bs =>
    match (List.range bs.length).findSome? (fun i => if l11fits room (bs.getD i []) x then tryL room most xs (putL bs (i : Int) x) else none) with
    | some r => some r
    | none => if bs.length < most then tryL room most xs (putL bs (-1) x) else none
/-- tasks can be added to nodes -/
def CanExt (room : List Int) (m : Nat) (bs : List (List TaskD)) (ts : List TaskD) : Prop :=
  ∃ adds : List (List TaskD), adds.length ≤ m ∧ bs.length ≤ adds.length ∧ adds.flatten.Perm ts ∧ ∀ i, i < adds.length → fitsL (loadL (bs.getD i [] ++ adds.getD i [])) room = true

theorem putL_neg (bs : List (List TaskD)) (x : TaskD) : putL bs (-1) x = bs ++ [[x]] := putL_new (by omega) x
theorem flat_set {α : Type} : ∀ (bs : List (List α)) (k : Nat) (b c : List α), bs[k]? = some b → b.Perm c → (bs.set k c).flatten.Perm bs.flatten
  | [], _, _, _, h, _ => by simp at h
  | a :: bs, 0, b, c, h, hp => by
    simp only [List.getElem?_cons_zero, Option.some.injEq] at h
    subst h
    simp only [List.set_cons_zero, List.flatten_cons]
    exact hp.symm.append_right _
  | a :: bs, k + 1, b, c, h, hp => by
    simp only [List.getElem?_cons_succ] at h
    simp only [List.set_cons_succ, List.flatten_cons]
    exact (flat_set bs k b c h hp).append_left _
theorem getD_mem {α : Type} {bs : List (List α)} {k : Nat} (h : k < bs.length) : bs[k]? = some (bs.getD k []) := by rw [List.getD_eq_getElem?_getD, List.getElem?_eq_getElem h]; rfl
theorem getD_out {α : Type} {bs : List (List α)} {k : Nat} (h : bs.length ≤ k) : bs.getD k [] = [] := by rw [List.getD_eq_getElem?_getD, List.getElem?_eq_none h]; rfl
theorem getD_app_l {α : Type} {as_ bs : List (List α)} {k : Nat} (h : k < as_.length) : (as_ ++ bs).getD k [] = as_.getD k [] := by rw [List.getD_eq_getElem?_getD, List.getElem?_append_left h, List.getD_eq_getElem?_getD]
theorem getD_app_one {α : Type} {as_ : List (List α)} {b : List α} : (as_ ++ [b]).getD as_.length [] = b := by rw [List.getD_eq_getElem?_getD, List.getElem?_append_right (Nat.le_refl _), Nat.sub_self]; rfl

/-- nothing is negative -/
def Pos (ts : List TaskD) : Prop := ∀ t ∈ ts, vecOk t.need = true

theorem ext_step {room : List Int} {m : Nat} {bs : List (List TaskD)} {x : TaskD} {xs : List TaskD} (hb : ∀ b ∈ bs, Pos b) (hx : Pos (x :: xs)) (h : CanExt room m bs (x :: xs)) :
    (∃ j, j < bs.length ∧ l11fits room (bs.getD j []) x = true ∧ CanExt room m (putL bs (j : Int) x) xs) ∨ (bs.length < m ∧ CanExt room m (putL bs (-1) x) xs) := by
  obtain ⟨adds, hl, hl2, hp, hf⟩ := h
  have hm : x ∈ adds.flatten := hp.mem_iff.2 (List.mem_cons_self ..)
  obtain ⟨a, ha, hxa⟩ := List.mem_flatten.1 hm
  obtain ⟨j, hj⟩ := List.getElem?_of_mem ha
  have hja : j < adds.length := (List.getElem?_eq_some_iff.1 hj).1
  have hjd : adds.getD j [] = a := getD_set_at hj
  have hpa : a.Perm (x :: a.erase x) := List.perm_cons_erase hxa
  have hpos : ∀ c ∈ adds, Pos c := fun c hc t ht => hx t (hp.mem_iff.1 (List.mem_flatten.2 ⟨c, hc, ht⟩))
  have hflat : ∀ (as_ : List (List TaskD)) (k : Nat), as_[k]? = some a → as_.flatten.Perm adds.flatten → (as_.set k (a.erase x)).flatten.Perm xs := fun as_ k hk has => by
    have h1 : (as_.set k (x :: a.erase x)).flatten.Perm as_.flatten := flat_set as_ k a _ hk hpa
    have hkl : k < as_.length := (List.getElem?_eq_some_iff.1 hk).1
    have h2 := flatten_set_perm (as_.set k (a.erase x)) k (a.erase x) x (List.getElem?_set_self hkl)
    rw [List.set_set] at h2
    have h3 : (as_.set k (a.erase x ++ [x])).flatten.Perm as_.flatten := flat_set as_ k a _ hk (hpa.trans (List.perm_append_comm (l₁ := [x]) (l₂ := a.erase x)))
    exact (List.perm_cons x).1 ((h2.symm.trans h3).trans (has.trans hp))
  by_cases hjb : j < bs.length
  · left
    have hbj := getD_mem hjb
    have hfj := hf j hja
    rw [hjd] at hfj
    have hperm : (bs.getD j [] ++ [x] ++ a.erase x).Perm (bs.getD j [] ++ a) := by rw [List.append_assoc]; exact hpa.symm.append_left _
    refine ⟨j, hjb, ?_, adds.set j (a.erase x), by simpa using hl, ?_, hflat adds j hj (List.Perm.refl _), fun i hi => ?_⟩
    · rw [l11_load]
      refine fits_sub (List.sublist_append_left _ (a.erase x)) (fun t ht => ?_) (fits_perm hperm hfj)
      rw [hperm.mem_iff] at ht
      rcases List.mem_append.1 ht with ht | ht
      · exact hb _ (List.mem_of_getElem? hbj) t ht
      · exact hpos a ha t ht
    · rw [putL_at hbj, List.length_set, List.length_set]; exact hl2
    · rw [List.length_set] at hi
      rw [putL_at hbj]
      by_cases hij : i = j
      · subst hij
        rw [getD_set_eq hjb, getD_set_eq hja]
        exact fits_perm hperm hfj
      · rw [getD_set_ne hij, getD_set_ne hij]
        exact hf i hi
  · right
    refine ⟨by omega, ?_⟩
    have hk : bs.length < adds.length := by omega
    have hsw : (swapL adds bs.length j).length = adds.length := swapL_len _ _ _
    have hswk : (swapL adds bs.length j)[bs.length]? = some a := by
      have h1 : (swapL adds bs.length j).getD bs.length [] = a := by
        by_cases he : bs.length = j
        · rw [← he]
          have := swapL_j (xs := adds) (i := bs.length) (j := bs.length) hk
          rw [he] at this ⊢
          exact this.trans hjd
        · exact (swapL_i hk he).trans hjd
      rw [← h1]
      exact getD_mem (by omega)
    refine ⟨(swapL adds bs.length j).set bs.length (a.erase x), by rw [List.length_set, hsw]; exact hl, ?_, hflat _ _ hswk (List.Perm.flatten (swapL_perm hk hja)), fun i hi => ?_⟩
    · rw [putL_neg, List.length_set, hsw, List.length_append]; exact hk
    · rw [List.length_set, hsw] at hi
      rw [putL_neg]
      by_cases hib : i = bs.length
      · subst hib
        rw [getD_app_one, getD_set_eq (by omega)]
        have hfj := hf j hja
        rw [hjd, getD_out (by omega)] at hfj
        exact fits_perm hpa.symm hfj
      · rw [getD_set_ne hib]
        by_cases hij : i = j
        · subst hij
          have e1 : (swapL adds bs.length i).getD i [] = adds.getD bs.length [] := swapL_j hja
          rw [e1, getD_out (bs := bs ++ [[x]]) (by rw [List.length_append, List.length_singleton]; omega)]
          have hfk := hf bs.length hk
          rw [getD_out (Nat.le_refl _)] at hfk
          exact hfk
        · have e1 : (swapL adds bs.length j).getD i [] = adds.getD i [] := swapL_k hib hij
          rw [e1]
          by_cases hil : i < bs.length
          · rw [getD_app_l hil]; exact hf i hi
          · have h3 := hf i hi
            rw [getD_out (by omega)] at h3
            rw [getD_out (by rw [List.length_append, List.length_singleton]; omega)]
            exact h3
theorem try_none {room : List Int} {most : Nat} : ∀ (ts : List TaskD) (bs : List (List TaskD)), (∀ b ∈ bs, Pos b) → Pos ts → tryL room most ts bs = none → ¬ CanExt room most bs ts
  | [], bs, _, _, h => by simp [tryL] at h
  | x :: xs, bs, hb, hx, h => fun hc => by
    unfold tryL at h
    split at h
    · cases h
    · rename_i hn
      rw [List.findSome?_eq_none_iff] at hn
      have hxs : Pos xs := fun t ht => hx t (List.mem_cons_of_mem _ ht)
      rcases ext_step hb hx hc with ⟨j, hj, hf, he⟩ | ⟨hl, he⟩
      · have h1 := hn j (List.mem_range.2 hj)
        rw [if_pos hf] at h1
        refine try_none xs _ (fun b hbm => ?_) hxs h1 he
        rw [putL_at (getD_mem hj)] at hbm
        rcases List.mem_or_eq_of_mem_set hbm with hbm | rfl
        · exact hb b hbm
        · intro t ht
          rcases List.mem_append.1 ht with ht | ht
          · exact hb _ (List.mem_of_getElem? (getD_mem hj)) t ht
          · rw [List.mem_singleton.1 ht]; exact hx x (List.mem_cons_self ..)
      · rw [if_pos hl] at h
        refine try_none xs _ (fun b hbm => ?_) hxs h he
        rw [putL_neg] at hbm
        rcases List.mem_append.1 hbm with hbm | hbm
        · exact hb b hbm
        · rw [List.mem_singleton.1 hbm]
          intro t ht
          rw [List.mem_singleton.1 ht]; exact hx x (List.mem_cons_self ..)
/-- what a way has -/
structure Way (room : List Int) (most : Nat) (all : List TaskD) (r : List (List TaskD)) : Prop where
  perm : r.flatten.Perm all
  len : r.length ≤ most
  fits : ∀ b ∈ r, fitsL (loadL b) room = true ∧ b ≠ []
theorem way_put {room : List Int} {most : Nat} {all : List TaskD} {bs : List (List TaskD)} {x : TaskD} {j : Nat} (hw : Way room most all bs) (hj : j < bs.length) (hf : l11fits room (bs.getD j []) x = true) : Way room most (all ++ [x]) (putL bs (j : Int) x) := by
  have hbj := getD_mem hj
  rw [putL_at hbj]
  refine ⟨?_, by rw [List.length_set]; exact hw.len, fun b hb => ?_⟩
  · exact (flatten_set_perm bs j _ x hbj).trans ((hw.perm.cons x).trans (List.perm_append_comm (l₁ := [x]) (l₂ := all)))
  · rcases List.mem_or_eq_of_mem_set hb with hb | rfl
    · exact hw.fits b hb
    · exact ⟨by rw [← l11_load]; exact hf, by simp⟩
theorem way_new {room : List Int} {most : Nat} {all : List TaskD} {bs : List (List TaskD)} {x : TaskD} (hw : Way room most all bs) (hl : bs.length < most) (hx : vecFits x.need room = true) : Way room most (all ++ [x]) (putL bs (-1) x) := by
  rw [putL_neg]
  refine ⟨?_, by rw [List.length_append]; exact hl, fun b hb => ?_⟩
  · rw [List.flatten_append]; simpa using hw.perm.append_right [x]
  · rcases List.mem_append.1 hb with hb | hb
    · exact hw.fits b hb
    · rw [List.mem_singleton.1 hb]; exact ⟨alone_fits hx, by simp⟩
theorem try_some {room : List Int} {most : Nat} : ∀ (ts : List TaskD) (bs r : List (List TaskD)) (all : List TaskD), Way room most all bs → (∀ t ∈ ts, vecFits t.need room = true) → tryL room most ts bs = some r → Way room most (all ++ ts) r
  | [], bs, r, all, hw, _, h => by
    simp only [tryL, Option.some.injEq] at h
    subst h
    simpa using hw
  | x :: xs, bs, r, all, hw, hx, h => by
    have hxs : ∀ t ∈ xs, vecFits t.need room = true := fun t ht => hx t (List.mem_cons_of_mem _ ht)
    have e : all ++ x :: xs = (all ++ [x]) ++ xs := by simp
    rw [e]
    unfold tryL at h
    split at h
    · rename_i r' hr
      injection h with h
      subst h
      obtain ⟨j, hj, hr⟩ := List.exists_of_findSome?_eq_some hr
      have hj := List.mem_range.1 hj
      split at hr
      · rename_i hf
        exact try_some xs _ _ _ (way_put hw hj hf) hxs hr
      · cases hr
    · split at h
      · rename_i hl
        exact try_some xs _ _ _ (way_new hw hl (hx x (List.mem_cons_self ..))) hxs h
      · cases h
theorem ext_packs {room : List Int} {ts : List TaskD} {m : Nat} (h : Packs room ts m) : CanExt room m [] ts := by
  obtain ⟨bs, h1, h2, h3⟩ := h
  exact ⟨bs, h2, Nat.zero_le _, h1, fun i hi => by rw [show ([] : List (List TaskD)).getD i [] = [] from rfl]; exact h3 _ (List.mem_of_getElem? (getD_mem hi))⟩
theorem Way.packs {room : List Int} {most : Nat} {all : List TaskD} {r : List (List TaskD)} (h : Way room most all r) : Packs room all r.length := ⟨r, h.perm, Nat.le_refl _, fun b hb => (h.fits b hb).1⟩
theorem alone_packs {room : List Int} : ∀ {ts : List TaskD}, (∀ t ∈ ts, vecFits t.need room = true) → Packs room ts ts.length
  | [], _ => ⟨[], List.Perm.refl _, Nat.le_refl _, fun b hb => by cases hb⟩
  | x :: xs, h => by
    obtain ⟨bs, h1, h2, h3⟩ := alone_packs (ts := xs) (fun t ht => h t (List.mem_cons_of_mem _ ht))
    refine ⟨[x] :: bs, by simpa using h1.cons x, by simpa using h2, fun b hb => ?_⟩
    rcases List.mem_cons.1 hb with rfl | hb
    · exact alone_fits (h x (List.mem_cons_self ..))
    · exact h3 b hb
/-- the first way with the least number of nodes -/
def leastR (room : List Int) (ts : List TaskD) : List (List TaskD) := ((List.range (ts.length + 1)).findSome? fun m => tryL room m ts []).getD []
def FitAll (room : List Int) (ts : List TaskD) : Prop := ∀ t ∈ ts, vecFits t.need room = true
theorem FitAll.pos {room : List Int} {ts : List TaskD} (h : FitAll room ts) : Pos ts := fun t ht => (vecFits_ok (h t ht)).1
theorem way_nil (room : List Int) (most : Nat) : Way room most [] [] := ⟨List.Perm.refl _, Nat.zero_le _, fun b hb => by cases hb⟩
theorem least_spec {room : List Int} {ts : List TaskD} (h : FitAll room ts) : Way room (leastR room ts).length ts (leastR room ts) ∧ tryL room (leastR room ts).length ts [] = some (leastR room ts) ∧ (leastR room ts).length ≤ ts.length ∧ (∀ m, Packs room ts m → (leastR room ts).length ≤ m) ∧ ∀ m, m < (leastR room ts).length → tryL room m ts [] = none := by
  have hnone : ∀ m, tryL room m ts [] = none → ¬ Packs room ts m := fun m hm hp => try_none ts [] (fun b hb => by cases hb) h.pos hm (ext_packs hp)
  have hsome : ∀ m r, tryL room m ts [] = some r → Way room m ts r := fun m r hr => by simpa using try_some ts [] r [] (way_nil room m) h hr
  cases hs : (List.range (ts.length + 1)).findSome? fun m => tryL room m ts [] with
  | none =>
    rw [List.findSome?_eq_none_iff] at hs
    exact absurd (alone_packs h) (hnone _ (hs ts.length (by simp)))
  | some r =>
    have hr : leastR room ts = r := by unfold leastR; rw [hs]; rfl
    rw [hr]
    rw [List.findSome?_eq_some_iff] at hs
    obtain ⟨l1, m, l2, e1, e2, e3⟩ := hs
    have hm : m = l1.length ∧ m < ts.length + 1 := by
      have h1 : (List.range (ts.length + 1))[l1.length]? = some m := by rw [e1]; simp
      rw [List.getElem?_range] at h1
      · injection h1 with h1; exact ⟨h1.symm, by rw [← h1]; have := congrArg List.length e1; simp at this; omega⟩
      · have := congrArg List.length e1; simp at this; omega
    have hless : ∀ k, k < m → tryL room k ts [] = none := fun k hk => by
      refine e3 k ?_
      have h1 : (List.range (ts.length + 1))[k]? = some k := List.getElem?_range (by omega)
      rw [e1, List.getElem?_append_left (by omega)] at h1
      exact List.mem_of_getElem? h1
    have hw := hsome m r e2
    have hlen : r.length = m := by
      have h1 := hw.len
      rcases Nat.lt_or_ge r.length m with h2 | h2
      · exact absurd hw.packs (hnone _ (hless _ h2))
      · omega
    refine ⟨by rw [hlen]; exact hw, by rw [hlen]; exact e2, by omega, fun k hk => ?_, fun k hk => hless k (by omega)⟩
    rcases Nat.lt_or_ge k r.length with h2 | h2
    · exact absurd hk (hnone _ (hless _ (by omega)))
    · exact h2
def leastOkB (room : List Int) (ts : List TaskD) : Bool := tasksOk room ts && decide (ts.length ≤ 7)
def leastAllN (room : List Int) (ts : List TaskD) : List (List TaskD) := if leastOkB room ts then leastR room ts else []
def leastCountN (room : List Int) (ts : List TaskD) : Int := if leastOkB room ts then ((leastR room ts).length : Int) else -1
theorem fit_of_ok {room : List Int} {ts : List TaskD} (h : tasksOk room ts = true) : FitAll room ts := fun _ ht => (tasksOk_mem h ht).2
theorem Way.ok {room : List Int} {m : Nat} {ts : List TaskD} {r : List (List TaskD)} (h : Way room m ts r) (hm : m ≤ 14) (hok : tasksOk room ts = true) : binsOk room r = true := by
  unfold binsOk
  simp only [Bool.and_eq_true, decide_eq_true_eq, List.all_eq_true]
  exact ⟨perm_ok h.perm hok, Nat.le_trans h.len hm, fun b hb => (h.fits b hb).1⟩
theorem leastAll_ok {room : List Int} {ts : List TaskD} (h : leastOkB room ts = true) : leastAllN room ts = leastR room ts ∧ binsOk room (leastR room ts) = true ∧ (leastR room ts).flatten.Perm ts ∧ (∀ b ∈ leastR room ts, b ≠ []) ∧ leastCountN room ts = ((leastR room ts).length : Int) := by
  have h2 := h
  simp only [leastOkB, Bool.and_eq_true, decide_eq_true_eq] at h2
  obtain ⟨h3, _, h4, _⟩ := least_spec (fit_of_ok h2.1)
  exact ⟨by unfold leastAllN; rw [h]; rfl, h3.ok (by omega) h2.1, h3.perm, fun b hb => (h3.fits b hb).2, by unfold leastCountN; rw [h]; rfl⟩
end Go.Proofs.YtllchacophapoaaDoor

/- Sets of tasks, and the least number of nodes found set by set. No program in sight. -/
namespace Go.Proofs.YtllchacophapoaaDoor

theorem and2 (a b x y : Nat) (hx : x < 2) (hy : y < 2) : (2 * a + x) &&& (2 * b + y) = 2 * (a &&& b) + x * y := by
  have h1 : ((2 * a + x) &&& (2 * b + y)) / 2 = a &&& b := by
    rw [Nat.and_div_two, show (2 * a + x) / 2 = a by omega, show (2 * b + y) / 2 = b by omega]
  have h2 : ((2 * a + x) &&& (2 * b + y)) % 2 = x * y := by
    have h := Nat.testBit_and (2 * a + x) (2 * b + y) 0
    rw [Nat.testBit_zero, Nat.testBit_zero, Nat.testBit_zero] at h
    have ex : (2 * a + x) % 2 = x := by omega
    have ey : (2 * b + y) % 2 = y := by omega
    rw [ex, ey] at h
    have hm := Nat.mod_two_eq_zero_or_one ((2 * a + x) &&& (2 * b + y))
    have hx' : x = 0 ∨ x = 1 := by omega
    have hy' : y = 0 ∨ y = 1 := by omega
    rcases hx' with rfl | rfl <;> rcases hy' with rfl | rfl <;> rcases hm with hm | hm <;> rw [hm] at h <;> simp at h <;> omega
  omega
theorem half (n : Nat) : ∃ a x, n = 2 * a + x ∧ x < 2 := ⟨n / 2, n % 2, by omega, by omega⟩
/-- a set that is part of another -/
def Part (q s : Nat) : Prop := q &&& s = q
theorem part2 {c z b y : Nat} (hz : z < 2) (hy : y < 2) : Part (2 * c + z) (2 * b + y) ↔ Part c b ∧ z ≤ y := by
  unfold Part
  rw [and2 c b z y hz hy]
  have hz' : z = 0 ∨ z = 1 := by omega
  have hy' : y = 0 ∨ y = 1 := by omega
  rcases hz' with rfl | rfl <;> rcases hy' with rfl | rfl <;> omega
theorem Part.le {q s : Nat} (h : Part q s) : q ≤ s := by rw [← h]; exact Nat.and_le_right
theorem part_zero (s : Nat) : Part 0 s := Nat.zero_and s
theorem part_self (s : Nat) : Part s s := Nat.and_self s
theorem part_and (p s : Nat) : Part (p &&& s) s := by unfold Part; rw [Nat.and_assoc, Nat.and_self]
theorem part_next : ∀ (s p q : Nat), Part p s → Part q s → q < p → q ≤ (p - 1) &&& s := by
  intro s
  induction s using Nat.strongRecOn with
  | _ s ih =>
    intro p q hp hq h
    obtain ⟨b, y, rfl, hy⟩ := half s
    obtain ⟨a, x, rfl, hx⟩ := half p
    obtain ⟨c, z, rfl, hz⟩ := half q
    obtain ⟨hp1, hp2⟩ := (part2 hx hy).1 hp
    obtain ⟨hq1, hq2⟩ := (part2 hz hy).1 hq
    have hx' : x = 0 ∨ x = 1 := by omega
    rcases hx' with rfl | rfl
    · have hbb := hp1.le
      have h1 := ih b (by omega) a c hp1 hq1 (by omega)
      rw [show 2 * a + 0 - 1 = 2 * (a - 1) + 1 by omega, and2 _ _ _ _ (by omega) hy]
      omega
    · rw [show 2 * a + 1 - 1 = 2 * a + 0 by omega, and2 _ _ _ _ (by omega) hy, hp1]
      omega
theorem and_pred_lt {p s : Nat} (h : 0 < p) : (p - 1) &&& s < p := by
  have : (p - 1) &&& s ≤ p - 1 := Nat.and_le_left
  omega

/-- the tasks of a set -/
def pickL : List TaskD → Nat → List TaskD
  | [], _ => []
  | t :: ts, s => if s % 2 = 1 then t :: pickL ts (s / 2) else pickL ts (s / 2)
theorem pick_odd (t : TaskD) (ts : List TaskD) (a : Nat) : pickL (t :: ts) (2 * a + 1) = t :: pickL ts a := by
  rw [pickL, if_pos (by omega), show (2 * a + 1) / 2 = a by omega]
theorem pick_even (t : TaskD) (ts : List TaskD) (a : Nat) : pickL (t :: ts) (2 * a + 0) = pickL ts a := by
  rw [pickL, if_neg (by omega), show (2 * a + 0) / 2 = a by omega]
theorem pick_zero : ∀ ts : List TaskD, pickL ts 0 = []
  | [] => rfl
  | t :: ts => by rw [show (0 : Nat) = 2 * 0 + 0 from rfl, pick_even]; exact pick_zero ts
theorem pick_mem : ∀ {ts : List TaskD} {s : Nat} {t : TaskD}, t ∈ pickL ts s → t ∈ ts
  | [], _, _, h => by simp [pickL] at h
  | u :: ts, s, t, h => by
    unfold pickL at h
    split at h
    · rcases List.mem_cons.1 h with rfl | h
      · exact List.mem_cons_self ..
      · exact List.mem_cons_of_mem _ (pick_mem h)
    · exact List.mem_cons_of_mem _ (pick_mem h)
/-- the place of the least number of a set -/
def tzF : Nat → Nat → Nat
  | 0, _ => 0
  | n + 1, s => if s % 2 = 1 then 0 else tzF n (s / 2) + 1
/-- how many numbers a set has -/
def pcF : Nat → Nat → Nat
  | 0, _ => 0
  | n + 1, s => s % 2 + pcF n (s / 2)
theorem pick_len : ∀ (n : Nat) (ts : List TaskD) (s : Nat), ts.length ≤ n → s < 2 ^ ts.length → (pickL ts s).length = pcF n s
  | n, [], s, _, h2 => by
    have : s = 0 := by simpa using h2
    subst this
    have : ∀ n, pcF n 0 = 0 := fun n => by induction n with
      | zero => rfl
      | succ n ih => simp [pcF, ih]
    rw [this]; rfl
  | 0, t :: ts, s, h1, _ => by simp at h1
  | n + 1, t :: ts, s, h1, h2 => by
    obtain ⟨a, x, rfl, hx⟩ := half s
    have h3 : a < 2 ^ ts.length := by rw [List.length_cons, Nat.pow_succ] at h2; omega
    have ih := pick_len n ts a (by simpa using h1) h3
    have hx' : x = 0 ∨ x = 1 := by omega
    unfold pcF
    rcases hx' with rfl | rfl
    · rw [pick_even, show (2 * a + 0) / 2 = a by omega, ih]; omega
    · rw [pick_odd, List.length_cons, show (2 * a + 1) / 2 = a by omega, ih]; omega
theorem pick_step : ∀ (n : Nat) (ts : List TaskD) (s : Nat), ts.length ≤ n → 0 < s → s < 2 ^ ts.length → ∃ t, ts[tzF n s]? = some t ∧ pickL ts s = t :: pickL ts (s &&& (s - 1))
  | n, [], s, _, h2, h3 => by simp at h3; omega
  | 0, t :: ts, s, h1, _, _ => by simp at h1
  | n + 1, t :: ts, s, h1, h2, h3 => by
    obtain ⟨a, x, rfl, hx⟩ := half s
    have h4 : a < 2 ^ ts.length := by rw [List.length_cons, Nat.pow_succ] at h3; omega
    have hx' : x = 0 ∨ x = 1 := by omega
    rcases hx' with rfl | rfl
    · obtain ⟨u, hu, hp⟩ := pick_step n ts a (by simpa using h1) (by omega) h4
      refine ⟨u, ?_, ?_⟩
      · unfold tzF
        rw [if_neg (by omega), show (2 * a + 0) / 2 = a by omega]
        simpa using hu
      · rw [pick_even, hp, show 2 * a + 0 - 1 = 2 * (a - 1) + 1 by omega, and2 _ _ _ _ (by omega) (by omega), show 0 * 1 = 0 from rfl, pick_even]
    · refine ⟨t, ?_, ?_⟩
      · unfold tzF
        rw [if_pos (by omega)]; rfl
      · rw [pick_odd, show 2 * a + 1 - 1 = 2 * a + 0 by omega, and2 _ _ _ _ (by omega) (by omega), Nat.and_self, show 1 * 0 = 0 from rfl, pick_even]
theorem pick_all : ∀ ts : List TaskD, pickL ts (2 ^ ts.length - 1) = ts
  | [] => rfl
  | t :: ts => by
    have h : 0 < 2 ^ ts.length := Nat.pow_pos (by omega)
    rw [show 2 ^ (t :: ts).length - 1 = 2 * (2 ^ ts.length - 1) + 1 by rw [List.length_cons, Nat.pow_succ]; omega, pick_odd, pick_all ts]
theorem pick_split : ∀ (ts : List TaskD) (q s : Nat), Part q s → (pickL ts q ++ pickL ts (s - q)).Perm (pickL ts s)
  | [], _, _, _ => List.Perm.refl _
  | t :: ts, q, s, h => by
    obtain ⟨b, y, rfl, hy⟩ := half s
    obtain ⟨c, z, rfl, hz⟩ := half q
    obtain ⟨h1, h2⟩ := (part2 hz hy).1 h
    have hle := h1.le
    have ih := pick_split ts c b h1
    have hz' : z = 0 ∨ z = 1 := by omega
    have hy' : y = 0 ∨ y = 1 := by omega
    rcases hz' with rfl | rfl <;> rcases hy' with rfl | rfl
    · rw [show 2 * b + 0 - (2 * c + 0) = 2 * (b - c) + 0 by omega, pick_even, pick_even, pick_even]; exact ih
    · rw [show 2 * b + 1 - (2 * c + 0) = 2 * (b - c) + 1 by omega, pick_even, pick_odd, pick_odd]
      exact List.perm_middle.trans (ih.cons t)
    · omega
    · rw [show 2 * b + 1 - (2 * c + 1) = 2 * (b - c) + 0 by omega, pick_odd, pick_even, pick_odd]; exact ih.cons t
theorem pick_part : ∀ (ts : List TaskD) (s : Nat) (b r : List TaskD), (b ++ r).Perm (pickL ts s) → ∃ q, Part q s ∧ (pickL ts q).Perm b ∧ (pickL ts (s - q)).Perm r
  | [], s, b, r, h => by
    have h0 : b ++ r = [] := List.Perm.eq_nil h
    obtain ⟨rfl, rfl⟩ := List.append_eq_nil_iff.1 h0
    exact ⟨0, part_zero s, List.Perm.refl _, List.Perm.refl _⟩
  | t :: ts, s, b, r, h => by
    obtain ⟨a, y, rfl, hy⟩ := half s
    have hy' : y = 0 ∨ y = 1 := by omega
    rcases hy' with rfl | rfl
    · rw [pick_even] at h
      obtain ⟨q, h1, h2, h3⟩ := pick_part ts a b r h
      have hle := h1.le
      exact ⟨2 * q + 0, (part2 (by omega) (by omega)).2 ⟨h1, Nat.le_refl _⟩, by rw [pick_even]; exact h2, by rw [show 2 * a + 0 - (2 * q + 0) = 2 * (a - q) + 0 by omega, pick_even]; exact h3⟩
    · rw [pick_odd] at h
      have hm : t ∈ b ++ r := h.mem_iff.2 (List.mem_cons_self ..)
      rcases List.mem_append.1 hm with hm | hm
      · have hb : b.Perm (t :: b.erase t) := List.perm_cons_erase hm
        have h' : (b.erase t ++ r).Perm (pickL ts a) := (List.perm_cons t).1 ((hb.append_right r).symm.trans h)
        obtain ⟨q, h1, h2, h3⟩ := pick_part ts a _ r h'
        have hle := h1.le
        exact ⟨2 * q + 1, (part2 (by omega) (by omega)).2 ⟨h1, Nat.le_refl _⟩, by rw [pick_odd]; exact (h2.cons t).trans hb.symm, by rw [show 2 * a + 1 - (2 * q + 1) = 2 * (a - q) + 0 by omega, pick_even]; exact h3⟩
      · have hr : r.Perm (t :: r.erase t) := List.perm_cons_erase hm
        have h' : (b ++ r.erase t).Perm (pickL ts a) := (List.perm_cons t).1 ((List.perm_middle.symm.trans (hr.append_left b).symm).trans h)
        obtain ⟨q, h1, h2, h3⟩ := pick_part ts a b _ h'
        have hle := h1.le
        exact ⟨2 * q + 0, (part2 (by omega) (by omega)).2 ⟨h1, by omega⟩, by rw [pick_even]; exact h2, by rw [show 2 * a + 1 - (2 * q + 0) = 2 * (a - q) + 1 by omega, pick_odd]; exact (h3.cons t).trans hr.symm⟩

theorem FitAll.pick {room : List Int} {ts : List TaskD} (h : FitAll room ts) (s : Nat) : FitAll room (pickL ts s) := fun t ht => h t (pick_mem ht)
/-- the least number of nodes of a set -/
def leastN (room : List Int) (ts : List TaskD) (s : Nat) : Nat := (leastR room (pickL ts s)).length
theorem leastN_packs {room : List Int} {ts : List TaskD} (h : FitAll room ts) (s : Nat) : Packs room (pickL ts s) (leastN room ts s) := (least_spec (h.pick s)).1.packs
theorem leastN_min {room : List Int} {ts : List TaskD} (h : FitAll room ts) {s m : Nat} (hp : Packs room (pickL ts s) m) : leastN room ts s ≤ m := (least_spec (h.pick s)).2.2.2.1 m hp
theorem leastN_zero {room : List Int} {ts : List TaskD} (h : FitAll room ts) : leastN room ts 0 = 0 := by
  have h1 := (least_spec (h.pick 0)).2.2.1
  rw [pick_zero] at h1
  unfold leastN
  rw [pick_zero]
  simpa using h1
theorem leastN_all {room : List Int} (ts : List TaskD) : leastN room ts (2 ^ ts.length - 1) = (leastR room ts).length := by unfold leastN; rw [pick_all]
theorem leastN_le {room : List Int} {ts : List TaskD} (h : FitAll room ts) (s : Nat) : leastN room ts s ≤ ts.length := by
  have h1 := (least_spec (h.pick s)).2.2.1
  have h2 : ∀ (ts : List TaskD) (s : Nat), (pickL ts s).length ≤ ts.length := fun ts => by
    induction ts with
    | nil => intro s; exact Nat.le_refl _
    | cons t ts ih =>
      intro s
      have := ih (s / 2)
      unfold pickL
      split <;> simp only [List.length_cons] <;> omega
  exact Nat.le_trans h1 (h2 ts s)
/-- while the parts of a set are looked at, the greatest first -/
structure Inn (room : List Int) (ts : List TaskD) (s p v : Nat) : Prop where
  packs : Packs room (pickL ts s) v
  seen : ∀ q, Part q s → p < q → fitsL (loadL (pickL ts q)) room = true → v ≤ leastN room ts (s - q) + 1
def nextV (room : List Int) (ts : List TaskD) (s p v : Nat) : Nat := if leastN room ts (s - p) + 1 < v ∧ fitsL (loadL (pickL ts p)) room = true then leastN room ts (s - p) + 1 else v
theorem Inn.start {room : List Int} {ts : List TaskD} (h : FitAll room ts) {s : Nat} : Inn room ts s s (pickL ts s).length :=
  ⟨alone_packs (h.pick s), fun q hq hl _ => by have := hq.le; omega⟩
theorem nextV_le (room : List Int) (ts : List TaskD) (s p v : Nat) : nextV room ts s p v ≤ v := by unfold nextV; split <;> omega
theorem Inn.step {room : List Int} {ts : List TaskD} (h : FitAll room ts) {s p v : Nat} (hp : Part p s) (hi : Inn room ts s p v) : Inn room ts s ((p - 1) &&& s) (nextV room ts s p v) := by
  refine ⟨?_, fun q hq hl hf => ?_⟩
  · unfold nextV
    split
    · rename_i hc
      obtain ⟨bs, h1, h2, h3⟩ := leastN_packs h (s - p)
      refine ⟨pickL ts p :: bs, ?_, by simpa using h2, fun b hb => ?_⟩
      · rw [List.flatten_cons]
        exact (h1.append_left _).trans (pick_split ts p s hp)
      · rcases List.mem_cons.1 hb with rfl | hb
        · exact hc.2
        · exact h3 b hb
    · exact hi.packs
  · rcases Nat.lt_or_ge p q with h1 | h1
    · exact Nat.le_trans (nextV_le ..) (hi.seen q hq h1 hf)
    · rcases Nat.lt_or_ge q p with h2 | h2
      · have := part_next s p q hp hq h2; omega
      · have e : q = p := by omega
        subst e
        unfold nextV
        split
        · exact Nat.le_refl _
        · rename_i hc
          have : ¬ leastN room ts (s - q) + 1 < v := fun h => hc ⟨h, hf⟩
          omega
theorem Inn.done {room : List Int} {ts : List TaskD} (h : FitAll room ts) {s v : Nat} (hs : 0 < s) (hl : s < 2 ^ ts.length) (hi : Inn room ts s 0 v) : v = leastN room ts s := by
  refine Nat.le_antisymm ?_ (leastN_min h hi.packs)
  obtain ⟨bs, h1, h2, h3⟩ := leastN_packs h s
  obtain ⟨t, _, ht⟩ := pick_step ts.length ts s (Nat.le_refl _) hs hl
  have hm : t ∈ bs.flatten := h1.mem_iff.2 (by rw [ht]; exact List.mem_cons_self ..)
  obtain ⟨b, hb, htb⟩ := List.mem_flatten.1 hm
  obtain ⟨l1, l2, rfl⟩ := List.append_of_mem hb
  have hp : (b ++ (l1 ++ l2).flatten).Perm (pickL ts s) := by
    refine List.Perm.trans ?_ h1
    simp only [List.flatten_append, List.flatten_cons]
    rw [← List.append_assoc, ← List.append_assoc]
    exact (List.perm_append_comm).append_right _
  obtain ⟨q, hq1, hq2, hq3⟩ := pick_part ts s _ _ hp
  have hq0 : 0 < q := by
    rcases Nat.eq_zero_or_pos q with rfl | h0
    · rw [pick_zero] at hq2
      have := hq2.symm.eq_nil
      subst this
      cases htb
    · exact h0
  have h4 := hi.seen q hq1 hq0 (fits_perm hq2 (h3 b hb))
  have h5 : leastN room ts (s - q) ≤ (l1 ++ l2).length := leastN_min h ⟨l1 ++ l2, hq3.symm, Nat.le_refl _, fun c hc => h3 c (by
    rcases List.mem_append.1 hc with hc | hc
    · exact List.mem_append_left _ hc
    · exact List.mem_append_right _ (List.mem_cons_of_mem _ hc))⟩
  simp only [List.length_append, List.length_cons] at h2 h5
  omega

end Go.Proofs.YtllchacophapoaaDoor
