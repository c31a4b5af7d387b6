/- Bounds of the least number of nodes. No program in sight. -/
import Derived.Test.YtllchacophapoaaDoorK38
import Derived.Test.YtllchacophapoaaDoorK41
namespace Go.Proofs.YtllchacophapoaaDoor

/-- nodes that a dimension needs -/
def needN (room load : List Int) (i : Nat) : Int := (load.getD i 0 + room.getD i 0 - 1) / room.getD i 0
def boundTo (room load : List Int) : Nat → Int
  | 0 => 0
  | k + 1 => max (boundTo room load k) (needN room load k)
def boundSumR (room : List Int) (ts : List TaskD) : Int := boundTo room (loadL ts) 3
theorem packs_load {room : List Int} : ∀ {bs : List (List TaskD)}, (∀ b ∈ bs, fitsL (loadL b) room = true) → ∀ i, i < 3 → (loadL bs.flatten).getD i 0 ≤ (bs.length : Int) * room.getD i 0
  | [], _, i, hi => by rw [List.flatten_nil, loadL_getD [] i hi]; simp
  | b :: bs, h, i, hi => by
    have ih := packs_load (bs := bs) (fun c hc => h c (List.mem_cons_of_mem _ hc)) i hi
    have h1 := fitsL_at (h b (List.mem_cons_self ..)) hi
    rw [loadL_getD b i hi] at h1
    rw [loadL_getD _ i hi] at ih
    rw [loadL_getD _ i hi, List.flatten_cons, List.map_append, List.sum_append, List.length_cons]
    have : ((bs.length + 1 : Nat) : Int) * room.getD i 0 = (bs.length : Int) * room.getD i 0 + room.getD i 0 := by rw [Int.natCast_add, Int.add_mul]; simp
    rw [this]
    omega
theorem bound_sum {room : List Int} {ts : List TaskD} {m : Nat} (hr : ∀ i, i < 3 → 1 ≤ room.getD i 0) (hp : Packs room ts m) : boundSumR room ts ≤ (m : Int) := by
  obtain ⟨bs, h1, h2, h3⟩ := hp
  have key : ∀ i, i < 3 → needN room (loadL ts) i ≤ (m : Int) := fun i hi => by
    have h4 := packs_load h3 i hi
    rw [loadL_getD _ i hi, sum_perm (h1.map _), ← loadL_getD ts i hi] at h4
    have h5 := hr i hi
    unfold needN
    have h6 : (bs.length : Int) * room.getD i 0 ≤ (m : Int) * room.getD i 0 := Int.mul_le_mul_of_nonneg_right (by omega) (by omega)
    have h7 : (loadL ts).getD i 0 + room.getD i 0 - 1 < ((m : Int) + 1) * room.getD i 0 := by rw [Int.add_mul]; omega
    have h8 := Int.ediv_lt_of_lt_mul (by omega : 0 < room.getD i 0) h7
    omega
  have all : ∀ k, k ≤ 3 → boundTo room (loadL ts) k ≤ (m : Int) := fun k => by
    induction k with
    | zero => intro _; exact Int.natCast_nonneg m
    | succ k ih => intro hk; exact Int.max_le.2 ⟨ih (by omega), key k (by omega)⟩
  exact all 3 (Nat.le_refl _)
/-- two tasks do not fit together -/
def clashB (room : List Int) (a b : TaskD) : Bool := !fitsL (addL a.need b.need 1) room
def takeB (room : List Int) (tk : List TaskD) (x : TaskD) : List TaskD := if tk.all (fun y => clashB room x y) then tk ++ [x] else tk
def apartR (room : List Int) (ts : List TaskD) : List TaskD := ts.foldl (takeB room) []
theorem apart_take {room : List Int} {ts : List TaskD} {k : Nat} {x : TaskD} (h : ts[k]? = some x) : apartR room (ts.take (k + 1)) = takeB room (apartR room (ts.take k)) x := by
  unfold apartR
  rw [take_snoc h, List.foldl_append]
  rfl
theorem clash_comm (room : List Int) (a b : TaskD) : clashB room a b = clashB room b a := by
  unfold clashB
  congr 1
  rw [Bool.eq_iff_iff]
  constructor <;> intro h <;> refine fitsL_of fun i hi => ?_ <;> have h1 := fitsL_at h hi <;> rw [addTo_getD _ _ _ i hi] at h1 ⊢ <;> omega
theorem apart_spec {room : List Int} : ∀ (n : Nat) (ts : List TaskD), ts.length = n → (apartR room ts).Sublist ts ∧ (apartR room ts).Pairwise (fun a b => clashB room a b = true)
  | 0, ts, h => by
    have : ts = [] := List.eq_nil_of_length_eq_zero h
    subst this
    exact ⟨List.Sublist.refl _, List.Pairwise.nil⟩
  | n + 1, ts, h => by
    have hl : ts = ts.take n ++ [ts[n]'(by omega)] := by
      have := take_snoc (List.getElem?_eq_getElem (by omega : n < ts.length))
      rw [← this, List.take_of_length_le (by omega)]
    obtain ⟨h1, h2⟩ := apart_spec (room := room) n (ts.take n) (by rw [List.length_take]; omega)
    have e : apartR room ts = takeB room (apartR room (ts.take n)) (ts[n]'(by omega)) := by
      conv => lhs; rw [hl]
      unfold apartR
      rw [List.foldl_append]
      rfl
    rw [e]
    unfold takeB
    split
    · rename_i hc
      rw [List.all_eq_true] at hc
      refine ⟨?_, List.pairwise_append.2 ⟨h2, List.pairwise_singleton _ _, fun a ha b hb => ?_⟩⟩
      · conv => rhs; rw [hl]
        exact h1.append (List.Sublist.refl _)
      · rw [List.mem_singleton.1 hb, clash_comm]
        exact hc a ha
    · refine ⟨?_, h2⟩
      conv => rhs; rw [hl]
      exact h1.trans (List.sublist_append_left _ _)
theorem len_split {α : Type} : ∀ (l : List α) (p : α → Bool), l.length = (l.filter p).length + (l.filter (fun t => !p t)).length
  | [], _ => rfl
  | x :: l, p => by
    have ih := len_split l p
    cases hx : p x <;> simp [hx] <;> omega
theorem apart_bins {room : List Int} : ∀ (bs : List (List TaskD)) (tk : List TaskD), (∀ b ∈ bs, fitsL (loadL b) room = true) → (∀ b ∈ bs, Pos b) → tk.Nodup → (∀ t ∈ tk, t ∈ bs.flatten) → tk.Pairwise (fun a b => clashB room a b = true) → tk.length ≤ bs.length
  | [], tk, _, _, _, hm, _ => by
    cases tk with
    | nil => exact Nat.le_refl _
    | cons t tk => have := hm t (List.mem_cons_self ..); simp at this
  | b :: bs, tk, hf, hp, hn, hm, hc => by
    have h1 : (tk.filter (fun t => !decide (t ∈ b))).length ≤ bs.length := by
      refine apart_bins bs _ (fun c hc => hf c (List.mem_cons_of_mem _ hc)) (fun c hc => hp c (List.mem_cons_of_mem _ hc)) (hn.filter _) (fun t ht => ?_) (hc.filter _)
      obtain ⟨h2, h3⟩ := List.mem_filter.1 ht
      have h4 := hm t h2
      rw [List.flatten_cons] at h4
      rcases List.mem_append.1 h4 with h4 | h4
      · simp [h4] at h3
      · exact h4
    have h2 : (tk.filter (fun t => decide (t ∈ b))).length ≤ 1 := by
      have hn2 := hn.filter (fun t => decide (t ∈ b))
      have hc2 := hc.filter (fun t => decide (t ∈ b))
      cases hq : tk.filter (fun t => decide (t ∈ b)) with
      | nil => simp
      | cons x q =>
        cases q with
        | nil => simp
        | cons y q =>
          exfalso
          rw [hq] at hn2 hc2
          have hxm : x ∈ b := by have : x ∈ tk.filter (fun t => decide (t ∈ b)) := by rw [hq]; simp
                                 simpa using (List.mem_filter.1 this).2
          have hym : y ∈ b := by have : y ∈ tk.filter (fun t => decide (t ∈ b)) := by rw [hq]; simp
                                 simpa using (List.mem_filter.1 this).2
          have hne : x ≠ y := fun e => by rw [e] at hn2; simp at hn2
          have hcl : clashB room x y = true := (List.pairwise_cons.1 hc2).1 y (List.mem_cons_self ..)
          have p1 := List.perm_cons_erase hxm
          have hy2 : y ∈ b.erase x := (List.mem_erase_of_ne (Ne.symm hne)).2 hym
          have p2 := List.perm_cons_erase hy2
          have p3 : b.Perm (x :: y :: (b.erase x).erase y) := p1.trans (p2.cons x)
          have hb := hf b (List.mem_cons_self ..)
          have hpb := hp b (List.mem_cons_self ..)
          have f1 : fitsL (loadL (x :: y :: (b.erase x).erase y)) room = true := fits_perm p3.symm hb
          have f2 : fitsL (loadL [x, y]) room = true := fits_sub (b := x :: y :: (b.erase x).erase y) (by simp) (fun t ht => hpb t (p3.mem_iff.2 ht)) f1
          have f3 : fitsL (addL x.need y.need 1) room = true := fitsL_of fun i hi => by
            have h5 := fitsL_at f2 hi
            rw [loadL_getD _ i hi] at h5
            rw [addTo_getD _ _ _ i hi]
            simp only [List.map_cons, List.map_nil, List.sum_cons, List.sum_nil] at h5
            omega
          unfold clashB at hcl
          rw [f3] at hcl
          cases hcl
    have h3 : tk.length = (tk.filter (fun t => decide (t ∈ b))).length + (tk.filter (fun t => !decide (t ∈ b))).length := by
      exact len_split tk (fun t => decide (t ∈ b))
    rw [List.length_cons]
    omega
theorem bound_apart {room : List Int} {ts : List TaskD} {m : Nat} (hn : ts.Nodup) (hpos : Pos ts) (hp : Packs room ts m) : (apartR room ts).length ≤ m := by
  obtain ⟨bs, h1, h2, h3⟩ := hp
  obtain ⟨h4, h5⟩ := apart_spec (room := room) ts.length ts rfl
  exact Nat.le_trans (apart_bins bs _ h3 (fun b hb t ht => hpos t (h1.mem_iff.1 (List.mem_flatten.2 ⟨b, hb, ht⟩))) (h4.nodup hn) (fun t ht => h1.mem_iff.2 (h4.subset ht)) h5) h2
theorem packs_of {room : List Int} {ts : List TaskD} {bs : List (List TaskD)} (hp : bs.flatten.Perm ts) (hok : binsOk room bs = true) : Packs room ts bs.length := ⟨bs, hp, Nat.le_refl _, fun _ hb => binsOk_fits hok hb⟩
theorem Packs.perm {room : List Int} {a b : List TaskD} {m : Nat} (h : Packs room a m) (hp : a.Perm b) : Packs room b m := let ⟨bs, h1, h2⟩ := h; ⟨bs, h1.trans hp, h2⟩
theorem fewer_packs {room : List Int} {ts : List TaskD} {a b : List (List TaskD)} (ha : Packs room ts a.length) (hb : Packs room ts b.length) : Packs room ts (fewer a b).length := by
  unfold fewer
  split
  · exact hb
  · exact ha
theorem fewest_packs {room : List Int} {ts : List TaskD} (h : tasksOk room ts = true) : Packs room ts (fewestN room ts).length := by
  have one : ∀ {f : List (List TaskD) → TaskD → Int} (_ : Chooses room f) (us : List TaskD), tasksOk room us = true → us.Perm ts → Packs room ts (allBy f us).length := fun hc us hu hp => (packs_of (allBy_perm hc us.length us rfl).1 (allBy_ok hc hu)).perm hp
  obtain ⟨e1, e2⟩ := sortN_ok h
  have hs := sortT_perm ts
  have f1 : firstAllN room ts = allBy (fun bs x => firstAt room bs x) ts := by unfold firstAllN; rw [h]; rfl
  have f2 : bestAllN room ts = allBy (fun bs x => bestAt room bs x) ts := by unfold bestAllN; rw [h]; rfl
  have f3 : downAllN room ts = allBy (fun bs x => firstAt room bs x) (sortT ts) := by unfold downAllN firstAllN; rw [e1, e2]; rfl
  have f4 : downBestN room ts = allBy (fun bs x => bestAt room bs x) (sortT ts) := by unfold downBestN bestAllN; rw [e1, e2]; rfl
  unfold fewestN
  rw [f1, f2, f3, f4]
  exact fewer_packs (fewer_packs (fewer_packs (one (chooses_first room) ts h (List.Perm.refl _)) (one (chooses_best room) ts h (List.Perm.refl _))) (one (chooses_first room) _ e2 hs)) (one (chooses_best room) _ e2 hs)
theorem roomOk_one {room : List Int} (h : roomOk room = true) : ∀ i, i < 3 → 1 ≤ room.getD i 0 := fun i hi => by
  have hl := vecOk_len (roomOk_vec h)
  have hlt : i < room.length := by omega
  simp only [roomOk, Bool.and_eq_true, List.all_eq_true, decide_eq_true_eq] at h
  rw [List.getD_eq_getElem?_getD, List.getElem?_eq_getElem hlt]
  exact h.1 _ (List.getElem_mem hlt)
theorem tasks_nodup {room : List Int} {ts : List TaskD} (h : tasksOk room ts = true) : ts.Nodup := List.Pairwise.of_map (fun x : TaskD => x.id) (fun _ _ hne e => hne (by rw [e])) ((tasksOk_iff _ _).1 h).2.2.2
/-- the law's bounds -/
theorem least_bounds {room : List Int} {ts : List TaskD} (h : tasksOk room ts = true) : boundSumR room ts ≤ ((leastR room ts).length : Int) ∧ (apartR room ts).length ≤ (leastR room ts).length ∧ (leastR room ts).length ≤ (fewestN room ts).length := by
  have hf := fit_of_ok h
  have hsp := least_spec hf
  have hp := hsp.1.packs
  refine ⟨bound_sum (fun i hi => ?_) hp, bound_apart ?_ hf.pos hp, hsp.2.2.2.1 _ (fewest_packs h)⟩
  · exact roomOk_one (tasksOk_room h) i hi
  · exact tasks_nodup h

end Go.Proofs.YtllchacophapoaaDoor

/- The program's bounds. -/
namespace Go.Proofs.YtllchacophapoaaDoor
open Go.RowKit
set_option maxRecDepth 4000

theorem iBoundF (b i : Nat) (n x : Int) (Ar : Option Addr) (cr : Nat) (room : List Int) (w : World) (hR : RI w (.slice Ar room.length cr) room) (hb : w.cell? ⟨b, 0, none⟩ = some (.slice Ar room.length cr)) (hi : room[i]? = some x) (hx : 1 ≤ x ∧ x ≤ 1000) (hn : 0 ≤ n ∧ n ≤ 10000000) :
    Calls Tryd.prog 77 #[.int .i64 (i : Int), .int .i64 n, .pointer (some ⟨b, 0, none⟩)] w (RetN w ((n + x - 1) / x)) := by
  obtain ⟨A', c', hv, _, _, hg⟩ := RI.get hR
  injection hv with e1 e2 e3
  subst e1
  clear e2 e3
  have hlt := (List.getElem?_eq_some_iff.1 hi).1
  obtain ⟨b1, o, y, rfl, ey, c0⟩ := hg i hlt
  have hy := ey.out
  rw [hi] at hy
  injection hy with hy
  subst hy
  have i1 : (i : Int) < (room.length : Int) := by omega
  have i0 : (0 : Int) ≤ (i : Int) := by omega
  have HK : Hid (∀ w', Ext w w' → w'.cell? ⟨b, 0, none⟩ = some (.slice (some ⟨b1, o, none⟩) room.length cr) ∧ w'.cell? ⟨b1, o + i, none⟩ = some (.int .i64 x)) := hid fun w' hw => ⟨hw.cell hb, hw.cell c0⟩
  have HDr : Hid (Ext w w.drew) := hid (Below.drew (Below.refl _ _))
  have hw1 : IntKind.i64.wrap (n + x) = n + x := by rw [IntWalk.i64_in _ (by omega)]
  have hw2 : IntKind.i64.wrap (n + x - 1) = n + x - 1 := by rw [IntWalk.i64_in _ (by omega)]
  have hz : ¬ x = 0 := by omega
  have hdv : IntKind.i64.wrap ((n + x - 1).tdiv x) = (n + x - 1) / x := by
    rw [Int.tdiv_eq_ediv_of_nonneg (by omega)]
    have h1 : 0 ≤ (n + x - 1) / x := Int.ediv_nonneg (by omega) (by omega)
    have h2 : (n + x - 1) / x ≤ n + x - 1 := Int.ediv_le_self _ (by omega)
    rw [IntWalk.i64_in _ (by omega)]
  clear hR hb hi hg c0 ey
  go_enter Tryd.func77, Tryd.ntmps77
  go_wp2
  refine WG.start (fun w' => w'.cell? ⟨b, 0, none⟩ = some (.slice (some ⟨b1, o, none⟩) room.length cr) ∧ w'.cell? ⟨b1, o + i, none⟩ = some (.int .i64 x)) [] (by kernel_rfl) (by exact HK.out _ HDr.out) (fun hHeld => ?_)
  (refine WG.take (i := 0) (v := ?_) rfl (by kernel_rfl) (by kernel_rfl) (by kernel_rfl) (by kernel_rfl) (fun _ _ _ h => h) (Or.inl ⟨by rfl, ?_⟩) (by assumption) ?_; rotate_left; (intro w hSw; (try dsimp only at hSw); go_split_ands; go_simp; (try with_reducible rfl)); (try simp only [Act.put, List.setIfInBounds_toArray, List.set_cons_zero, List.set_cons_succ]))
  (refine WG.take (i := 1) (v := ?_) rfl (by kernel_rfl) (by kernel_rfl) (by kernel_rfl) (by kernel_rfl) (fun _ _ _ h => h) (Or.inl ⟨by rfl, ?_⟩) (by assumption) ?_; rotate_left; (intro w hSw; (try dsimp only at hSw); go_split_ands; go_simp; (try with_reducible rfl)); (try simp only [Act.put, List.setIfInBounds_toArray, List.set_cons_zero, List.set_cons_succ]))
  (refine WG.take (i := 2) (v := ?_) rfl (by kernel_rfl) (by kernel_rfl) (by kernel_rfl) (by kernel_rfl) (fun _ _ _ h => h) (Or.inl ⟨by rfl, ?_⟩) (by assumption) ?_; rotate_left; (intro w hSw; (try dsimp only at hSw); go_split_ands; go_simp; (try with_reducible rfl)); (try simp only [Act.put, List.setIfInBounds_toArray, List.set_cons_zero, List.set_cons_succ]))
  (refine WG.take (i := 3) (v := ?_) rfl (by kernel_rfl) (by kernel_rfl) (by kernel_rfl) (by kernel_rfl) (fun _ _ _ h => h) (Or.inl ⟨by rfl, ?_⟩) (by assumption) ?_; rotate_left; (intro w hSw; (try dsimp only at hSw); go_split_ands; go_simp; (try with_reducible rfl)); (try simp only [Act.put, List.setIfInBounds_toArray, List.set_cons_zero, List.set_cons_succ]))
  (refine WG.take (i := 4) (v := ?_) rfl (by kernel_rfl) (by kernel_rfl) (by kernel_rfl) (by kernel_rfl) (fun _ _ _ h => h) (Or.inl ⟨by rfl, ?_⟩) (by assumption) ?_; rotate_left; (intro w hSw; (try dsimp only at hSw); go_split_ands; go_simp; (try with_reducible rfl)); (try simp only [Act.put, List.setIfInBounds_toArray, List.set_cons_zero, List.set_cons_succ]))
  (refine WG.take (i := 5) (v := ?_) rfl (by kernel_rfl) (by kernel_rfl) (by kernel_rfl) (by kernel_rfl) (fun _ _ _ h => h) (Or.inl ⟨by rfl, ?_⟩) (by assumption) ?_; rotate_left; (intro w hSw; (try dsimp only at hSw); go_split_ands; go_simp; (try with_reducible rfl)); (try simp only [Act.put, List.setIfInBounds_toArray, List.set_cons_zero, List.set_cons_succ]))
  (refine WG.take (i := 6) (v := ?_) rfl (by kernel_rfl) (by kernel_rfl) (by kernel_rfl) (by kernel_rfl) (fun _ _ _ h => h) (Or.inl ⟨by rfl, ?_⟩) (by assumption) ?_; rotate_left; (intro w hSw; (try dsimp only at hSw); go_split_ands; go_simp; (try with_reducible rfl)); (try simp only [Act.put, List.setIfInBounds_toArray, List.set_cons_zero, List.set_cons_succ]))
  (refine WG.take (i := 7) (v := ?_) rfl (by kernel_rfl) (by kernel_rfl) (by kernel_rfl) (by kernel_rfl) (fun _ _ _ h => h) (Or.inl ⟨by rfl, ?_⟩) (by assumption) ?_; rotate_left; (intro w hSw; (try dsimp only at hSw); go_split_ands; go_simp; (try with_reducible rfl)); (try simp only [Act.put, List.setIfInBounds_toArray, List.set_cons_zero, List.set_cons_succ]))
  (refine WG.take (i := 8) (v := ?_) rfl (by kernel_rfl) (by kernel_rfl) (by kernel_rfl) (by kernel_rfl) (fun _ _ _ h => h) (Or.inl ⟨by rfl, ?_⟩) (by assumption) ?_; rotate_left; (intro w hSw; (try dsimp only at hSw); go_split_ands; go_simp; (try with_reducible rfl)); (try simp only [Act.put, List.setIfInBounds_toArray, List.set_cons_zero, List.set_cons_succ]))
  (refine WG.take (i := 9) (v := ?_) rfl (by kernel_rfl) (by kernel_rfl) (by kernel_rfl) (by kernel_rfl) (fun _ _ _ h => h) (Or.inl ⟨by rfl, ?_⟩) (by assumption) ?_; rotate_left; (intro w hSw; (try dsimp only at hSw); go_split_ands; go_simp; (try with_reducible rfl)); (try simp only [Act.put, List.setIfInBounds_toArray, List.set_cons_zero, List.set_cons_succ]))
  (refine WG.take (i := 10) (v := ?_) rfl (by kernel_rfl) (by kernel_rfl) (by kernel_rfl) (by kernel_rfl) (fun _ _ _ h => h) (Or.inl ⟨by rfl, ?_⟩) (by assumption) ?_; rotate_left; (intro w hSw; (try dsimp only at hSw); go_split_ands; go_simp; (try with_reducible rfl)); (try simp only [Act.put, List.setIfInBounds_toArray, List.set_cons_zero, List.set_cons_succ]))
  (refine WG.take (i := 11) (v := ?_) rfl (by kernel_rfl) (by kernel_rfl) (by kernel_rfl) (by kernel_rfl) (fun _ _ _ h => h) (Or.inl ⟨by rfl, ?_⟩) (by assumption) ?_; rotate_left; (intro w hSw; (try dsimp only at hSw); go_split_ands; go_simp; (try with_reducible rfl)); (try simp only [Act.put, List.setIfInBounds_toArray, List.set_cons_zero, List.set_cons_succ]))
  (refine WG.take (i := 12) (v := ?_) rfl (by kernel_rfl) (by kernel_rfl) (by kernel_rfl) (by kernel_rfl) (fun _ _ _ h => h) (Or.inl ⟨by rfl, ?_⟩) (by assumption) ?_; rotate_left; (intro w hSw; (try dsimp only at hSw); go_split_ands; go_simp; (try with_reducible rfl)); (try simp only [Act.put, List.setIfInBounds_toArray, List.set_cons_zero, List.set_cons_succ]))
  refine WG.done (by kernel_rfl) ?_
  go_wp2
  go_ret
  exact ⟨rfl, HDr.out⟩

set_option maxHeartbeats 2000000 in
theorem iClash (rv : Value) (room : List Int) (a c : TaskD) (Aa Ac : Option Addr) (ca cc : Nat) (w : World) (hR : RI w rv room) (ha : RI w (.slice Aa a.need.length ca) a.need) (hc : RI w (.slice Ac c.need.length cc) c.need) (hlr : room.length = 3) (hga : a.need.length = 3 ∧ Bd 1000 a.need) (hgc : c.need.length = 3 ∧ Bd 1000 c.need) :
    Calls Tryd.prog 78 #[rv, .agg #[.int .i64 a.id, .slice Aa a.need.length ca], .agg #[.int .i64 c.id, .slice Ac c.need.length cc]] w (RetB w (clashB room a c)) := by
  have HR := hid hR
  have HA := hid ha
  have HC := hid hc
  obtain ⟨Ar, cr, rfl, _⟩ := hR
  have hx := (Ext.alloc w (.cells #[.int .i64 a.id, .slice Aa a.need.length ca] 44)).trans (Ext.alloc (w.alloc (.cells #[.int .i64 a.id, .slice Aa a.need.length ca] 44)) (.cells #[.int .i64 c.id, .slice Ac c.need.length cc] 44))
  have HX := hid hx
  have HGA := hid hga
  have HLR := hid hlr
  have HGC := hid hgc
  have HBA : Hid (Bd 1000000 a.need) := hid (hga.2.mono (by omega))
  have HBC : Hid (Bd 1000000 c.need) := hid (hgc.2.mono (by omega))
  clear ha hc hx hga hgc hlr
  go_enter Tryd.func78, Tryd.ntmps78
  go_wp2_with (first
    | (go_at_call 63; refine (iPlus _ _ a.need c.need _ (RI.ext HA.out HX.out) (RI.ext HC.out HX.out) HGA.out.1 HGC.out.1 HBA.out HBC.out).mono ?_; rintro e w1 ⟨v1, rfl, hO1, hE1⟩; have HO1 := hid (Own.read hO1); have HE1 := hid (HX.out.trans hE1); clear hO1 hE1)
    | (go_at_call 51; refine (iFits _ _ (addL a.need c.need 1) room _ HO1.out (RI.ext HR.out HE1.out) (addL_len _ _ _) HLR.out).mono ?_; rintro e w2 ⟨rfl, n2, hw2⟩; have HE2 : Hid (Ext w w2) := hid (by rw [hw2]; exact HE1.out.trans (Ext.drewN _ _)); clear hw2))
  go_ret
  exact ⟨rfl, HE2.out⟩
theorem max_if (z q : Int) : max z q = if z < q then q else z := by
  rw [Int.max_def]
  split <;> split <;> omega
theorem room_bd {room : List Int} (h : roomOk room = true) : ∀ x ∈ room, 1 ≤ x ∧ x ≤ 1000 := fun x hx => by
  have h1 := vecOk_mem (roomOk_vec h) x hx
  simp only [roomOk, Bool.and_eq_true, List.all_eq_true, decide_eq_true_eq] at h
  have := h.1 x hx
  omega
theorem boundTo_nn {room load : List Int} (h : ∀ k, k < 3 → 0 ≤ needN room load k ∧ needN room load k ≤ 20000000) : ∀ k, k ≤ 3 → 0 ≤ boundTo room load k ∧ boundTo room load k ≤ 20000000
  | 0, _ => ⟨Int.le_refl _, by simp [boundTo]⟩
  | k + 1, hk => by
    have h1 := boundTo_nn h k (by omega)
    have h2 := h k (by omega)
    unfold boundTo
    omega
set_option maxHeartbeats 2000000 in
theorem iGreatest (b : Nat) (lv : Value) (load room : List Int) (Ar : Option Addr) (cr : Nat) (w : World) (hl : RI w lv load) (hR : RI w (.slice Ar room.length cr) room) (hb : w.cell? ⟨b, 0, none⟩ = some (.slice Ar room.length cr)) (h3 : load.length = 3) (hr3 : room.length = 3) (hr : ∀ x ∈ room, 1 ≤ x ∧ x ≤ 1000) (hn : ∀ x ∈ load, 0 ≤ x ∧ x ≤ 10000000) :
    Calls Tryd.prog 76 #[lv, .func (.func 77) #[] #[.pointer (some ⟨b, 0, none⟩)]] w (RetN w (boundTo room load 3)) := by
  have HR := hid hR
  have HB := hid hb
  have H3 := hid h3
  have HR3 := hid hr3
  have HRB := hid hr
  have HNB := hid hn
  obtain ⟨A, c, rfl, _, _, hg⟩ := RI.get hl
  have HG := hid hg
  clear hl hR hb hg h3 hr3 hr hn
  go_enter Tryd.func76, Tryd.ntmps76
  go_wp2
  go_loopw [5, 10] (fun m i wr => ∃ k : Nat, k ≤ load.length ∧ i = .int .i64 k ∧ m = .int .i64 (boundTo room load k) ∧ Hid (Ext w wr)) (fun _ i _ => load.length - (intOf i).toNat)
  case atStart => exact ⟨0, Nat.zero_le _, rfl, rfl, hid (Ext.refl _)⟩
  case round =>
    obtain ⟨k, hk, rfl, rfl, HE⟩ := hrel
    by_cases hlt : k < load.length
    · obtain ⟨b1, o, n, rfl, en, c0⟩ := HG.out k hlt
      have i1 : (k : Int) < (load.length : Int) := by omega
      have i0 : (0 : Int) ≤ (k : Int) := by omega
      have c0r := HE.out.cell c0
      have hkr : k < room.length := by have := HR3.out; have := H3.out; omega
      obtain ⟨x, hx⟩ : ∃ x, room[k]? = some x := ⟨_, List.getElem?_eq_getElem hkr⟩
      have HX := hid hx
      have HXB := hid (HRB.out x (List.mem_of_getElem? hx))
      have HNN := hid (HNB.out n (List.mem_of_getElem? en.out))
      have HST : Hid (boundTo room load (k + 1) = max (boundTo room load k) ((n + x - 1) / x)) := hid (by
        have e1 : room.getD k 0 = x := by rw [List.getD_eq_getElem?_getD, hx]; rfl
        have e2 : load.getD k 0 = n := by rw [List.getD_eq_getElem?_getD, en.out]; rfl
        show max (boundTo room load k) (needN room load k) = _
        unfold needN
        rw [e1, e2])
      obtain ⟨q, hq⟩ : ∃ q, q = (n + x - 1) / x := ⟨_, rfl⟩
      have HQ := hid hq
      obtain ⟨z, hz⟩ : ∃ z, z = boundTo room load k := ⟨_, rfl⟩
      rw [← hz, ← hq] at HST
      rw [← hz]
      clear hx hkr c0 hq hz
      go_wp2_with (go_at_call 77; refine (iBoundF b k n x Ar cr room _ (RI.ext HR.out HE.out) (HE.out.cell HB.out) HX.out HXB.out HNN.out).mono ?_; rw [← HQ.out]; rintro e w1 ⟨rfl, hE1⟩; have HE1 := hid (HE.out.trans hE1); clear hE1)
      go_roundw
      case rel => exact ⟨k + 1, by omega, by go_num, by rw [HST.out, max_if], hid HE1.out⟩
      case measure => simp [intOf]; omega
    · have hk' : k = load.length := by omega
      subst hk'
      go_wp2
      go_ret
      rw [H3.out]
      exact ⟨rfl, HE.out⟩
set_option maxHeartbeats 2000000 in
theorem iBoundSum (rv tv : Value) (room : List Int) (ts : List TaskD) (w : World) (hR : RI w rv room) (h : RT w tv ts) (hids : ∀ t ∈ ts, IdR t.id) (hok : tasksOk room ts = true) :
    Calls Tryd.prog 52 #[rv, tv] w (RetN w (boundSumR room ts)) := by
  have HID := hid hids
  have HR0 := hR
  have HT0 := h
  obtain ⟨Ar, cr, rfl, _⟩ := hR
  obtain ⟨At, ct, rfl, _⟩ := RT.get h
  have hx := Ext.alloc w (.cells #[.slice Ar room.length cr] 22)
  have HX := hid hx
  have HR := hid (RI.ext HR0 hx)
  have HT := hid (RT.ext HT0 hx)
  have hbx : (w.alloc (.cells #[.slice Ar room.length cr] 22)).cell? ⟨w.heap.size, 0, none⟩ = some (.slice Ar room.length cr) := cell_new _ _ _ 0
  have HBX := hid hbx
  have HGT := hid (tasksOk_good hok)
  have HRV := hid (roomOk_vec (tasksOk_room hok))
  have HRO := hid (tasksOk_room hok)
  have HLN : Hid (∀ x ∈ loadL ts, 0 ≤ x ∧ x ≤ 10000000) := hid (fun x hx' => by
    have h1 := load_bd (tasksOk_good hok) x hx'
    have h2 : 0 ≤ x := by
      obtain ⟨i, hi⟩ := List.getElem?_of_mem hx'
      have hi3 : i < 3 := by have := (List.getElem?_eq_some_iff.1 hi).1; rw [loadL_len] at this; exact this
      have h3 : (loadL ts).getD i 0 = x := by rw [List.getD_eq_getElem?_getD, hi]; rfl
      rw [← h3]
      have h4 := load_sub (List.nil_sublist ts) (fun t ht => (fit_of_ok hok).pos t ht) i hi3
      rw [loadL_getD [] i hi3] at h4
      simpa using h4
    omega)
  clear h hids hx HR0 HT0
  go_enter Tryd.func52, Tryd.ntmps52
  go_wp2_with (first
    | (go_at_call 49; refine (iTasksValid _ _ room ts _ HR.out HT.out HID.out).mono ?_; rw [hok]; rintro e w1 ⟨rfl, hE1⟩; have HE1 := hid hE1; clear hE1)
    | (go_at_call 50; refine (iLoad _ ts _ (RT.ext HT.out HE1.out) HGT.out).mono ?_; rintro e w2 ⟨v2, rfl, hO2, hE2⟩; have HO2 := hid (Own.read hO2); have HE2 := hid (HE1.out.trans hE2); clear hO2 hE2)
    | (go_at_call 76; refine (iGreatest w.heap.size _ (loadL ts) room Ar cr _ HO2.out (RI.ext HR.out HE2.out) (HE2.out.cell HBX.out) (loadL_len _) (vecOk_len HRV.out) (fun x hx => room_bd HRO.out x hx) HLN.out).mono ?_; rintro e w3 ⟨rfl, hE3⟩; have HE3 := hid (HX.out.trans (HE2.out.trans hE3)); clear hE3))
  go_ret
  exact ⟨rfl, HE3.out⟩

end Go.Proofs.YtllchacophapoaaDoor

/- The program's BoundApart and BoundBest. -/
namespace Go.Proofs.YtllchacophapoaaDoor
open Go.RowKit
set_option maxRecDepth 4000

set_option maxHeartbeats 4000000 in
theorem iBoundApart (rv tv : Value) (room : List Int) (ts : List TaskD) (w : World) (hR : RI w rv room) (h : RT w tv ts) (hids : ∀ t ∈ ts, IdR t.id) (hok : tasksOk room ts = true) :
    Calls Tryd.prog 53 #[rv, tv] w (RetN w ((apartR room ts).length : Int)) := by
  have HR := hid hR
  have HT := hid h
  have HID := hid hids
  have HGT := hid (tasksOk_good hok)
  have HLR := hid (vecOk_len (roomOk_vec (tasksOk_room hok)))
  have HOK := hid hok
  have HL14 := hid (tasksOk_len hok)
  obtain ⟨Ar, cr, rfl, _⟩ := hR
  obtain ⟨At, ct, rfl, _, _, hg⟩ := RT.get h
  have HG := hid hg
  have HAL : Hid (∀ k, (apartR room (ts.take k)).length ≤ 14 ∧ ∀ t ∈ apartR room (ts.take k), t ∈ ts) := hid (fun k => by
    have h1 := (apart_spec (room := room) _ (ts.take k) rfl).1
    exact ⟨Nat.le_trans h1.length_le (by rw [List.length_take]; have := tasksOk_len hok; omega), fun t ht => List.mem_of_mem_take (h1.subset ht)⟩)
  clear h hids hg hok
  obtain ⟨i0_task, hi0_task, hz0_task, hz1_task, hz2_task⟩ := info_parts info_task
  go_enter Tryd.func53, Tryd.ntmps53
  go_wp2
  go_step3
  go_wp2_with (go_at_call 49; refine (iTasksValid _ _ room ts _ HR.out HT.out HID.out).mono ?_; rw [HOK.out]; rintro e w1 ⟨rfl, hE1⟩; have HE1 := hid hE1; obtain ⟨W, hW⟩ : ∃ W, W = w1.alloc (.cells #[] 44) := ⟨_, rfl⟩; have HW := hid hW; clear hE1 hW)
  go_step3
  go_wp2
  rw [← HW.out]
  have HEW : Hid (Ext w W) := hid (by rw [HW.out]; exact HE1.out.trans (Ext.alloc _ _))
  have HO0 : Hid (OT W w.heap.size (.slice (some ⟨w1.heap.size, 0, none⟩) 0 0) []) := hid (by rw [HW.out]; exact Own.made #[] 0 HE1.out.size (by omega) rfl)
  go_loopw [5, 17] (fun o i wr => ∃ (u : Value) (k : Nat), u = o ∧ k ≤ ts.length ∧ i = .int .i64 k ∧ Hid (OT wr w.heap.size u (apartR room (ts.take k)) ∧ Ext w wr)) (fun _ i _ => ts.length - (intOf i).toNat)
  case atStart => exact ⟨_, 0, rfl, Nat.zero_le _, rfl, hid ⟨HO0.out, HEW.out⟩⟩
  case round =>
    obtain ⟨u, k, rfl, hk, rfl, H⟩ := hrel
    by_cases hlt : k < ts.length
    · obtain ⟨b, o, x, An, cn, rfl, e, c0, c1, hnx⟩ := HG.out k hlt
      have i1 : (k : Int) < (ts.length : Int) := by omega
      have i0 : (0 : Int) ≤ (k : Int) := by omega
      have HE := hid H.out.2
      have c0r := HE.out.cell c0
      have c1r := HE.out.cell c1
      have HNX := hid hnx
      have HXG := hid (HGT.out.2 x (List.mem_of_getElem? e.out))
      have HST := hid (apart_take (room := room) e.out)
      obtain ⟨tk, htk⟩ : ∃ tk, tk = apartR room (ts.take k) := ⟨_, rfl⟩
      have hal := HAL.out k
      have HO := hid H.out.1
      rw [← htk] at HO HST hal
      have HAK := hid hal
      obtain ⟨Au, cu, hu, _⟩ := Own.form HO.out
      subst hu
      obtain ⟨xi, xn⟩ := x
      obtain ⟨y0, y1, y0f, y1f, k1, k1f, hkk, _⟩ := box2 (heap_alloc_new wr (.cells #[.int .i64 0, .slice none 0 0] 44)) (.int .i64 xi) (.slice An xn.length cn)
      obtain ⟨W5, hW5⟩ : ∃ W5, W5 = wr.alloc (.cells #[.int .i64 xi, .slice An xn.length cn] 44) := ⟨_, rfl⟩
      have hE5 : Ext wr W5 := by rw [hW5]; exact Ext.alloc _ _
      obtain ⟨B5, hB5⟩ : ∃ B5, B5 = wr.heap.size := ⟨_, rfl⟩
      have hxb : W5.heap[B5]? = some (.cells #[.int .i64 xi, .slice An xn.length cn] 44 (0, 0)) := by rw [hW5, hB5]; exact heap_alloc_new _ _
      have KX : Hid (∀ w', Ext W5 w' → w'.cell? ⟨B5, 0, none⟩ = some (.int .i64 xi) ∧ w'.cell? ⟨B5, 1, none⟩ = some (.slice An xn.length cn)) := hid fun w' hw => ⟨obj_cell (hw.obj hxb) (i := 0) rfl, obj_cell (hw.obj hxb) (i := 1) rfl⟩
      have HE5 := hid (HE.out.trans hE5)
      have HO5 := hid (HO.out.ext ET.ok hE5)
      obtain ⟨Au', cu', hv', _, _, hgt⟩ := RT.get (Own.read HO5.out)
      injection hv' with hv1 hv2 hv3
      subst hv1
      have HGK := hid hgt
      clear hkk hxb hE5 hal htk H c0 c1 hnx hgt hv2 hv3
      go_wp2
      rw [← hW5, ← hB5]
      clear hW5 hB5 y0 y1 y0f y1f k1 k1f c0r c1r
      go_loopw [23] (fun i wr => ∃ m : Nat, m ≤ tk.length ∧ i = .int .i64 m ∧ Hid ((∀ j y, j < m → tk[j]? = some y → clashB room ⟨xi, xn⟩ y = true) ∧ Ext W5 wr)) (fun i _ => tk.length - (intOf i).toNat)
      case atStart => exact ⟨0, Nat.zero_le _, rfl, hid ⟨fun j y hj => absurd hj (by omega), Ext.refl _⟩⟩
      case round =>
        obtain ⟨m, hm, rfl, HM⟩ := hrel
        by_cases hmt : m < tk.length
        · obtain ⟨bt, ot, y, Ay, cy, rfl, ey, d0, d1, hny⟩ := HGK.out m hmt
          have j1 : (m : Int) < (tk.length : Int) := by omega
          have j0 : (0 : Int) ≤ (m : Int) := by omega
          have d0r := HM.out.2.cell d0
          have d1r := HM.out.2.cell d1
          have HNY := hid hny
          have HEY := hid ey.out
          have HYG := hid (HGT.out.2 y (HAK.out.2 y (List.mem_of_getElem? ey.out)))
          obtain ⟨yi, yn⟩ := y
          obtain ⟨y0, y1, y0f, y1f, k1, k1f, hkk, _⟩ := box2 (heap_alloc_new wr (.cells #[.int .i64 0, .slice none 0 0] 44)) (.int .i64 yi) (.slice Ay yn.length cy)
          have hE6 : Ext wr (wr.alloc (.cells #[.int .i64 yi, .slice Ay yn.length cy] 44)) := Ext.alloc _ _
          obtain ⟨f0, f1⟩ := KX.out _ (HM.out.2.trans hE6)
          have HE6 := hid (HM.out.2.trans hE6)
          clear hkk d0 d1 hny hE6 ey
          cases hc : clashB room ⟨xi, xn⟩ ⟨yi, yn⟩ with
          | true =>
            go_wp2_with (go_at_call 78; refine (iClash _ room ⟨xi, xn⟩ ⟨yi, yn⟩ An Ay cn cy _ (RI.ext HR.out (HE5.out.trans HE6.out)) (RI.ext HNX.out (HE5.out.trans HE6.out)) (RI.ext HNY.out HE6.out) HLR.out ⟨HXG.out.1, HXG.out.2⟩ ⟨HYG.out.1, HYG.out.2⟩).mono ?_; rw [hc]; rintro e w7 ⟨rfl, hE7⟩; have HE7 := hid (HE6.out.trans hE7); clear hE7)
            go_roundw
            case rel => exact ⟨m + 1, by omega, by go_num, hid ⟨fun j z hj hz => by
              rcases Nat.lt_or_ge j m with h3 | h3
              · exact HM.out.1 j z h3 hz
              · rw [show j = m by omega, HEY.out] at hz
                injection hz with hz
                rw [← hz]; exact hc, HE7.out⟩⟩
            case measure => simp [intOf]; omega
          | false =>
            have HTB : Hid (takeB room tk ⟨xi, xn⟩ = tk) := hid (by
              unfold takeB
              rw [if_neg (fun h => by
                have := List.all_eq_true.1 h _ (List.mem_of_getElem? HEY.out)
                rw [hc] at this
                cases this)])
            go_wp2_with (go_at_call 78; refine (iClash _ room ⟨xi, xn⟩ ⟨yi, yn⟩ An Ay cn cy _ (RI.ext HR.out (HE5.out.trans HE6.out)) (RI.ext HNX.out (HE5.out.trans HE6.out)) (RI.ext HNY.out HE6.out) HLR.out ⟨HXG.out.1, HXG.out.2⟩ ⟨HYG.out.1, HYG.out.2⟩).mono ?_; rw [hc]; rintro e w7 ⟨rfl, hE7⟩; have HE7 := hid (HE6.out.trans hE7); clear hE7)
            go_roundw
            case rel => exact ⟨_, k + 1, rfl, by omega, by go_num, hid ⟨by rw [HST.out, HTB.out]; exact HO5.out.ext ET.ok HE7.out, HE5.out.trans HE7.out⟩⟩
            case measure => simp [intOf]; omega
        · have hm' : m = tk.length := by omega
          have HTB : Hid (takeB room tk ⟨xi, xn⟩ = tk ++ [⟨xi, xn⟩]) := hid (by
            unfold takeB
            rw [if_pos (List.all_eq_true.2 fun y hy => by
              obtain ⟨j, hj⟩ := List.getElem?_of_mem hy
              exact HM.out.1 j y (by rw [hm']; exact (List.getElem?_eq_some_iff.1 hj).1) hj)])
          obtain ⟨f0, f1⟩ := KX.out _ HM.out.2
          have HO8 := hid ((HO5.out.ext ET.ok HM.out.2).ext ET.ok (Ext.alloc wr (.cells #[.int .i64 xi, .slice An xn.length cn] 44)))
          have HN8 := hid (RI.ext HNX.out (HE5.out.trans (HM.out.2.trans (Ext.alloc wr (.cells #[.int .i64 xi, .slice An xn.length cn] 44)))))
          have HE8 := hid (HE5.out.trans (HM.out.2.trans (Ext.alloc wr (.cells #[.int .i64 xi, .slice An xn.length cn] 44))))
          have hsz8 := HE8.out.size
          clear hm'
          go_wp2_with (at_builtin; refine wpList_append_sl _ (by rfl) _ _ 28 (by rfl) ET.ok ET.flat (w.heap.size) 44 ET.ne i0_task _ 2 32 Tryd.underlying28 hi0_task hz0_task hz1_task hz2_task rfl (by omega) _ (by rfl) _ (HO8.out) _ (by rfl) _ (RSl.laid (cs := [.int .i64 xi, .slice An xn.length cn]) (x := ⟨xi, xn⟩) (heap_alloc_new _ _) rfl ⟨_, rfl, HN8.out⟩) (by have := HAK.out.1; simp; omega) (by have := HAK.out.1; simp; omega) ?_ ?_; (focus (first | exact Nat.le_refl _ | (simp; done) | (simp; omega) | omega)); intro v9 w9 hO9 hg9 hat9 hs9; have HO9 := hid hO9; have HG9 := hid hg9; clear hO9 hg9 hat9 hs9)
          go_roundw
          case rel => exact ⟨_, k + 1, rfl, by omega, by go_num, hid ⟨by rw [HST.out, HTB.out]; exact HO9.out, Ext.grown HE8.out HG9.out HO8.out.lt⟩⟩
          case measure => simp [intOf]; omega
    · have hk' : k = ts.length := by omega
      have H1 := H.out.1
      rw [hk', List.take_length] at H1
      obtain ⟨Au, cu, hu, _⟩ := Own.form H1
      subst hu
      have HK := hid hk'
      clear hk' H1
      go_wp2
      (try rw [Exit.noGoto_ret])
      go_ret
      exact ⟨rfl, H.out.2⟩
set_option maxHeartbeats 1000000 in
theorem iBoundBest (rv tv : Value) (room : List Int) (ts : List TaskD) (w : World) (hR : RI w rv room) (h : RT w tv ts) (hids : ∀ t ∈ ts, IdR t.id) (hok : tasksOk room ts = true) :
    Calls Tryd.prog 27 #[rv, tv] w (RetN w (max (boundSumR room ts) ((apartR room ts).length : Int))) := by
  have HR := hid hR
  have HT := hid h
  have HID := hid hids
  obtain ⟨Ar, cr, rfl, _⟩ := hR
  obtain ⟨At, ct, rfl, _⟩ := RT.get h
  obtain ⟨p, hp⟩ : ∃ p, p = boundSumR room ts := ⟨_, rfl⟩
  obtain ⟨q, hq⟩ : ∃ q, q = (apartR room ts).length := ⟨_, rfl⟩
  rw [← hp, ← hq, max_if]
  have HP := hid hp
  have HQ := hid hq
  clear h hids hp hq
  by_cases hpq : p < (q : Int)
  · rw [if_pos hpq]
    go_enter Tryd.func27, Tryd.ntmps27
    go_wp2_with (first
      | (go_at_call 52; refine (iBoundSum _ _ room ts _ HR.out HT.out HID.out hok).mono ?_; rw [← HP.out]; rintro e w1 ⟨rfl, hE1⟩; have HE1 := hid hE1; clear hE1)
      | (go_at_call 53; refine (iBoundApart _ _ room ts _ (RI.ext HR.out HE1.out) (RT.ext HT.out HE1.out) HID.out hok).mono ?_; rw [← HQ.out]; rintro e w2 ⟨rfl, hE2⟩; have HE2 := hid (HE1.out.trans hE2); clear hE2))
    go_ret
    exact ⟨rfl, HE2.out⟩
  · rw [if_neg hpq]
    go_enter Tryd.func27, Tryd.ntmps27
    go_wp2_with (first
      | (go_at_call 52; refine (iBoundSum _ _ room ts _ HR.out HT.out HID.out hok).mono ?_; rw [← HP.out]; rintro e w1 ⟨rfl, hE1⟩; have HE1 := hid hE1; clear hE1)
      | (go_at_call 53; refine (iBoundApart _ _ room ts _ (RI.ext HR.out HE1.out) (RT.ext HT.out HE1.out) HID.out hok).mono ?_; rw [← HQ.out]; rintro e w2 ⟨rfl, hE2⟩; have HE2 := hid (HE1.out.trans hE2); clear hE2))
    go_ret
    exact ⟨rfl, HE2.out⟩

end Go.Proofs.YtllchacophapoaaDoor
