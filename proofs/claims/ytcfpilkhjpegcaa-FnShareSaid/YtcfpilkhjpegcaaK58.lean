/- A worker's deferred Done, up to its release: the kit's walk, and that it does nothing else on the way. -/
import Derived.Test.YtcfpilkhjpegcaaK57
import Derived.Conc.CompanyDraw
namespace Go.Proofs.Ytcfpilkhjpegcaa
open Go Go.Conc Go.ConcN Go.RowKit Go.Conc.Lib Go.ConcR.Gen Go.ConcN.Gen
open Go.ConcR (KK wgBlock WgAt stA smA rd wr mk Payload DC0)

section
variable {P : Program} {R : World → World → Prop} {D : World → World → Array Event → Prop} {S T : Goroutine → World → Prop}

/-- Two walks of the same steps, of which the one is silent. -/
theorem follow (refl : ∀ w, R w w) (trans : ∀ a b c, R a b → R b c → R a c) (hS : ∀ g w g' w', S g w → stepG P false g w ≠ .go g' w' #[]) : ∀ {n m : Nat} {g : Goroutine} {w : World}, Goes P false R DC0 T n g w → Goes P false R D S m g w →
    Goes P false R DC0 (fun g w => T g w ∧ ∃ m, Goes P false R D S m g w) n g w
  | 0, m, g, w, h1, h2 => fun w₁ h₁ => ⟨h1 w₁ h₁, m, Goes.rely trans h2 h₁⟩
  | n + 1, m, g, w, h1, h2 => by
    rcases h1 with h1 | ⟨hs, h1⟩
    · exact .inl fun w₁ h₁ => ⟨h1 w₁ h₁, m, Goes.rely trans h2 h₁⟩
    · refine .inr ⟨hs, fun w₁ h₁ => ?_⟩
      obtain ⟨g', w', es, e1, ⟨rfl, rfl⟩, h1'⟩ := goes_elim (h1 w₁ h₁)
      rw [e1]
      refine ⟨⟨rfl, rfl⟩, ?_⟩
      rcases Goes.cases (Goes.rely trans h2 h₁) with k2 | ⟨m', rfl, k2⟩
      · exact absurd e1 (hS _ _ _ _ (k2 _ (refl _)))
      · obtain ⟨g'', w'', es'', e2, _, h2'⟩ := k2 _ (refl _)
        rw [e1] at e2
        cases e2
        exact follow refl trans hS h1' h2'
theorem goes_weaken (hm : ∀ g w, S g w → T g w) : ∀ {n : Nat} {g : Goroutine} {w : World}, Goes P false R D S n g w → Goes P false R D T n g w
  | 0, _, _, h => fun w₁ h₁ => hm _ _ (h w₁ h₁)
  | _ + 1, _, _, h => by
    rcases h with h | ⟨hs, h⟩
    · exact .inl fun w₁ h₁ => hm _ _ (h w₁ h₁)
    · exact .inr ⟨hs, fun w₁ h₁ => goes_imp (h w₁ h₁) fun _ _ _ ⟨d, x⟩ => ⟨d, goes_weaken hm x⟩⟩
/-- Some stop is come to. -/
theorem goes_some (refl : ∀ w, R w w) : ∀ {n : Nat} {g : Goroutine} {w : World}, Goes P false R D S n g w → ∃ g w, S g w
  | 0, g, w, h => ⟨g, w, h w (refl w)⟩
  | n + 1, g, w, h => by
    rcases h with h | ⟨_, h⟩
    · exact ⟨g, w, h w (refl w)⟩
    · obtain ⟨_, _, _, _, _, h'⟩ := goes_elim (h w (refl w))
      exact goes_some refl h'
end

section
variable [Payload] {L : WgLink} {P : Program}

theorem rl2 {ty : TypeId} {Wg C n Low i : Nat} {w w₁ : World} (h : WgLive ty Wg w) (r : RW ty Wg C n Low i w w₁) : WgLive ty Wg w₁ := r.live h

/-- Where the release is said; then, silently, to 'disable'. -/
def AtRel2 (P : Program) (ty : TypeId) (Wg C n k : Nat) (g : Goroutine) (w : World) : Prop :=
  ∃ g', stepG P false g w = .go g' w #[mk (.releaseMerge (stA Wg))] ∧ ∃ m, Goes P false (RW ty Wg C n 0 (k - 1)) DC0 (fun g w => ∃ g'', stepG P false g w = .go g'' w #[mk .disable]) m g' w

set_option maxRecDepth 100000 in
set_option maxHeartbeats 8000000 in
theorem relWalk (H : WgLib P L) {Wg C n k : Nat} {c : Frame} {cs : List Frame} (w : World) (hF : WgLive L.tWg Wg w) :
    Goes P false (RW L.tWg Wg C n 0 (k - 1)) DC0 (AtRel2 P L.tWg Wg C n k) 23 (G ((baseD L.done).at ⟨#[.pointer (some ⟨Wg, 0, none⟩), undef, undef, undef], []⟩ [.code (body_done L)]) (c :: cs)) w := by
  lib_facts
  simp only [body_done, doneFn, Option.getD_some]

  u_reg rl2 hF
  u_op rl2 hF
  u_call H.f_add (nm_add L) addFn rl2 hF
  u_c stepG_seq rl2 hF
  u_cnd true rl2 hF
  u_c stepG_seq rl2 hF
  u_c stepG_seq rl2 hF
  u_reg rl2 hF
  iterate 2 (u_op rl2 hF)
  u_c stepG_region_end rl2 hF
  u_cnd true rl2 hF
  u_reg rl2 hF
  u_op rl2 hF
  u_conv H.underlying_tWgP H.room_tWg (WgLive.cell0 hF).choose_spec rl2 hF
  refine Goes.stop (fun w₁ h₁ => ?_)
  replace hF := rl2 hF h₁
  clear h₁
  refine ⟨_, stepG_markAt .releaseMerge (by simp) rfl rfl (by k_ne) rfl H.f_relMerge (x_relMerge_n L) (x_relMerge_b L) (x_relMerge_x L) (x_relMerge_f L) (by simp [Act.eval, stA]), 10, ?_⟩
  walk_nrm
  u_c stepG_region_end rl2 hF
  u_c stepG_seq rl2 hF
  u_reg rl2 hF
  refine Goes.stop (fun w₂ h₂ => ?_)
  exact ⟨_, stepG_mark0 .disable (by simp) rfl rfl (by k_ne) rfl H.f_disable (x_disable_n L) (x_disable_b L) (x_disable_x L) (x_disable_f L)⟩

/-- Done, deferred, up to its release. -/
theorem doneU (H : WgLib P L) {Wg C n k : Nat} {val : Value} {c : Frame} {cs : List Frame} {qt : Nat} (hcm : c.mode = .returning) (hT : QuitsD P qt 0 (G c cs)) (w : World) (hK : WgLive L.tWg Wg w ∧ Has C (k - 1) val w) :
    Goes P false (RW L.tWg Wg C n 0 (k - 1)) DC0 (AtR0 P L.tWg Wg C n 0 k val) 23 (G ((baseD L.done).at ⟨#[.pointer (some ⟨Wg, 0, none⟩), undef, undef, undef], []⟩ [.code (body_done L)]) (c :: cs)) w := by
  have rf : ∀ w, RW L.tWg Wg C n 0 (k - 1) w w := fun w => RW.refl w
  have tr : ∀ x y z, RW L.tWg Wg C n 0 (k - 1) x y → RW L.tWg Wg C n 0 (k - 1) y z → RW L.tWg Wg C n 0 (k - 1) x z := fun _ _ _ h1 h2 => h1.trans h2
  have hS : ∀ g w g' w', AtR0 P L.tWg Wg C n 0 k val g w → stepG P false g w ≠ .go g' w' #[] := by
    rintro g w g' w' ⟨_, _, g'', e, _⟩ e'
    rw [e] at e'
    injection e' with _ _ e'
    simp at e'
  have h1 := relWalk H (C := C) (n := n) (k := k) (c := c) (cs := cs) w hK.1
  have h2 := doneN H (Own := fun _ _ => False) (Rd := fun _ _ => False) (n := n) (Low := 0) (cs := cs) hcm hT w hK
  refine goes_weaken (fun g w h => ?_) (follow rf tr hS h1 h2)
  obtain ⟨⟨g', e1, m1, hg'⟩, m, hg⟩ := h
  rcases Goes.cases hg with k1 | ⟨m', rfl, k1⟩
  · exact k1 w (rf w)
  · obtain ⟨g'', w'', es, e2, _, h3⟩ := k1 w (rf w)
    rw [e1] at e2
    cases e2
    obtain ⟨g3, w3, ⟨g4, e4⟩, m4, h4⟩ := goes_some rf (follow rf tr hS hg' h3)
    rcases Goes.cases h4 with k4 | ⟨m5, rfl, k4⟩
    · obtain ⟨_, _, g5, e5, _⟩ := k4 w3 (rf w3)
      rw [e4] at e5
      injection e5 with _ _ e5
      simp [mk] at e5
    · obtain ⟨g5, w5, es5, e5, ⟨_, hd⟩, _⟩ := k4 w3 (rf w3)
      rw [e4] at e5
      cases e5
      exact absurd rfl (hd (mk .disable) (by simp)).2.1
end
end Go.Proofs.Ytcfpilkhjpegcaa

/- A walk in company of a goroutine that makes memory of its own: what is known since its beginning; drawn regions; words. -/
namespace Go.Proofs.Ytcfpilkhjpegcaa
open Go Go.Conc Go.ConcN Go.RowKit
open Go.ConcR (KK WgAt Payload)

theorem grow_self (W : Nat → Prop) (w : World) : grow W w w = W := grow_same rfl

/-! ### drawn regions -/
section
variable {P : Program} {main : Bool} {R : (Nat → Prop) → World → World → Prop} {Dg : (Nat → Prop) → World → World → Array Event → Prop} {Stop : (Nat → Prop) → Goroutine → World → Prop} {ops : Array Oper} {b : Frame} {k : List Item} {cs : List Frame}

/-- Into a region that asks the tape for its order. -/
theorem GoesG.draw (hm : P.follows .mixedOrders = true) {id n : Nat} {a : Act} {W : Nat → Prop} {w : World} (hD : ∀ W w, Dg W w { w with drawn := w.drawn + 1 } #[])
    (h : ∀ w₁, R W w w₁ → ∀ t, GoesG P main R Dg Stop n W (G (b.at a (.inRegion ops (Region.linearise .any ops t) :: k)) cs) { w₁ with drawn := w₁.drawn + 1 }) : GoesG P main R Dg Stop (n + 1) W (G (b.at a (.code (.region id ops true) :: k)) cs) w :=
  GoesG.step rfl fun w₁ h₁ => by
    rw [stepG_region_draw, goes_go, grow_same (by rfl)]
    simp only [Region.schedule, hm, Bool.true_or, if_true]
    exact ⟨hD _ _, h w₁ h₁ _⟩

theorem count_set {l : Array Bool} {i : Nat} (hi : l.getD i true = false) : (l.setIfInBounds i true).toList.count false + 1 = l.toList.count false := by
  have hlt : i < l.size := by
    rcases Nat.lt_or_ge i l.size with h | h
    · exact h
    · simp [Array.getD, Nat.not_lt.2 h] at hi
  have hv : l.toList[i]'(by simpa using hlt) = false := by simpa [Array.getD, hlt] using hi
  have hpos : 0 < l.toList.count false := List.count_pos_iff.2 (by rw [← hv]; exact List.getElem_mem _)
  rw [Array.toList_setIfInBounds, List.count_set (by simpa using hlt), hv]
  simp only [beq_self_eq_true, if_true, show ((true == false) = true) = False by simp, if_false]
  omega

/-- Whatever order the tape picks: an invariant of what has come up so far. -/
theorem GoesG.drawn (Inv : Array Bool → Act → (Nat → Prop) → World → Prop) (c m : Nat) (hback : (List.range ops.size).all (fun i => ((ops[i]?).map fun o => o.after.all fun e => decide (e.on < i)).getD true) = true)
    (step : ∀ (l : Array Bool) (a : Act) (W : Nat → Prop) (w : World) (i : Nat) (o : Oper) (rest : List Nat) (n : Nat), l.size = ops.size → ops[i]? = some o → l.getD i true = false → (∀ e ∈ o.after, Region.binds .any e = true → l.getD e.on false = true) → Inv l a W w →
      (∀ a' W' w', Inv (l.setIfInBounds i true) a' W' w' → GoesG P main R Dg Stop n W' (G (b.at a' (.inRegion ops rest :: k)) cs) w') → GoesG P main R Dg Stop (n + c) W (G (b.at a (.inRegion ops (i :: rest) :: k)) cs) w)
    (done : ∀ (l : Array Bool) (a : Act) (W : Nat → Prop) (w : World), l.size = ops.size → (∀ i, i < ops.size → l.getD i false = true) → Inv l a W w → GoesG P main R Dg Stop m W (G (b.at a (.inRegion ops [] :: k)) cs) w) :
    ∀ (fuel t : Nat) (l : Array Bool) (a : Act) (W : Nat → Prop) (w : World), l.size = ops.size → l.toList.count false = fuel → Inv l a W w → GoesG P main R Dg Stop (m + c * fuel) W (G (b.at a (.inRegion ops (Region.linearise.go .any ops fuel t l []) :: k)) cs) w := by
  have full : ∀ (l : Array Bool), l.size = ops.size → (∀ i, i < ops.size → l.getD i true = true) → ∀ i, i < ops.size → l.getD i false = true := fun l hl h i hi => by
    have := h i hi
    simpa [Array.getD, hl, hi] using this
  intro fuel
  induction fuel with
  | zero =>
    intro t l a W w hl hc hI
    rw [Region.linearise.go]
    refine (done l a W w hl (full l hl fun i hi => ?_) hI).le (by omega)
    have := List.count_eq_zero.1 hc
    cases hv : l.getD i true with
    | true => rfl
    | false =>
      refine absurd ?_ this
      have hlt : i < l.size := by omega
      have : l.toList[i]'(by simpa using hlt) = false := by simpa [Array.getD, hlt] using hv
      rw [← this]
      exact List.getElem_mem _
  | succ fuel ih =>
    intro t l a W w hl hc hI
    rw [Region.linearise.go]
    show GoesG P main R Dg Stop (m + c * (fuel + 1)) W (G (b.at a (.inRegion ops (match (Region.ready .any ops l)[t % (Region.ready .any ops l).length]? with
      | some i => Region.linearise.go .any ops fuel (t / (Region.ready .any ops l).length) (l.setIfInBounds i true) [i]
      | none => [].reverse) :: k)) cs) w
    cases hi : (Region.ready .any ops l)[t % (Region.ready .any ops l).length]? with
    | none =>
      have hnil : Region.ready .any ops l = [] := by
        cases hr : Region.ready .any ops l with
        | nil => rfl
        | cons x xs =>
          rw [hr] at hi
          have hlt : t % (x :: xs).length < (x :: xs).length := Nat.mod_lt _ (by simp)
          simp at hi
          simp at hlt
          omega
      refine (done l a W w hl (full l hl fun i => ?_) hI).le (by omega)
      induction i using Nat.strongRecOn with
      | _ i ihi =>
        intro hlt
        cases hv : l.getD i true with
        | true => rfl
        | false =>
          have ho : ops[i]? = some ops[i] := Array.getElem?_eq_getElem hlt
          have : i ∈ Region.ready .any ops l := by
            rw [mem_ready]
            refine ⟨hv, ops[i], ho, fun e he _ => ?_⟩
            have hb := List.all_eq_true.1 hback i (List.mem_range.2 hlt)
            rw [ho] at hb
            obtain ⟨x, hx, rfl⟩ := Array.mem_iff_getElem.1 he
            have : (ops[i].after[x]).on < i := by
              simp only [Option.map_some, Option.getD_some, Array.all_eq_true, decide_eq_true_eq] at hb
              exact hb x hx
            have h1 := ihi _ this (by omega)
            have : (ops[i].after[x]).on < l.size := by omega
            simpa [Array.getD, this] using h1
          rw [hnil] at this
          cases this
    | some i =>
      obtain ⟨h0, o, ho, hall⟩ := mem_ready.1 (List.mem_of_getElem? hi)
      simp only []
      rw [linearise_go_acc, List.reverse_singleton, List.singleton_append]
      have := step l a W w i o (Region.linearise.go .any ops fuel (t / (Region.ready .any ops l).length) (l.setIfInBounds i true) []) (m + c * fuel) hl ho h0 hall hI
        fun a' W' w' hI' => ih _ _ a' W' w' (by simpa using hl) (by have := count_set h0; omega) hI'
      rw [Nat.mul_succ, ← Nat.add_assoc]
      exact this
end

/-! ### what is known since the beginning -/
section
variable [Payload] {ty : TypeId} {Wg C n : Nat} {K : Nat → Prop} {ci : Nat} {W0 W : Nat → Prop} {w0 w w₁ : World}

omit [Payload] in
theorem alloc_old (w : World) (o : Obj) {b : Nat} (h : b < w.heap.size) : (w.alloc o).heap[b]? = w.heap[b]? := by
  show (w.heap.push o)[b]? = w.heap[b]?
  rw [Array.getElem?_push_lt h, Array.getElem?_eq_getElem h]
omit [Payload] in
theorem alloc_at (w : World) (o : Obj) : (w.alloc o).heap[w.heap.size]? = some o := Array.getElem?_push_size
omit [Payload] in
theorem alloc_size (w : World) (o : Obj) : (w.alloc o).heap.size = w.heap.size + 1 := Array.size_push _
omit [Payload] in
theorem obj_ltU {w : World} {b : Nat} {o : Obj} (h : w.heap[b]? = some o) : b < w.heap.size := (Array.getElem?_eq_some_iff.1 h).1
omit [Payload] in
theorem setCell_row {w : World} {r k : Nat} {row : Array Value} {t : TypeId} (v : Value) (h : w.heap[r]? = some (.cells row t)) : (w.setCell ⟨r, k, none⟩ v).heap[r]? = some (.cells (row.setIfInBounds k v) t) := by
  rw [setCell_eq_setRow w r k _ t (0, 0) _ h, setRow_heap w r _ _ t _ h]

theorem RWk.mono (hs : ∀ b, W0 b → W b) (h : RWk ty Wg C n K ci W w w₁) : RWk ty Wg C n K ci W0 w w₁ := ⟨fun b hb => h.same b (hb.imp id (hs b)), h.live, h.pay, h.cell, h.size⟩
/-- A block is made. -/
theorem RWk.alloc (hb : ∀ b, K b ∨ W b → b < w.heap.size) (hC : C < w.heap.size) (o : Obj) : RWk ty Wg C n K ci W w (w.alloc o) :=
  ⟨fun b h => alloc_old w o (hb b h), fun ⟨st, sm, h⟩ => ⟨st, sm, (alloc_old w o (obj_ltU h)).trans h⟩, fun ⟨cs, h, hn⟩ => ⟨cs, (alloc_old w o hC).trans h, hn⟩, cell_of_block (alloc_old w o hC) _, by rw [alloc_size]; omega⟩
/-- A block of one's own is written. -/
theorem RWk.set {r : Nat} (hb : ¬ K r ∧ ¬ W r) (hC : r ≠ C) (hWg : r ≠ Wg) (k : Nat) (v : Value) : RWk ty Wg C n K ci W w (w.setCell ⟨r, k, none⟩ v) := by
  have hA := aside_setCell w ⟨r, k, none⟩ v
  refine ⟨fun b h => hA.block b fun e => ?_, fun ⟨st, sm, h⟩ => ⟨st, sm, (hA.block Wg (Ne.symm hWg)).trans h⟩, fun ⟨cs, h, hn⟩ => ⟨cs, (hA.block C (Ne.symm hC)).trans h, hn⟩, cell_of_block (hA.block C (Ne.symm hC)) _, Nat.le_of_eq hA.size.symm⟩
  have : b = r := e
  subst this
  exact h.elim hb.1 hb.2

/-- Since W0, w0: what the others' doing and one's own has left; rows: blocks made since. -/
structure KR (ty : TypeId) (Wg C n : Nat) (K : Nat → Prop) (ci : Nat) (W0 : Nat → Prop) (w0 : World) (l : List (Nat × Array Value × TypeId)) (W : Nat → Prop) (w : World) : Prop where
  sub : ∀ b, W0 b → W b
  rel : RWk ty Wg C n K ci W0 w0 w
  base : ∀ b, K b ∨ W0 b → b < w0.heap.size
  bnd : ∀ b, W b → b < w.heap.size
  fresh : ∀ b, W b → W0 b ∨ w0.heap.size ≤ b
  hC : C < w0.heap.size
  hWg : Wg < w0.heap.size
  rows : ∀ x ∈ l, w0.heap.size ≤ x.1 ∧ W x.1 ∧ w.heap[x.1]? = some (.cells x.2.1 x.2.2)
  diff : l.Pairwise fun x y => x.1 ≠ y.1

variable {l : List (Nat × Array Value × TypeId)}
theorem KR.start (hb : ∀ b, K b ∨ W0 b → b < w0.heap.size) (hC : C < w0.heap.size) (hWg : Wg < w0.heap.size) : KR ty Wg C n K ci W0 w0 [] W0 w0 :=
  ⟨fun _ h => h, .refl _, hb, fun b h => hb b (.inr h), fun _ h => .inl h, hC, hWg, by simp, .nil⟩
theorem KR.rely (h : KR ty Wg C n K ci W0 w0 l W w) (r : RWk ty Wg C n K ci W w w₁) : KR ty Wg C n K ci W0 w0 l W w₁ :=
  ⟨h.sub, h.rel.trans (r.mono h.sub), h.base, fun b hb => Nat.lt_of_lt_of_le (h.bnd b hb) r.size, h.fresh, h.hC, h.hWg, fun x hx => let ⟨h1, h2, h3⟩ := h.rows x hx; ⟨h1, h2, (r.same x.1 (.inr h2)).trans h3⟩, h.diff⟩
theorem KR.all (h : KR ty Wg C n K ci W0 w0 l W w) : ∀ b, K b ∨ W b → b < w.heap.size := fun b hb => hb.elim (fun x => Nat.lt_of_lt_of_le (h.base b (.inl x)) h.rel.size) (h.bnd b)
theorem KR.alloc (h : KR ty Wg C n K ci W0 w0 l W w) (row : Array Value) (t : TypeId) : KR ty Wg C n K ci W0 w0 ((w.heap.size, row, t) :: l) (grow W w (w.alloc (.cells row t))) (w.alloc (.cells row t)) := by
  have hs := h.rel.size
  have r : RWk ty Wg C n K ci W w (w.alloc (.cells row t)) := RWk.alloc h.all (Nat.lt_of_lt_of_le h.hC hs) _
  refine ⟨fun b hb => .inl (h.sub b hb), h.rel.trans (r.mono h.sub), h.base, fun b hb => ?_, fun b hb => ?_, h.hC, h.hWg, fun x hx => ?_, .cons (fun x hx e => ?_) h.diff⟩
  · rcases hb with hb | hb
    · exact Nat.lt_of_lt_of_le (h.bnd b hb) r.size
    · exact hb.2
  · rcases hb with hb | hb
    · exact h.fresh b hb
    · exact .inr (by omega)
  · rcases List.mem_cons.1 hx with rfl | hx
    · exact ⟨hs, .inr ⟨Nat.le_refl _, by rw [alloc_size]; exact Nat.lt_succ_self _⟩, alloc_at _ _⟩
    · obtain ⟨h1, h2, h3⟩ := h.rows x hx
      exact ⟨h1, .inl h2, (r.same x.1 (.inr h2)).trans h3⟩
  · have := h.bnd x.1 (h.rows x hx).2.1
    have e : w.heap.size = x.1 := e
    omega
theorem KR.own (h : KR ty Wg C n K ci W0 w0 l W w) {r : Nat} (hr : w0.heap.size ≤ r) : ¬ K r ∧ ¬ W0 r ∧ r ≠ C ∧ r ≠ Wg :=
  ⟨fun x => by have := h.base r (.inl x); omega, fun x => by have := h.base r (.inr x); omega, fun e => by have := h.hC; omega, fun e => by have := h.hWg; omega⟩
theorem KR.set {r k : Nat} {row : Array Value} {t : TypeId} (h : KR ty Wg C n K ci W0 w0 ((r, row, t) :: l) W w) (v : Value) : KR ty Wg C n K ci W0 w0 ((r, row.setIfInBounds k v, t) :: l) W (w.setCell ⟨r, k, none⟩ v) := by
  obtain ⟨h1, h2, h3⟩ := h.rows _ (List.mem_cons_self ..)
  obtain ⟨o1, o2, o3, o4⟩ := h.own h1
  have hA := aside_setCell w ⟨r, k, none⟩ v
  refine ⟨h.sub, h.rel.trans (RWk.set ⟨o1, o2⟩ o3 o4 k v), h.base, fun b hb => by rw [hA.size]; exact h.bnd b hb, h.fresh, h.hC, h.hWg, fun x hx => ?_, ?_⟩
  · rcases List.mem_cons.1 hx with rfl | hx
    · exact ⟨h1, h2, setCell_row v h3⟩
    · obtain ⟨g1, g2, g3⟩ := h.rows x (List.mem_cons_of_mem _ hx)
      exact ⟨g1, g2, (hA.block x.1 (Ne.symm ((List.pairwise_cons.1 h.diff).1 x hx))).trans g3⟩
  · exact .cons (fun x hx => (List.pairwise_cons.1 h.diff).1 x hx) (List.pairwise_cons.1 h.diff).2
theorem KR.weak {x : Nat × Array Value × TypeId} (h : KR ty Wg C n K ci W0 w0 (x :: l) W w) : KR ty Wg C n K ci W0 w0 l W w :=
  ⟨h.sub, h.rel, h.base, h.bnd, h.fresh, h.hC, h.hWg, fun y hy => h.rows y (List.mem_cons_of_mem _ hy), (List.pairwise_cons.1 h.diff).2⟩
theorem KR.top {x : Nat × Array Value × TypeId} (h : KR ty Wg C n K ci W0 w0 (x :: l) W w) : KR ty Wg C n K ci W0 w0 [x] W w :=
  ⟨h.sub, h.rel, h.base, h.bnd, h.fresh, h.hC, h.hWg, fun y hy => h.rows y (by rw [List.mem_singleton] at hy; subst hy; exact List.mem_cons_self ..), List.pairwise_singleton _ _⟩
/-- From here on. -/
theorem KR.here (h : KR ty Wg C n K ci W0 w0 l W w) : KR ty Wg C n K ci W w [] W w := KR.start h.all (Nat.lt_of_lt_of_le h.hC h.rel.size) (Nat.lt_of_lt_of_le h.hWg h.rel.size)
/-- Behind a call. -/
theorem KR.call {l' : List (Nat × Array Value × TypeId)} {W' : Nat → Prop} {w' : World} (h : KR ty Wg C n K ci W0 w0 l W w) (k : KR ty Wg C n K ci W w l' W' w') : KR ty Wg C n K ci W0 w0 (l' ++ l) W' w' := by
  have hs := h.rel.size
  refine ⟨fun b hb => k.sub b (h.sub b hb), h.rel.trans (k.rel.mono h.sub), h.base, k.bnd, fun b hb => (k.fresh b hb).elim (h.fresh b) (fun x => .inr (by omega)), h.hC, h.hWg, fun x hx => ?_, List.pairwise_append.2 ⟨k.diff, h.diff, fun x hx y hy e => ?_⟩⟩
  · rcases List.mem_append.1 hx with hx | hx
    · obtain ⟨h1, h2, h3⟩ := k.rows x hx
      exact ⟨by omega, h2, h3⟩
    · obtain ⟨h1, h2, h3⟩ := h.rows x hx
      exact ⟨h1, k.sub _ h2, (k.rel.same x.1 (.inr h2)).trans h3⟩
  · have h1 := (k.rows x hx).1
    have h2 := h.bnd y.1 (h.rows y hy).2.1
    omega
theorem KR.draw (h : KR ty Wg C n K ci W0 w0 l W w) : KR ty Wg C n K ci W0 w0 l W { w with drawn := w.drawn + 1 } :=
  h.rely ⟨fun _ _ => rfl, id, id, rfl, Nat.le_refl _⟩
/-- A cell of before. -/
theorem KR.cell (h : KR ty Wg C n K ci W0 w0 l W w) {a : Addr} {v : Value} (hb : K a.block ∨ W0 a.block) (hc : w0.cell? a = some v) : w.cell? a = some v := by
  have := h.rel.same a.block hb
  unfold World.cell? at hc ⊢
  rw [this]
  exact hc
theorem KR.row {r : Nat} {row : Array Value} {t : TypeId} (h : KR ty Wg C n K ci W0 w0 l W w) (hx : (r, row, t) ∈ l) {k : Nat} {v : Value} (hv : row[k]? = some v) : w.cell? ⟨r, k, none⟩ = some v ∧ w.frozen? ⟨r, k, none⟩ = false := by
  obtain ⟨_, _, h3⟩ := h.rows _ hx
  simp only at h3
  constructor
  · simp [World.cell?, h3, hv]
  · simp [World.frozen?, h3]

/-! ### the guarantee -/
theorem DWk.idle : DWk C n K ci W w w #[] := ⟨fun _ _ _ _ => rfl, rfl, rfl, Nat.le_refl _, id, fun _ _ => rfl, by simp⟩
theorem DWk.draw (W : Nat → Prop) (w : World) : DWk C n K ci W w { w with drawn := w.drawn + 1 } #[] := ⟨fun _ _ _ _ => rfl, rfl, rfl, Nat.le_refl _, id, fun _ _ => rfl, by simp⟩
theorem DWk.reads {es : Array Event} (h : ∀ e ∈ es, ∃ a : Addr, e = ⟨.cell a, false, false⟩ ∧ (K a.block ∨ W a.block)) : DWk C n K ci W w w es :=
  ⟨fun _ _ _ _ => rfl, rfl, rfl, Nat.le_refl _, id, fun _ _ => rfl, fun e he => let ⟨a, h1, h2⟩ := h e he; .inr ⟨a, false, h1, by rw [grow_self]; exact h2.imp (fun x => ⟨rfl, x⟩) .inl⟩⟩
theorem DWk.alloc {es : Array Event} (o : Obj) (hC : C < w.heap.size) (h : ∀ e ∈ es, e = ⟨.mark .noRoom, false, true⟩) : DWk C n K ci W w (w.alloc o) es :=
  ⟨fun b hb _ _ => alloc_old w o hb, rfl, rfl, by rw [alloc_size]; omega, fun ⟨cs, h1, hn⟩ => ⟨cs, (alloc_old w o hC).trans h1, hn⟩, fun i _ => cell_of_block (alloc_old w o hC) i, fun e he => .inl (h e he)⟩
theorem DWk.store {r k : Nat} {v : Value} {es : Array Event} (hr : W r) (hC : r ≠ C) (h : ∀ e ∈ es, ∃ a : Addr, e = ⟨.cell a, true, false⟩ ∧ a.block = r) : DWk C n K ci W w (w.setCell ⟨r, k, none⟩ v) es := by
  have hA := aside_setCell w ⟨r, k, none⟩ v
  exact ⟨fun b _ hb _ => hA.block b (fun e => hb (by have : b = r := e; rw [this]; exact hr)), hA.os, hA.output, Nat.le_of_eq hA.size.symm, fun ⟨cs, h1, hn⟩ => ⟨cs, (hA.block C (Ne.symm hC)).trans h1, hn⟩, fun i _ => cell_of_block (hA.block C (Ne.symm hC)) i,
    fun e he => let ⟨a, h1, h2⟩ := h e he; .inr ⟨a, true, h1, .inr (.inl (.inl (by rw [h2]; exact hr)))⟩⟩
theorem DWk.store2 {r k k' : Nat} {v v' : Value} {es : Array Event} (hr : W r) (hC : r ≠ C) (h : ∀ e ∈ es, ∃ a : Addr, e = ⟨.cell a, true, false⟩ ∧ a.block = r) : DWk C n K ci W w ((w.setCell ⟨r, k, none⟩ v).setCell ⟨r, k', none⟩ v') es := by
  have h1 := DWk.store (C := C) (n := n) (K := K) (ci := ci) (w := w) (k := k) (v := v) (es := #[]) hr hC (by simp)
  have h2 := DWk.store (C := C) (n := n) (K := K) (ci := ci) (w := w.setCell ⟨r, k, none⟩ v) (k := k') (v := v') (es := es) hr hC h
  have hA := aside_setCell w ⟨r, k, none⟩ v
  have hA' := aside_setCell (w.setCell ⟨r, k, none⟩ v) ⟨r, k', none⟩ v'
  have e : grow W w ((w.setCell ⟨r, k, none⟩ v).setCell ⟨r, k', none⟩ v') = W := grow_same (hA'.size.trans hA.size)
  have e2 : grow W (w.setCell ⟨r, k, none⟩ v) ((w.setCell ⟨r, k, none⟩ v).setCell ⟨r, k', none⟩ v') = W := grow_same hA'.size
  refine ⟨fun b hb hw hc => (h2.old b (by rw [hA.size]; exact hb) hw hc).trans (h1.old b hb hw hc), h2.os.trans h1.os, h2.output.trans h1.output, Nat.le_trans h1.size h2.size, h2.pay ∘ h1.pay, fun i hi => (h2.cells i hi).trans (h1.cells i hi), fun e' he => ?_⟩
  rw [e]
  have := h2.evs e' he
  rwa [e2] at this
/-- The payload's cell is written. -/
theorem DWk.give {v : Value} {es : Array Event} (h : ∀ e ∈ es, e = ⟨.cell ⟨C, ci, none⟩, true, false⟩) (hp : PayAt C n w) : DWk C n K ci W w (w.setCell ⟨C, ci, none⟩ v) es := by
  obtain ⟨cs, h1, hn⟩ := hp
  have hA := aside_setCell w ⟨C, ci, none⟩ v
  have hrow := setCell_row (k := ci) v h1
  refine ⟨fun b _ _ hb => hA.block b hb, hA.os, hA.output, Nat.le_of_eq hA.size.symm, fun _ => ⟨_, hrow, by simpa using hn⟩, fun i hi => ?_, fun e he => .inr ⟨_, true, h e he, .inr (.inr rfl)⟩⟩
  simp [World.cell?, hrow, h1, Ne.symm hi]
end

/-! ### words -/
end Go.Proofs.Ytcfpilkhjpegcaa

/- The starter's walk in company: what it knows; words. -/
namespace Go.Proofs.Ytcfpilkhjpegcaa
open Go Go.Conc Go.ConcN Go.RowKit
open Go.ConcR (KK WgAt Payload)

section
variable [Payload] {ty : TypeId} {Wg C n : Nat} {K W : Nat → Prop} {w w₁ : World}

omit [Payload] in
theorem D0.idle : D0 Wg K W w w #[] := ⟨fun _ _ _ => rfl, rfl, rfl, Nat.le_refl _, by simp⟩
omit [Payload] in
theorem D0.reads {es : Array Event} (h : ∀ e ∈ es, ∃ a : Addr, e = ⟨.cell a, false, false⟩ ∧ (K a.block ∨ W a.block)) : D0 Wg K W w w es :=
  ⟨fun _ _ _ => rfl, rfl, rfl, Nat.le_refl _, fun e he => let ⟨a, h1, h2⟩ := h e he; .inl (.inr ⟨a, false, h1, by rw [grow_self]; exact h2.imp (fun x => ⟨rfl, x⟩) .inl⟩)⟩
omit [Payload] in
theorem D0.alloc {es : Array Event} (o : Obj) (h : ∀ e ∈ es, e = ⟨.mark .noRoom, false, true⟩) : D0 Wg K W w (w.alloc o) es :=
  ⟨fun b hb _ => alloc_old w o hb, rfl, rfl, by rw [alloc_size]; omega, fun e he => .inl (.inl (h e he))⟩
omit [Payload] in
theorem D0.store {r k : Nat} {v : Value} {es : Array Event} (hr : W r) (h : ∀ e ∈ es, ∃ a : Addr, e = ⟨.cell a, true, false⟩ ∧ a.block = r) : D0 Wg K W w (w.setCell ⟨r, k, none⟩ v) es := by
  have hA := aside_setCell w ⟨r, k, none⟩ v
  exact ⟨fun b _ hb => hA.block b (fun e => hb (by have : b = r := e; rw [this]; exact hr)), hA.os, hA.output, Nat.le_of_eq hA.size.symm,
    fun e he => let ⟨a, h1, h2⟩ := h e he; .inl (.inr ⟨a, true, h1, .inr (.inl (.inl (by rw [h2]; exact hr)))⟩)⟩
omit [Payload] in
theorem D0.store2 {r k k' : Nat} {v v' : Value} {es : Array Event} (hr : W r) (h : ∀ e ∈ es, ∃ a : Addr, e = ⟨.cell a, true, false⟩ ∧ a.block = r) : D0 Wg K W w ((w.setCell ⟨r, k, none⟩ v).setCell ⟨r, k', none⟩ v') es := by
  have hA := aside_setCell w ⟨r, k, none⟩ v
  have hA' := aside_setCell (w.setCell ⟨r, k, none⟩ v) ⟨r, k', none⟩ v'
  have ne : ∀ b, ¬ W b → b ≠ r := fun b hb e => hb (by rw [e]; exact hr)
  exact ⟨fun b _ hb => (hA'.block b (ne b hb)).trans (hA.block b (ne b hb)), hA'.os.trans hA.os, hA'.output.trans hA.output, Nat.le_of_eq (hA'.size.trans hA.size).symm,
    fun e he => let ⟨a, h1, h2⟩ := h e he; .inl (.inr ⟨a, true, h1, .inr (.inl (.inl (by rw [h2]; exact hr)))⟩)⟩

/-- What the starter knows: of wb, the world of before, what lies in K0 stands; l: blocks that it has made since the last go statement. -/
structure KS (ty : TypeId) (Wg C n : Nat) (K0 : Nat → Prop) (wb : World) (K W : Nat → Prop) (l : List (Nat × Array Value × TypeId)) (w : World) : Prop where
  sub : ∀ b, K0 b → K b
  same : ∀ b, K0 b → w.heap[b]? = wb.heap[b]?
  bnd : ∀ b, K b ∨ W b → b < w.heap.size ∧ b ≠ Wg ∧ b ≠ C
  live : WgLive ty Wg w
  pay : PayAt C n w
  rows : ∀ x ∈ l, W x.1 ∧ ¬ K x.1 ∧ w.heap[x.1]? = some (.cells x.2.1 x.2.2)
  diff : l.Pairwise fun x y => x.1 ≠ y.1

variable {K0 : Nat → Prop} {wb : World} {l : List (Nat × Array Value × TypeId)}
theorem KS.rely (h : KS ty Wg C n K0 wb K W l w) (r : R0 ty Wg C n K W w w₁) : KS ty Wg C n K0 wb K W l w₁ :=
  ⟨h.sub, fun b hb => (r.same b (.inl (h.sub b hb))).trans (h.same b hb), fun b hb => let ⟨h1, h2⟩ := h.bnd b hb; ⟨Nat.lt_of_lt_of_le h1 r.size, h2⟩, r.live h.live, r.pay h.pay,
    fun x hx => let ⟨h1, h2, h3⟩ := h.rows x hx; ⟨h1, h2, (r.same x.1 (.inr h1)).trans h3⟩, h.diff⟩
theorem KS.wgl (h : KS ty Wg C n K0 wb K W l w) : Wg < w.heap.size := let ⟨_, _, x⟩ := h.live; obj_ltU x
theorem KS.cl (h : KS ty Wg C n K0 wb K W l w) : C < w.heap.size := let ⟨_, x, _⟩ := h.pay; obj_ltU x
theorem KS.alloc (h : KS ty Wg C n K0 wb K W l w) (row : Array Value) (t : TypeId) : KS ty Wg C n K0 wb K (grow W w (w.alloc (.cells row t))) ((w.heap.size, row, t) :: l) (w.alloc (.cells row t)) := by
  have hC := h.cl
  have hWg := h.wgl
  have hs : w.heap.size ≤ (w.alloc (.cells row t)).heap.size := by rw [alloc_size]; omega
  refine ⟨h.sub, fun b hb => (alloc_old w _ (h.bnd b (.inl (h.sub b hb))).1).trans (h.same b hb), fun b hb => ?_, ?_, ?_, fun x hx => ?_, .cons (fun x hx e => ?_) h.diff⟩
  · have old : K b ∨ W b → b < (w.alloc (.cells row t)).heap.size ∧ b ≠ Wg ∧ b ≠ C := fun hb => let ⟨h1, h2⟩ := h.bnd b hb; ⟨by omega, h2⟩
    rcases hb with hb | hb | hb
    · exact old (.inl hb)
    · exact old (.inr hb)
    · exact ⟨hb.2, by omega, by omega⟩
  · obtain ⟨st, sm, x⟩ := h.live
    exact ⟨st, sm, (alloc_old w _ hWg).trans x⟩
  · obtain ⟨cs, x, y⟩ := h.pay
    exact ⟨cs, (alloc_old w _ hC).trans x, y⟩
  · rcases List.mem_cons.1 hx with rfl | hx
    · exact ⟨.inr ⟨Nat.le_refl _, by rw [alloc_size]; exact Nat.lt_succ_self _⟩, fun x => Nat.lt_irrefl _ (h.bnd _ (.inl x)).1, alloc_at _ _⟩
    · obtain ⟨h1, h2, h3⟩ := h.rows x hx
      exact ⟨.inl h1, h2, (alloc_old w _ (h.bnd _ (.inr h1)).1).trans h3⟩
  · have := (h.bnd x.1 (.inr (h.rows x hx).1)).1
    have e : w.heap.size = x.1 := e
    omega
theorem KS.set {r k : Nat} {row : Array Value} {t : TypeId} (h : KS ty Wg C n K0 wb K W ((r, row, t) :: l) w) (v : Value) : KS ty Wg C n K0 wb K W ((r, row.setIfInBounds k v, t) :: l) (w.setCell ⟨r, k, none⟩ v) := by
  obtain ⟨h1, h2, h3⟩ := h.rows _ (List.mem_cons_self ..)
  have hA := aside_setCell w ⟨r, k, none⟩ v
  obtain ⟨g1, g2, g3⟩ := h.bnd r (.inr h1)
  refine ⟨h.sub, fun b hb => (hA.block b (fun e => h2 (by have : b = r := e; rw [← this]; exact h.sub b hb))).trans (h.same b hb), fun b hb => by rw [hA.size]; exact h.bnd b hb, ?_, ?_, fun x hx => ?_, .cons (fun x hx => (List.pairwise_cons.1 h.diff).1 x hx) (List.pairwise_cons.1 h.diff).2⟩
  · obtain ⟨st, sm, x⟩ := h.live
    exact ⟨st, sm, (hA.block Wg (Ne.symm g2)).trans x⟩
  · obtain ⟨cs, x, y⟩ := h.pay
    exact ⟨cs, (hA.block C (Ne.symm g3)).trans x, y⟩
  · rcases List.mem_cons.1 hx with rfl | hx
    · exact ⟨h1, h2, setCell_row v h3⟩
    · obtain ⟨f1, f2, f3⟩ := h.rows x (List.mem_cons_of_mem _ hx)
      exact ⟨f1, f2, (hA.block x.1 (Ne.symm ((List.pairwise_cons.1 h.diff).1 x hx))).trans f3⟩
theorem KS.cell (h : KS ty Wg C n K0 wb K W l w) {a : Addr} {v : Value} (hb : K0 a.block) (hc : wb.cell? a = some v) : w.cell? a = some v := by
  have := h.same a.block hb
  unfold World.cell? at hc ⊢
  rw [this]
  exact hc
theorem KS.row {r : Nat} {row : Array Value} {t : TypeId} (h : KS ty Wg C n K0 wb K W l w) (hx : (r, row, t) ∈ l) {k : Nat} {v : Value} (hv : row[k]? = some v) : w.cell? ⟨r, k, none⟩ = some v ∧ w.frozen? ⟨r, k, none⟩ = false := by
  obtain ⟨_, _, h3⟩ := h.rows _ hx
  simp only at h3
  constructor
  · simp [World.cell?, h3, hv]
  · simp [World.frozen?, h3]
theorem KS.swap {x y : Nat × Array Value × TypeId} (h : KS ty Wg C n K0 wb K W (x :: y :: l) w) : KS ty Wg C n K0 wb K W (y :: x :: l) w := by
  obtain ⟨h1, h2⟩ := List.pairwise_cons.1 h.diff
  obtain ⟨h3, h4⟩ := List.pairwise_cons.1 h2
  refine ⟨h.sub, h.same, h.bnd, h.live, h.pay, fun z hz => h.rows z ?_, .cons (fun z hz => ?_) (.cons (fun z hz => h1 z (List.mem_cons_of_mem _ hz)) h4)⟩
  · simp only [List.mem_cons] at hz ⊢
    rcases hz with hz | hz | hz
    · exact .inr (.inl hz)
    · exact .inl hz
    · exact .inr (.inr hz)
  · rcases List.mem_cons.1 hz with rfl | hz
    · exact (h1 y (List.mem_cons_self ..)).symm
    · exact h3 z hz
/-- Behind the go statement. -/
theorem KS.fork (h : KS ty Wg C n K0 wb K W l w) : KS ty Wg C n K0 wb (fun b => K b ∨ W b) (fun _ => False) [] w :=
  ⟨fun b hb => .inl (h.sub b hb), h.same, fun b hb => h.bnd b (hb.resolve_right id), h.live, h.pay, by simp, .nil⟩
end

/-! ### words -/
end Go.Proofs.Ytcfpilkhjpegcaa
