/- The trace while goroutines write what they have made themselves: the kit's 'CT' with families that grow. -/
import Derived.Test.YtcfpilkhjpegcaaK54
import Derived.Test.YtcfpilkhjpegcaaK53
namespace Go.Proofs.Ytcfpilkhjpegcaa
open Go Go.Conc Go.ConcN
open Go.ConcR (stA smA rd wr mk Bk)

/-- What goroutine number k alone may touch: what it has made, and its cell of the payload (the first o only leave). -/
def OwnF (o C : Nat) (W : Nat → Nat → Prop) (k : Nat) (l : Loc) : Prop := ∃ a : Addr, l = .cell a ∧ (W k a.block ∨ (o < k ∧ a = ⟨C, k - 1 - o, none⟩))
/-- What it may read. -/
def RdF (K : Nat → Nat → Prop) (k : Nat) (l : Loc) : Prop := ∃ a : Addr, l = .cell a ∧ K k a.block

/-- Where the blocks lie. D: the shunned ones, the group's among them; W k: what goroutine k has made itself and no other knows; K k: what it may read besides. -/
structure Geom (D : Nat → Prop) (Wg C N1 : Nat) (K W : Nat → Nat → Prop) (B : Nat) : Prop where
  le : N1 ≤ B
  hC : C < N1
  hCD : ¬ D C
  hWg : D Wg
  dead : ∀ b, D b → b < N1
  own : ∀ k b, W k b → N1 ≤ b ∧ b < B
  rd : ∀ k b, K k b → b < B ∧ b ≠ C ∧ ¬ D b
  apart : ∀ k k' b, W k b → W k' b → k = k'
  ownRd : ∀ k k' b, W k b → ¬ K k' b

section
variable {D : Nat → Prop} {Wg C N1 o j B : Nat} {K W : Nat → Nat → Prop}

theorem Geom.neC (h : Geom D Wg C N1 K W B) {k b : Nat} (hb : W k b) : b ≠ C := by
  have := (h.own k b hb).1
  have := h.hC
  omega
theorem Geom.notD (h : Geom D Wg C N1 K W B) {k b : Nat} (hb : W k b) : ¬ D b := fun hd => by
  have := (h.own k b hb).1
  have := h.dead b hd
  omega
theorem Geom.apartF (h : Geom D Wg C N1 K W B) (o : Nat) : Apart (Sh D) (OwnF o C W) (RdF K) := by
  refine ⟨fun k k' l ⟨a, e, ha⟩ ⟨a', e', ha'⟩ => ?_, fun k k' l ⟨a, e, ha⟩ ⟨a', e', ha'⟩ => ?_, fun k l ⟨a, e, ha⟩ ⟨a', e', ha'⟩ => ?_, fun k l ⟨a, e, ha⟩ ⟨a', e', ha'⟩ => ?_⟩
  · subst e
    cases e'
    rcases ha with ha | ⟨hk, rfl⟩
    · rcases ha' with ha' | ⟨_, rfl⟩
      · exact h.apart _ _ _ ha ha'
      · exact absurd rfl (h.neC ha)
    · rcases ha' with ha' | ⟨hk', e⟩
      · exact absurd rfl (h.neC ha')
      · have := congrArg Addr.off e
        simp only at this
        omega
  · subst e
    cases e'
    rcases ha with ha | ⟨_, rfl⟩
    · exact h.ownRd _ _ _ ha ha'
    · exact (h.rd _ _ ha').2.1 rfl
  · subst e
    cases e'
    rcases ha with ha | ⟨_, rfl⟩
    · exact h.notD ha ha'
    · exact h.hCD ha'
  · subst e
    cases e'
    exact (h.rd _ _ ha).2.2 ha'

/-- What goroutine k has made in a step is its own. -/
theorem Geom.grow (h : Geom D Wg C N1 K W B) (k : Nat) {B' : Nat} (hB : B ≤ B') : Geom D Wg C N1 K (upd W k fun b => W k b ∨ (B ≤ b ∧ b < B')) B' := by
  have old : ∀ k' b, upd W k (fun b => W k b ∨ (B ≤ b ∧ b < B')) k' b → W k' b ∨ (k' = k ∧ B ≤ b ∧ b < B') := fun k' b hb => by
    by_cases e : k' = k
    · subst e
      rw [upd_same] at hb
      exact hb.imp id fun x => ⟨rfl, x⟩
    · rw [upd_ne W _ e] at hb
      exact .inl hb
  refine ⟨Nat.le_trans h.le hB, h.hC, h.hCD, h.hWg, h.dead, fun k' b hb => ?_, fun k' b hb => ?_, fun k1 k2 b h1 h2 => ?_, fun k1 k2 b h1 h2 => ?_⟩
  · rcases old k' b hb with x | ⟨_, x, y⟩
    · have := h.own k' b x
      omega
    · have := h.le
      omega
  · have := h.rd k' b hb
    exact ⟨by omega, this.2⟩
  · rcases old k1 b h1 with x | ⟨rfl, x, _⟩ <;> rcases old k2 b h2 with y | ⟨rfl, y, _⟩
    · exact h.apart _ _ _ x y
    · have := (h.own k1 b x).2
      omega
    · have := (h.own k2 b y).2
      omega
    · rfl
  · rcases old k1 b h1 with x | ⟨rfl, x, _⟩
    · exact h.ownRd _ _ _ x h2
    · have := (h.rd k2 b h2).1
      omega
end

/-- The families may change where nobody has been. -/
theorem CT.change {Sh : Loc → Prop} {Own Rd Own' Rd' : Nat → Loc → Prop} {t : Trace} {j : Nat} (h : CT Sh Own Rd t j)
    (h1 : ∀ k l, 1 ≤ k → k ≤ j → Own' k l → Own k l ∨ ∀ i a, touchAt t i = some a → a.loc ≠ l) (h2 : ∀ k l, 1 ≤ k → k ≤ j → Rd' k l → Rd k l)
    (h3 : ∀ k l, 1 ≤ k → k ≤ j → Own k l → Own' k l) (h4 : ∀ k l, 1 ≤ k → k ≤ j → Rd k l → Rd' k l) : CT Sh Own' Rd' t j :=
  ⟨h.quiet, fun k k1 kj l hl => (h1 k l k1 kj hl).elim (fun x => h.own k k1 kj l x) (fun x i a ha e => absurd e (x i a ha)), fun k k1 kj l hl => h.rd k k1 kj l (h2 k l k1 kj hl),
    fun l hs hl => h.free l hs fun k k1 kj => ⟨fun x => (hl k k1 kj).1 (h3 k l k1 kj x), fun x => (hl k k1 kj).2 (h4 k l k1 kj x)⟩,
    fun l hs hl => h.mine l hs fun k k1 kj x => hl k k1 kj (h3 k l k1 kj x), h.nr, h.gs⟩

theorem low_touch {B : Nat} {x : MemAct} (h : x.low B) {y : Touch} (hy : x.touch? = some y) {a : Addr} (e : y.loc = .cell a) : a.block < B := by
  cases x with
  | access ev =>
    simp [MemAct.touch?] at hy
    subst hy
    simp only at e
    rw [MemAct.low, e] at h
    exact h
  | mark m =>
    cases m <;> simp [MemAct.touch?] at hy
    all_goals (subst hy; cases e; exact h)
  | _ => simp [MemAct.touch?] at hy

/-- The trace's invariant. -/
structure TrI (D : Nat → Prop) (Wg C o : Nat) (K W : Nat → Nat → Prop) (j B : Nat) (t : Trace) : Prop where
  ct : CT (Sh D) (OwnF o C W) (RdF K) t j
  norel : NoRelease (stA Wg) t
  seen : ∀ op ∈ t, op.act.low B
  mem : ∀ op ∈ t, ∀ x, op.act.touch? = some x → x.loc.isMemory = true
  atom : ∀ i a, touchAt t i = some a → a.kind = .atomic → Knows t 0 i ∨ Sh D a.loc
  pre : ∃ t0 u, t = t0 ++ u ∧ t0.HandedOver ∧ ∀ op ∈ u, op.g ≠ 0 → op.g ≤ o → op.act.touch? = none

section
variable {D : Nat → Prop} {Wg C N1 o j B : Nat} {K W : Nat → Nat → Prop} {t : Trace}

theorem TrI.fresh (h : TrI D Wg C o K W j B t) {a : Addr} (ha : B ≤ a.block) : ∀ i x, touchAt t i = some x → x.loc ≠ .cell a := by
  intro i x hx e
  obtain ⟨op, ho, hox⟩ := touch_of hx
  have := low_touch (h.seen op (Array.mem_of_getElem? ho)) hox e
  omega

/-- What is new is whose step made it. -/
theorem TrI.grow (h : TrI D Wg C o K W j B t) (k : Nat) {B' : Nat} (hB : B ≤ B') : TrI D Wg C o K (upd W k fun b => W k b ∨ (B ≤ b ∧ b < B')) j B' t := by
  refine ⟨CT.change h.ct (fun k' l _ _ ⟨a, e, ha⟩ => ?_) (fun _ _ _ _ x => x) (fun k' l _ _ ⟨a, e, ha⟩ => ?_) (fun _ _ _ _ x => x), h.norel, fun op hop => MemAct.low_mono hB (h.seen op hop), h.mem, h.atom, h.pre⟩
  · rcases ha with ha | ha
    · by_cases ek : k' = k
      · subst ek
        rw [upd_same] at ha
        rcases ha with ha | ha
        · exact .inl ⟨a, e, .inl ha⟩
        · refine .inr ?_
          rw [e]
          exact h.fresh ha.1
      · rw [upd_ne W _ ek] at ha
        exact .inl ⟨a, e, .inl ha⟩
    · exact .inl ⟨a, e, .inr ha⟩
  · rcases ha with ha | ha
    · by_cases ek : k' = k
      · subst ek
        exact ⟨a, e, .inl (by rw [upd_same]; exact .inl ha)⟩
      · exact ⟨a, e, .inl (by rw [upd_ne W _ ek]; exact ha)⟩
    · exact ⟨a, e, .inr ha⟩

/-- An entry of a list that the invariant bears. -/
structure EvB (D : Nat → Prop) (Wg B : Nat) (e : Event) : Prop where
  norel : e.loc ≠ .mark (.release (stA Wg))
  low : (MemAct.ofEvent e).low B
  mem : ∀ x, (MemAct.ofEvent e).touch? = some x → x.loc.isMemory = true
  atom : ∀ x, (MemAct.ofEvent e).touch? = some x → x.kind = .atomic → Sh D x.loc

theorem TrI.app (h : TrI D Wg C o K W j B t) {g : Nat} {fn : FuncId} {pos : String} {es : Array Event} (he : ∀ e ∈ es, EvB D Wg B e) (hct : CT (Sh D) (OwnF o C W) (RdF K) (t ++ MemOp.ofEvents g fn pos es) j)
    (hq : g ≠ 0 → g ≤ o → ∀ e ∈ es, (MemAct.ofEvent e).touch? = none) : TrI D Wg C o K W j B (t ++ MemOp.ofEvents g fn pos es) := by
  refine ⟨hct, h.norel.app (norel_of fun e hm => (he e hm).norel), fun op hop => ?_, fun op hop x hx => ?_, fun i a ha hk => ?_, ?_⟩
  · rcases Array.mem_append.1 hop with h' | h'
    · exact h.seen op h'
    · obtain ⟨e, hm, rfl⟩ := Go.Conc.mem_ofEvents h'
      exact (he e hm).low
  · rcases Array.mem_append.1 hop with h' | h'
    · exact h.mem op h' x hx
    · obtain ⟨e, hm, rfl⟩ := Go.Conc.mem_ofEvents h'
      exact (he e hm).mem x hx
  · obtain ⟨op, ho, hox⟩ := touch_of ha
    rcases getElem?_append_cases ho with ⟨_, ho'⟩ | ⟨_, hou⟩
    · exact (h.atom i a (by rw [touchAt_of ho']; exact hox) hk).imp (fun x => x.app _) id
    · obtain ⟨e, hm, rfl⟩ := Go.Conc.mem_ofEvents hou
      exact .inr ((he e hm).atom a hox hk)
  · obtain ⟨t0, u, rfl, h0, hu⟩ := h.pre
    refine ⟨t0, u ++ MemOp.ofEvents g fn pos es, by rw [Array.append_assoc], h0, fun op hop hg ho => ?_⟩
    rcases Array.mem_append.1 hop with h' | h'
    · exact hu op h' hg ho
    · obtain ⟨e, hm, rfl⟩ := Go.Conc.mem_ofEvents h'
      exact hq hg ho e hm

/-- A goroutine's plain entries: it reads what it may, writes what is its own. -/
def EvO (rds own : Nat → Prop) (cell : Addr → Prop) (e : Event) : Prop := e = ⟨.mark .noRoom, false, true⟩ ∨ ∃ a wr, e = ⟨.cell a, wr, false⟩ ∧ ((wr = false ∧ rds a.block) ∨ own a.block ∨ cell a)

theorem EvO.touch {rds own : Nat → Prop} {cell : Addr → Prop} {e : Event} (h : EvO rds own cell e) {x : Touch} (hx : (MemAct.ofEvent e).touch? = some x) : ∃ a wr, e = ⟨.cell a, wr, false⟩ ∧ x = ⟨.cell a, wr, .plain⟩ ∧ ((wr = false ∧ rds a.block) ∨ own a.block ∨ cell a) := by
  rcases h with rfl | ⟨a, wr, rfl, h⟩
  · simp [MemAct.ofEvent, MemAct.touch?] at hx
  · refine ⟨a, wr, rfl, ?_, h⟩
    cases wr <;> simp [MemAct.ofEvent, MemAct.touch?] at hx <;> exact hx.symm
theorem EvO.idle {rds own : Nat → Prop} {cell : Addr → Prop} {e : Event} (h : EvO rds own cell e) : e.loc ≠ .mark .disable ∧ e.loc ≠ .mark .enable := by
  rcases h with rfl | ⟨a, wr, rfl, h⟩ <;> simp
theorem EvO.evB (G : Geom D Wg C N1 K W B) {k : Nat} {cell : Addr → Prop} (hc : ∀ a, cell a → a.block = C) {e : Event} (h : EvO (K k) (W k) cell e) : EvB D Wg B e := by
  refine ⟨?_, ?_, fun x hx => ?_, fun x hx ha => ?_⟩
  · rcases h with rfl | ⟨a, wr, rfl, h⟩ <;> simp
  · rcases h with rfl | ⟨a, wr, rfl, h⟩
    · trivial
    · have hb : a.block < B := by
        rcases h with ⟨_, h⟩ | h | h
        · exact (G.rd k _ h).1
        · exact (G.own k _ h).2
        · have := hc a h
          have := G.hC
          have := G.le
          omega
      cases wr <;> exact hb
  · obtain ⟨a, wr, _, rfl, _⟩ := h.touch hx
    rfl
  · obtain ⟨a, wr, _, rfl, _⟩ := h.touch hx
    cases ha
theorem EvO.okW (_G : Geom D Wg C N1 K W B) {k : Nat} (hk : o < k) {fn : FuncId} {pos : String} {es : Array Event} (h : ∀ e ∈ es, EvO (K k) (W k) (· = ⟨C, k - 1 - o, none⟩) e) : ∀ op ∈ MemOp.ofEvents k fn pos es, OkW (Sh D) (OwnF o C W) (RdF K) k op := by
  intro op hop
  obtain ⟨e, hm, rfl⟩ := Go.Conc.mem_ofEvents hop
  refine ⟨rfl, fun x hx => ?_⟩
  obtain ⟨a, wr, _, rfl, hh⟩ := (h e hm).touch hx
  rcases hh with ⟨rfl, hh⟩ | hh | hh
  · exact .inr (.inr ⟨⟨a, rfl, hh⟩, rfl⟩)
  · exact .inr (.inl ⟨a, rfl, .inl hh⟩)
  · exact .inr (.inl ⟨a, rfl, .inr ⟨hk, hh⟩⟩)
theorem EvO.ok0 (G : Geom D Wg C N1 K W B) {fn : FuncId} {pos : String} {es : Array Event} (h : ∀ e ∈ es, EvO (K 0) (W 0) (fun _ => False) e) : ∀ op ∈ MemOp.ofEvents 0 fn pos es, Ok0 (Sh D) (OwnF o C W) (RdF K) j op := by
  intro op hop
  obtain ⟨e, hm, rfl⟩ := Go.Conc.mem_ofEvents hop
  refine ⟨rfl, fun x hx => .inr ?_⟩
  obtain ⟨a, wr, _, rfl, hh⟩ := (h e hm).touch hx
  rcases hh with ⟨rfl, hh⟩ | hh | hh
  · have hr := G.rd 0 _ hh
    refine ⟨fun ⟨a', e', ha'⟩ => by cases e'; exact hr.2.2 ha', fun k k1 _ ⟨a', e', ha'⟩ => ?_, fun hw => by cases hw⟩
    cases e'
    rcases ha' with ha' | ⟨_, rfl⟩
    · exact G.ownRd _ _ _ ha' hh
    · exact hr.2.1 rfl
  · refine ⟨fun ⟨a', e', ha'⟩ => by cases e'; exact G.notD hh ha', fun k k1 _ ⟨a', e', ha'⟩ => ?_, fun _ k _ _ ⟨a', e', ha'⟩ => by cases e'; exact G.ownRd _ _ _ hh ha'⟩
    cases e'
    rcases ha' with ha' | ⟨_, rfl⟩
    · have := G.apart _ _ _ ha' hh
      omega
    · exact G.neC hh rfl
  · exact hh.elim

/-- The library's bookkeeping. -/
theorem evB_bk (hWg : D Wg) (hB : Wg < B) {e : Event} (h : Bk Wg e) : EvB D Wg B e := by
  refine ⟨?_, ?_, fun x hx => ?_, fun x hx ha => ?_⟩ <;> rcases h with h | h | ⟨a, wr, rfl, h⟩
  · rw [h]; simp
  · rw [h]; simp
  · simp
  · rw [Go.ConcR.ofEvent_loc_mark h]; trivial
  · rw [Go.ConcR.ofEvent_loc_mark h]; trivial
  · rw [Go.ConcR.ofEvent_cell]; show a.block < B; omega
  · rw [Go.ConcR.ofEvent_loc_mark h] at hx; cases hx
  · rw [Go.ConcR.ofEvent_loc_mark h] at hx; cases hx
  · rw [Go.ConcR.ofEvent_cell] at hx; simp [MemAct.touch?] at hx; subst hx; rfl
  · rw [Go.ConcR.ofEvent_loc_mark h] at hx; cases hx
  · rw [Go.ConcR.ofEvent_loc_mark h] at hx; cases hx
  · rw [Go.ConcR.ofEvent_cell] at hx; simp [MemAct.touch?] at hx; subst hx; exact ⟨a, rfl, by rw [h]; exact hWg⟩
theorem okW_bk (hWg : D Wg) {k : Nat} {fn : FuncId} {pos : String} {es : Array Event} {Own Rd : Nat → Loc → Prop} (h : ∀ e ∈ es, Bk Wg e) : ∀ op ∈ MemOp.ofEvents k fn pos es, OkW (Sh D) Own Rd k op := by
  intro op hop
  refine ⟨(okW_of_Bk (Own := Own) (Rd := Rd) h op hop).1, fun x hx => ?_⟩
  obtain ⟨e, hm, rfl⟩ := Go.Conc.mem_ofEvents hop
  rcases h e hm with h1 | h1 | ⟨a, wr, rfl, ha⟩
  · simp only [Go.ConcR.ofEvent_loc_mark h1] at hx; cases hx
  · simp only [Go.ConcR.ofEvent_loc_mark h1] at hx; cases hx
  · simp only [Go.ConcR.ofEvent_cell, MemAct.touch?, Option.some.injEq] at hx
    subst hx
    exact .inl ⟨⟨a, rfl, by rw [ha]; exact hWg⟩, by simp, by simp⟩
theorem ok0_bk (hWg : D Wg) {fn : FuncId} {pos : String} {es : Array Event} {Own Rd : Nat → Loc → Prop} (h : ∀ e ∈ es, Bk Wg e) : ∀ op ∈ MemOp.ofEvents 0 fn pos es, Ok0 (Sh D) Own Rd j op := by
  intro op hop
  obtain ⟨e, hm, rfl⟩ := Go.Conc.mem_ofEvents hop
  refine ⟨rfl, fun x hx => ?_⟩
  rcases h e hm with h1 | h1 | ⟨a, wr, rfl, ha⟩
  · simp only [Go.ConcR.ofEvent_loc_mark h1] at hx; cases hx
  · simp only [Go.ConcR.ofEvent_loc_mark h1] at hx; cases hx
  · simp only [Go.ConcR.ofEvent_cell, MemAct.touch?, Option.some.injEq] at hx
    subst hx
    exact .inl ⟨⟨a, rfl, by rw [ha]; exact hWg⟩, by simp⟩
/-- What the starter says of the group's cells. -/
def EvS (Wg : Nat) (e : Event) : Prop := ∃ a : Addr, a.block = Wg ∧ (e = ⟨.mark (.read a), false, true⟩ ∨ e = ⟨.mark (.write a), false, true⟩)
theorem evB_say (_hWg : D Wg) (hB : Wg < B) {e : Event} (h : EvS Wg e) : EvB D Wg B e := by
  obtain ⟨a, ha, rfl | rfl⟩ := h <;> refine ⟨by simp, ?_, fun x hx => ?_, fun x hx hk => ?_⟩
  · show a.block < B; omega
  · simp [MemAct.ofEvent, MemAct.touch?] at hx; subst hx; rfl
  · simp [MemAct.ofEvent, MemAct.touch?] at hx; subst hx; cases hk
  · show a.block < B; omega
  · simp [MemAct.ofEvent, MemAct.touch?] at hx; subst hx; rfl
  · simp [MemAct.ofEvent, MemAct.touch?] at hx; subst hx; cases hk
theorem ok0_say (hWg : D Wg) {fn : FuncId} {pos : String} {es : Array Event} {Own Rd : Nat → Loc → Prop} (h : ∀ e ∈ es, EvS Wg e) : ∀ op ∈ MemOp.ofEvents 0 fn pos es, Ok0 (Sh D) Own Rd j op := by
  intro op hop
  obtain ⟨e, hm, rfl⟩ := Go.Conc.mem_ofEvents hop
  refine ⟨rfl, fun x hx => .inl ?_⟩
  obtain ⟨a, ha, rfl | rfl⟩ := h e hm <;> simp [MemAct.ofEvent, MemAct.touch?] at hx <;> subst hx <;> exact ⟨⟨a, rfl, by rw [ha]; exact hWg⟩, by simp⟩
/-- What touches nothing. -/
theorem okW_mute {k : Nat} {fn : FuncId} {pos : String} {es : Array Event} {Sh : Loc → Prop} {Own Rd : Nat → Loc → Prop} (h : ∀ e ∈ es, (MemAct.ofEvent e).touch? = none) : ∀ op ∈ MemOp.ofEvents k fn pos es, OkW Sh Own Rd k op := by
  intro op hop
  obtain ⟨e, hm, rfl⟩ := Go.Conc.mem_ofEvents hop
  exact ⟨rfl, fun x hx => by simp only [h e hm] at hx; cases hx⟩
theorem ok0_mute {fn : FuncId} {pos : String} {es : Array Event} {Sh : Loc → Prop} {Own Rd : Nat → Loc → Prop} (h : ∀ e ∈ es, (MemAct.ofEvent e).touch? = none) : ∀ op ∈ MemOp.ofEvents 0 fn pos es, Ok0 Sh Own Rd j op := by
  intro op hop
  obtain ⟨e, hm, rfl⟩ := Go.Conc.mem_ofEvents hop
  exact ⟨rfl, fun x hx => by simp only [h e hm] at hx; cases hx⟩

/-- At the start: whoever is there only leaves. -/
theorem TrI.start {D0 : Nat → Prop} {P : Program} {gs : Array Goroutine} {v : World} {q : Nat → Nat} (hF : FmL P D0 gs v t q) (hsz : v.heap.size = Wg) (ho : gs.size = o + 1) (hK : ∀ k, 1 ≤ k → k ≤ o → ∀ b, ¬ K k b) (hW : ∀ k, 1 ≤ k → k ≤ o → ∀ b, ¬ W k b) (hB : Wg ≤ B) :
    TrI (fun b => D0 b ∨ b = Wg) Wg C o K W o B t := by
  have hfresh : ∀ i x, touchAt t i = some x → ∀ a, x.loc = .cell a → a.block ≠ Wg := by
    intro i x hx a e
    obtain ⟨op, ho, hox⟩ := touch_of hx
    have := low_touch (hF.past.seen op (Array.mem_of_getElem? ho)) hox e
    omega
  have hno : ∀ k, 1 ≤ k → k ≤ o → ∀ l, ¬ OwnF o C W k l := fun k k1 ko l ⟨a, _, ha⟩ => by
    rcases ha with ha | ⟨ha, _⟩
    · exact hW k k1 ko _ ha
    · omega
  have hkn : ∀ l, ¬ Sh (fun b => D0 b ∨ b = Wg) l → Perm t 0 l := fun l hs i a ha e => by
    obtain ⟨op, hop, hox⟩ := touch_of ha
    rcases hF.past.known i a ha (hF.mem op (Array.mem_of_getElem? hop) a hox) with h | ⟨h, _⟩
    · exact h
    · obtain ⟨ad, e', hd⟩ := h
      exact absurd ⟨ad, e ▸ e', .inl hd⟩ hs
  refine ⟨⟨fun i op x hi hx hs => ?_, fun k k1 ko l hl => absurd hl (hno k k1 ko l), fun k k1 ko l ⟨a, _, ha⟩ => absurd ha (hK k k1 ko _), fun l hs _ => hkn l hs, fun l hs _ => .of (hkn l hs), hF.past.clean, fun i op hi => ?_⟩,
    fun i hi => ?_, fun op hop => MemAct.low_mono (by omega) (hF.past.seen op hop), hF.mem, fun i a ha hk => ?_, t, #[], by simp, hF.past.over, fun op hop => by simp at hop⟩
  · obtain ⟨a, e, hd⟩ := hs
    rcases hd with hd | hd
    · exact hF.quiet i op x hi hx ⟨a, e, hd⟩
    · exact absurd hd (hfresh i x (by rw [touchAt_of hi]; exact hx) a e)
  · have := hF.num op (Array.mem_of_getElem? hi)
    omega
  · obtain ⟨op, hop, hact⟩ := Option.map_eq_some_iff.1 hi
    have := hF.past.seen op (Array.mem_of_getElem? hop)
    rw [hact] at this
    have : (stA Wg).block < v.heap.size := this
    rw [hsz] at this
    exact absurd this (Nat.lt_irrefl _)
  · obtain ⟨op, hop, hox⟩ := touch_of ha
    rcases hF.past.known i a ha (hF.mem op (Array.mem_of_getElem? hop) a hox) with h | ⟨⟨ad, e', hd⟩, _⟩
    · exact .inl h
    · exact .inr ⟨ad, e', .inl hd⟩

/-- At the join: all is handed over. -/
theorem TrI.over (h : TrI D Wg C o K W j B t) {q : Nat} (hq : t.act? q = some (.mark (.acquire (stA Wg)))) (hg : t.g? q = some 0) (hh : t.heard q) (all : ∀ i, o ≤ i → i < j → ∃ r, RelBy (stA Wg) t (i + 1) r ∧ r < q) : t.HandedOver := by
  intro i g hgi hne hc
  obtain ⟨op, hop, hog⟩ := Option.map_eq_some_iff.1 hgi
  subst hog
  have hj := h.ct.gs i op hop
  by_cases ho : op.g ≤ o
  · obtain ⟨t0, u, rfl, h0, hu⟩ := h.pre
    obtain ⟨x, hx, _⟩ := hc
    obtain ⟨op', hop', hox⟩ := touch_of hx
    obtain rfl : op = op' := by rw [hop] at hop'; exact Option.some.inj hop'
    rcases getElem?_append_cases hop with ⟨hi, hop'⟩ | ⟨_, hopu⟩
    · obtain ⟨y, hy, hb⟩ := h0 i op.g (by simp [Trace.g?, hop']) hne ((counts_old hi).1 ⟨x, hx, ‹_›⟩)
      have hyl : y < t0.size := by
        unfold Trace.g? at hy
        obtain ⟨z, hz, _⟩ := Option.map_eq_some_iff.1 hy
        exact lt_size_of_getElem? hz
      exact ⟨y, by simpa [Trace.g?, getElem?_append_old hyl] using hy, hb_app u hb⟩
    · rw [hu op hopu hne ho] at hox
      cases hox
  · obtain ⟨r, hr, hrq⟩ := all (op.g - 1) (by omega) (by omega)
    rw [show op.g - 1 + 1 = op.g by omega] at hr
    have edge : HappensBefore t r q := .single (.inr ⟨.marked hrq (.inr hr.act) hq (fun k _ _ => h.norel k), hr.heard, hh⟩)
    have hle : i ≤ r := Nat.le_of_not_lt fun hlt => hr.after i hlt hgi hc
    rcases Nat.lt_or_ge i r with hlt | hge
    · exact ⟨q, hg, .trans (.single (.inl ⟨hlt, op.g, hgi, hr.g⟩)) edge⟩
    · obtain rfl : i = r := by omega
      exact ⟨q, hg, edge⟩

theorem TrI.past (h : TrI D Wg C o K W j B t) (ho : t.HandedOver) (h0 : Deaf t 0 = 0) : Past (Sh D) B t := by
  refine ⟨h.ct.nr, fun i a ha hm => ?_, ho, h0, h.seen⟩
  obtain ⟨op, hop, hox⟩ := touch_of ha
  by_cases hz : op.g = 0
  · have := knows_own hop
    rw [hz] at this
    exact .inl this
  · by_cases hk : a.kind = .atomic
    · exact (h.atom i a ha hk).imp id fun x => ⟨x, hk⟩
    · have hgi : t.g? i = some op.g := by simp [Trace.g?, hop]
      obtain ⟨y, hy, hb⟩ := ho i op.g hgi hz ⟨a, ha, by
        obtain ⟨act, h1, h2⟩ := Option.bind_eq_some_iff.1 ha
        exact ⟨h.mem op (Array.mem_of_getElem? hop) a hox, .inl hk⟩⟩
      obtain ⟨z, hz1, hz2⟩ := Option.map_eq_some_iff.1 hy
      exact .inl ⟨y, z, hz1, hz2, .inr hb⟩
end
end Go.Proofs.Ytcfpilkhjpegcaa

/- Workers that make memory of their own, and their starter: what is asked of each goroutine. -/
namespace Go.Proofs.Ytcfpilkhjpegcaa
open Go Go.Conc Go.ConcN Go.Conc.Lib
open Go.ConcR (KK WgAt stA smA rd wr mk Payload DC0)
variable [Payload]

section
variable (ty : TypeId) (Wg C n : Nat)

/-- What a worker suffers: what it may read and what is its own stands; the group's block stays one; the payload's stays one; its cell stands. -/
structure RWk (K : Nat → Prop) (ci : Nat) (W : Nat → Prop) (w w₁ : World) : Prop where
  same : ∀ b, K b ∨ W b → w₁.heap[b]? = w.heap[b]?
  live : WgLive ty Wg w → WgLive ty Wg w₁
  pay : PayAt C n w → PayAt C n w₁
  cell : w₁.cell? ⟨C, ci, none⟩ = w.cell? ⟨C, ci, none⟩
  size : w.heap.size ≤ w₁.heap.size
/-- What it does while it works. -/
structure DWk (K : Nat → Prop) (ci : Nat) (W : Nat → Prop) (w w' : World) (es : Array Event) : Prop where
  old : ∀ b, b < w.heap.size → ¬ W b → b ≠ C → w'.heap[b]? = w.heap[b]?
  os : w'.os = w.os
  output : w'.output = w.output
  size : w.heap.size ≤ w'.heap.size
  pay : PayAt C n w → PayAt C n w'
  cells : ∀ i, i ≠ ci → w'.cell? ⟨C, i, none⟩ = w.cell? ⟨C, i, none⟩
  evs : ∀ e ∈ es, EvO K (grow W w w') (· = ⟨C, ci, none⟩) e
/-- What the starter suffers. -/
structure R0 (K : Nat → Prop) (W : Nat → Prop) (w w₁ : World) : Prop where
  same : ∀ b, K b ∨ W b → w₁.heap[b]? = w.heap[b]?
  live : WgLive ty Wg w → WgLive ty Wg w₁
  pay : PayAt C n w → PayAt C n w₁
  size : w.heap.size ≤ w₁.heap.size
/-- What it does. -/
structure D0 (K : Nat → Prop) (W : Nat → Prop) (w w' : World) (es : Array Event) : Prop where
  old : ∀ b, b < w.heap.size → ¬ W b → w'.heap[b]? = w.heap[b]?
  os : w'.os = w.os
  output : w'.output = w.output
  size : w.heap.size ≤ w'.heap.size
  evs : ∀ e ∈ es, EvO K (grow W w w') (fun _ => False) e ∨ EvS Wg e
end

section
variable {ty : TypeId} {Wg C n : Nat} {K : Nat → Prop} {ci : Nat} {W : Nat → Prop} {w w₁ w₂ : World}
theorem RWk.refl (w : World) : RWk ty Wg C n K ci W w w := ⟨fun _ _ => rfl, id, id, rfl, Nat.le_refl _⟩
theorem RWk.trans (h : RWk ty Wg C n K ci W w w₁) (k : RWk ty Wg C n K ci W w₁ w₂) : RWk ty Wg C n K ci W w w₂ :=
  ⟨fun b hb => (k.same b hb).trans (h.same b hb), k.live ∘ h.live, k.pay ∘ h.pay, k.cell.trans h.cell, Nat.le_trans h.size k.size⟩
theorem RWk.at (w : World) (d : Nat) : RWk ty Wg C n K ci W w (w.at d) := ⟨fun _ _ => rfl, id, id, rfl, Nat.le_refl _⟩
theorem RWk.toRW (h : RWk ty Wg C n K ci W w w₁) : RW ty Wg C n 0 ci w w₁ := ⟨fun b hb => absurd hb (Nat.not_lt_zero b), h.live, h.pay, h.cell⟩
theorem R0.refl (w : World) : R0 ty Wg C n K W w w := ⟨fun _ _ => rfl, id, id, Nat.le_refl _⟩
theorem R0.trans (h : R0 ty Wg C n K W w w₁) (k : R0 ty Wg C n K W w₁ w₂) : R0 ty Wg C n K W w w₂ :=
  ⟨fun b hb => (k.same b hb).trans (h.same b hb), k.live ∘ h.live, k.pay ∘ h.pay, Nat.le_trans h.size k.size⟩
theorem R0.at (w : World) (d : Nat) : R0 ty Wg C n K W w (w.at d) := ⟨fun _ _ => rfl, id, id, Nat.le_refl _⟩
/-- The group's block turns. -/
theorem RWk.of_wg (hK : ¬ K Wg) (hW : ¬ W Wg) (hC : C ≠ Wg) (h : Aside Wg w w₁) (hl : WgLive ty Wg w₁) : RWk ty Wg C n K ci W w w₁ :=
  ⟨fun b hb => h.block b (by rintro rfl; exact hb.elim hK hW), fun _ => hl, fun ⟨cs, hc, hn⟩ => ⟨cs, (h.block C hC).trans hc, hn⟩, cell_of_block (h.block C hC) ci, Nat.le_of_eq h.size.symm⟩
theorem R0.of_wg (hK : ¬ K Wg) (hW : ¬ W Wg) (hC : C ≠ Wg) (h : Aside Wg w w₁) (hl : WgLive ty Wg w₁) : R0 ty Wg C n K W w w₁ :=
  ⟨fun b hb => h.block b (by rintro rfl; exact hb.elim hK hW), fun _ => hl, fun ⟨cs, hc, hn⟩ => ⟨cs, (h.block C hC).trans hc, hn⟩, Nat.le_of_eq h.size.symm⟩
end

section
variable (P : Program) (ty : TypeId) (Wg C n : Nat) (Fin : Nat → (Nat → Prop) → World → Prop)
/-- A worker's work is done: it says its release. -/
def Stop7 (ci : Nat) (W : Nat → Prop) (g : Goroutine) (w : World) : Prop := ∃ v, AtR0 P ty Wg C n 0 (ci + 1) v g w ∧ Fin ci W w

/-- Goroutine number k that the starter has started, or that only leaves since before (k ≤ o): stage, fuel, deafness. -/
inductive WS (o : Nat) (K : Nat → Prop) (k : Nat) (W : Nat → Prop) : Nat → Nat → Nat → Goroutine → World → Prop
  | work {m : Nat} {g : Goroutine} {w : World} : o < k → GoesG P false (RWk ty Wg C n K (k - 1 - o)) (DWk C n K (k - 1 - o)) (Stop7 P ty Wg C n Fin (k - 1 - o)) m W g w → WS o K k W 7 m 0 g w
  | done {v : Value} {s m d : Nat} {g : Goroutine} {w : World} : o < k → s ≤ 6 → WSit P ty Wg C n (fun _ _ => False) (fun _ _ => False) 0 (k - 1 - o + 1) v s m d g w → Fin (k - 1 - o) W w → WS o K k W s m d g w
  | old {q d : Nat} {g : Goroutine} {w : World} : k ≤ o → QuitsD P q d g → WS o K k W 1 q d g w
end

section
variable {P : Program} {ty : TypeId} {Wg C n : Nat} {Fin : Nat → (Nat → Prop) → World → Prop} {o : Nat} {K : Nat → Prop} {k : Nat} {W : Nat → Prop} {s m d : Nat} {g : Goroutine} {w w₁ : World}

/-- The worker's result stands, whatever the others do. -/
def FinOk (ty : TypeId) (Wg C n : Nat) (Fin : Nat → (Nat → Prop) → World → Prop) : Prop := ∀ K ci W w w₁, RWk ty Wg C n K ci W w w₁ → Fin ci W w → Fin ci W w₁

theorem WS.rely (hF : FinOk ty Wg C n Fin) (h : WS P ty Wg C n Fin o K k W s m d g w) (hr : RWk ty Wg C n K (k - 1 - o) W w w₁) : WS P ty Wg C n Fin o K k W s m d g w₁ := by
  cases h with
  | work ho h => exact .work ho (GoesG.rely (fun _ _ _ _ h1 h2 => h1.trans h2) h hr)
  | done ho hs h hf => exact .done ho hs (h.rely hr.toRW) (hF _ _ _ _ _ hr hf)
  | old ho h => exact .old ho h
theorem WS.status (h : WS P ty Wg C n Fin o K k W s m d g w) : g.status = .running ∨ g.status = .finished := by
  cases h with
  | work ho h => exact .inl (GoesG.running (fun _ w => RWk.refl w) (fun _ _ _ ⟨_, x, _⟩ => x.1) h)
  | done ho hs h hf => exact h.status
  | old ho h => exact h.status
theorem WS.running_of (h : WS P ty Wg C n Fin o K k W s m d g w) (hs : s ≠ 1) : g.status = .running := by
  cases h with
  | work ho h => exact GoesG.running (fun _ w => RWk.refl w) (fun _ _ _ ⟨_, x, _⟩ => x.1) h
  | done ho _ h hf => exact h.running_of hs
  | old ho h => exact absurd rfl hs
theorem WS.woken (h : WS P ty Wg C n Fin o K k W s m d g w) (a a' : Goroutine) (w' : World) : woken P a a' w' g = g := by
  unfold Go.Conc.woken
  split
  · exact again_running _ h.status
  · rfl
theorem WS.quits (h : WS P ty Wg C n Fin o K k W s m d g w) (hs : s = 1) : QuitsD P m d g := by
  cases h with
  | work ho h => cases hs
  | done ho _ h hf => exact h.quits hs
  | old ho h => exact h
theorem WS.fin (h : WS P ty Wg C n Fin o K k W s m d g w) (ho : o < k) (hs : s ≤ 6) : Fin (k - 1 - o) W w := by
  cases h with
  | work _ h => omega
  | done _ _ h hf => exact hf
  | old hk h => omega
end

/-! ### the starter, from its end backwards -/
section
variable (P : Program) (ty : TypeId) (Wg C n : Nat) (Fin : Nat → (Nat → Prop) → World → Prop) (gR : Goroutine → Prop) (Anc : Goroutine → World → Prop) (K : Nat → Prop)
def AtR (_W : Nat → Prop) (g : Goroutine) (_w : World) : Prop := gR g
def VAcq (W : Nat → Prop) (g : Goroutine) (w : World) : Prop := g.status = .running ∧ ∃ g', stepG P true g w = .go g' w #[mk (.acquire (stA Wg))] ∧ ∃ m, (GoesG P true (R0 ty Wg C n K) (D0 Wg K)) (AtR gR) m W g' w
def VKe (W : Nat → Prop) (g : Goroutine) (w : World) : Prop := g.status = .running ∧ ∃ g', stepG P true g w = .go g' w #[mk .enable] ∧ ∃ m, (GoesG P true (R0 ty Wg C n K) (D0 Wg K)) (VAcq P ty Wg C n gR K) m W g' w
def VW4 (W : Nat → Prop) (g : Goroutine) (w : World) : Prop := g.status = .running ∧ (WgAt ty Wg w 0 0 → ∃ g', stepG P true g w = .go g' w #[rd (stA Wg)] ∧ ∃ m, (GoesG P true (R0 ty Wg C n K) (D0 Wg K)) (VKe P ty Wg C n gR K) m W g' w)
def VW3 (W : Nat → Prop) (g : Goroutine) (w : World) : Prop := g.status = .running ∧ g.offers = none ∧
  ((∃ st, WgAt ty Wg w st 0) → stepG P true g w = .go { g with status := .blocked } w #[]) ∧
  (WgAt ty Wg w 0 1 → ∃ g', stepG P true g w = .go g' (w.setCell (smA Wg) (.int .u32 0)) (semEvents (smA Wg)) ∧ ∃ m, (GoesG P true (R0 ty Wg C n K) (D0 Wg K)) (VW4 P ty Wg C n gR K) m W g' (w.setCell (smA Wg) (.int .u32 0)))
def VW2 (vs : Nat) (W : Nat → Prop) (g : Goroutine) (w : World) : Prop := g.status = .running ∧ ∀ v : Nat, v < 2147483648 → WgAt ty Wg w (v * KK) 0 →
  (v = vs → ∃ g', stepG P true g w = .go g' (w.setCell (stA Wg) (.int .u64 (v * KK + 1))) #[rd (stA Wg), wr (stA Wg)] ∧ ∃ m, (GoesG P true (R0 ty Wg C n K) (D0 Wg K)) (VW3 P ty Wg C n gR K) m W g' (w.setCell (stA Wg) (.int .u64 (v * KK + 1)))) ∧
  (v ≠ vs → ∃ g', stepG P true g w = .go g' w #[rd (stA Wg)] ∧ ∃ m, (GoesG P true (R0 ty Wg C n K) (D0 Wg K)) (fun _ => Anc) m W g' w)
def VW1 (W : Nat → Prop) (g : Goroutine) (w : World) : Prop := g.status = .running ∧ ∀ v : Nat, v < 2147483648 → WgAt ty Wg w (v * KK) 0 → ∃ g', stepG P true g w = .go g' w #[rd (stA Wg)] ∧
  (v = 0 → ∃ m, (GoesG P true (R0 ty Wg C n K) (D0 Wg K)) (VKe P ty Wg C n gR K) m W g' w) ∧ (v ≠ 0 → ∃ m, (GoesG P true (R0 ty Wg C n K) (D0 Wg K)) (VW2 P ty Wg C n gR Anc K v) m W g' w)
def VKd (W : Nat → Prop) (g : Goroutine) (w : World) : Prop := g.status = .running ∧ ∃ g', stepG P true g w = .go g' w #[mk .disable] ∧ ∃ m, (GoesG P true (R0 ty Wg C n K) (D0 Wg K)) (fun _ => Anc) m W g' w

/-! .. while it starts them. ci: the new worker's number among the payload's cells. -/
section
variable (ci : Nat) (Next : (Nat → Prop) → Goroutine → World → Prop)
/-- The go statement: what the starter has made is now both's to read. -/
def StGo (W : Nat → Prop) (g : Goroutine) (w : World) : Prop := g.status = .running ∧ ∃ g' child, stepG P true g w = .spawn g' child w #[] ∧ child.status = .running ∧
  (PayAt C n w → ∃ m, GoesG P false (RWk ty Wg C n (fun b => K b ∨ W b) ci) (DWk C n (fun b => K b ∨ W b) ci) (Stop7 P ty Wg C n Fin ci) m (fun _ => False) child w) ∧ Next (fun b => K b ∨ W b) g' w
def StKe (W : Nat → Prop) (g : Goroutine) (w : World) : Prop := g.status = .running ∧ ∃ g', stepG P true g w = .go g' w #[mk .enable] ∧ ∃ m, (GoesG P true (R0 ty Wg C n K) (D0 Wg K)) (StGo P ty Wg C n Fin K ci Next) m W g' w
def StA1 (W : Nat → Prop) (g : Goroutine) (w : World) : Prop := g.status = .running ∧ ∀ v : Nat, v < 2147483647 → WgAt ty Wg w (v * KK) 0 →
  ∃ g', stepG P true g w = .go g' (w.setCell (stA Wg) (.int .u64 ((v + 1) * KK))) #[rd (stA Wg), wr (stA Wg)] ∧ ∃ m, (GoesG P true (R0 ty Wg C n K) (D0 Wg K)) (StKe P ty Wg C n Fin K ci Next) m W g' (w.setCell (stA Wg) (.int .u64 ((v + 1) * KK)))
def StKd (W : Nat → Prop) (g : Goroutine) (w : World) : Prop := g.status = .running ∧ ∃ g', stepG P true g w = .go g' w #[mk .disable] ∧ ∃ m, (GoesG P true (R0 ty Wg C n K) (D0 Wg K)) (StA1 P ty Wg C n Fin K ci Next) m W g' w
end
end

section
variable (P : Program) (ty : TypeId) (Wg C n : Nat) (Fin : Nat → (Nat → Prop) → World → Prop) (gR : Goroutine → Prop) (Anc : Goroutine → World → Prop)
/-- The starter's whole script: r workers are still to be started. -/
def Spw : Nat → (Nat → Prop) → (Nat → Prop) → Goroutine → World → Prop
  | 0, K, W, g, w => ∃ m, GoesG P true (R0 ty Wg C n K) (D0 Wg K) (VKd P ty Wg C n Anc K) m W g w
  | r + 1, K, W, g, w => ∃ m, GoesG P true (R0 ty Wg C n K) (D0 Wg K) (StKd P ty Wg C n Fin K (n - (r + 1)) (fun K' => Spw r K' (fun _ => False))) m W g w
end

/-! ### from the ways through Add and Wait -/
section
variable {P : Program} {ty : TypeId} {Wg C n : Nat} {Fin : Nat → (Nat → Prop) → World → Prop} {gR : Goroutine → Prop} {gA : Goroutine} {Anc : Goroutine → World → Prop} {K W : Nat → Prop} {ci : Nat} {Next : (Nat → Prop) → Goroutine → World → Prop} {w0 : World}

omit [Payload] in
theorem dl_d0 {w w' : World} {es : Array Event} {F : World → Prop} (h : DL Wg w w' es) : D0 Wg K W w w' es ∧ w'.heap.size = w.heap.size ∧ (F w → F w') := by
  obtain ⟨rfl, h⟩ := h
  exact ⟨⟨fun _ _ _ => rfl, rfl, rfl, Nat.le_refl _, fun e he => .inr (h e he)⟩, rfl, id⟩

/-- A way through the library, seen from the machine: what is known beside it stands. -/
theorem fromL {F : World → Prop} (hF : ∀ w w₁, R0 ty Wg C n K W w w₁ → F w → F w₁) {Stop : Goroutine → World → Prop} {Stop' : (Nat → Prop) → Goroutine → World → Prop} (hs : ∀ g w, F w → Stop g w → Stop' W g w) {m : Nat} {g : Goroutine} {w : World} (hf : F w)
    (h : Goes P true (RL ty Wg) (DL Wg) Stop m g w) : GoesG P true (R0 ty Wg C n K) (D0 Wg K) Stop' m W g w :=
  GoesG.mono (fun _ g w ⟨e, f, s⟩ => by subst e; exact hs g w f s) (GoesG.of (R := R0 ty Wg C n K) (Dg := D0 Wg K) (W := W) (R0 := RL ty Wg) (D0 := DL Wg) (F := F) (fun _ _ r => r.live) hF (fun _ _ _ d => dl_d0 d) hf h)

theorem r0_stable {w w₁ : World} (r : R0 ty Wg C n K W w w₁) (h : R0 ty Wg C n K W w0 w) : R0 ty Wg C n K W w0 w₁ := h.trans r

theorem aKe {m : Nat} (hgo : ∀ w, R0 ty Wg C n K W w0 w → GoesG P true (R0 ty Wg C n K) (D0 Wg K) (StGo P ty Wg C n Fin K ci Next) m W gA w) {g : Goroutine} {w : World} (hf : R0 ty Wg C n K W w0 w) (h : AKe P ty Wg gA g w) : StKe P ty Wg C n Fin K ci Next W g w := by
  obtain ⟨h1, g', h2, m', h3⟩ := h
  refine ⟨h1, g', h2, m' + m, GoesG.then (fun _ w => R0.refl w) (Stop := fun W' g w => W' = W ∧ R0 ty Wg C n K W w0 w ∧ g = gA) (fun W' g w ⟨e1, e2, e3⟩ => ?_) (fromL (F := fun w => R0 ty Wg C n K W w0 w) (fun _ _ r h => r0_stable r h) (fun g w f s => ⟨rfl, f, s⟩) hf h3)⟩
  subst e1 e3
  exact hgo w e2
theorem aA1 {m : Nat} (hK : ¬ K Wg) (hW : ¬ W Wg) (hC : C ≠ Wg) (hgo : ∀ w, R0 ty Wg C n K W w0 w → GoesG P true (R0 ty Wg C n K) (D0 Wg K) (StGo P ty Wg C n Fin K ci Next) m W gA w) {g : Goroutine} {w : World} (hf : R0 ty Wg C n K W w0 w) (h : AA1 P ty Wg gA g w) : StA1 P ty Wg C n Fin K ci Next W g w := by
  obtain ⟨h1, h2⟩ := h
  refine ⟨h1, fun v hv hw => ?_⟩
  obtain ⟨g', h3, m', h4⟩ := h2 v hv hw
  exact ⟨g', h3, m', fromL (F := fun w => R0 ty Wg C n K W w0 w) (fun _ _ r h => r0_stable r h) (fun g w f s => aKe hgo f s) (hf.trans (R0.of_wg hK hW hC (aside_setCell w (stA Wg) _) ⟨_, _, hw.setSt _⟩)) h4⟩
theorem aKd {m : Nat} (hK : ¬ K Wg) (hW : ¬ W Wg) (hC : C ≠ Wg) (hgo : ∀ w, R0 ty Wg C n K W w0 w → GoesG P true (R0 ty Wg C n K) (D0 Wg K) (StGo P ty Wg C n Fin K ci Next) m W gA w) {g : Goroutine} {w : World} (hf : R0 ty Wg C n K W w0 w) (h : AKd P ty Wg gA g w) : StKd P ty Wg C n Fin K ci Next W g w := by
  obtain ⟨h1, g', h2, m', h3⟩ := h
  exact ⟨h1, g', h2, m', fromL (F := fun w => R0 ty Wg C n K W w0 w) (fun _ _ r h => r0_stable r h) (fun g w f s => aA1 hK hW hC hgo f s) hf h3⟩
/-- Through Add, then on. -/
theorem throughAdd (hK : ¬ K Wg) (hW : ¬ W Wg) (hC : C ≠ Wg) {m n' : Nat} {g : Goroutine} (h : Goes P true (RL ty Wg) (DL Wg) (AKd P ty Wg gA) n' g w0) (hgo : ∀ w, R0 ty Wg C n K W w0 w → GoesG P true (R0 ty Wg C n K) (D0 Wg K) (StGo P ty Wg C n Fin K ci Next) m W gA w) :
    GoesG P true (R0 ty Wg C n K) (D0 Wg K) (StKd P ty Wg C n Fin K ci Next) n' W g w0 :=
  fromL (F := fun w => R0 ty Wg C n K W w0 w) (fun _ _ r h => r0_stable r h) (fun _g _w f s => aKd hK hW hC hgo f s) (R0.refl w0) h

theorem vAcq {g : Goroutine} {w : World} (hg : gR gA) (h : BAcq P ty Wg gA g w) : VAcq P ty Wg C n gR K W g w := by
  obtain ⟨h1, g', h2, m', h3⟩ := h
  exact ⟨h1, g', h2, m', fromL (F := (fun (_ : World) => True)) (fun _ _ _ h => h) (fun g w _ s => by have e : g = gA := s; rw [e]; exact hg) trivial h3⟩
theorem vKe {g : Goroutine} {w : World} (hg : gR gA) (h : BKe P ty Wg gA g w) : VKe P ty Wg C n gR K W g w := by
  obtain ⟨h1, g', h2, m', h3⟩ := h
  exact ⟨h1, g', h2, m', fromL (F := (fun (_ : World) => True)) (fun _ _ _ h => h) (fun g w _ s => vAcq hg s) trivial h3⟩
theorem vW4 {g : Goroutine} {w : World} (hg : gR gA) (h : BW4 P ty Wg gA g w) : VW4 P ty Wg C n gR K W g w := by
  obtain ⟨h1, h2⟩ := h
  refine ⟨h1, fun hw => ?_⟩
  obtain ⟨g', h3, m', h4⟩ := h2 hw
  exact ⟨g', h3, m', fromL (F := (fun (_ : World) => True)) (fun _ _ _ h => h) (fun g w _ s => vKe hg s) trivial h4⟩
theorem vW3 {g : Goroutine} {w : World} (hg : gR gA) (h : BW3 P ty Wg gA g w) : VW3 P ty Wg C n gR K W g w := by
  obtain ⟨h1, h2, h3, h4⟩ := h
  refine ⟨h1, h2, h3, fun hw => ?_⟩
  obtain ⟨g', h5, m', h6⟩ := h4 hw
  exact ⟨g', h5, m', fromL (F := (fun (_ : World) => True)) (fun _ _ _ h => h) (fun g w _ s => vW4 hg s) trivial h6⟩
theorem vW2 {vs : Nat} {g : Goroutine} {w : World} (hg : gR gA) (h : BW2 P ty Wg gA Anc vs g w) : VW2 P ty Wg C n gR Anc K vs W g w := by
  obtain ⟨h1, h2⟩ := h
  refine ⟨h1, fun v hv hw => ⟨fun e => ?_, fun e => ?_⟩⟩
  · obtain ⟨g', h3, m', h4⟩ := (h2 v hv hw).1 e
    exact ⟨g', h3, m', fromL (F := (fun (_ : World) => True)) (fun _ _ _ h => h) (fun g w _ s => vW3 hg s) trivial h4⟩
  · obtain ⟨g', h3, m', h4⟩ := (h2 v hv hw).2 e
    exact ⟨g', h3, m', fromL (F := (fun (_ : World) => True)) (fun _ _ _ h => h) (fun g w _ s => s) trivial h4⟩
theorem vW1 {g : Goroutine} {w : World} (hg : gR gA) (h : BW1 P ty Wg gA Anc g w) : VW1 P ty Wg C n gR Anc K W g w := by
  obtain ⟨h1, h2⟩ := h
  refine ⟨h1, fun v hv hw => ?_⟩
  obtain ⟨g', h3, h4, h5⟩ := h2 v hv hw
  refine ⟨g', h3, fun e => ?_, fun e => ?_⟩
  · obtain ⟨m', h6⟩ := h4 e
    exact ⟨m', fromL (F := (fun (_ : World) => True)) (fun _ _ _ h => h) (fun g w _ s => vKe hg s) trivial h6⟩
  · obtain ⟨m', h6⟩ := h5 e
    exact ⟨m', fromL (F := (fun (_ : World) => True)) (fun _ _ _ h => h) (fun g w _ s => vW2 hg s) trivial h6⟩
theorem vKd {g : Goroutine} {w : World} (h : BKd P ty Wg Anc g w) : VKd P ty Wg C n Anc K W g w := by
  obtain ⟨h1, g', h2, m', h3⟩ := h
  exact ⟨h1, g', h2, m', fromL (F := (fun (_ : World) => True)) (fun _ _ _ h => h) (fun g w _ s => s) trivial h3⟩
theorem throughWait {n' : Nat} {g : Goroutine} (h : Goes P true (RL ty Wg) (DL Wg) (BKd P ty Wg Anc) n' g w0) : GoesG P true (R0 ty Wg C n K) (D0 Wg K) (VKd P ty Wg C n Anc K) n' W g w0 :=
  fromL (F := (fun (_ : World) => True)) (fun _ _ _ h => h) (fun _g _w _ s => vKd s) trivial h
theorem roundV {g : Goroutine} {w : World} (hg : gR gA) (h : ∃ m, Goes P true (RL ty Wg) (DL Wg) (BW1 P ty Wg gA Anc) m g w) : ∃ m, GoesG P true (R0 ty Wg C n K) (D0 Wg K) (VW1 P ty Wg C n gR Anc K) m W g w := by
  obtain ⟨m, h⟩ := h
  exact ⟨m, fromL (F := (fun (_ : World) => True)) (fun _ _ _ h => h) (fun g w _ s => vW1 hg s) trivial h⟩
end
end Go.Proofs.Ytcfpilkhjpegcaa

/- Workers that make memory of their own, and their starter: what holds of the machine at every moment. -/
namespace Go.Proofs.Ytcfpilkhjpegcaa
open Go Go.Conc Go.ConcN Go.Conc.Lib
open Go.ConcR (KK WgAt stA smA rd wr mk Payload DC0 Bk g_of_ofEvents again_blocked)
variable [Payload]

/-- The blocks of before are as they were, but the group's and the payload's. -/
structure Fr (Wg C N1 : Nat) (v0 w : World) : Prop where
  os : w.os = v0.os
  output : w.output = v0.output
  old : ∀ b, b < N1 → b ≠ Wg → b ≠ C → w.heap[b]? = v0.heap[b]?

section
variable (P : Program) (ty : TypeId) (Wg C n o N1 : Nat) (D : Nat → Prop) (Fin : Nat → (Nat → Prop) → World → Prop) (gR : Goroutine → Prop) (Anc : Goroutine → World → Prop) (v0 : World)

/-- Where the starter stands: tag, how many there are besides it, fuel, deafness, what it may read, what is its own. -/
inductive CS : CTag → Nat → Nat → Nat → (Nat → Prop) → (Nat → Prop) → Goroutine → World → Prop
  | skd {r m : Nat} {K W : Nat → Prop} {g : Goroutine} {w : World} : r < n → GoesG P true (R0 ty Wg C n K) (D0 Wg K) (StKd P ty Wg C n Fin K (n - (r + 1)) (fun K' => Spw P ty Wg C n Fin Anc r K' (fun _ => False))) m W g w → CS (.sp r 5) (o + (n - (r + 1))) m 0 K W g w
  | sa1 {r m : Nat} {K W : Nat → Prop} {g : Goroutine} {w : World} : r < n → GoesG P true (R0 ty Wg C n K) (D0 Wg K) (StA1 P ty Wg C n Fin K (n - (r + 1)) (fun K' => Spw P ty Wg C n Fin Anc r K' (fun _ => False))) m W g w → CS (.sp r 4) (o + (n - (r + 1))) m 1 K W g w
  | ske {r m : Nat} {K W : Nat → Prop} {g : Goroutine} {w : World} : r < n → GoesG P true (R0 ty Wg C n K) (D0 Wg K) (StKe P ty Wg C n Fin K (n - (r + 1)) (fun K' => Spw P ty Wg C n Fin Anc r K' (fun _ => False))) m W g w → CS (.sp r 3) (o + (n - (r + 1))) m 1 K W g w
  | sgo {r m : Nat} {K W : Nat → Prop} {g : Goroutine} {w : World} : r < n → GoesG P true (R0 ty Wg C n K) (D0 Wg K) (StGo P ty Wg C n Fin K (n - (r + 1)) (fun K' => Spw P ty Wg C n Fin Anc r K' (fun _ => False))) m W g w → CS (.sp r 2) (o + (n - (r + 1))) m 0 K W g w
  | kd {m : Nat} {K W : Nat → Prop} {g : Goroutine} {w : World} : GoesG P true (R0 ty Wg C n K) (D0 Wg K) (VKd P ty Wg C n Anc K) m W g w → CS .kd (o + n) m 0 K W g w
  | anch {m : Nat} {K W : Nat → Prop} {g : Goroutine} {w : World} : GoesG P true (R0 ty Wg C n K) (D0 Wg K) (fun _ => Anc) m W g w → CS .anch (o + n) m 1 K W g w
  | w1 {m : Nat} {K W : Nat → Prop} {g : Goroutine} {w : World} : GoesG P true (R0 ty Wg C n K) (D0 Wg K) (VW1 P ty Wg C n gR Anc K) m W g w → CS .w1 (o + n) m 1 K W g w
  | w2 {vs m : Nat} {K W : Nat → Prop} {g : Goroutine} {w : World} : GoesG P true (R0 ty Wg C n K) (D0 Wg K) (VW2 P ty Wg C n gR Anc K vs) m W g w → CS (.w2 vs) (o + n) m 1 K W g w
  | w3 {m : Nat} {K W : Nat → Prop} {g : Goroutine} {w : World} : GoesG P true (R0 ty Wg C n K) (D0 Wg K) (VW3 P ty Wg C n gR K) m W g w → CS .w3 (o + n) (m + 1) 1 K W g w
  | blk {K W : Nat → Prop} {g : Goroutine} {w : World} : (∀ w₁, R0 ty Wg C n K W w w₁ → VW3 P ty Wg C n gR K W g w₁) → CS .blk (o + n) 0 1 K W { g with status := .blocked } w
  | w4 {m : Nat} {K W : Nat → Prop} {g : Goroutine} {w : World} : GoesG P true (R0 ty Wg C n K) (D0 Wg K) (VW4 P ty Wg C n gR K) m W g w → CS .w4 (o + n) m 1 K W g w
  | ke {m : Nat} {K W : Nat → Prop} {g : Goroutine} {w : World} : GoesG P true (R0 ty Wg C n K) (D0 Wg K) (VKe P ty Wg C n gR K) m W g w → CS .ke (o + n) m 1 K W g w
  | acq {m : Nat} {K W : Nat → Prop} {g : Goroutine} {w : World} : GoesG P true (R0 ty Wg C n K) (D0 Wg K) (VAcq P ty Wg C n gR K) m W g w → CS .acq (o + n) m 0 K W g w
  | ret {m : Nat} {K W : Nat → Prop} {g : Goroutine} {w : World} : GoesG P true (R0 ty Wg C n K) (D0 Wg K) (AtR gR) m W g w → CS .ret (o + n) m 0 K W g w

structure Cm (j : Nat) (gs : Array Goroutine) (w : World) (t : Trace) (Dw : Nat → WD) (d0 : Nat) (K W : Nat → Nat → Prop) : Prop where
  size : gs.size = j + 1
  wk : ∀ i, i < j → ∃ g, gs[i + 1]? = some g ∧ WS P ty Wg C n Fin o (K (i + 1)) (i + 1) (W (i + 1)) (Dw i).stage (Dw i).fuel (Dw i).deaf g w
  tr : TrI D Wg C o K W j w.heap.size t
  geo : Geom D Wg C N1 K W w.heap.size
  deaf0 : Deaf t 0 = d0
  deafW : ∀ i, i < j → Deaf t (i + 1) = (Dw i).deaf
  rel : ∀ i, i < j → o ≤ i → (Dw i).stage ≤ 6 → ∃ r, RelBy (stA Wg) t (i + 1) r
  pay : PayAt C n w
  fr : Fr Wg C N1 v0 w
  rest : ∀ k, j < k → ∀ b, ¬ W k b ∧ ¬ K k b

/-- The starter has said 'acquire', hearing, behind the release of every worker that it started. -/
def AcqO (j : Nat) (t : Trace) : Prop := ∃ q, t.act? q = some (.mark (.acquire (stA Wg))) ∧ t.g? q = some 0 ∧ t.heard q ∧ ∀ i, o ≤ i → i < j → ∃ r, RelBy (stA Wg) t (i + 1) r ∧ r < q

def InvU (μ : Nat × Nat) (m : Machine) (t : Trace) : Prop :=
  ∃ (gs : Array Goroutine) (w : World) (sl : Option (Nat × Nat)) (j : Nat) (Dw : Nat → WD) (tag : CTag) (f0 d0 : Nat) (a : Goroutine) (st sm : Int) (K W : Nat → Nat → Prop),
    m = crowd gs w sl ∧ gs[0]? = some a ∧ CS P ty Wg C n o Fin gR Anc tag j f0 d0 (K 0) (W 0) a w ∧ Cm P ty Wg C n o N1 D Fin v0 j gs w t Dw d0 K W ∧ WgAt ty Wg w st sm ∧ Go.ConcN.Mode j Dw tag st sm ∧
    (tag = .ret → AcqO Wg o j t) ∧ μ = (phi (o + n) (Vc j Dw) tag + Ssum j Dw, f0 + 2 * Fsum j Dw)
end

section
variable {P : Program} {ty : TypeId} {Wg C n o N1 : Nat} {D : Nat → Prop} {Fin : Nat → (Nat → Prop) → World → Prop} {gR : Goroutine → Prop} {Anc : Goroutine → World → Prop} {v0 : World}
  {tag : CTag} {j f0 d0 : Nat} {a : Goroutine} {w w' : World} {K W : Nat → Nat → Prop} {gs : Array Goroutine} {t : Trace} {Dw : Nat → WD} {sl : Option (Nat × Nat)}

omit [Payload] in
theorem AcqO.app {u : Trace} (h : AcqO Wg o j t) (hu : ∀ i r, i < j → RelBy (stA Wg) t (i + 1) r → RelBy (stA Wg) (t ++ u) (i + 1) r) : AcqO Wg o j (t ++ u) := by
  obtain ⟨q, h1, h2, h3, h4⟩ := h
  have hq := lt_of_act? h1
  exact ⟨q, by rw [act?_old hq]; exact h1, by rw [g?_old hq]; exact h2, (heard_old hq).2 h3, fun i ho hi => let ⟨r, hr, hrq⟩ := h4 i ho hi; ⟨r, hu i r hi hr, hrq⟩⟩

theorem CS.rely {k w0 : Nat → Prop} (h : CS P ty Wg C n o Fin gR Anc tag j f0 d0 k w0 a w) (hr : R0 ty Wg C n k w0 w w') : CS P ty Wg C n o Fin gR Anc tag j f0 d0 k w0 a w' := by
  have tr : ∀ W x y z, R0 ty Wg C n k W x y → R0 ty Wg C n k W y z → R0 ty Wg C n k W x z := fun _ _ _ _ h1 h2 => h1.trans h2
  cases h with
  | skd hn h => exact .skd hn (GoesG.rely tr h hr)
  | sa1 hn h => exact .sa1 hn (GoesG.rely tr h hr)
  | ske hn h => exact .ske hn (GoesG.rely tr h hr)
  | sgo hn h => exact .sgo hn (GoesG.rely tr h hr)
  | kd h => exact .kd (GoesG.rely tr h hr)
  | anch h => exact .anch (GoesG.rely tr h hr)
  | w1 h => exact .w1 (GoesG.rely tr h hr)
  | w2 h => exact .w2 (GoesG.rely tr h hr)
  | w3 h => exact .w3 (GoesG.rely tr h hr)
  | blk h => exact .blk (fun w₂ h₂ => h w₂ (hr.trans h₂))
  | w4 h => exact .w4 (GoesG.rely tr h hr)
  | ke h => exact .ke (GoesG.rely tr h hr)
  | acq h => exact .acq (GoesG.rely tr h hr)
  | ret h => exact .ret (GoesG.rely tr h hr)

/-- It is running, or it is blocked at the semaphore. -/
theorem CS.status {k w0 : Nat → Prop} (hAr : ∀ g w, Anc g w → g.status = .running) (hgR : ∀ g, gR g → g.status = .running) (h : CS P ty Wg C n o Fin gR Anc tag j f0 d0 k w0 a w) : (a.status = .running ∧ tag ≠ .blk) ∨ (a.status = .blocked ∧ tag = .blk) := by
  have rf : ∀ W w, R0 ty Wg C n k W w w := fun _ w => .refl w
  cases h with
  | skd _ h => exact .inl ⟨GoesG.running rf (fun _ _ _ x => x.1) h, by simp⟩
  | sa1 _ h => exact .inl ⟨GoesG.running rf (fun _ _ _ x => x.1) h, by simp⟩
  | ske _ h => exact .inl ⟨GoesG.running rf (fun _ _ _ x => x.1) h, by simp⟩
  | sgo _ h => exact .inl ⟨GoesG.running rf (fun _ _ _ x => x.1) h, by simp⟩
  | kd h => exact .inl ⟨GoesG.running rf (fun _ _ _ x => x.1) h, by simp⟩
  | anch h => exact .inl ⟨GoesG.running rf (fun _ => hAr) h, by simp⟩
  | w1 h => exact .inl ⟨GoesG.running rf (fun _ _ _ x => x.1) h, by simp⟩
  | w2 h => exact .inl ⟨GoesG.running rf (fun _ _ _ x => x.1) h, by simp⟩
  | w3 h => exact .inl ⟨GoesG.running rf (fun _ _ _ x => x.1) h, by simp⟩
  | blk h => exact .inr ⟨rfl, rfl⟩
  | w4 h => exact .inl ⟨GoesG.running rf (fun _ _ _ x => x.1) h, by simp⟩
  | ke h => exact .inl ⟨GoesG.running rf (fun _ _ _ x => x.1) h, by simp⟩
  | acq h => exact .inl ⟨GoesG.running rf (fun _ _ _ x => x.1) h, by simp⟩
  | ret h => exact .inl ⟨GoesG.running rf (fun _ g _ x => hgR g x) h, by simp⟩

/-- Under another's step. -/
theorem CS.wokenBy {k w0 : Nat → Prop} (hAr : ∀ g w, Anc g w → g.status = .running) (hgR : ∀ g, gR g → g.status = .running) (h : CS P ty Wg C n o Fin gR Anc tag j f0 d0 k w0 a w) (hr : R0 ty Wg C n k w0 w w') (g g' : Goroutine) :
    ∃ tag' f', CS P ty Wg C n o Fin gR Anc tag' j f' d0 k w0 (woken P g g' w' a) w' ∧ f' ≤ f0 + 1 ∧ (tag' = tag ∨ (tag = .blk ∧ tag' = .w3)) ∧ (mayWake P g = true → g'.status = .running → tag' ≠ .blk) := by
  have h' := h.rely hr
  unfold Go.Conc.woken
  split
  · rcases h'.status hAr hgR with ⟨hs, hne⟩ | ⟨_, rfl⟩
    · exact ⟨tag, f0, by rw [again_running _ (.inl hs)]; exact h', by omega, .inl rfl, fun _ _ => hne⟩
    · cases h' with
      | blk hb =>
        have h3 := hb w' (.refl w')
        exact ⟨.w3, 0 + 1, by rw [again_blocked h3.1 h3.2.1]; exact .w3 (GoesG.stop hb), by omega, .inr ⟨rfl, rfl⟩, fun _ _ => by simp⟩
  · rename_i hc
    exact ⟨tag, f0, h', by omega, .inl rfl, fun h1 h2 => absurd (by simp [h1, h2]) hc⟩

theorem CS.bound {k w0 : Nat → Prop} (h : CS P ty Wg C n o Fin gR Anc tag j f0 d0 k w0 a w) : j + pend tag ≤ o + n := by
  cases h <;> simp only [pend] <;> (try simp) <;> omega

theorem CS.oj {k w0 : Nat → Prop} (h : CS P ty Wg C n o Fin gR Anc tag j f0 d0 k w0 a w) : o ≤ j := by
  cases h <;> omega

omit [Payload] in
theorem sumTo_few {f : Nat → Nat} (h1 : ∀ i, f i ≤ 1) (h0 : ∀ i, i < o → f i = 0) : ∀ {j : Nat}, o ≤ j → sumTo j f + o ≤ j
  | 0, h => by simpa [sumTo] using h
  | j + 1, h => by
    rcases Nat.lt_or_ge j o with hlt | hge
    · obtain rfl : o = j + 1 := by omega
      have : sumTo (j + 1) f = 0 := by
        have := sumTo_le (f := f) (c := 0) (j := j + 1) fun i hi => by rw [h0 i hi]; exact Nat.le_refl _
        simpa using this
      omega
    · have := sumTo_few h1 h0 hge
      have := h1 j
      simp only [sumTo]
      omega

/-- Those who only leave are not counted. -/
theorem Cm.vc (h : Cm P ty Wg C n o N1 D Fin v0 j gs w t Dw d0 K W) (hoj : o ≤ j) : Vc j Dw + o ≤ j := by
  have key : sumTo j (fun i => if i < o then 0 else cnt (Dw i)) + o ≤ j := sumTo_few (fun i => by simp only [cnt]; split <;> (try split) <;> omega) (fun i hi => by simp [hi]) hoj
  have : Vc j Dw = sumTo j (fun i => if i < o then 0 else cnt (Dw i)) := sumTo_congr fun i hi => by
    by_cases ho : i < o
    · obtain ⟨g, _, hs⟩ := h.wk i hi
      have hst : (Dw i).stage = 1 := by
        generalize (Dw i).stage = s at hs
        generalize (Dw i).fuel = m at hs
        generalize (Dw i).deaf = d at hs
        cases hs with
        | work ho' _ => omega
        | done ho' _ _ _ => omega
        | old _ _ => rfl
      simp [ho, cnt, hst]
    · simp [ho]
  omega

theorem WS.relyOld {k s m d : Nat} {k0 w0 : Nat → Prop} {g : Goroutine} (hk : k ≤ o) (h : WS P ty Wg C n Fin o k0 k w0 s m d g w) : WS P ty Wg C n Fin o k0 k w0 s m d g w' := by
  cases h with
  | work ho h => omega
  | done ho _ h hf => omega
  | old ho h => exact .old ho h

theorem Cm.at (hF : FinOk ty Wg C n Fin) (h : Cm P ty Wg C n o N1 D Fin v0 j gs w t Dw d0 K W) (d : Nat) : Cm P ty Wg C n o N1 D Fin v0 j gs (w.at d) t Dw d0 K W :=
  ⟨h.size, fun i hi => let ⟨g, hg, hs⟩ := h.wk i hi; ⟨g, hg, hs.rely hF (RWk.at w d)⟩, h.tr, h.geo, h.deaf0, h.deafW, h.rel, h.pay, ⟨h.fr.os, h.fr.output, h.fr.old⟩, h.rest⟩

/-- A step of worker number i. -/
theorem Cm.stepW (hF : FinOk ty Wg C n Fin) (h : Cm P ty Wg C n o N1 D Fin v0 j gs w t Dw d0 K W) {i : Nat} (hi : i < j) {g g' : Goroutine} {es : Array Event} {s' m' dd' : Nat} {W' : Nat → Nat → Prop} (hW' : ∀ k, k ≠ i + 1 → W' k = W k)
    (hrw : ∀ i', i' < j → i' ≠ i → o ≤ i' → RWk ty Wg C n (K (i' + 1)) (i' - o) (W (i' + 1)) w w')
    (hs' : WS P ty Wg C n Fin o (K (i + 1)) (i + 1) (W' (i + 1)) s' m' dd' g' w')
    (htr : TrI D Wg C o K W' j w'.heap.size (t ++ MemOp.ofEvents (i + 1) g.frame.fn g.frame.place es)) (hgeo : Geom D Wg C N1 K W' w'.heap.size)
    (hdeaf : deafBehind (Dw i).deaf es = dd') (hrel : o ≤ i → s' ≤ 6 → ∃ r, RelBy (stA Wg) (t ++ MemOp.ofEvents (i + 1) g.frame.fn g.frame.place es) (i + 1) r) (hpay : PayAt C n w') (hfr : Fr Wg C N1 v0 w') :
    Cm P ty Wg C n o N1 D Fin v0 j ((gs.map (woken P g g' w')).setIfInBounds (i + 1) g') w' (t ++ MemOp.ofEvents (i + 1) g.frame.fn g.frame.place es) (upd Dw i ⟨s', m', dd'⟩) d0 K W' := by
  refine ⟨by simp [h.size], fun i' hi' => ?_, htr, hgeo, by rw [Deaf_other t (by omega) _ g_of_ofEvents, h.deaf0], fun i' hi' => ?_, fun i' hi' ho hst => ?_, hpay, hfr, fun k hk b => by rw [hW' k (by omega)]; exact h.rest k hk b⟩
  · by_cases e : i' = i
    · subst e
      exact ⟨g', get_map_set_same _ _ _ (by rw [h.size]; omega), by rw [upd_same]; exact hs'⟩
    · obtain ⟨x, hx, hsx⟩ := h.wk i' hi'
      refine ⟨x, by rw [get_map_set _ _ _ _ (by omega), hx, Option.map_some, hsx.woken], ?_⟩
      rw [upd_ne Dw _ e, hW' (i' + 1) (by omega)]
      by_cases ho : o ≤ i'
      · exact hsx.rely hF (by simpa using hrw i' hi' e ho)
      · exact hsx.relyOld (by omega)
  · by_cases e : i' = i
    · subst e; rw [Deaf_own, h.deafW i' hi', upd_same]; exact hdeaf
    · rw [Deaf_other t (by omega) _ g_of_ofEvents, h.deafW i' hi', upd_ne Dw _ e]
  · by_cases e : i' = i
    · subst e; rw [upd_same] at hst; exact hrel ho hst
    · rw [upd_ne Dw _ e] at hst
      obtain ⟨r, hr⟩ := h.rel i' hi' ho hst
      exact ⟨r, hr.appOther g_of_ofEvents (by omega)⟩

/-- A step of the starter's. -/
theorem Cm.step0 (hF : FinOk ty Wg C n Fin) (h : Cm P ty Wg C n o N1 D Fin v0 j gs w t Dw d0 K W) {b b' : Goroutine} {es : Array Event} {W' : Nat → Nat → Prop} (hW' : ∀ k, k ≠ 0 → W' k = W k)
    (hrw : ∀ i, i < j → o ≤ i → RWk ty Wg C n (K (i + 1)) (i - o) (W (i + 1)) w w')
    (htr : TrI D Wg C o K W' j w'.heap.size (t ++ MemOp.ofEvents 0 b.frame.fn b.frame.place es)) (hgeo : Geom D Wg C N1 K W' w'.heap.size) (hpay : PayAt C n w') (hfr : Fr Wg C N1 v0 w') :
    Cm P ty Wg C n o N1 D Fin v0 j ((gs.map (woken P b b' w')).setIfInBounds 0 b') w' (t ++ MemOp.ofEvents 0 b.frame.fn b.frame.place es) Dw (deafBehind d0 es) K W' := by
  refine ⟨by simp [h.size], fun i hi => ?_, htr, hgeo, by rw [Deaf_own, h.deaf0], fun i hi => by rw [Deaf_other t (by omega) _ g_of_ofEvents, h.deafW i hi], fun i hi ho hst => ?_, hpay, hfr, fun k hk b => by rw [hW' k (by omega)]; exact h.rest k hk b⟩
  · obtain ⟨x, hx, hsx⟩ := h.wk i hi
    refine ⟨x, by rw [get_map_set _ _ _ _ (by omega), hx, Option.map_some, hsx.woken], ?_⟩
    rw [hW' (i + 1) (by omega)]
    by_cases ho : o ≤ i
    · exact hsx.rely hF (by simpa using hrw i hi ho)
    · exact hsx.relyOld (by omega)
  · obtain ⟨r, hr⟩ := h.rel i hi ho hst
    exact ⟨r, hr.appOther g_of_ofEvents (by omega)⟩

/-! ### what a step does to the others -/
/-- A worker works. -/
theorem Cm.work (h : Cm P ty Wg C n o N1 D Fin v0 j gs w t Dw d0 K W) {i : Nat} (hi : i < j) (ho : o ≤ i) {es : Array Event} {fn : FuncId} {pos : String} (hd : DWk C n (K (i + 1)) (i - o) (W (i + 1)) w w' es) :
    (∀ i', i' < j → i' ≠ i → o ≤ i' → RWk ty Wg C n (K (i' + 1)) (i' - o) (W (i' + 1)) w w') ∧ R0 ty Wg C n (K 0) (W 0) w w' ∧
    TrI D Wg C o K (upd W (i + 1) (grow (W (i + 1)) w w')) j w'.heap.size (t ++ MemOp.ofEvents (i + 1) fn pos es) ∧ Geom D Wg C N1 K (upd W (i + 1) (grow (W (i + 1)) w w')) w'.heap.size ∧ Fr Wg C N1 v0 w' ∧ w'.heap[Wg]? = w.heap[Wg]? := by
  have G := h.geo
  have hN : N1 ≤ w.heap.size := G.le
  have hWgD := G.hWg
  have hWgl : Wg < N1 := G.dead Wg hWgD
  have hWg : w'.heap[Wg]? = w.heap[Wg]? := hd.old Wg (by omega) (fun x => G.notD x hWgD) (fun e => G.hCD (e ▸ hWgD))
  have same : ∀ k, k ≠ i + 1 → ∀ b, K k b ∨ W k b → w'.heap[b]? = w.heap[b]? := fun k hk b hb => by
    rcases hb with hb | hb
    · have := G.rd k b hb
      exact hd.old b this.1 (fun x => G.ownRd _ _ _ x hb) this.2.1
    · exact hd.old b (G.own k b hb).2 (fun x => hk (G.apart _ _ _ hb x)) (G.neC hb)
  have live : WgLive ty Wg w → WgLive ty Wg w' := fun ⟨st, sm, x⟩ => ⟨st, sm, x.of_block hWg⟩
  have G' : Geom D Wg C N1 K (upd W (i + 1) (grow (W (i + 1)) w w')) w'.heap.size := G.grow (i + 1) hd.size
  have hev : ∀ e ∈ es, EvO (K (i + 1)) (upd W (i + 1) (grow (W (i + 1)) w w') (i + 1)) (· = ⟨C, i + 1 - 1 - o, none⟩) e := by
    rw [upd_same]
    simpa using hd.evs
  refine ⟨fun i' hi' hne ho' => ⟨same (i' + 1) (by omega), live, hd.pay, hd.cells _ (by omega), hd.size⟩, ⟨same 0 (by omega), live, hd.pay, hd.size⟩, ?_, G', ⟨hd.os.trans h.fr.os, hd.output.trans h.fr.output, fun b h1 h2 h3 => (hd.old b (by omega) (fun x => ?_) h3).trans (h.fr.old b h1 h2 h3)⟩, hWg⟩
  · exact (h.tr.grow (i + 1) hd.size).app (fun e he => (hev e he).evB G' (fun a e => by rw [e])) ((h.tr.grow (i + 1) hd.size).ct.appW (G'.apartF o) (by omega) (by omega) (EvO.okW G' (by omega) hev)) (fun _ h2 => by omega)
  · have := (G.own _ b x).1
    omega

/-- The starter goes on. -/
theorem Cm.own0 (h : Cm P ty Wg C n o N1 D Fin v0 j gs w t Dw d0 K W) {es : Array Event} {fn : FuncId} {pos : String} (hd : D0 Wg (K 0) (W 0) w w' es) :
    (∀ i', i' < j → o ≤ i' → RWk ty Wg C n (K (i' + 1)) (i' - o) (W (i' + 1)) w w') ∧
    TrI D Wg C o K (upd W 0 (grow (W 0) w w')) j w'.heap.size (t ++ MemOp.ofEvents 0 fn pos es) ∧ Geom D Wg C N1 K (upd W 0 (grow (W 0) w w')) w'.heap.size ∧ Fr Wg C N1 v0 w' ∧ w'.heap[Wg]? = w.heap[Wg]? ∧ w'.heap[C]? = w.heap[C]? := by
  have G := h.geo
  have hN : N1 ≤ w.heap.size := G.le
  have hWgD := G.hWg
  have hWgl : Wg < N1 := G.dead Wg hWgD
  have hWg : w'.heap[Wg]? = w.heap[Wg]? := hd.old Wg (by omega) (fun x => G.notD x hWgD)
  have hCl := G.hC
  have hC : w'.heap[C]? = w.heap[C]? := hd.old C (by omega) (fun x => G.neC x rfl)
  have same : ∀ k, k ≠ 0 → ∀ b, K k b ∨ W k b → w'.heap[b]? = w.heap[b]? := fun k hk b hb => by
    rcases hb with hb | hb
    · exact hd.old b (G.rd k b hb).1 (fun x => G.ownRd _ _ _ x hb)
    · exact hd.old b (G.own k b hb).2 (fun x => hk (G.apart _ _ _ hb x))
  have live : WgLive ty Wg w → WgLive ty Wg w' := fun ⟨st, sm, x⟩ => ⟨st, sm, x.of_block hWg⟩
  have G' : Geom D Wg C N1 K (upd W 0 (grow (W 0) w w')) w'.heap.size := G.grow 0 hd.size
  have hev : ∀ e ∈ es, EvO (K 0) (upd W 0 (grow (W 0) w w') 0) (fun _ => False) e ∨ EvS Wg e := by
    rw [upd_same]
    exact hd.evs
  refine ⟨fun i' hi' ho' => ⟨same (i' + 1) (by omega), live, fun ⟨cs, hc, hn⟩ => ⟨cs, hC.trans hc, hn⟩, cell_of_block hC _, hd.size⟩, ?_, G', ⟨hd.os.trans h.fr.os, hd.output.trans h.fr.output, fun b h1 h2 h3 => (hd.old b (by omega) (fun x => ?_)).trans (h.fr.old b h1 h2 h3)⟩, hWg, hC⟩
  · have hBw : Wg < w'.heap.size := Nat.lt_of_lt_of_le (by omega) hd.size
    refine (h.tr.grow 0 hd.size).app (fun e he => (hev e he).elim (fun x => x.evB G' (fun a e => e.elim)) (fun x => evB_say hWgD hBw x)) ((h.tr.grow 0 hd.size).ct.app0 (G'.apartF o) fun op hop => ?_) (fun h0 => absurd rfl h0)
    obtain ⟨e, he, rfl⟩ := Go.Conc.mem_ofEvents hop
    have e1 : ({ g := 0, fn := fn, pos := pos, act := .ofEvent e } : MemOp) ∈ MemOp.ofEvents 0 fn pos #[e] := by rw [ofEvents_eq]; simp
    rcases hev e he with x | x
    · exact EvO.ok0 G' (es := #[e]) (by intro e' h'; simp at h'; subst h'; exact x) _ e1
    · exact ok0_say hWgD (es := #[e]) (by intro e' h'; simp at h'; subst h'; exact x) _ e1
  · have := (G.own _ b x).1
    omega

/-- The group's block turns: the library's bookkeeping, by goroutine number k. -/
theorem Cm.book (h : Cm P ty Wg C n o N1 D Fin v0 j gs w t Dw d0 K W) {k : Nat} (hk : k ≤ j) {es : Array Event} {fn : FuncId} {pos : String} (hA : Aside Wg w w') (hl : WgLive ty Wg w') (hb : ∀ e ∈ es, Bk Wg e) (hq : k ≠ 0 → k ≤ o → ∀ e ∈ es, (MemAct.ofEvent e).touch? = none) :
    (∀ i', i' < j → o ≤ i' → RWk ty Wg C n (K (i' + 1)) (i' - o) (W (i' + 1)) w w') ∧ R0 ty Wg C n (K 0) (W 0) w w' ∧
    TrI D Wg C o K W j w'.heap.size (t ++ MemOp.ofEvents k fn pos es) ∧ Geom D Wg C N1 K W w'.heap.size ∧ Fr Wg C N1 v0 w' ∧ PayAt C n w' := by
  have G := h.geo
  have hWgD := G.hWg
  have hC : C ≠ Wg := fun e => G.hCD (e ▸ hWgD)
  have hK : ∀ k, ¬ K k Wg := fun k x => (G.rd k _ x).2.2 hWgD
  have hW : ∀ k, ¬ W k Wg := fun k x => G.notD x hWgD
  obtain ⟨cs, hc1, hc2⟩ := h.pay
  have hWgl : Wg < N1 := G.dead Wg hWgD
  have hN := G.le
  rw [hA.size]
  refine ⟨fun i' _ _ => RWk.of_wg (hK _) (hW _) hC hA hl, R0.of_wg (hK _) (hW _) hC hA hl, ?_, G, ⟨hA.os.trans h.fr.os, hA.output.trans h.fr.output, fun b h1 h2 h3 => (hA.block b h2).trans (h.fr.old b h1 h2 h3)⟩, ⟨cs, (hA.block C hC).trans hc1, hc2⟩⟩
  refine h.tr.app (fun e he => evB_bk hWgD (by omega) (hb e he)) ?_ hq
  rcases Nat.eq_zero_or_pos k with rfl | hk0
  · exact h.tr.ct.app0 (G.apartF o) (ok0_bk hWgD hb)
  · exact h.tr.ct.appW (G.apartF o) hk0 hk (okW_bk hWgD hb)
end
end Go.Proofs.Ytcfpilkhjpegcaa

/- Workers that make memory of their own, and their starter: a worker's step keeps the invariant and lowers the measure. -/
namespace Go.Proofs.Ytcfpilkhjpegcaa
open Go Go.Conc Go.ConcN Go.Conc.Lib
open Go.ConcR (KK WgAt stA smA rd wr mk Payload DC0 Bk g_of_ofEvents bk_of_mute ofEvent_loc_mark)
variable [Payload]

/-- The machine has gone on, its measure is lower, the invariant holds. -/
def Lower (I : Nat × Nat → Machine → Trace → Prop) (μ : Nat × Nat) (r : Stepped × Array MemOp) (t : Trace) : Prop := ∃ m₁ ops μ', r = (.next m₁, ops) ∧ Lt2 μ' μ ∧ I μ' m₁ (t ++ ops)

section
variable {P : Program} {ty : TypeId} {Wg C n o N1 : Nat} {D : Nat → Prop} {Fin : Nat → (Nat → Prop) → World → Prop} {gR : Goroutine → Prop} {Anc : Goroutine → World → Prop} {v0 : World}
  {tag : CTag} {j f0 d0 : Nat} {a : Goroutine} {w w' : World} {K W : Nat → Nat → Prop} {gs : Array Goroutine} {t : Trace} {Dw : Nat → WD} {sl : Option (Nat × Nat)} {st sm st' sm' : Int}

/-- Whatever step of worker number i. -/
theorem stepOfW (hF : FinOk ty Wg C n Fin) (hAr : ∀ g w, Anc g w → g.status = .running) (hgR : ∀ g, gR g → g.status = .running)
    (ha : gs[0]? = some a) (hcs : CS P ty Wg C n o Fin gR Anc tag j f0 d0 (K 0) (W 0) a w) (hcm : Cm P ty Wg C n o N1 D Fin v0 j gs w t Dw d0 K W) {i : Nat} (hi : i < j) {g g' : Goroutine} {es : Array Event} {s' m' dd' : Nat} {W' : Nat → Nat → Prop}
    (hg : gs[i + 1]? = some g) (hgo : stepG P false g w = .go g' w' es) (hW' : ∀ k, k ≠ i + 1 → W' k = W k) (hR0 : R0 ty Wg C n (K 0) (W 0) w w')
    (hrw : ∀ i', i' < j → i' ≠ i → o ≤ i' → RWk ty Wg C n (K (i' + 1)) (i' - o) (W (i' + 1)) w w')
    (hs' : WS P ty Wg C n Fin o (K (i + 1)) (i + 1) (W' (i + 1)) s' m' dd' g' w')
    (htr : TrI D Wg C o K W' j w'.heap.size (t ++ MemOp.ofEvents (i + 1) g.frame.fn g.frame.place es)) (hgeo : Geom D Wg C N1 K W' w'.heap.size)
    (hdeaf : deafBehind (Dw i).deaf es = dd') (hrel : o ≤ i → s' ≤ 6 → ∃ r, RelBy (stA Wg) (t ++ MemOp.ofEvents (i + 1) g.frame.fn g.frame.place es) (i + 1) r) (hpay : PayAt C n w') (hfr : Fr Wg C N1 v0 w')
    (hwg : WgAt ty Wg w' st' sm')
    (hmode : ∀ tag', (tag' = tag ∨ (tag = .blk ∧ tag' = .w3)) → (mayWake P g = true → g'.status = .running → tag' ≠ .blk) → Go.ConcN.Mode j (upd Dw i ⟨s', m', dd'⟩) tag' st' sm')
    (hacq : tag = .ret → AcqO Wg o j (t ++ MemOp.ofEvents (i + 1) g.frame.fn g.frame.place es))
    (hlt : (s' < (Dw i).stage ∧ cnt ⟨s', m', dd'⟩ ≤ cnt (Dw i)) ∨ (s' = (Dw i).stage ∧ m' + 1 = (Dw i).fuel)) :
    Lower (InvU P ty Wg C n o N1 D Fin gR Anc v0) (phi (o + n) (Vc j Dw) tag + Ssum j Dw, f0 + 2 * Fsum j Dw) (runT P (crowd gs w sl) (i + 1)) t := by
  obtain ⟨tag', f', hcs', hf', htag, hwk⟩ := hcs.wokenBy hAr hgR hR0 g g'
  have hrun := runT_crowd_go (P := P) (sl := sl) (i := i + 1) hg (by simpa using hgo)
  have e1 := sumTo_upd Dw (⟨s', m', dd'⟩ : WD) cnt hi
  have e2 := sumTo_upd Dw (⟨s', m', dd'⟩ : WD) WD.stage hi
  have e3 := sumTo_upd Dw (⟨s', m', dd'⟩ : WD) WD.fuel hi
  have hW0 : W' 0 = W 0 := hW' 0 (by omega)
  refine ⟨_, _, (phi (o + n) (Vc j (upd Dw i ⟨s', m', dd'⟩)) tag' + Ssum j (upd Dw i ⟨s', m', dd'⟩), f' + 2 * Fsum j (upd Dw i ⟨s', m', dd'⟩)), hrun, ?_,
    _, w', sl, j, upd Dw i ⟨s', m', dd'⟩, tag', f', d0, woken P g g' w' a, st', sm', K, W', rfl, by rw [get_map_set _ _ _ _ (by omega), ha]; rfl, by rw [hW0]; exact hcs', hcm.stepW hF hi hW' hrw hs' htr hgeo hdeaf hrel hpay hfr, hwg, hmode tag' htag hwk, ?_, rfl⟩
  · rw [phi_retag (o + n) _ htag]
    simp only [Vc, Ssum, Fsum] at *
    rcases hlt with ⟨h1, h2⟩ | ⟨h1, h2⟩
    · refine Prod.Lex.left _ _ ?_
      have := phi_mono (o + n) (v' := sumTo j fun a => cnt (upd Dw i ⟨s', m', dd'⟩ a)) (v := sumTo j fun a => cnt (Dw a)) (by omega) tag
      omega
    · have ec : cnt (⟨s', m', dd'⟩ : WD) = cnt (Dw i) := by simp only [cnt, h1]
      have ev : (sumTo j fun a => cnt (upd Dw i ⟨s', m', dd'⟩ a)) = sumTo j fun a => cnt (Dw a) := by omega
      have es' : (sumTo j fun a => (upd Dw i ⟨s', m', dd'⟩ a).stage) = sumTo j fun a => (Dw a).stage := by omega
      rw [ev, es']
      refine Prod.Lex.right _ ?_
      omega
  · intro e
    rcases htag with rfl | ⟨_, rfl⟩
    · exact hacq e
    · cases e

/-- .. that is the library's bookkeeping: at most the group's block turns. -/
theorem bookOfW (hF : FinOk ty Wg C n Fin) (hAr : ∀ g w, Anc g w → g.status = .running) (hgR : ∀ g, gR g → g.status = .running)
    (ha : gs[0]? = some a) (hcs : CS P ty Wg C n o Fin gR Anc tag j f0 d0 (K 0) (W 0) a w) (hcm : Cm P ty Wg C n o N1 D Fin v0 j gs w t Dw d0 K W) {i : Nat} (hi : i < j) {g g' : Goroutine} {es : Array Event} {s' m' dd' : Nat}
    (hg : gs[i + 1]? = some g) (hgo : stepG P false g w = .go g' w' es) (hA : Aside Wg w w') (hwg : WgAt ty Wg w' st' sm') (hbk : ∀ e ∈ es, Bk Wg e) (hold : i < o → ∀ e ∈ es, (MemAct.ofEvent e).touch? = none)
    (hnt : ∀ jx e, es[jx]? = some e → (MemAct.ofEvent e).touch? = none ∨ 0 < deafBehind (Dw i).deaf (es.extract 0 jx))
    (hs' : (o ≤ i → RWk ty Wg C n (K (i + 1)) (i - o) (W (i + 1)) w w') → WS P ty Wg C n Fin o (K (i + 1)) (i + 1) (W (i + 1)) s' m' dd' g' w') (hdeaf : deafBehind (Dw i).deaf es = dd') (h6 : (Dw i).stage ≤ 6)
    (hmode : ∀ tag', (tag' = tag ∨ (tag = .blk ∧ tag' = .w3)) → (mayWake P g = true → g'.status = .running → tag' ≠ .blk) → Go.ConcN.Mode j (upd Dw i ⟨s', m', dd'⟩) tag' st' sm')
    (hacq : tag = .ret → AcqO Wg o j (t ++ MemOp.ofEvents (i + 1) g.frame.fn g.frame.place es))
    (hlt : (s' < (Dw i).stage ∧ cnt ⟨s', m', dd'⟩ ≤ cnt (Dw i)) ∨ (s' = (Dw i).stage ∧ m' + 1 = (Dw i).fuel)) :
    Lower (InvU P ty Wg C n o N1 D Fin gR Anc v0) (phi (o + n) (Vc j Dw) tag + Ssum j Dw, f0 + 2 * Fsum j Dw) (runT P (crowd gs w sl) (i + 1)) t := by
  obtain ⟨h1, h2, h3, h4, h5, h7⟩ := hcm.book (k := i + 1) (by omega) (fn := g.frame.fn) (pos := g.frame.place) hA ⟨_, _, hwg⟩ hbk (fun _ hk => hold (by omega))
  exact stepOfW hF hAr hgR ha hcs hcm hi hg hgo (fun _ _ => rfl) h2 (fun i' hi' _ ho => h1 i' hi' ho) (hs' fun ho => h1 i hi ho) h3 h4 hdeaf
    (fun ho _ => let ⟨r, hr⟩ := hcm.rel i hi ho h6; ⟨r, hr.book (hcm.deafW i hi) _ _ hbk hnt⟩) h7 h5 hwg hmode hacq hlt

set_option maxHeartbeats 1600000 in
theorem workerU (hF : FinOk ty Wg C n Fin) (hAr : ∀ g w, Anc g w → g.status = .running) (hgR : ∀ g, gR g → g.status = .running) (hn : n < 2147483648)
    (ha : gs[0]? = some a) (hcs : CS P ty Wg C n o Fin gR Anc tag j f0 d0 (K 0) (W 0) a w) (hcm : Cm P ty Wg C n o N1 D Fin v0 j gs w t Dw d0 K W) (hwg : WgAt ty Wg w st sm) (hmode : Go.ConcN.Mode j Dw tag st sm) (hacq : tag = .ret → AcqO Wg o j t)
    {i : Nat} (hi : i < j) {g : Goroutine} (hg : gs[i + 1]? = some g) (hrun : g.status = .running) :
    Lower (InvU P ty Wg C n o N1 D Fin gR Anc v0) (phi (o + n) (Vc j Dw) tag + Ssum j Dw, f0 + 2 * Fsum j Dw) (runT P (crowd gs w sl) (i + 1)) t := by
  obtain ⟨g₁, hg₁, hs⟩ := hcm.wk i hi
  obtain rfl : g = g₁ := by rw [hg] at hg₁; exact Option.some.inj hg₁
  generalize hst : (Dw i).stage = s at hs
  generalize hfu : (Dw i).fuel = m at hs
  generalize hde : (Dw i).deaf = dd at hs
  have hb := hcs.bound
  have hVj := hcm.vc hcs.oj
  have hdk : Deaf t (i + 1) = dd := by rw [hcm.deafW i hi, hde]
  have nr : s ≠ 1 → tag ≠ .ret := fun h => hmode.not_ret hi (by omega)
  -- a leaver's step
  have slip : ∀ {q : Nat}, s = 1 → QuitsD P m dd g → (∀ q' dd' g' w', (o ≤ i → RWk ty Wg C n (K (i + 1)) (i - o) (W (i + 1)) w w') → QuitsD P q' dd' g' → WS P ty Wg C n Fin o (K (i + 1)) (i + 1) (W (i + 1)) 1 q' dd' g' w') → q = m →
      Lower (InvU P ty Wg C n o N1 D Fin gR Anc v0) (phi (o + n) (Vc j Dw) tag + Ssum j Dw, f0 + 2 * Fsum j Dw) (runT P (crowd gs w sl) (i + 1)) t := by
    rintro q rfl h mkS rfl
    cases q with
    | zero => rw [h.1] at hrun; cases hrun
    | succ q =>
      rcases h with ⟨hf, _⟩ | ⟨_, g', es, hmute, hstep, hq⟩
      · rw [hf] at hrun; cases hrun
      · have hbk : ∀ e ∈ es, Bk Wg e := fun e he => bk_of_mute (hmute e he)
        have htn : ∀ e ∈ es, (MemAct.ofEvent e).touch? = none := fun e he => touch_mute (hmute e he)
        have hno : ∀ jx e, es[jx]? = some e → (MemAct.ofEvent e).touch? = none ∨ 0 < deafBehind (Dw i).deaf (es.extract 0 jx) := fun jx e he => .inl (htn e (Array.mem_of_getElem? he))
        refine bookOfW hF hAr hgR ha hcs hcm hi hg (hstep w) (.refl Wg w) hwg hbk (fun _ => htn) hno (s' := 1) (fun hr => mkS q _ _ _ hr hq) (by rw [hde]) (by omega) (fun tag' ht _ => Mode.retag (by have := hmode.same (i := i) q (deafBehind dd es); rwa [hst] at this) ht)
          (fun e => (hacq e).app fun i' r hi' hr => ?_) (.inr ⟨hst.symm, hfu.symm⟩)
        by_cases e' : i' = i
        · subst e'; exact hr.book (hcm.deafW i' hi) _ _ hbk hno
        · exact hr.appOther g_of_ofEvents (by omega)
  cases hs with
  | old ho h => exact slip rfl h (fun q' dd' g' w' _ hq => .old ho hq) rfl
  | work ho h =>
    have e0 : i + 1 - 1 - o = i - o := by omega
    rw [e0] at h
    rcases GoesG.cases h with hstop | ⟨m', rfl, hstep⟩
    · obtain ⟨v, ⟨_, hhas, g', hgo, m₂, hk⟩, hfin⟩ := hstop w (RWk.refl w)
      have hmt : ∀ e ∈ #[mk (.releaseMerge (stA Wg))], (MemAct.ofEvent e).touch? = none := by intro e he; simp at he; subst he; rfl
      have hWgl : Wg < w.heap.size := Nat.lt_of_lt_of_le (hcm.geo.dead Wg hcm.geo.hWg) hcm.geo.le
      refine stepOfW hF hAr hgR ha hcs hcm hi hg hgo (W' := W) (s' := 6) (fun _ _ => rfl) (.refl w) (fun _ _ _ _ => RWk.refl w) (.done ho (Nat.le_refl _) (by rw [e0]; exact .k1 (Own := fun _ _ => False) (Rd := fun _ _ => False) (v := v) hk) (by rw [e0]; exact hfin))
        (hcm.tr.app (fun e he => ?_) (hcm.tr.ct.appW (hcm.geo.apartF o) (by omega) (by omega) (okW_mute hmt)) (fun _ h2 => by omega)) hcm.geo (by rw [hde]; rfl) (fun _ _ => ⟨t.size, RelBy.new hdk _ _⟩) hcm.pay hcm.fr hwg
        (fun _ ht _ => (hmode.counted hi (by omega) (.inl rfl) _ _).retag ht) (fun e => absurd e (nr (by omega))) (.inl ⟨by omega, by simp [cnt, hst]⟩)
      simp at he
      subst he
      exact ⟨by simp [mk], hWgl, fun x hx => (by cases hx), fun x hx => (by cases hx)⟩
    · obtain ⟨g', w', es, hgo, hd, hg'⟩ := hstep w (RWk.refl w)
      obtain ⟨h1, h2, h3, h4, h5, h6⟩ := hcm.work (fn := g.frame.fn) (pos := g.frame.place) hi (by omega) hd
      refine stepOfW hF hAr hgR ha hcs hcm hi hg hgo (s' := 7) (m' := m') (fun k hk => upd_ne W _ hk) h2 h1 (.work ho (by rw [upd_same, e0]; exact hg')) h3 h4 (dd' := 0) ?_ (fun _ h => by omega) (hd.pay hcm.pay) h5 (hwg.of_block h6)
        (fun _ ht _ => Mode.retag (by have := hmode.same (i := i) m' 0; rwa [hst] at this) ht) (fun e => absurd e (nr (by omega))) (.inr ⟨hst.symm, by omega⟩)
      rw [hde]
      exact deafBehind_idle (fun e he => (hd.evs e he).idle) 0
  | done ho h6 h hfin =>
    have e0 : i + 1 - 1 - o = i - o := by omega
    rw [e0] at h hfin
    -- the library's bookkeeping, seen from here
    have bookG : ∀ {g' : Goroutine} {w' : World} {es : Array Event} {s' m' dd' : Nat} {st' sm' : Int} {v : Value}, stepG P false g w = .go g' w' es → Aside Wg w w' → WgAt ty Wg w' st' sm' → (∀ e ∈ es, Bk Wg e) →
        (∀ jx e, es[jx]? = some e → (MemAct.ofEvent e).touch? = none ∨ 0 < deafBehind dd (es.extract 0 jx)) → WSit P ty Wg C n (fun _ _ => False) (fun _ _ => False) 0 (i - o + 1) v s' m' dd' g' w' → s' ≤ 6 → deafBehind dd es = dd' →
        (∀ tag', (tag' = tag ∨ (tag = .blk ∧ tag' = .w3)) → (mayWake P g = true → g'.status = .running → tag' ≠ .blk) → Go.ConcN.Mode j (upd Dw i ⟨s', m', dd'⟩) tag' st' sm') → tag ≠ .ret → ((s' < s ∧ cnt ⟨s', m', dd'⟩ ≤ cnt (Dw i)) ∨ (s' = s ∧ m' + 1 = m)) →
        Lower (InvU P ty Wg C n o N1 D Fin gR Anc v0) (phi (o + n) (Vc j Dw) tag + Ssum j Dw, f0 + 2 * Fsum j Dw) (runT P (crowd gs w sl) (i + 1)) t := by
      intro g' w' es s' m' dd' st' sm' v hgo hA hwg' hbk hnt hs' hs6 hdd hmode' hne hlt
      exact bookOfW hF hAr hgR ha hcs hcm hi hg hgo hA hwg' hbk (fun h => by omega) (by rw [hde]; exact hnt) (fun hr => .done ho hs6 (by rw [e0]; exact hs') (by rw [e0]; exact hF _ _ _ _ _ (hr (by omega)) hfin)) (by rw [hde]; exact hdd) (by omega) hmode' (fun e => absurd e hne) (by rw [hst, hfu]; exact hlt)
    have book : ∀ {g' : Goroutine} {w' : World} {es : Array Event} {s' m' dd' : Nat} {st' sm' : Int} {v : Value}, stepG P false g w = .go g' w' es → Aside Wg w w' → WgAt ty Wg w' st' sm' → (∀ e ∈ es, Bk Wg e) →
        (∀ jx e, es[jx]? = some e → (MemAct.ofEvent e).touch? = none ∨ 0 < deafBehind dd (es.extract 0 jx)) → WSit P ty Wg C n (fun _ _ => False) (fun _ _ => False) 0 (i - o + 1) v s' m' dd' g' w' → s' ≤ 6 → deafBehind dd es = dd' →
        Go.ConcN.Mode j (upd Dw i ⟨s', m', dd'⟩) tag st' sm' → tag ≠ .ret → ((s' < s ∧ cnt ⟨s', m', dd'⟩ ≤ cnt (Dw i)) ∨ (s' = s ∧ m' + 1 = m)) →
        Lower (InvU P ty Wg C n o N1 D Fin gR Anc v0) (phi (o + n) (Vc j Dw) tag + Ssum j Dw, f0 + 2 * Fsum j Dw) (runT P (crowd gs w sl) (i + 1)) t :=
      fun hgo hA hwg' hbk hnt hs' hs6 hdd hmode' hne hlt => bookG hgo hA hwg' hbk hnt hs' hs6 hdd (fun _ ht _ => hmode'.retag ht) hne hlt
    have idle : ∀ {g' : Goroutine} {m' : Nat} {v : Value}, stepG P false g w = .go g' w #[] → WSit P ty Wg C n (fun _ _ => False) (fun _ _ => False) 0 (i - o + 1) v s m' dd g' w → m' + 1 = m → s ≠ 1 →
        Lower (InvU P ty Wg C n o N1 D Fin gR Anc v0) (phi (o + n) (Vc j Dw) tag + Ssum j Dw, f0 + 2 * Fsum j Dw) (runT P (crowd gs w sl) (i + 1)) t := by
      intro g' m' v hgo hs' hm h1
      exact book hgo (.refl Wg w) hwg (by simp) (by simp) hs' h6 rfl (by have := hmode.same (i := i) m' dd; rwa [hst] at this) (nr h1) (.inr ⟨rfl, hm⟩)
    have rw0 : ∀ w, RW ty Wg C n 0 (i - o + 1 - 1) w w := fun w => RW.refl w
    have one : ∀ (e0 : Event), ∀ (dd : Nat), 0 < dd → ∀ jx e, (#[e0] : Array Event)[jx]? = some e → (MemAct.ofEvent e).touch? = none ∨ 0 < deafBehind dd ((#[e0] : Array Event).extract 0 jx) := fun e0 dd hd jx e he => by
      match jx, he with
      | 0, _ => exact .inr (by simpa [deafBehind] using hd)
      | jx + 1, he => simp at he
    cases h with
    | r0 h => omega
    | k1 h =>
      rcases Goes.cases h with hstop | ⟨m', rfl, hstep⟩
      · obtain ⟨_, g', hgo, m₂, hk⟩ := hstop w (rw0 w)
        exact book hgo (.refl Wg w) hwg (by intro e he; simp at he; subst he; exact .inl rfl) (by intro jx e he; exact .inl (by have := Array.mem_of_getElem? he; simp at this; subst this; rfl)) (.d1 (v := .tuple #[]) hk) (by omega) rfl
          (hmode.counted hi (by omega) (.inr rfl) _ _) (nr (by omega)) (.inl ⟨by omega, by simp [cnt, hst]⟩)
      · obtain ⟨g', w', es, hgo, ⟨rfl, rfl⟩, hg'⟩ := hstep w (rw0 w)
        exact idle hgo (.k1 (v := .tuple #[]) hg') rfl (by omega)
    | d1 h =>
      rcases Goes.cases h with hstop | ⟨m', rfl, hstep⟩
      · obtain ⟨_, hall⟩ := hstop w (rw0 w)
        have hc1 : cnt (Dw i) = 1 := by simp [cnt, hst]
        have hV1 : 1 ≤ Vc j Dw := by have := le_sumTo (f := fun x => cnt (Dw x)) hi; simp only [Vc]; omega
        have bk2 : ∀ e ∈ #[rd (stA Wg), wr (stA Wg)], Bk Wg e := by intro e he; simp at he; rcases he with rfl | rfl <;> exact bk_cell _ _ rfl
        have df2 : ∀ jx e, (#[rd (stA Wg), wr (stA Wg)] : Array Event)[jx]? = some e → (MemAct.ofEvent e).touch? = none ∨ 0 < deafBehind 1 ((#[rd (stA Wg), wr (stA Wg)] : Array Event).extract 0 jx) := by
          intro jx e he
          match jx, he with
          | 0, _ => exact .inr (by simp [deafBehind])
          | 1, _ => exact .inr (by simp [deafBehind, rd])
          | jx + 2, he => simp at he
        have hq0 : ∀ q, cnt (⟨1, q, 1⟩ : WD) = 0 := fun _ => rfl
        have opq : ∀ q, OpenSt j Dw → OpenSt j (upd Dw i ⟨1, q, 1⟩) := fun q h a ha => by
          by_cases e : a = i
          · subst e; rw [upd_same]; simp
          · rw [upd_ne Dw _ e]; exact h a ha
        cases hmode with
        | opn h1 h2 h3 =>
          obtain ⟨v, hv⟩ : ∃ v, Vc j Dw + pend tag = v + 1 := ⟨Vc j Dw + pend tag - 1, by omega⟩
          rw [hv] at hwg
          have hw1 : WgAt ty Wg w (((v : Nat) + 1) * KK + ((0 : Nat) : Int)) 0 := by simpa using hwg
          obtain ⟨g', hgo, _, hq⟩ := hall v 0 (by omega) (by omega) hw1
          obtain ⟨q, hq⟩ := hq (by omega)
          have hv' : Vc j (upd Dw i ⟨1, q, 1⟩) + pend tag = v := by have := Vc_upd Dw (⟨1, q, 1⟩ : WD) hi; have := hq0 q; omega
          refine book hgo (aside_setCell w (stA Wg) _) (hwg.setSt _) bk2 df2 (.quit (v := .tuple #[]) hq) (by omega) rfl ?_ (nr (by omega)) (.inl ⟨by omega, by simp [cnt]⟩)
          have e : ((v : Nat) : Int) * KK + ((0 : Nat) : Int) = ((Vc j (upd Dw i ⟨1, q, 1⟩) + pend tag : Nat) : Int) * KK := by rw [hv']; simp
          rw [e]
          exact .opn h1 (opq q h2) (fun vs ev => by have := h3 vs ev; omega)
        | reg h1 h2 h3 =>
          obtain ⟨v, hv⟩ : ∃ v, Vc j Dw = v + 1 := ⟨Vc j Dw - 1, by omega⟩
          rw [hv] at hwg
          have hp : pend tag = 0 := by cases tag <;> first | rfl | exact h1.elim
          have hw1 : WgAt ty Wg w (((v : Nat) + 1) * KK + ((1 : Nat) : Int)) 0 := by simpa using hwg
          obtain ⟨g', hgo, hl, hq⟩ := hall v 1 (by omega) (by omega) hw1
          by_cases hv0 : v = 0
          · subst hv0
            obtain ⟨m₂, hk⟩ := hl ⟨rfl, rfl⟩
            refine book hgo (aside_setCell w (stA Wg) _) (hwg.setSt _) bk2 df2 (.d2 (v := .tuple #[]) hk) (by omega) rfl ?_ (nr (by omega)) (.inl ⟨by omega, by simp [cnt]⟩)
            have hoth : ∀ a, a < j → a ≠ i → (Dw a).stage = 1 := fun a ha e => by
              have c0 := others_uncounted hi hv hc1 a ha e
              have := h2 a ha
              simp only [cnt] at c0
              split at c0 <;> omega
            have := Mode.last (j := j) (D := upd Dw i ⟨4, m₂, 1⟩) (tag := tag) i h1 hi (by rw [upd_same]; simp) (fun a ha e => by rw [upd_ne Dw _ e]; exact hoth a ha e)
            rw [upd_same] at this
            simpa using this
          · obtain ⟨q, hq⟩ := hq (by omega)
            have hv' : Vc j (upd Dw i ⟨1, q, 1⟩) = v := by have := Vc_upd Dw (⟨1, q, 1⟩ : WD) hi; have := hq0 q; omega
            refine book hgo (aside_setCell w (stA Wg) _) (hwg.setSt _) bk2 df2 (.quit (v := .tuple #[]) hq) (by omega) rfl ?_ (nr (by omega)) (.inl ⟨by omega, by simp [cnt]⟩)
            have e : ((v : Nat) : Int) * KK + ((1 : Nat) : Int) = ((Vc j (upd Dw i ⟨1, q, 1⟩) : Nat) : Int) * KK + 1 := by rw [hv']; simp
            rw [e]
            exact .reg h1 (opq q h2) (by omega)
        | last L _ h2 h3 h4 =>
          by_cases e : i = L
          · subst e; omega
          · have := h4 i hi e; omega
        | sema h2 => have := h2 i hi; omega
        | fin _ h2 => have := h2 i hi; omega
      · obtain ⟨g', w', es, hgo, ⟨rfl, rfl⟩, hg'⟩ := hstep w (rw0 w)
        exact idle hgo (.d1 (v := .tuple #[]) hg') rfl (by omega)
    | d2 h =>
      rcases Goes.cases h with hstop | ⟨m', rfl, hstep⟩
      · obtain ⟨_, hx⟩ := hstop w (rw0 w)
        obtain ⟨hW3, hoth, rfl, rfl⟩ := hmode.isLast hi (by omega)
        simp only [hst] at hwg
        obtain ⟨g', hgo, m₂, hk⟩ := hx (by simpa using hwg)
        refine book hgo (.refl Wg w) hwg (by intro e he; simp at he; subst he; exact bk_cell _ _ rfl) (one _ 1 (by omega)) (.d3 (v := .tuple #[]) hk) (by omega) rfl ?_ (nr (by omega)) (.inl ⟨by omega, by simp [cnt]⟩)
        have := Mode.last (j := j) (D := upd Dw i ⟨3, m₂, 1⟩) (tag := tag) i hW3 hi (by rw [upd_same]; simp) (fun a ha e => by rw [upd_ne Dw _ e]; exact hoth a ha e)
        rw [upd_same] at this
        simpa using this
      · obtain ⟨g', w', es, hgo, ⟨rfl, rfl⟩, hg'⟩ := hstep w (rw0 w)
        exact idle hgo (.d2 (v := .tuple #[]) hg') rfl (by omega)
    | d3 h =>
      rcases Goes.cases h with hstop | ⟨m', rfl, hstep⟩
      · obtain ⟨_, hx⟩ := hstop w (rw0 w)
        obtain ⟨hW3, hoth, rfl, rfl⟩ := hmode.isLast hi (by omega)
        simp only [hst] at hwg
        obtain ⟨g', hgo, m₂, hk⟩ := hx (by simpa using hwg)
        refine book hgo (aside_setCell w (stA Wg) _) (hwg.setSt 0) (by intro e he; simp at he; subst he; exact bk_cell _ _ rfl) (one _ 1 (by omega)) (.d4 (v := .tuple #[]) hk) (by omega) rfl ?_ (nr (by omega)) (.inl ⟨by omega, by simp [cnt]⟩)
        have := Mode.last (j := j) (D := upd Dw i ⟨2, m₂, 1⟩) (tag := tag) i hW3 hi (by rw [upd_same]; simp) (fun a ha e => by rw [upd_ne Dw _ e]; exact hoth a ha e)
        rw [upd_same] at this
        simpa using this
      · obtain ⟨g', w', es, hgo, ⟨rfl, rfl⟩, hg'⟩ := hstep w (rw0 w)
        exact idle hgo (.d3 (v := .tuple #[]) hg') rfl (by omega)
    | d4 h =>
      rcases Goes.cases h with hstop | ⟨m', rfl, hstep⟩
      · obtain ⟨_, hmw, hx⟩ := hstop w (rw0 w)
        obtain ⟨hW3, hoth, rfl, rfl⟩ := hmode.isLast hi (by omega)
        simp only [hst] at hwg
        obtain ⟨g', hgo, q, hq⟩ := hx (by simpa using hwg)
        have hrun' : g'.status = .running := by
          cases q with
          | zero => exact absurd hq.2 (by decide)
          | succ q => exact hq.elim (fun x => absurd x.2 (by decide)) (fun x => x.1)
        refine bookG hgo (aside_setCell w (smA Wg) _) (hwg.setSm 1) (es := semEvents (smA Wg)) bk_sem ?_ (.quit (v := .tuple #[]) hq) (by omega) (by simp [deafBehind, semEvents]) ?_ (nr (by omega)) (.inl ⟨by omega, by simp [cnt]⟩)
        · intro jx e he
          match jx, he with
          | 0, he => simp [semEvents] at he; subst he; exact .inl rfl
          | 1, _ => exact .inr (by simp [deafBehind, semEvents])
          | 2, _ => exact .inr (by simp [deafBehind, semEvents])
          | 3, he => simp [semEvents] at he; subst he; exact .inl rfl
          | jx + 4, he => simp [semEvents] at he
        · intro tag' ht hw
          have hnb := hw hmw hrun'
          have e3 : tag' = .w3 := by
            rcases ht with rfl | ⟨_, rfl⟩
            · cases tag' <;> first | rfl | exact hW3.elim | exact absurd rfl hnb
            · rfl
          subst e3
          simp only [if_true]
          exact .sema fun a ha => by
            by_cases e : a = i
            · subst e; rw [upd_same]
            · rw [upd_ne Dw _ e]; exact hoth a ha e
      · obtain ⟨g', w', es, hgo, ⟨rfl, rfl⟩, hg'⟩ := hstep w (rw0 w)
        exact idle hgo (.d4 (v := .tuple #[]) hg') rfl (by omega)
    | quit h => exact slip rfl h (fun q' dd' g' w' hr hq => .done ho (by omega) (.quit (v := .tuple #[]) (by exact hq)) (by rw [e0]; exact hF _ _ _ _ _ (hr (by omega)) hfin)) rfl
end
end Go.Proofs.Ytcfpilkhjpegcaa
