/- Tame texts, on: a run that comes to its goal on every tape comes there though the tape be chosen anew ahead of every step. -/
import Derived.Test.YtcfpilkhjpegcaaK52
import Derived.Conc.CrowdTrace
namespace Go.Proofs.Ytcfpilkhjpegcaa
open Go Go.Conc

/-- The frame that stands beneath in the lone run: whatever comes back to it ends the machine. -/
def stopRow : String := Go.Extern.FmtStop.writeWord
def Xf (P : Program) : Frame := { fn := P.funcs.size, tmps := #[undef], todo := [.call default false stopRow #[]], defers := [], mode := .run, kind := .normal }

/-- Where a piece of text is left, k0 standing behind its last items. -/
def ExitK (k0 : List Item) : Bool → List FrR → Prop
  | _, [] => True
  | r, [x] => r = true ∨ (x.todo = [] ∧ k0 ≠ [])
  | _, _ => False

/-- The goal is met on every road. -/
inductive Must (P : Program) (k0 : List Item) (TG : Frame → World → Prop) : Bool → List FrR → World → Prop
  | stop {ret : Bool} {x : FrR} {w : World} (τ : Nat → Question → Nat) (d : Nat) : TG (lift k0 [Xf P] ret [x]).frame (w.re τ d) → Must P k0 TG ret [x] w
  | step {ret : Bool} {L : List FrR} {w : World} : ¬ ExitK k0 ret L → (∀ τ d, ∃ r w', (own P ret L).run P (w.re τ d) = .ok r w') → (∀ τ d r w', (own P ret L).run P (w.re τ d) = .ok r w' → Must P k0 TG r.1 r.2 w') → Must P k0 TG ret L w

section
variable {P : Program} {S : Set'}

theorem runN_succ_next {m m' : Machine} (h : step P m = .next m') (n : Nat) : runN P (n + 1) m = runN P n m' := by simp only [runN, h]
theorem runN_succ_ended {m : Machine} {o : Outcome} {w : World} (h : step P m = .ended o w) (n : Nat) : runN P (n + 1) m = .ended o w := by simp only [runN, h]

theorem step_go {fr fr' : Frame} {cs cs' : List Frame} {w w' : World} {es : Array Event} (h : stepG P true (G fr cs) w = .go (G fr' cs') w' es) : step P (lone fr cs w) = .next (lone fr' cs' w') :=
  step_lone_go (by
    have h' : stepG P true { frame := fr, callers := cs, status := .running, dying := none } w = .go { frame := fr', callers := cs', status := .running, dying := none } w' es := h
    rw [h']; rfl)
theorem step_end {fr : Frame} {cs : List Frame} {w w' : World} {o : Outcome} {es : Array Event} (h : stepG P true (G fr cs) w = .ended o w' es) : step P (lone fr cs w) = .ended o w' :=
  step_lone_ended (by
    have h' : stepG P true { frame := fr, callers := cs, status := .running, dying := none } w = .ended o w' es := h
    rw [h']; rfl)

theorem Xf_catches (_ : True) (chain : List PanicEntry) : Frame.catches P { Xf P with mode := .panicking chain } = true := by
  simp [Frame.catches, Xf]
  decide +kernel

/-- On its way out by a panic a stack never comes to a goal. -/
theorem panic_never (hd : True) {k0 : List Item} : ∀ (rest : List FrR) (x : FrR) (todo : List Item) (chain : List PanicEntry) (w : World), (∀ y ∈ x :: rest, ∃ fn, P.funcs[y.fn]? = some fn) →
    ∀ n fr w', runN P n (lone { (base x.fn).at x.act todo with mode := .panicking chain } (tailF k0 rest ++ [Xf P]) w) = .next (lone fr [Xf P] w') → ∃ chain, fr.mode = .panicking chain := by
  intro rest
  induction rest with
  | nil =>
    intro x todo chain w hfn n fr w' h
    cases n with
    | zero =>
      simp only [runN] at h
      injection h with h
      simp only [lone] at h
      injection h with h1 h2 h3
      simp at h2
      exact ⟨chain, by rw [← h2.1]⟩
    | succ n =>
      exfalso
      obtain ⟨fn, hfn⟩ := hfn x (by simp)
      have hs : stepG P true (G { (base x.fn).at x.act todo with mode := .panicking chain } [Xf P]) w = .go (G { Xf P with mode := .panicking chain } []) w := by
        simp [G, stepG, unwind, Frame.at, base, FrR.act, Frame.catches, hfn, Frame.raise, Xf]
      rw [show tailF k0 [] ++ [Xf P] = [Xf P] from rfl, runN_succ_next (step_go hs)] at h
      cases n with
      | zero =>
        simp only [runN] at h
        injection h with h
        simp only [lone] at h
        injection h with h1 h2 h3
        simp at h2
      | succ n =>
        have hs2 : ∃ o w2 es, stepG P true (G { Xf P with mode := .panicking chain } []) w = .ended o w2 es := by
          have hc := Xf_catches (P := P) hd chain
          simp only [Xf] at hc
          simp [G, stepG, unwind, Xf, hc]
        obtain ⟨o, w2, es, hs2⟩ := hs2
        rw [runN_succ_ended (step_end hs2)] at h
        cases h
  | cons y r ih =>
    intro x todo chain w hfn n fr w' h
    cases n with
    | zero =>
      simp only [runN] at h
      injection h with h
      simp only [lone] at h
      injection h with h1 h2 h3
      simp at h2
      exact ⟨chain, by rw [← h2.1]⟩
    | succ n =>
      obtain ⟨fn, hfx⟩ := hfn x (by simp)
      have hs : stepG P true (G { (base x.fn).at x.act todo with mode := .panicking chain } (tailF k0 (y :: r) ++ [Xf P])) w = .go (G { (base y.fn).at y.act (y.todo ++ kk k0 r) with mode := .panicking chain } (tailF k0 r ++ [Xf P])) w := by
        simp [G, stepG, unwind, Frame.at, base, FrR.act, Frame.catches, hfx, Frame.raise, tailF, FrR.fr]
      rw [runN_succ_next (step_go hs)] at h
      exact ih y _ chain w (fun z hz => hfn z (by simp at hz ⊢; exact .inr hz)) n fr w' h

theorem lift_lone (k : List Item) (cs : List Frame) (ret : Bool) (x : FrR) (rest : List FrR) : lift k cs ret (x :: rest) = G (lift k cs ret (x :: rest)).frame (tailF k rest ++ cs) := by
  cases ret <;> rfl

/-- The lone machine at a stack. -/
def LM (P : Program) (k0 : List Item) (ret : Bool) (L : List FrR) (w : World) : Machine := lone (lift k0 [Xf P] ret L).frame (lift k0 [Xf P] ret L).callers w

/-- A step that halts never leads to a goal. -/
theorem lost_never (hd : True) {k0 : List Item} {ret : Bool} {x : FrR} {rest : List FrR} {w : World} (hfn : ∀ y ∈ x :: rest, ∃ fn, P.funcs[y.fn]? = some fn)
    (h : Lost k0 [Xf P] x rest (stepG P true (lift k0 [Xf P] ret (x :: rest)) w)) (n : Nat) (fr : Frame) (w' : World) (hr : runN P (n + 1) (LM P k0 ret (x :: rest) w) = .next (lone fr [Xf P] w')) : ∃ chain, fr.mode = .panicking chain := by
  rw [lift_lone] at h
  have e : LM P k0 ret (x :: rest) w = lone (lift k0 [Xf P] ret (x :: rest)).frame (tailF k0 rest ++ [Xf P]) w := by
    unfold LM
    cases ret <;> rfl
  rw [e] at hr
  rcases h with ⟨o, w2, es, hs⟩ | ⟨chain, w2, es, todo, hs⟩
  · rw [runN_succ_ended (step_end hs)] at hr
    cases hr
  · rw [runN_succ_next (step_go hs)] at hr
    exact panic_never hd rest x todo chain w2 hfn n fr w' hr

/-- Behind an exit there is no goal. -/
theorem exit_never (hx : Extern.next stopRow = none) {k0 : List Item} (hk : k0 = [] ∨ ∃ s, k0 = [.code (.refuse s)]) {ret : Bool} {x : FrR} {w : World} (he : ExitK k0 ret [x]) (hfn : ∃ fn, P.funcs[x.fn]? = some fn)
    (n : Nat) (fr : Frame) (w' : World) (hr : runN P (n + 1) (LM P k0 ret [x] w) = .next (lone fr [Xf P] w')) : False := by
  obtain ⟨fn, hfn⟩ := hfn
  cases ret with
  | false =>
    rcases he with he | ⟨ht, hk0⟩
    · cases he
    · rcases hk with hk | ⟨s, hk⟩
      · exact hk0 hk
      · have hs : ∃ o w2 es, stepG P true (G (x.fr k0 []) [Xf P]) w = .ended o w2 es := by
          simp [G, stepG, stepG.exec, Frame.at, FrR.fr, ht, hk, kk]
        obtain ⟨o, w2, es, hs⟩ := hs
        have : LM P k0 false [x] w = lone (x.fr k0 []) [Xf P] w := rfl
        rw [this, runN_succ_ended (step_end hs)] at hr
        cases hr
  | true =>
    have : LM P k0 true [x] w = lone { x.fr k0 [] with mode := .returning } [Xf P] w := rfl
    rw [this] at hr
    cases hrr : (results fn x.tmps).run P w with
    | halt e w2 =>
      have hs : ∃ o w2 es, stepG P true (G { x.fr k0 [] with mode := .returning } [Xf P]) w = .ended o w2 es := by
        cases e <;> simp [G, stepG, unwind, Frame.at, FrR.fr, base, FrR.act, hfn, hrr, GStep.after]
      obtain ⟨o, w2, es, hs⟩ := hs
      rw [runN_succ_ended (step_end hs)] at hr
      cases hr
    | ok v w2 =>
      have hs : ∃ fr', (∃ es, stepG P true (G { x.fr k0 [] with mode := .returning } [Xf P]) w = .go (G fr' []) w2 es) ∧ ∃ o w3 es, stepG P true (G fr' []) w2 = .ended o w3 es := by
        cases hg : stepG P true (G { x.fr k0 [] with mode := .returning } [Xf P]) w
        all_goals simp [G, stepG, unwind, doReturn, Frame.at, FrR.fr, base, FrR.act, hfn, hrr, GStep.after, Xf, Frame.finish] at hg
        obtain ⟨h1, h2, h3⟩ := hg
        subst h1 h2 h3
        exact ⟨_, ⟨_, rfl⟩, by simp [G, stepG, stepG.exec, hx]⟩
      obtain ⟨fr', ⟨es, hs⟩, o, w3, es3, hs2⟩ := hs
      rw [runN_succ_next (step_go hs)] at hr
      cases n with
      | zero =>
        simp only [runN] at hr
        injection hr with hr
        simp only [lone] at hr
        injection hr with h1 h2 h3
        simp at h2
      | succ n =>
        rw [runN_succ_ended (step_end hs2)] at hr
        cases hr

/-! ### One tape for a bad road -/
structure Gl where
  ret : Bool
  L : List FrR
  w : World
  τ : Nat → Question → Nat
  d : Nat
  fin : Bool

open Classical in
/-- A bad choice of the tape, if there is one. -/
noncomputable def pickT (P : Program) (k0 : List Item) (TG : Frame → World → Prop) (ret : Bool) (L : List FrR) (w : World) : (Nat → Question → Nat) × Nat :=
  if h : ∃ p : (Nat → Question → Nat) × Nat, ∀ r w', (own P ret L).run P (w.re p.1 p.2) = .ok r w' → ¬ Must P k0 TG r.1 r.2 w' then Classical.choose h else (w.tape, w.drawn)
theorem pickT_bad {k0 : List Item} {TG : Frame → World → Prop} {ret : Bool} {L : List FrR} {w : World} (hx : ¬ ExitK k0 ret L) (h : ¬ Must P k0 TG ret L w) :
    ∀ r w', (own P ret L).run P (w.re (pickT P k0 TG ret L w).1 (pickT P k0 TG ret L w).2) = .ok r w' → ¬ Must P k0 TG r.1 r.2 w' := by
  have hex : ∃ p : (Nat → Question → Nat) × Nat, ∀ r w', (own P ret L).run P (w.re p.1 p.2) = .ok r w' → ¬ Must P k0 TG r.1 r.2 w' := by
    refine Classical.byContradiction fun hn => h ?_
    have hn' : ∀ τ d, ∃ r w', (own P ret L).run P (w.re τ d) = .ok r w' ∧ Must P k0 TG r.1 r.2 w' := by
      intro τ d
      refine Classical.byContradiction fun hc => hn ⟨(τ, d), fun r w' hr hm => hc ⟨r, w', hr, hm⟩⟩
    refine .step hx (fun τ d => let ⟨r, w', h1, _⟩ := hn' τ d; ⟨r, w', h1⟩) fun τ d r w' hr => ?_
    obtain ⟨r', w'', h1, h2⟩ := hn' τ d
    rw [hr] at h1
    cases h1
    exact h2
  unfold pickT
  rw [dif_pos hex]
  exact Classical.choose_spec hex

open Classical in
noncomputable def nx (P : Program) (k0 : List Item) (g : Gl) : Option (Bool × List FrR × World) :=
  if g.fin = true ∨ ExitK k0 g.ret g.L then none else match (own P g.ret g.L).run P (g.w.re g.τ g.d) with | .ok r w' => some (r.1, r.2, w') | .halt .. => none
noncomputable def sx (P : Program) (k0 : List Item) (TG : Frame → World → Prop) (g : Gl) : Gl :=
  match nx P k0 g with
  | some (r, L, w') => ⟨r, L, w', (pickT P k0 TG r L w').1, (pickT P k0 TG r L w').2, false⟩
  | none => { g with d := g.d + 1, fin := true }
noncomputable def cx (P : Program) (k0 : List Item) (g : Gl) : Nat :=
  match nx P k0 g with
  | some (_, _, w') => w'.drawn - g.d
  | none => 1
noncomputable def gx (P : Program) (k0 : List Item) (TG : Frame → World → Prop) (g0 : Gl) : Nat → Gl
  | 0 => g0
  | i + 1 => sx P k0 TG (gx P k0 TG g0 i)
noncomputable def ox (P : Program) (k0 : List Item) (TG : Frame → World → Prop) (g0 : Gl) : Nat → Nat
  | 0 => 0
  | i + 1 => ox P k0 TG g0 i + cx P k0 (gx P k0 TG g0 i)

open Classical in
noncomputable def tx (P : Program) (k0 : List Item) (TG : Frame → World → Prop) (g0 : Gl) (j : Nat) (q : Question) : Nat :=
  if h : ∃ i, ox P k0 TG g0 i ≤ j ∧ j < ox P k0 TG g0 (i + 1) then (gx P k0 TG g0 (Classical.choose h)).τ ((gx P k0 TG g0 (Classical.choose h)).d + (j - ox P k0 TG g0 (Classical.choose h))) q else 0

theorem ox_mono (k0 : List Item) (TG : Frame → World → Prop) (g0 : Gl) : ∀ {i j : Nat}, i ≤ j → ox P k0 TG g0 i ≤ ox P k0 TG g0 j := by
  intro i j h
  induction h with
  | refl => exact Nat.le_refl _
  | step _ ih => exact Nat.le_trans ih (Nat.le_add_right _ _)

theorem tx_at (k0 : List Item) (TG : Frame → World → Prop) (g0 : Gl) {i j : Nat} (h : j < cx P k0 (gx P k0 TG g0 i)) (q : Question) :
    tx P k0 TG g0 (ox P k0 TG g0 i + j) q = (gx P k0 TG g0 i).τ ((gx P k0 TG g0 i).d + j) q := by
  have hex : ∃ i', ox P k0 TG g0 i' ≤ ox P k0 TG g0 i + j ∧ ox P k0 TG g0 i + j < ox P k0 TG g0 (i' + 1) := ⟨i, Nat.le_add_right _ _, by show _ < _ + _; omega⟩
  unfold tx
  rw [dif_pos hex]
  have hsp := Classical.choose_spec hex
  have he : Classical.choose hex = i := by
    rcases Nat.lt_trichotomy (Classical.choose hex) i with hlt | heq | hgt
    · have := ox_mono (P := P) k0 TG g0 (show Classical.choose hex + 1 ≤ i from hlt)
      omega
    · exact heq
    · have := ox_mono (P := P) k0 TG g0 (show i + 1 ≤ Classical.choose hex from hgt)
      have : ox P k0 TG g0 (i + 1) = ox P k0 TG g0 i + cx P k0 (gx P k0 TG g0 i) := rfl
      omega
  rw [he]
  congr 2
  omega

/-- Where the road has ended the tape goes on as chosen. -/
theorem gx_stay {k0 : List Item} {TG : Frame → World → Prop} {g0 : Gl} {N : Nat} (h : nx P k0 (gx P k0 TG g0 N) = none) : ∀ m, (gx P k0 TG g0 (N + m)).τ = (gx P k0 TG g0 N).τ ∧ (gx P k0 TG g0 (N + m)).d = (gx P k0 TG g0 N).d + m ∧ nx P k0 (gx P k0 TG g0 (N + m)) = none ∧ ox P k0 TG g0 (N + m) = ox P k0 TG g0 N + m
  | 0 => ⟨rfl, rfl, h, rfl⟩
  | m + 1 => by
    obtain ⟨h1, h2, h3, h4⟩ := gx_stay h m
    have e : gx P k0 TG g0 (N + (m + 1)) = { gx P k0 TG g0 (N + m) with d := (gx P k0 TG g0 (N + m)).d + 1, fin := true } := by
      show sx P k0 TG (gx P k0 TG g0 (N + m)) = _
      unfold sx
      rw [h3]
    refine ⟨by rw [e]; exact h1, by rw [e]; show (gx P k0 TG g0 (N + m)).d + 1 = _; omega, ?_, ?_⟩
    · rw [e]
      unfold nx
      rw [if_pos (.inl rfl)]
    · have hc : cx P k0 (gx P k0 TG g0 (N + m)) = 1 := by unfold cx; rw [h3]
      show ox P k0 TG g0 (N + m) + cx P k0 (gx P k0 TG g0 (N + m)) = _
      omega

/-- THE ROADS: if on every tape the lone run comes to its goal, it is met though the tape be chosen anew ahead of every step. -/
theorem must_of (hd : True) (hxr : Extern.next stopRow = none) (hE : NoEarly P) (hS : ∀ f, S.F f = true → okFn P S f = true) {k0 : List Item} (hk : k0 = [] ∨ ∃ s, k0 = [.code (.refuse s)]) {TG : Frame → World → Prop} (hTG : ∀ fr w, TG fr w → ∀ chain, fr.mode ≠ .panicking chain)
    {ret : Bool} {L : List FrR} {w : World} (hL : StOk P S L) (h : ∀ τ, ∃ n fr w', runN P n (LM P k0 ret L (w.re τ 0)) = .next (lone fr [Xf P] w') ∧ TG fr w') : Must P k0 TG ret L w := by
  refine Classical.byContradiction fun hbad => ?_
  let g0 : Gl := ⟨ret, L, w, (pickT P k0 TG ret L w).1, (pickT P k0 TG ret L w).2, false⟩
  let g := gx P k0 TG g0
  let o := ox P k0 TG g0
  let τ := tx P k0 TG g0
  have hbad_pick : ∀ i, (g i).fin = false → ((g i).τ, (g i).d) = pickT P k0 TG (g i).ret (g i).L (g i).w := by
    intro i
    cases i with
    | zero => intro _; rfl
    | succ i =>
      intro hf
      show ((sx P k0 TG (g i)).τ, (sx P k0 TG (g i)).d) = pickT P k0 TG (sx P k0 TG (g i)).ret (sx P k0 TG (g i)).L (sx P k0 TG (g i)).w
      have hf' : (sx P k0 TG (g i)).fin = false := hf
      unfold sx at hf' ⊢
      cases hn : nx P k0 (g i) with
      | none => rw [hn] at hf'; cases hf'
      | some s => rfl
  -- the road, as long as it goes on
  have road : ∀ i, (∀ j, j < i → nx P k0 (g j) ≠ none) → (g i).fin = false ∧ StOk P S (g i).L ∧ ¬ Must P k0 TG (g i).ret (g i).L (g i).w ∧ runN P i (LM P k0 ret L (w.re τ 0)) = .next (LM P k0 (g i).ret (g i).L ((g i).w.re τ (o i))) := by
    intro i
    induction i with
    | zero => intro _; exact ⟨rfl, hL, hbad, rfl⟩
    | succ i ih =>
      intro hj
      obtain ⟨h1, h2, h3, h4⟩ := ih fun j hlt => hj j (by omega)
      have hn := hj i (by omega)
      cases hnx : nx P k0 (g i) with
      | none => exact absurd hnx hn
      | some s =>
        obtain ⟨r, L', w'⟩ := s
        have hex : ¬ ExitK k0 (g i).ret (g i).L ∧ (own P (g i).ret (g i).L).run P ((g i).w.re (g i).τ (g i).d) = .ok (r, L') w' := by
          unfold nx at hnx
          split at hnx
          · cases hnx
          · rename_i hne
            refine ⟨fun he => hne (.inr he), ?_⟩
            cases hr : (own P (g i).ret (g i).L).run P ((g i).w.re (g i).τ (g i).d) with
            | ok r' w2 => rw [hr] at hnx; cases hnx; rfl
            | halt e w2 => rw [hr] at hnx; cases hnx
        have eg : g (i + 1) = ⟨r, L', w', (pickT P k0 TG r L' w').1, (pickT P k0 TG r L' w').2, false⟩ := by
          show sx P k0 TG (g i) = _
          unfold sx
          rw [hnx]
        have ec : cx P k0 (g i) = w'.drawn - (g i).d := by unfold cx; rw [hnx]
        obtain ⟨t1, t2, t3, t4⟩ := (own_tame hS h2 (ret := (g i).ret)).tape hex.2
        have hagree := t4 τ (o i) (fun j q hjq => by
          have hjc : j < cx P k0 (g i) := by
            rw [ec]
            have : ((g i).w.re (g i).τ (g i).d).drawn = (g i).d := rfl
            omega
          exact tx_at k0 TG g0 hjc q)
        rw [re_re] at hagree
        have eo : o i + (w'.drawn - ((g i).w.re (g i).τ (g i).d).drawn) = o (i + 1) := by
          show o i + (w'.drawn - (g i).d) = o i + cx P k0 (g i)
          rw [ec]
        rw [eo] at hagree
        rw [eg]
        refine ⟨rfl, t1, ?_, ?_⟩
        · have hp := hbad_pick i h1
          have hb := pickT_bad hex.1 h3
          rw [← hp] at hb
          exact hb (r, L') w' hex.2
        · have hst : ∃ es, stepG P true (lift k0 [Xf P] (g i).ret (g i).L) ((g i).w.re τ (o i)) = .go (lift k0 [Xf P] r L') (w'.re τ (o (i + 1))) es := by
            have hrT : (own P (g i).ret (g i).L).runT P ((g i).w.re τ (o i)) #[] = (.ok (r, L') (w'.re τ (o (i + 1))), ((own P (g i).ret (g i).L).runT P ((g i).w.re τ (o i)) #[]).2) := by
              refine Prod.ext ?_ rfl
              rw [Sem.runT_fst]
              exact hagree
            have hae : ¬ AtExit (g i).ret (g i).L ∨ (k0 = [] ∧ (g i).ret = false) := by
              by_cases hk0 : k0 = [] ∧ (g i).ret = false
              · exact .inr hk0
              · refine .inl fun ha => hex.1 ?_
                match hLi : (g i).L, ha with
                | [], _ => trivial
                | [x], ha =>
                  rcases ha with ha | ha
                  · exact .inl ha
                  · by_cases hr : (g i).ret = true
                    · exact .inl hr
                    · exact .inr ⟨ha, fun hk => hk0 ⟨hk, by simpa using hr⟩⟩
            obtain ⟨fn, hs⟩ := own_step (main := true) (k := k0) (cs := [Xf P]) hS h2 hae hrT
            exact ⟨_, hs⟩
          obtain ⟨es, hst⟩ := hst
          rw [runN_add P i 1, h4]
          have : ∀ (gg : Goroutine) (gg' : Goroutine) (u u' : World) (es : Array Event), gg = G gg.frame gg.callers → gg' = G gg'.frame gg'.callers → stepG P true gg u = .go gg' u' es → runN P 1 (lone gg.frame gg.callers u) = .next (lone gg'.frame gg'.callers u') := by
            intro gg gg' u u' es e1 e2 hs
            rw [e1, e2] at hs
            rw [runN_succ_next (step_go hs)]
            rfl
          have hlG : ∀ (rr : Bool) (LL : List FrR), lift k0 [Xf P] rr LL = G (lift k0 [Xf P] rr LL).frame (lift k0 [Xf P] rr LL).callers := by
            intro rr LL
            cases LL <;> cases rr <;> rfl
          exact this _ _ _ _ es (hlG _ _) (hlG _ _) hst
  obtain ⟨n, fr, w', hn, ht⟩ := h τ
  have hfnL : ∀ {LL : List FrR}, StOk P S LL → ∀ y ∈ LL, ∃ fn, P.funcs[y.fn]? = some fn := by
    intro LL hst y hy
    cases LL with
    | nil => cases hy
    | cons x rest =>
      have hf : FOk P S y := by
        rcases List.mem_cons.1 hy with rfl | hy
        · exact hst.1
        · exact (hst.2 y hy).1
      exact hf.mem
  by_cases hall : ∀ j, j < n → nx P k0 (g j) ≠ none
  · obtain ⟨h1, h2, h3, h4⟩ := road n hall
    rw [hn] at h4
    injection h4 with h4
    match hL' : (g n).L, h2 with
    | x :: rest, h2 =>
      rw [hL'] at h4
      have e1 : LM P k0 (g n).ret (x :: rest) ((g n).w.re τ (o n)) = lone (lift k0 [Xf P] (g n).ret (x :: rest)).frame (tailF k0 rest ++ [Xf P]) ((g n).w.re τ (o n)) := by
        unfold LM
        cases (g n).ret <;> rfl
      rw [e1] at h4
      unfold lone at h4
      injection h4 with a1 a2 a3
      simp at a2
      obtain ⟨a2, a4⟩ := a2
      cases rest with
      | cons y r => simp [tailF] at a4
      | nil =>
        refine h3 ?_
        rw [hL']
        refine .stop τ (o n) ?_
        rw [← a2, ← a1]
        exact ht
  · -- the road ends ahead
    have hexN : ∃ N, N < n ∧ nx P k0 (g N) = none := by
      refine Classical.byContradiction fun hc => hall fun j hj hj' => hc ⟨j, hj, hj'⟩
    have least : ∀ N, (N < n ∧ nx P k0 (g N) = none) → ∃ N, N < n ∧ nx P k0 (g N) = none ∧ ∀ j, j < N → nx P k0 (g j) ≠ none := by
      intro N
      induction N using Nat.strongRecOn with
      | _ N ih =>
        intro hN
        by_cases hc : ∃ j, j < N ∧ nx P k0 (g j) = none
        · obtain ⟨j, hj, hj'⟩ := hc
          exact ih j hj ⟨by omega, hj'⟩
        · exact ⟨N, hN.1, hN.2, fun j hj hj' => hc ⟨j, hj, hj'⟩⟩
    obtain ⟨N0, hN0⟩ := hexN
    obtain ⟨N, hNn, hNx, hNl⟩ := least N0 hN0
    obtain ⟨h1, h2, h3, h4⟩ := road N hNl
    obtain ⟨m, rfl⟩ : ∃ m, n = N + (m + 1) := ⟨n - N - 1, by omega⟩
    rw [runN_add, h4] at hn
    dsimp only at hn
    have hstay := gx_stay (P := P) (k0 := k0) (TG := TG) (g0 := g0) (N := N) hNx
    match hL' : (g N).L, h2 with
    | x :: rest, h2 =>
      rw [hL'] at hn
      by_cases hex : ExitK k0 (g N).ret (x :: rest)
      · cases rest with
        | cons y r => exact hex
        | nil => exact exit_never hxr hk hex (hfnL h2 x (by simp)) m fr w' hn
      · have hhalt : ∃ e w2, (own P (g N).ret (x :: rest)).run P ((g N).w.re (g N).τ (g N).d) = .halt e w2 := by
          unfold nx at hNx
          have hne : ¬ ((g N).fin = true ∨ ExitK k0 (g N).ret (g N).L) := by
            rw [hL', h1]
            rintro (hc | hc)
            · cases hc
            · exact hex hc
          rw [if_neg hne, hL'] at hNx
          cases hr : (own P (g N).ret (x :: rest)).run P ((g N).w.re (g N).τ (g N).d) with
          | ok r w2 => rw [hr] at hNx; cases hNx
          | halt e w2 => exact ⟨_, _, rfl⟩
        obtain ⟨e, w2, hr⟩ := hhalt
        obtain ⟨_, hh⟩ := (own_tame hS h2 (ret := (g N).ret)).halts hr
        obtain ⟨e', w3, hr', _⟩ := hh τ (o N) (fun j q => by
          obtain ⟨s1, s2, s3, s4⟩ := hstay j
          have hc1 : cx P k0 (g (N + j)) = 1 := by unfold cx; rw [s3]
          have := tx_at (P := P) k0 TG g0 (i := N + j) (j := 0) (by rw [show gx P k0 TG g0 (N + j) = g (N + j) from rfl, hc1]; omega) q
          rw [s4, s1, s2] at this
          exact this)
        rw [re_re] at hr'
        have hlost := own_halt (main := true) (k := k0) (cs := [Xf P]) hE hS h2 (fun hret hrest => hex (by rw [hrest, hret]; exact .inl rfl)) hr'
        obtain ⟨chain, hc⟩ := lost_never hd (hfnL h2) hlost m fr w' hn
        exact hTG _ _ ht _ hc
end
end Go.Proofs.Ytcfpilkhjpegcaa

/- Tame texts, on: the walk beside goroutines that only leave. -/
namespace Go.Proofs.Ytcfpilkhjpegcaa
open Go Go.Conc
open Go.ConcN (sumTo upd sumTo_upd upd_ne upd_same)

/-- The cells of the dead blocks. -/
def Sh (D : Nat → Prop) (l : Loc) : Prop := ∃ a, l = .cell a ∧ D a.block

/-- Alike but in dead blocks and on the tape. -/
def SimH (D : Nat → Prop) (w v : World) : Prop := Sim D (w.re v.tape v.drawn) v
theorem SimH.at {D : Nat → Prop} {w v : World} (h : SimH D w v) (d : Nat) : SimH D w (v.at d) := ⟨rfl, rfl, h.os, h.output, h.size, h.same, h.dead⟩
theorem SimH.of {D : Nat → Prop} {w v : World} (h : Sim D w v) : SimH D w v := by
  unfold SimH
  rw [h.tape, h.drawn]
  exact h

/-- Between two calls that start goroutines: all but goroutine 0 only leave; what the trace says. -/
structure FmL (P : Program) (D : Nat → Prop) (gs : Array Goroutine) (v : World) (t : Trace) (q : Nat → Nat) : Prop where
  leavers : Leavers P t gs q
  past : Past (Sh D) v.heap.size t
  quiet : Quiet (Sh D) t
  /-- Whatever is touched is memory. -/
  mem : ∀ op ∈ t, ∀ x, op.act.touch? = some x → x.loc.isMemory = true
  num : ∀ op ∈ t, op.g = 0 ∨ op.g < gs.size

theorem evT_mem {D : Nat → Prop} {B : Nat} {e : Event} (h : EvT D B e) : ∀ x, (MemAct.ofEvent e).touch? = some x → x.loc.isMemory = true := by
  intro x hx
  rcases h with ⟨a', wr, rfl, h1, h2⟩ | ⟨r, sy, rfl, h⟩ | ⟨r, rfl, h⟩ | rfl
  · cases wr <;> simp [MemAct.ofEvent, MemAct.touch?] at hx <;> subst hx <;> rfl
  · cases sy <;> simp [MemAct.ofEvent, MemAct.touch?] at hx <;> subst hx <;> rfl
  · simp [MemAct.ofEvent, MemAct.touch?] at hx
    subst hx
    rfl
  · simp [MemAct.ofEvent, MemAct.touch?] at hx

theorem evL_of {D : Nat → Prop} {B : Nat} {e : Event} (h : EvT D B e) : EvL (Sh D) B e := by
  rcases h with ⟨a, wr, rfl, h1, h2⟩ | ⟨r, sy, rfl, h⟩ | ⟨r, rfl, h⟩ | rfl
  · exact evL_cell a wr (fun ⟨a', ha, hd⟩ => by cases ha; exact h1 hd) h2
  · refine ⟨fun x hx ⟨a, ha, _⟩ => ?_, by simp, by simp, ?_⟩
    · cases sy <;> simp [MemAct.ofEvent, MemAct.touch?] at hx <;> subst hx <;> cases ha
    · cases sy <;> exact h
  · refine ⟨fun x hx ⟨a, ha, _⟩ => ?_, by simp, by simp, h⟩
    simp [MemAct.ofEvent, MemAct.touch?] at hx
    subst hx
    cases ha
  · refine ⟨fun x hx => ?_, by simp, by simp, trivial⟩
    simp [MemAct.ofEvent, MemAct.touch?] at hx

theorem not_sh_of {D : Nat → Prop} {B : Nat} {e : Event} (h : EvT D B e) : ∀ x, (MemAct.ofEvent e).touch? = some x → ¬ Sh D x.loc := by
  rintro x hx ⟨a, ha, hd⟩
  rcases h with ⟨a', wr, rfl, h1, h2⟩ | ⟨r, sy, rfl, h⟩ | ⟨r, rfl, h⟩ | rfl
  · cases wr <;> simp [MemAct.ofEvent, MemAct.touch?] at hx <;> subst hx <;> cases ha <;> exact h1 hd
  · cases sy <;> simp [MemAct.ofEvent, MemAct.touch?] at hx <;> subst hx <;> cases ha
  · simp [MemAct.ofEvent, MemAct.touch?] at hx
    subst hx
    cases ha
  · simp [MemAct.ofEvent, MemAct.touch?] at hx

section
variable {P : Program} {S : Set'} {D : Nat → Prop}

/-- A draw of the scheduler's. -/
theorem FmL.at {gs : Array Goroutine} {v : World} {t : Trace} {q : Nat → Nat} (h : FmL P D gs v t q) (d : Nat) : FmL P D gs (v.at d) t q := ⟨h.leavers, h.past, h.quiet, h.mem, h.num⟩

/-- A step of goroutine 0's. -/
theorem FmL.step0 {gs : Array Goroutine} {v v' : World} {t : Trace} {q : Nat → Nat} (h : FmL P D gs v t q) {g g' : Goroutine} {es : Array Event} (hsz : v.heap.size ≤ v'.heap.size) (he : ∀ e ∈ es, EvT D v'.heap.size e) :
    FmL P D ((gs.map (woken P g g' v')).setIfInBounds 0 g') v' (t ++ MemOp.ofEvents 0 g.frame.fn g.frame.place es) q := by
  refine ⟨⟨fun j x hj hx => ?_, fun j hj => ?_⟩, (h.past.mono hsz).own fun e hm => evL_of (he e hm), h.quiet.app fun op hop x hx hs => ?_, fun op hop x hx => ?_, fun op hop => ?_⟩
  · have hne : 0 ≠ j := by omega
    rw [Array.getElem?_setIfInBounds_ne hne, Array.getElem?_map] at hx
    obtain ⟨y, hy, rfl⟩ := Option.map_eq_some_iff.1 hx
    have hq := h.leavers.old j y hj hy
    rw [woken_quitsD hq, Deaf_other t (by omega) _ (fun op hop => by obtain ⟨e, _, rfl⟩ := Go.Conc.mem_ofEvents hop; rfl)]
    exact hq
  · have hj0 : gs.size ≤ j := by simpa using hj
    by_cases h0 : j = 0
    · subst h0
      rw [Deaf_own, deafBehind_still (fun e hm => ⟨(evL_of (he e hm)).2.1, (evL_of (he e hm)).2.2.1⟩)]
      exact h.leavers.above 0 hj0
    · rw [Deaf_other t (g' := 0) (by omega) _ (fun op hop => by obtain ⟨e, _, rfl⟩ := Go.Conc.mem_ofEvents hop; rfl)]
      exact h.leavers.above j hj0
  · obtain ⟨e, hm, rfl⟩ := Go.Conc.mem_ofEvents hop
    exact absurd hs (not_sh_of (he e hm) x hx)
  · rcases Array.mem_append.1 hop with h' | h'
    · exact h.mem op h' x hx
    · obtain ⟨e, hm, rfl⟩ := Go.Conc.mem_ofEvents h'
      exact evT_mem (he e hm) x hx
  · rcases Array.mem_append.1 hop with h' | h'
    · simpa using h.num op h'
    · obtain ⟨e, hm, rfl⟩ := Go.Conc.mem_ofEvents h'
      exact .inl rfl

/-- Whoever is picked: goroutine 0, or one that slips. -/
theorem FmL.pick {gs : Array Goroutine} {v : World} {t : Trace} {q : Nat → Nat} (h : FmL P D gs v t q) {a : Goroutine} (h0 : gs[0]? = some a) (hrun : a.status = .running) (sl : Option (Nat × Nat)) :
    (∃ d sl', stepT P (crowd gs v sl) = runT P (crowd gs (v.at d) sl') 0) ∨
    ∃ d sl' gs' t' q', stepT P (crowd gs v sl) = (.next (crowd gs' (v.at d) sl'), t') ∧ gs'.size = gs.size ∧ gs'[0]? = some a ∧ sumTo gs'.size q' < sumTo gs.size q ∧ FmL P D gs' (v.at d) (t ++ t') q' := by
  have haw : ∀ g ∈ gs, awake g := by
    intro g hg
    obtain ⟨i, hi, rfl⟩ := Array.mem_iff_getElem.1 hg
    rcases Nat.eq_zero_or_pos i with rfl | hpos
    · have : gs[0] = a := by simpa [Array.getElem?_eq_getElem hi] using h0
      rw [this]; exact awake_of (.inl hrun)
    · exact awake_of ((h.leavers.old i _ hpos (Array.getElem?_eq_getElem hi)).status.elim .inl fun x => .inr (.inr x))
  obtain ⟨i, g, d, sl', hi, hg, hst⟩ := crowd_pick (P := P) (w := v) (sl := sl) haw ⟨0, a, h0, hrun⟩
  rcases Nat.eq_zero_or_pos i with rfl | hpos
  · exact .inl ⟨d, sl', hst⟩
  · right
    have hq := h.leavers.old i g hpos hi
    have hi0 : (i == 0) = false := by simp; omega
    have hlt : i < gs.size := (Array.getElem?_eq_some_iff.1 hi).1
    cases hqi : q i with
    | zero => rw [hqi] at hq; rw [hq.1] at hg; cases hg
    | succ k =>
      rw [hqi] at hq
      rcases hq with ⟨hf, _⟩ | ⟨_, g', es, hm, hstp, hq'⟩
      · rw [hf] at hg; cases hg
      have hrunT := runT_crowd_go (P := P) (sl := sl') (i := i) hi (by rw [hi0]; exact hstp (v.at d))
      have hsum : sumTo gs.size (upd q i k) + (k + 1) = sumTo gs.size q + k := by
        have := sumTo_upd q k id hlt
        simpa [hqi] using this
      refine ⟨d, sl', _, _, upd q i k, hst.trans hrunT, by simp, ?_, by simp only [Array.size_setIfInBounds, Array.size_map]; omega, ⟨fun j x hj hx => ?_, fun j hj => ?_⟩, h.past.mute (by omega) hm, h.quiet.app fun op hop x hx _ => ?_, fun op hop x hx => ?_, fun op hop => ?_⟩
      · have hne : i ≠ 0 := by omega
        rw [Array.getElem?_setIfInBounds_ne hne, Array.getElem?_map, h0]
        simp [woken_run hrun]
      · by_cases hji : i = j
        · subst hji
          rw [Array.getElem?_setIfInBounds_self_of_lt (by simpa using hlt)] at hx
          obtain rfl := Option.some.inj hx
          rw [upd_same, Deaf_own]
          exact hq'
        · rw [Array.getElem?_setIfInBounds_ne hji, Array.getElem?_map] at hx
          obtain ⟨y, hy, rfl⟩ := Option.map_eq_some_iff.1 hx
          have hqj := h.leavers.old j y hj hy
          rw [woken_quitsD hqj, upd_ne q k (Ne.symm hji), Deaf_other t hji _ (fun op hop => by obtain ⟨e, _, rfl⟩ := Go.Conc.mem_ofEvents hop; rfl)]
          exact hqj
      · rw [Deaf_other t (g' := i) (by simp at hj; omega) _ (fun op hop => by obtain ⟨e, _, rfl⟩ := Go.Conc.mem_ofEvents hop; rfl)]
        exact h.leavers.above j (by simpa using hj)
      · obtain ⟨e, he, rfl⟩ := Go.Conc.mem_ofEvents hop
        rw [touch_mute (hm e he)] at hx
        cases hx
      · rcases Array.mem_append.1 hop with h' | h'
        · exact h.mem op h' x hx
        · obtain ⟨e, he, rfl⟩ := Go.Conc.mem_ofEvents h'
          rw [touch_mute (hm e he)] at hx
          cases hx
      · rcases Array.mem_append.1 hop with h' | h'
        · simpa using h.num op h'
        · obtain ⟨e, he, rfl⟩ := Go.Conc.mem_ofEvents h'
          exact .inr (by simpa using hlt)

/-- THE WALK BESIDE LEAVERS. -/
theorem walk_must (hS : ∀ f, S.F f = true → okFn P S f = true) {k0 k : List Item} {cs : List Frame} (hk : k0 = [] → k = []) {TG : Frame → World → Prop} {ret : Bool} {L : List FrR} {w : World} (hm : Must P k0 TG ret L w) :
    ∀ {v : World} {gs : Array Goroutine} {sl : Option (Nat × Nat)} {t : Trace} {q : Nat → Nat}, StOk P S L → SimH D w v → gs[0]? = some (lift k cs ret L) → FmL P D gs v t q →
      ∃ N gs' x ret' w' v' sl' t' q', runNT P N (crowd gs v sl) t = (.next (crowd gs' v' sl'), t') ∧ gs'.size = gs.size ∧ gs'[0]? = some (lift k cs ret' [x]) ∧ FOk P S x ∧ (∃ τ d, TG (lift k0 [Xf P] ret' [x]).frame (w'.re τ d)) ∧ SimH D w' v' ∧ FmL P D gs' v' t' q' := by
  induction hm with
  | @stop ret x w τ d ht =>
    intro v gs sl t q hL hs h0 hF
    exact ⟨0, gs, x, ret, w, v, sl, t, q, rfl, rfl, h0, hL.1, ⟨τ, d, ht⟩, hs, hF⟩
  | @step ret L w hx hgo hmust ih =>
    intro v gs sl t q hL hs h0 hF
    have main : ∀ (M : Nat) (v : World) (gs : Array Goroutine) (sl : Option (Nat × Nat)) (t : Trace) (q : Nat → Nat), sumTo gs.size q ≤ M → SimH D w v → gs[0]? = some (lift k cs ret L) → FmL P D gs v t q →
        ∃ N gs' x ret' w' v' sl' t' q', runNT P N (crowd gs v sl) t = (.next (crowd gs' v' sl'), t') ∧ gs'.size = gs.size ∧ gs'[0]? = some (lift k cs ret' [x]) ∧ FOk P S x ∧ (∃ τ d, TG (lift k0 [Xf P] ret' [x]).frame (w'.re τ d)) ∧ SimH D w' v' ∧ FmL P D gs' v' t' q' := by
      intro M
      induction M using Nat.strongRecOn with
      | _ M ihM =>
        intro v gs sl t q hM hs h0 hF
        have hrun : (lift k cs ret L).status = .running := by cases L <;> cases ret <;> rfl
        rcases hF.pick h0 hrun sl with ⟨d, sl', hst⟩ | ⟨d, sl', gs', t', q', hst, hsz, h0', hlt, hF'⟩
        · obtain ⟨r, w1, hr⟩ := hgo v.tape d
          have hsd : Sim D (w.re v.tape d) (v.at d) := hs.at d
          have hrT : (own P ret L).runT P (w.re v.tape d) #[] = (.ok r w1, ((own P ret L).runT P (w.re v.tape d) #[]).2) := Prod.ext (by rw [Sem.runT_fst]; exact hr) rfl
          obtain ⟨v1, u, e1, e2, e3, e4, e5⟩ := (own_tame hS hL (ret := ret)).sim (es₂ := #[]) hsd hrT
          have hae : ¬ AtExit ret L ∨ (k = [] ∧ ret = false) := by
            by_cases hk0 : k = [] ∧ ret = false
            · exact .inr hk0
            · refine .inl fun ha => hx ?_
              match L, ha with
              | [], _ => trivial
              | [x], ha =>
                rcases ha with ha | ha
                · exact .inl ha
                · by_cases hr : ret = true
                  · exact .inl hr
                  · exact .inr ⟨ha, fun hk' => hk0 ⟨hk hk', by simpa using hr⟩⟩
          obtain ⟨fn, hstep⟩ := own_step (main := true) (k := k) (cs := cs) hS hL hae e1
          have hrunT := runT_crowd_go (P := P) (sl := sl') (i := 0) h0 (show stepG P (0 == 0) (lift k cs ret L) (v.at d) = _ from hstep)
          have hlt : 0 < gs.size := (Array.getElem?_eq_some_iff.1 h0).1
          have hsz1 : v1.heap.size = w1.heap.size := e2.size
          have hev : ∀ e ∈ seen P fn (#[] ++ u), EvT D v1.heap.size e := fun e he => by
            rw [hsz1]
            exact e5 e (by simpa using mem_seen he)
          obtain ⟨N, gs', x, ret', w', v', sl'', t', q', a1, a2, a3, a4, a5, a6, a7⟩ := ih v.tape d r w1 hr (v := v1) (gs := (gs.map (woken P (lift k cs ret L) (lift k cs r.1 r.2) v1)).setIfInBounds 0 (lift k cs r.1 r.2)) (sl := sl') (q := q) e3 (SimH.of e2) (by simp [hlt])
            ((hF.at d).step0 (g := lift k cs ret L) (g' := lift k cs r.1 r.2) (by rw [hsz1, show (v.at d).heap.size = (w.re v.tape d).heap.size from hsd.size]; exact e4) hev)
          exact ⟨N + 1, gs', x, ret', w', v', sl'', t', q', by simp only [runNT, hst, hrunT]; exact a1, a2.trans (by simp), a3, a4, a5, a6, a7⟩
        · obtain ⟨N, gs'', x, ret', w', v', sl'', t'', q'', a1, a2, a3, a4, a5, a6, a7⟩ := ihM (sumTo gs'.size q') (by omega) (v.at d) gs' sl' (t ++ t') q' (Nat.le_refl _) (hs.at d) h0' hF'
          exact ⟨N + 1, gs'', x, ret', w', v', sl'', t'', q'', by simp only [runNT, hst]; exact a1, a2.trans hsz, a3, a4, a5, a6, a7⟩
    exact main _ v gs sl t q (Nat.le_refl _) hs h0 hF
end
end Go.Proofs.Ytcfpilkhjpegcaa

/- Beside goroutines that only leave: rules by which a run of goroutine 0's is shown to end well, from its end backwards. -/
namespace Go.Proofs.Ytcfpilkhjpegcaa
open Go Go.Conc
open Go.ConcN (sumTo)

/-- From here, whatever goroutines leave meanwhile, the run ends well. -/
def Wn (P : Program) (Post : Value → World → Prop) (D : Nat → Prop) (g : Goroutine) (w : World) : Prop :=
  ∀ (v : World) (gs : Array Goroutine) (sl : Option (Nat × Nat)) (t : Trace) (q : Nat → Nat), SimH D w v → gs[0]? = some g → FmL P D gs v t q →
    ∃ N last o w' t', runNT P (N + 1) (crowd gs v sl) t = (.ended o w', t') ∧ runN P N (crowd gs v sl) = .next last ∧ step P last = .ended o w' ∧ Good P Post last o w' t'

section
variable {P : Program} {S : Set'} {D : Nat → Prop} {Post : Value → World → Prop}

/-- A run's beginning put in front. -/
theorem ends_after {m m' : Machine} {t t' : Trace} {n : Nat} (h : runNT P n m t = (.next m', t')) (he : ∃ N last o w' t'', runNT P (N + 1) m' t' = (.ended o w', t'') ∧ runN P N m' = .next last ∧ step P last = .ended o w' ∧ Good P Post last o w' t'') :
    ∃ N last o w' t'', runNT P (N + 1) m t = (.ended o w', t'') ∧ runN P N m = .next last ∧ step P last = .ended o w' ∧ Good P Post last o w' t'' := by
  obtain ⟨N, last, o, w', t'', h1, h2, h3, h4⟩ := he
  refine ⟨n + N, last, o, w', t'', ?_, ?_, h3, h4⟩
  · rw [Nat.add_assoc, runNT_add, h]; exact h1
  · rw [runN_add, ← runNT_fst P _ _ t, h]; exact h2

theorem SimH.re {w v : World} (τ : Nat → Question → Nat) (d : Nat) : SimH D (w.re τ d) v ↔ SimH D w v := Iff.rfl

theorem Wn.re {g : Goroutine} {w : World} {τ : Nat → Question → Nat} {d : Nat} (h : Wn P Post D g w) : Wn P Post D g (w.re τ d) := fun v gs sl t q hs => h v gs sl t q hs

/-- One step. -/
theorem Wn.one {g : Goroutine} {w : World} (hrun : g.status = .running) {α : Type} {s : Sem α} {Q : α → Prop} (hs : Tame P Q s) (f : α → Goroutine)
    (hstep : ∀ u x u' es, s.runT P u #[] = (.ok x u', es) → ∃ fn, stepG P true g u = .go (f x) u' (seen P fn es))
    (h : ∀ τ d, ∃ x w', s.run P (w.re τ d) = .ok x w' ∧ Wn P Post D (f x) w') : Wn P Post D g w := by
  intro v gs sl t q
  have main : ∀ (M : Nat) (v : World) (gs : Array Goroutine) (sl : Option (Nat × Nat)) (t : Trace) (q : Nat → Nat), sumTo gs.size q ≤ M → SimH D w v → gs[0]? = some g → FmL P D gs v t q →
      ∃ N last o w' t', runNT P (N + 1) (crowd gs v sl) t = (.ended o w', t') ∧ runN P N (crowd gs v sl) = .next last ∧ step P last = .ended o w' ∧ Good P Post last o w' t' := by
    intro M
    induction M using Nat.strongRecOn with
    | _ M ihM =>
      intro v gs sl t q hM hsim h0 hF
      rcases hF.pick h0 hrun sl with ⟨d, sl', hst⟩ | ⟨d, sl', gs', t', q', hst, hsz, h0', hlt, hF'⟩
      · obtain ⟨x, w1, hr, hW⟩ := h v.tape d
        have hsd : Sim D (w.re v.tape d) (v.at d) := hsim.at d
        have hrT : s.runT P (w.re v.tape d) #[] = (.ok x w1, (s.runT P (w.re v.tape d) #[]).2) := Prod.ext (by rw [Sem.runT_fst]; exact hr) rfl
        obtain ⟨v1, u, e1, e2, e3, e4, e5⟩ := hs.sim (es₂ := #[]) hsd hrT
        obtain ⟨fn, hgo⟩ := hstep _ _ _ _ e1
        have hrunT := runT_crowd_go (P := P) (sl := sl') (i := 0) h0 (show stepG P (0 == 0) g (v.at d) = _ from hgo)
        have hlt : 0 < gs.size := (Array.getElem?_eq_some_iff.1 h0).1
        have hsz1 : v1.heap.size = w1.heap.size := e2.size
        have hev : ∀ e ∈ seen P fn (#[] ++ u), EvT D v1.heap.size e := fun e he => by
          rw [hsz1]
          exact e5 e (by simpa using mem_seen he)
        refine ends_after (n := 1) (by simp only [runNT, hst, hrunT]) (hW v1 _ sl' _ q (SimH.of e2) (by simp [hlt]) ((hF.at d).step0 (g := g) (g' := f x) (by rw [hsz1, show (v.at d).heap.size = (w.re v.tape d).heap.size from hsd.size]; exact e4) hev))
      · exact ends_after (n := 1) (by simp only [runNT, hst]) (ihM (sumTo gs'.size q') (by omega) (v.at d) gs' sl' (t ++ t') q' (Nat.le_refl _) (hsim.at d) h0' hF')
  exact main _ v gs sl t q (Nat.le_refl _)

/-- A step that asks nothing. -/
theorem Wn.silent {g g' : Goroutine} {w : World} (hrun : g.status = .running) (hstep : ∀ u, stepG P true g u = .go g' u) (h : Wn P Post D g' w) : Wn P Post D g w :=
  Wn.one hrun (s := (pure () : Sem Unit)) (Q := fun _ => True) (.pure trivial) (fun _ => g') (fun u x u' es hr => by
    change (Result.ok () u, #[]) = _ at hr
    cases hr
    exact ⟨0, by rw [hstep, seen_none]⟩) fun τ d => ⟨(), w.re τ d, rfl, h.re⟩

/-- A piece whose goal is met on every road. -/
theorem Wn.must (hS : ∀ f, S.F f = true → okFn P S f = true) {k0 k : List Item} {cs : List Frame} (hk : k0 = [] → k = []) {TG : Frame → World → Prop} {ret : Bool} {L : List FrR} {w : World} (hL : StOk P S L) (hm : Must P k0 TG ret L w)
    (h : ∀ x ret' w' τ d, FOk P S x → TG (lift k0 [Xf P] ret' [x]).frame (w'.re τ d) → Wn P Post D (lift k cs ret' [x]) w') : Wn P Post D (lift k cs ret L) w := by
  intro v gs sl t q hs h0 hF
  obtain ⟨N, gs', x, ret', w', v', sl', t', q', a1, a2, a3, a4, ⟨τ, d, a5⟩, a6, a7⟩ := walk_must hS hk hm (sl := sl) hL hs h0 hF
  exact ends_after a1 (h x ret' w' τ d a4 a5 v' gs' sl' t' q' a6 a3 a7)

/-- The facts of the stop row. -/
structure StopRow (P : Program) : Prop where
  door : True
  none : Extern.next stopRow = none
  early : NoEarly P

/-- The facts on a set of functions. -/
structure SetOk (P : Program) (S : Set') : Prop extends StopRow P where
  ok : ∀ f, S.F f = true → okFn P S f = true

theorem results_same {fn : Func} {tmps : Array Value} {w w' : World} {v : Value} (h : (results fn tmps).run P w = .ok v w') : w'.drawn = w.drawn → ∀ τ d, (results fn tmps).run P (w.re τ d) = .ok v (w'.re τ d) := by
  intro hd τ d
  have := (tm_results fn tmps).tape h
  have h2 := this.2.2.2 τ d (fun j q hj => by omega)
  rw [hd, Nat.sub_self, Nat.add_zero] at h2
  exact h2

/-- A CALL, BY ITS CONTRACT. -/
theorem Wn.call (hS : SetOk P S) {f : FuncId} (hf : S.F f = true) {args : Array Value} (hD : ∀ t ∈ S.D f, FnOk S (args.getD t undef)) {c : Frame} {cs : List Frame} {w : World} {R : Ending → World → Prop}
    (hc : ∀ τ, Calls P f args (w.re τ 0) R) (hp : ∀ ch w', ¬ R (.panicked ch) w') (ho : ∀ w', ¬ R .outgrown w')
    (h : ∀ v w' τ d, R (.returned v) (w'.re τ d) → Wn P Post D (G (c.finish v) cs) w') : Wn P Post D (G (Frame.enter P f args .normal) (c :: cs)) w := by
  obtain ⟨fn, code, hfn, hb, _, hcode⟩ := okFn_parts (hS.ok f hf)
  let TG : Frame → World → Prop := fun fr w' => fr.fn = f ∧ ∃ v, fr.leaving P w' (.returned v) ∧ R (.returned v) w'
  have e0 : Frame.enter P f args .normal = (FrR.enter P f args).fr [] [] := by
    simp [FrR.fr, FrR.enter, FrR.act, kk, Frame.enter, Frame.at, base]
  have hL : StOk P S [FrR.enter P f args] := by
    refine ⟨⟨⟨fn, hfn⟩, fun t ht => getD_append_rep _ _ _ (hD t ht), ?_⟩, fun y hy => by cases hy⟩
    show okItems P S f [.code (((P.funcs[f]?).bind (·.body)).getD _)] = true
    rw [hfn]
    simp [hb, okItems, okItem, blocksOfU, hcode]
  have hM : Must P [] TG false [FrR.enter P f args] w := by
    refine must_of hS.door hS.none hS.early hS.ok (.inl rfl) (fun fr w' ht chain hm => ?_) hL fun τ => ?_
    · obtain ⟨_, v, hl, _⟩ := ht
      have := hl.1
      rw [hm] at this
      cases this
    · obtain ⟨e, w', fr, hR, hcm, hff, hl⟩ := hc τ [Xf P]
      cases e with
      | panicked ch => exact absurd hR (hp _ _)
      | outgrown => exact absurd hR (ho _)
      | returned v =>
        obtain ⟨n, hn⟩ := hcm
        refine ⟨n, fr, w', ?_, hff, v, hl, hR⟩
        show runN P n (lone ((FrR.enter P f args).fr [] []) [Xf P] (w.re τ 0)) = _
        rw [← e0]
        exact hn
  have e1 : G (Frame.enter P f args .normal) (c :: cs) = lift [] (c :: cs) false [FrR.enter P f args] := by rw [e0]; rfl
  rw [e1]
  refine Wn.must hS.ok (fun _ => rfl) hL hM fun x ret' w' τ d hx ht => ?_
  obtain ⟨hff, v, hl, hR⟩ := ht
  have hr : ret' = true := by
    cases ret' with
    | true => rfl
    | false => have := hl.1; cases this
  subst hr
  have hxf : x.fn = f := hff
  obtain ⟨_, _, _, fn', hfn', hres⟩ := hl
  have hfn2 : P.funcs[x.fn]? = some fn' := hfn'
  refine Wn.one rfl (s := results fn' x.tmps) (tm_results _ _) (fun v => G (c.finish v) cs) (fun u y u' es hr => ?_) fun τ' d' => ?_
  · refine ⟨x.fn, ?_⟩
    have h1 : (results fn' x.tmps).run P u = .ok y u' := by rw [← Sem.runT_fst P _ u #[], hr]
    have h2 : (results fn' x.tmps).events P u #[] = es := by show ((results fn' x.tmps).runT P u #[]).2 = _; rw [hr]
    rw [lift_ret]
    simp [G, stepG, unwind, doReturn, Frame.at, base, FrR.act, hfn2, h1, h2, GStep.after, tailF]
  · refine ⟨v, w'.re τ' d', ?_, (h v w' τ d hR).re⟩
    have := results_same hres rfl τ' d'
    exact this

/-- A PIECE OF A BASE FRAME, by what the lone run comes to. -/
theorem Wn.piece (hS : SetOk P S) {f : FuncId} (hfn : ∃ fn, P.funcs[f]? = some fn) (hD : S.D f = []) {its : List Item} (hi : okItems P S f its = true) {tmps : Array Value} {k : List Item} {cs : List Frame} {w : World} {Q : Exit → Act → World → Prop}
    (hA : ∀ τ, ∃ e a' w', Q e a' w' ∧ Arrives P (lone ((base f).at ⟨tmps, []⟩ (its ++ [.code (.refuse "")])) [Xf P] (w.re τ 0)) (base f) [.code (.refuse "")] [Xf P] e a' w')
    (hq : ∀ e a' w', Q e a' w' → e = .normal ∨ e = .ret)
    (h1 : ∀ tmps' w' τ d, Q .normal ⟨tmps', []⟩ (w'.re τ d) → Wn P Post D (G ((base f).at ⟨tmps', []⟩ k) cs) w')
    (h2 : ∀ tmps' todo w' τ d, Q .ret ⟨tmps', []⟩ (w'.re τ d) → Wn P Post D (G { (base f).at ⟨tmps', []⟩ todo with mode := .returning } cs) w') :
    Wn P Post D (G ((base f).at ⟨tmps, []⟩ (its ++ k)) cs) w := by
  let k0 : List Item := [.code (.refuse "")]
  let TG : Frame → World → Prop := fun fr w' => (∃ a', Q .normal a' w' ∧ fr = (base f).at a' k0) ∨ (∃ a' todo, Q .ret a' w' ∧ fr = { (base f).at a' todo with mode := .returning })
  let x0 : FrR := ⟨f, tmps, its⟩
  have hL : StOk P S [x0] := ⟨⟨hfn, (fun t ht => by rw [show S.D x0.fn = [] from hD] at ht; cases ht), hi⟩, fun y hy => by cases hy⟩
  have hM : Must P k0 TG false [x0] w := by
    refine must_of hS.door hS.none hS.early hS.ok (.inr ⟨ "", rfl⟩) (fun fr w' ht chain hm => ?_) hL fun τ => ?_
    · rcases ht with ⟨a', _, rfl⟩ | ⟨a', todo, _, rfl⟩ <;> cases hm
    · obtain ⟨e, a', w', hQ, harr⟩ := hA τ
      rcases hq _ _ _ hQ with rfl | rfl
      · obtain ⟨n, hn⟩ := harr
        exact ⟨n, _, w', hn, .inl ⟨a', hQ, rfl⟩⟩
      · obtain ⟨todo, n, hn⟩ := harr
        exact ⟨n, _, w', hn, .inr ⟨a', todo, hQ, rfl⟩⟩
  show Wn P Post D (lift k cs false [x0]) w
  refine Wn.must hS.ok (fun hk => absurd hk (List.cons_ne_nil _ _)) hL hM fun x ret' w' τ d hx ht => ?_
  rcases ht with ⟨a', hQ, hfr⟩ | ⟨a', todo, hQ, hfr⟩
  · cases ret' with
    | true => exact absurd (congrArg Frame.mode hfr) (by simp [lift, FrR.fr, Frame.at, G])
    | false =>
      have e1 : x.fn = f := congrArg Frame.fn hfr
      have e2 : x.tmps = a'.tmps := congrArg Frame.tmps hfr
      have e3 : x.todo ++ k0 = k0 := congrArg Frame.todo hfr
      have e4 : [] = a'.defers := congrArg Frame.defers hfr
      have e5 : x.todo = [] := by
        have := congrArg List.length e3
        simp at this
        exact this
      have ea : a' = ⟨x.tmps, []⟩ := by cases a'; simp_all
      rw [ea] at hQ
      have := h1 x.tmps w' τ d hQ
      have e6 : lift k cs false [x] = G ((base f).at ⟨x.tmps, []⟩ k) cs := by
        rw [lift_run, e5, e1]
        rfl
      rw [e6]
      exact this
  · cases ret' with
    | false => exact absurd (congrArg Frame.mode hfr) (by simp [lift, FrR.fr, Frame.at, G])
    | true =>
      have e1 : x.fn = f := congrArg Frame.fn hfr
      have e2 : x.tmps = a'.tmps := congrArg Frame.tmps hfr
      have e4 : [] = a'.defers := congrArg Frame.defers hfr
      have ea : a' = ⟨x.tmps, []⟩ := by cases a'; simp_all
      rw [ea] at hQ
      have := h2 x.tmps (x.todo ++ kk k []) w' τ d hQ
      have e6 : lift k cs true [x] = G { (base f).at ⟨x.tmps, []⟩ (x.todo ++ kk k []) with mode := .returning } cs := by
        rw [lift_ret, e1]
        rfl
      rw [e6]
      exact this

/-- A piece of text. -/
theorem Wn.code (hS : SetOk P S) {f : FuncId} (hfn : ∃ fn, P.funcs[f]? = some fn) (hD : S.D f = []) {c : Code} (hi : okC P S f [] c = true) {tmps : Array Value} {k : List Item} {cs : List Frame} {w : World} {Q : Exit → Act → World → Prop}
    (hA : ∀ τ, c.wp P Q ⟨tmps, []⟩ (w.re τ 0)) (hq : ∀ e a' w', Q e a' w' → e = .normal ∨ e = .ret)
    (h1 : ∀ tmps' w' τ d, Q .normal ⟨tmps', []⟩ (w'.re τ d) → Wn P Post D (G ((base f).at ⟨tmps', []⟩ k) cs) w')
    (h2 : ∀ tmps' todo w' τ d, Q .ret ⟨tmps', []⟩ (w'.re τ d) → Wn P Post D (G { (base f).at ⟨tmps', []⟩ todo with mode := .returning } cs) w') :
    Wn P Post D (G ((base f).at ⟨tmps, []⟩ (.code c :: k)) cs) w :=
  Wn.piece hS hfn hD (its := [.code c]) (by simp [okItems, okItem, blocksOfU, hi]) (fun τ => hA τ (base f) _ _) hq h1 h2

/-- The operations of a region that are still to come. -/
theorem Wn.ops (hS : SetOk P S) {f : FuncId} (hfn : ∃ fn, P.funcs[f]? = some fn) (hD : S.D f = []) {ops : Array Oper} {is : List Nat} (hi : okItem P S f [] (.inRegion ops is) = true) {tmps : Array Value} {k : List Item} {cs : List Frame} {w : World} {Q : Exit → Act → World → Prop}
    (hA : ∀ τ, wpOps P ops Q is ⟨tmps, []⟩ (w.re τ 0)) (hq : ∀ e a' w', Q e a' w' → e = .normal ∨ e = .ret)
    (h1 : ∀ tmps' w' τ d, Q .normal ⟨tmps', []⟩ (w'.re τ d) → Wn P Post D (G ((base f).at ⟨tmps', []⟩ k) cs) w')
    (h2 : ∀ tmps' todo w' τ d, Q .ret ⟨tmps', []⟩ (w'.re τ d) → Wn P Post D (G { (base f).at ⟨tmps', []⟩ todo with mode := .returning } cs) w') :
    Wn P Post D (G ((base f).at ⟨tmps, []⟩ (.inRegion ops is :: k)) cs) w :=
  Wn.piece hS hfn hD (its := [.inRegion ops is]) (okItems_mk hi rfl) (fun τ => wp_ops is _ _ (hA τ) (base f) _ _) hq h1 h2

/-- An operation that ends in a value. -/
theorem Wn.op {f : FuncId} {ops : Array Oper} {i : Nat} {rest : List Nat} {o : Oper} (ho : ops[i]? = some o) {tmps : Array Value} {k : List Item} {cs : List Frame} {w : World} (hw : Region.wanted o (yielded ops tmps) = true) (hp : plainOp P o.op = true)
    (h : ∀ τ d, ∃ n w', (execOp (Act.eval ⟨tmps, []⟩) o).run P (w.re τ d) = .ok n w' ∧ ∀ v, (n = .value v ∨ (n = .skip ∧ v = undef)) → Wn P Post D (G ((base f).at (Act.put ⟨tmps, []⟩ o.dst v) (.inRegion ops rest :: k)) cs) w') :
    Wn P Post D (G ((base f).at ⟨tmps, []⟩ (.inRegion ops (i :: rest) :: k)) cs) w := by
  let fv : Next → Value := fun n => match n with | .value v => v | _ => undef
  refine Wn.one rfl (tm_execOp (Act.eval ⟨tmps, []⟩) o hp) (fun n => G ((base f).at (Act.put ⟨tmps, []⟩ o.dst (fv n)) (.inRegion ops rest :: k)) cs) (fun u n u' es hr => ?_) fun τ d => ?_
  · have h1 : (execOp (Act.eval ⟨tmps, []⟩) o).run P u = .ok n u' := by rw [← Sem.runT_fst P _ u #[], hr]
    have hn := ((tm_execOp (Act.eval ⟨tmps, []⟩) o hp).tape h1).1
    have hev : listed P (base f).fn ⟨tmps, []⟩ o u = seen P f es := by
      show seen P f ((execOp (Act.eval ⟨tmps, []⟩) o).runT P u #[]).2 = _
      rw [hr]
    refine ⟨f, ?_⟩
    cases n <;> first | exact hn.elim | skip
    · rw [stepG_value ho hw (base_ne _) h1, hev]
    · rw [stepG_none ho hw (base_ne _) h1, hev]
  · obtain ⟨n, w', hr, hW⟩ := h τ d
    have hn := ((tm_execOp (Act.eval ⟨tmps, []⟩) o hp).tape hr).1
    refine ⟨n, w', hr, hW _ ?_⟩
    cases n <;> first | exact hn.elim | skip
    · exact .inl rfl
    · exact .inr ⟨rfl, rfl⟩

/-- Into a function, by its name. -/
theorem Wn.enter {f g : FuncId} {ops : Array Oper} {i : Nat} {rest : List Nat} {o : Oper} (ho : ops[i]? = some o) {tmps : Array Value} {k : List Item} {cs : List Frame} {w : World} (hw : Region.wanted o (yielded ops tmps) = true)
    {as : Array Operand} {ats : Array TypeId} (hop : o.op = .call { callee := .value (.func g), args := as, argTypes := ats }) {fn : Func} (hf : P.funcs[g]? = some fn) (hname : (fn.name == "runtime.NumGoroutine") = false) (hb : fn.body.isNone = false)
    (h : Wn P Post D (G (Frame.enter P g (as.map (Act.eval ⟨tmps, []⟩)) .normal) ((base f).at ⟨tmps, []⟩ (.inRegion ops (i :: rest) :: k) :: cs)) w) :
    Wn P Post D (G ((base f).at ⟨tmps, []⟩ (.inRegion ops (i :: rest) :: k)) cs) w := by
  refine Wn.silent rfl (fun u => ?_) h
  rw [stepG_enter ho hw (base_ne _) (run_call_body hop hf hname hb)]
  have : listed P (base f).fn ⟨tmps, []⟩ o u = #[] := by unfold listed; rw [events_call_body hop hf hname hb]; exact seen_none P _
  rw [this]

/-- The return to the caller. -/
theorem Wn.leave {f : FuncId} {fn : Func} (hf : P.funcs[f]? = some fn) {tmps : Array Value} {todo : List Item} {c : Frame} {cs : List Frame} {w : World} (h : ∀ τ d, ∃ v w', (results fn tmps).run P (w.re τ d) = .ok v w' ∧ Wn P Post D (G (c.finish v) cs) w') :
    Wn P Post D (G { (base f).at ⟨tmps, []⟩ todo with mode := .returning } (c :: cs)) w := by
  refine Wn.one rfl (tm_results fn tmps) (fun v => G (c.finish v) cs) (fun u y u' es hr => ?_) h
  refine ⟨f, ?_⟩
  have h1 : (results fn tmps).run P u = .ok y u' := by rw [← Sem.runT_fst P _ u #[], hr]
  have h2 : (results fn tmps).events P u #[] = es := by show ((results fn tmps).runT P u #[]).2 = _; rw [hr]
  simp [G, stepG, unwind, doReturn, Frame.at, base, hf, h1, h2, GStep.after]

/-- The last return: one result that lies in a temporary. -/
theorem Wn.done {f : FuncId} {fn : Func} {t : Tmp} (hf : P.funcs[f]? = some fn) (hr : fn.results = #[.tmp t]) (hi : P.inits.idxOf? f = none) {tmps : Array Value} {todo : List Item} {w : World} (hP : ∀ v, SimH D w v → Post (tmps.getD t undef) v) :
    Wn P Post D (G { (base f).at ⟨tmps, []⟩ todo with mode := .returning } []) w := by
  intro v gs sl t' q hs h0 hF
  refine beside_ends (D := fun _ _ es => ∀ e ∈ es, EvL (Sh D) v.heap.size e) (Shun := Sh D) (B := v.heap.size) (fun _ _ _ h => h) (n := 0) h0 hF.leavers hF.past ?_
  intro w₁ hw₁
  obtain ⟨d, rfl⟩ := hw₁
  refine ⟨rfl, tmps.getD t undef, #[], ?_, by simp, hP _ (hs.at d)⟩
  have h1 : (results fn tmps).run P (v.at d) = .ok (tmps.getD t undef) (v.at d) := results_tmp hr _ P _
  have h2 : (results fn tmps).events P (v.at d) #[] = #[] := events_results_tmp hr _ _
  simp [G, stepG, unwind, doReturn, Frame.at, base, hf, h1, h2, GStep.after, hi, seen_none]
end
end Go.Proofs.Ytcfpilkhjpegcaa
