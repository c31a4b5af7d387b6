/- Tame texts: what one step may ask of the world. Two worlds that are alike but in dead blocks: a run that goes through in the one goes through in the other. A run looks at the tape only as far as it draws. -/
import Derived.Conc.Beside
namespace Go.Proofs.Ytcfpilkhjpegcaa
open Go

/-- How a tame step may halt: by a panic, or by what ends the machine. -/
def Halt.tame : Halt → Bool
  | .panic _ | .stuck _ | .unsupported _ => true
  | _ => false
def Obj.plainNew : Obj → Bool
  | .view .. | .pending .. | .chan .. => false
  | _ => true

theorem run_bind {P : Program} {α β : Type} (s : Sem α) (f : α → Sem β) : ∀ w, (s.bind f).run P w = (match s.run P w with | .ok a w' => (f a).run P w' | .halt h w' => .halt h w') := by
  induction s with
  | pure a => intro w; rfl
  | load m a k ih => intro w; simp only [Sem.bind, Sem.run]; (repeat' split) <;> simp_all
  | store m a v k ih => intro w; cases v <;> simp only [Sem.bind, Sem.run] <;> (try ((repeat' split) <;> simp_all))
  | new o k ih => intro w; simp [Sem.bind, Sem.run, ih]
  | shape r k ih => intro w; simp [Sem.bind, Sem.run, ih]
  | freeze a n k ih => intro w; simp [Sem.bind, Sem.run, ih]
  | frozen a k ih => intro w; simp [Sem.bind, Sem.run, ih]
  | getObj r k ih => intro w; simp only [Sem.bind, Sem.run]; split <;> simp_all
  | setObj r o k ih => intro w; simp only [Sem.bind, Sem.run]; split <;> simp_all
  | choose q k ih => intro w; simp only [Sem.bind, Sem.run]; split <;> simp_all
  | sys c k ih => intro w; simp [Sem.bind, Sem.run, ih]
  | program k ih => intro w; simp [Sem.bind, Sem.run, ih]
  | mark m k ih => intro w; simp [Sem.bind, Sem.run, ih]
  | halt h => intro w; rfl
theorem run_bind_halt {P : Program} {α β : Type} {s : Sem α} {f : α → Sem β} {w w' : World} {h : Halt} (hr : s.run P w = .halt h w') : (s.bind f).run P w = .halt h w' := by rw [run_bind, hr]

/-- It always halts so. -/
def FailsS {α : Type} (P : Program) (s : Sem α) : Prop := ∀ w, ∃ h w', s.run P w = .halt h w' ∧ Halt.tame h = true

inductive Tame (P : Program) {α : Type} (Q : α → Prop) : Sem α → Prop
  | pure {a : α} : Q a → Tame P Q (.pure a)
  | load {a : Addr} {k : Value → Sem α} : (∀ v, Tame P Q (k v)) → Tame P Q (.load .plain a k)
  | store {a : Addr} {v : Value} {k : Sem α} : Tame P Q k → Tame P Q (.store .plain a v k)
  | new {o : Obj} {k : Nat → Sem α} : Obj.plainNew o = true → (∀ r, Tame P Q (k r)) → Tame P Q (.new o k)
  | shape {r : Nat} {k : Option (TypeId × Nat) → Sem α} : (∀ t n, k (some (t, n)) = k (some (t, 0)) ∨ FailsS P (k (some (t, 0)))) → (∀ x, Tame P Q (k x)) → Tame P Q (.shape r k)
  | getObj {r : Nat} {k : Obj → Sem α} : (∀ o, Tame P Q (k o)) → Tame P Q (.getObj r k)
  | setObj {r : Nat} {o : Obj} {k : Sem α} : Obj.plainNew o = true → Tame P Q k → Tame P Q (.setObj r o k)
  | choose {q : Question} {k : Nat → Sem α} : (∀ n, Tame P Q (k n)) → Tame P Q (.choose q k)
  | program {k : Program → Sem α} : Tame P Q (k P) → Tame P Q (.program k)
  | mark {k : Sem α} : Tame P Q k → Tame P Q (.mark .noRoom k)
  | halt {h : Halt} : Halt.tame h = true → Tame P Q (.halt h)
  | fails {s : Sem α} : FailsS P s → Tame P Q s

/-- Halting is handed on. -/
theorem fails_bind {P : Program} {α β : Type} {s : Sem α} {f : α → Sem β} (h : FailsS P s) : FailsS P (s.bind f) := by
  intro w
  obtain ⟨e, w', hr, he⟩ := h w
  exact ⟨e, w', by rw [run_bind_halt hr], he⟩

theorem Tame.mono {P : Program} {α : Type} {Q Q' : α → Prop} {s : Sem α} (h : Tame P Q s) (hq : ∀ a, Q a → Q' a) : Tame P Q' s := by
  induction h with
  | pure h => exact .pure (hq _ h)
  | load _ ih => exact .load ih
  | store _ ih => exact .store ih
  | new ho _ ih => exact .new ho ih
  | shape he _ ih => exact .shape he ih
  | getObj _ ih => exact .getObj ih
  | setObj ho _ ih => exact .setObj ho ih
  | choose _ ih => exact .choose ih
  | program _ ih => exact .program ih
  | mark _ ih => exact .mark ih
  | halt h => exact .halt h
  | fails h => exact .fails h

theorem Tame.bind {P : Program} {α β : Type} {Q : α → Prop} {R : β → Prop} {s : Sem α} {f : α → Sem β} (h : Tame P Q s) (hf : ∀ a, Q a → Tame P R (f a)) : Tame P R (s.bind f) := by
  induction h with
  | pure h => exact hf _ h
  | load _ ih => exact .load ih
  | store _ ih => exact .store ih
  | new ho _ ih => exact .new ho ih
  | shape he _ ih => exact .shape (fun t n => (he t n).imp (fun e => by show (_ : Sem α).bind f = (_ : Sem α).bind f; rw [e]) (fun e => fails_bind e)) ih
  | getObj _ ih => exact .getObj ih
  | setObj ho _ ih => exact .setObj ho ih
  | choose _ ih => exact .choose ih
  | program _ ih => exact .program ih
  | mark _ ih => exact .mark ih
  | halt h => exact .halt h
  | fails h => exact .fails (fails_bind h)

/-! ### Two worlds alike but in dead blocks -/

/-- v is w but for the dead blocks: where D holds, w has a row without cells, v a row. -/
structure Sim (D : Nat → Prop) (w v : World) : Prop where
  tape : v.tape = w.tape
  drawn : v.drawn = w.drawn
  os : v.os = w.os
  output : v.output = w.output
  size : v.heap.size = w.heap.size
  same : ∀ b, ¬ D b → v.heap[b]? = w.heap[b]?
  dead : ∀ b, D b → ∃ cs ty fr, v.heap[b]? = some (.cells cs ty fr) ∧ w.heap[b]? = some (.cells #[] ty fr)

/-- What a tame step lists. -/
def EvT (D : Nat → Prop) (B : Nat) (e : Event) : Prop :=
  (∃ a wr, e = ⟨.cell a, wr, false⟩ ∧ ¬ D a.block ∧ a.block < B) ∨ (∃ r sy, e = ⟨.obj r, false, sy⟩ ∧ r < B) ∨ (∃ r, e = ⟨.obj r, true, false⟩ ∧ r < B) ∨ e = ⟨.mark .noRoom, false, true⟩

theorem EvT.mono {D : Nat → Prop} {B B' : Nat} (hB : B ≤ B') {e : Event} (h : EvT D B e) : EvT D B' e := by
  rcases h with ⟨a, wr, rfl, h1, h2⟩ | ⟨r, sy, rfl, h⟩ | ⟨r, rfl, h⟩ | rfl
  · exact .inl ⟨a, wr, rfl, h1, by omega⟩
  · exact .inr (.inl ⟨r, sy, rfl, by omega⟩)
  · exact .inr (.inr (.inl ⟨r, rfl, by omega⟩))
  · exact .inr (.inr (.inr rfl))

section
variable {D : Nat → Prop} {w v : World}

theorem lt_of_some {α : Type} {xs : Array α} {i : Nat} {x : α} (h : xs[i]? = some x) : i < xs.size := by
  rcases Nat.lt_or_ge i xs.size with h1 | h1
  · exact h1
  · rw [Array.getElem?_eq_none h1] at h; cases h

theorem cell_block {w : World} {a : Addr} {x : Value} (h : w.cell? a = some x) : ∃ cs ty fr, w.heap[a.block]? = some (.cells cs ty fr) ∧ a.spot.isSome = false ∧ cs[a.off]? = some x := by
  unfold World.cell? at h
  cases hh : w.heap[a.block]? with
  | none => rw [hh] at h; cases h
  | some o =>
    rw [hh] at h
    cases o with
    | cells c e fr =>
      dsimp only at h
      cases hs : a.spot.isSome with
      | true => rw [hs] at h; simp at h
      | false => rw [hs] at h; exact ⟨c, e, fr, rfl, rfl, by simpa using h⟩
    | _ => cases h

theorem Sim.cell (S : Sim D w v) {a : Addr} {x : Value} (h : w.cell? a = some x) : ¬ D a.block ∧ v.cell? a = some x ∧ a.block < w.heap.size := by
  obtain ⟨cs, ty, fr, h1, h2, h3⟩ := cell_block h
  have hd : ¬ D a.block := by
    intro hd
    obtain ⟨_, _, _, _, h4⟩ := S.dead _ hd
    rw [h4] at h1
    cases h1
    simp at h3
  refine ⟨hd, ?_, lt_of_some h1⟩
  rw [← h]
  unfold World.cell?
  rw [S.same _ hd]

theorem Sim.cell_none (S : Sim D w v) {a : Addr} (hd : ¬ D a.block) (h : w.cell? a = none) : v.cell? a = none := by
  rw [← h]
  unfold World.cell?
  rw [S.same _ hd]

theorem far_dead {P : Program} {w : World} {a : Addr} {m : Bool} {cs : Array Value} {ty : TypeId} {fr : Nat × Nat} (h : w.heap[a.block]? = some (.cells cs ty fr)) : (∃ e, w.farLoad P a m = .error e) ∧ ∀ x, ∃ e, w.farStore P a x m = .error e := by
  unfold World.farLoad World.farStore
  rw [h]
  exact ⟨⟨_, rfl⟩, fun _ => ⟨_, rfl⟩⟩

theorem seen_parts {P : Program} {w : World} {at_ k : Addr} {u : TypeId} {m : Bool} {r : Array Value × TypeId × (Nat × Nat) × Nat × Value × List (Nat × Nat × List UInt8)} (h : w.seen P at_ u k m = .ok r) :
    w.heap[at_.block]? = some (.cells r.1 r.2.1 r.2.2.1) := by
  unfold World.seen at h
  simp only [bind, Except.bind, pure, Except.pure] at h
  repeat' (split at h <;> try (cases h; done))
  all_goals (try (cases h))
  all_goals (first | assumption | skip)

theorem seenCells_nil {P : Program} {e : TypeId} {f x stop : Nat} {l : List (Nat × Nat × List UInt8)} (h : seenCells P #[] e f x stop = .ok l) : l = [] ∧ (0 < f ∧ stop ≤ x) := by
  cases f with
  | zero => simp [seenCells] at h
  | succ f =>
    unfold seenCells at h
    split at h
    · exact ⟨by cases h; rfl, by omega, by omega⟩
    · exfalso
      dsimp only at h
      split at h
      · cases h
      · split at h
        · cases h
        · simp at h

theorem seenCells_done {P : Program} {c : Array Value} {e : TypeId} {f x stop : Nat} (hf : 0 < f) (h : stop ≤ x) : seenCells P c e f x stop = .ok [] := by
  cases f with
  | zero => omega
  | succ f => unfold seenCells; rw [if_pos h]

theorem seen_congr {P : Program} {w v : World} {at_ k : Addr} {u : TypeId} {m : Bool} (h : v.heap[at_.block]? = w.heap[at_.block]?) : v.seen P at_ u k m = w.seen P at_ u k m := by
  unfold World.seen
  rw [h]

theorem seen_dead {P : Program} {w v : World} {at_ k : Addr} {u : TypeId} {cs : Array Value} {ty : TypeId} {fr : Nat × Nat} {r : Array Value × TypeId × (Nat × Nat) × Nat × Value × List (Nat × Nat × List UInt8)}
    (hv : v.heap[at_.block]? = some (.cells cs ty fr)) (hw : w.heap[at_.block]? = some (.cells #[] ty fr)) (h : w.seen P at_ u k false = .ok r) :
    v.seen P at_ u k false = .ok (cs, ty, fr, r.2.2.2.1, r.2.2.2.2.1, []) ∧ r = (#[], ty, fr, r.2.2.2.1, r.2.2.2.2.1, []) := by
  unfold World.seen at h ⊢
  rw [hw] at h
  rw [hv]
  simp only [bind, Except.bind, pure, Except.pure] at h ⊢
  repeat' (split at h <;> try (cases h; done))
  all_goals (try (cases h))
  all_goals (try contradiction)
  all_goals (have hx := ‹seenCells P #[] _ _ _ _ = Except.ok _›; obtain ⟨rfl, h1, h2⟩ := seenCells_nil hx; have hd := seenCells_done (P := P) (c := cs) (e := ty) h1 h2; simp [*])

theorem Sim.farLoad {P : Program} {D : Nat → Prop} {w v : World} (S : Sim D w v) {a : Addr} {r : Value × List Addr} (h : w.farLoad P a false = .ok r) :
    v.farLoad P a false = .ok r ∧ ∀ t ∈ r.2, ¬ D t.block ∧ t.block < w.heap.size := by
  unfold World.farLoad at h ⊢
  cases hb : w.heap[a.block]? with
  | none => rw [hb] at h; cases h
  | some o =>
    rw [hb] at h
    cases o with
    | view at_ u =>
      dsimp only at h
      have hd : ¬ D a.block := fun hd => by
        obtain ⟨_, _, _, _, h4⟩ := S.dead _ hd
        rw [h4] at hb; cases hb
      rw [S.same _ hd, hb]
      dsimp only
      cases hl : w.viewLoad P at_ u a false with
      | error e => rw [hl] at h; cases h
      | ok r' =>
        rw [hl] at h
        cases h
        unfold World.viewLoad at hl ⊢
        simp only [bind, Except.bind] at hl ⊢
        cases hs : w.seen P at_ u a false with
        | error e => rw [hs] at hl; cases hl
        | ok q =>
          rw [hs] at hl
          by_cases hda : D at_.block
          · obtain ⟨cs, ty, fr, h1, h2⟩ := S.dead _ hda
            obtain ⟨h3, h4⟩ := seen_dead h1 h2 hs
            rw [h3]
            rw [h4] at hl
            dsimp only at hl ⊢
            split at hl
            · rename_i v' hv'
              simp only [pure, Except.pure, List.map_nil] at hl ⊢
              cases hl
              simp only
              exact ⟨trivial, fun t ht => by cases ht⟩
            · cases hl
          · rw [seen_congr (S.same _ hda), hs]
            have hrow := seen_parts hs
            dsimp only at hl ⊢
            split at hl
            · rename_i v' hv'
              simp only [pure, Except.pure] at hl ⊢
              cases hl
              simp only
              refine ⟨trivial, fun t ht => ?_⟩
              obtain ⟨x, _, rfl⟩ := List.mem_map.1 ht
              exact ⟨hda, lt_of_some hrow⟩
            · cases hl
    | _ => cases h

theorem Sim.set {D : Nat → Prop} {w v : World} (S : Sim D w v) {b : Nat} {o : Obj} (hd : ¬ D b) : Sim D { w with heap := w.heap.setIfInBounds b o } { v with heap := v.heap.setIfInBounds b o } := by
  refine ⟨S.tape, S.drawn, S.os, S.output, by simp [S.size], fun x hx => ?_, fun x hx => ?_⟩
  · simp only [Array.getElem?_setIfInBounds, S.size, S.same x hx]
  · have hne : b ≠ x := fun e => hd (e ▸ hx)
    obtain ⟨cs, ty, fr, h1, h2⟩ := S.dead x hx
    exact ⟨cs, ty, fr, by rw [Array.getElem?_setIfInBounds_ne hne]; exact h1, by rw [Array.getElem?_setIfInBounds_ne hne]; exact h2⟩

theorem Sim.farStore {P : Program} {D : Nat → Prop} {w v : World} (S : Sim D w v) {a : Addr} {x : Value} {r : World × List Addr} (h : w.farStore P a x false = .ok r) :
    ∃ v', v.farStore P a x false = .ok (v', r.2) ∧ Sim D r.1 v' ∧ r.1.heap.size = w.heap.size ∧ ∀ t ∈ r.2, ¬ D t.block ∧ t.block < w.heap.size := by
  unfold World.farStore at h ⊢
  cases hb : w.heap[a.block]? with
  | none => rw [hb] at h; cases h
  | some o =>
    rw [hb] at h
    cases o with
    | view at_ u =>
      dsimp only at h
      have hd : ¬ D a.block := fun hd => by
        obtain ⟨_, _, _, _, h4⟩ := S.dead _ hd
        rw [h4] at hb; cases hb
      rw [S.same _ hd, hb]
      dsimp only
      cases hl : w.viewStore P at_ u a x false with
      | error e => rw [hl] at h; cases h
      | ok r' =>
        rw [hl] at h
        cases h
        unfold World.viewStore at hl ⊢
        simp only [bind, Except.bind] at hl ⊢
        split at hl
        · cases hl
        rename_i q0
        rw [if_neg q0]
        cases hs : w.seen P at_ u a false with
        | error e => rw [hs] at hl; cases hl
        | ok q =>
          rw [hs] at hl
          by_cases hda : D at_.block
          · obtain ⟨cs, ty, fr, h1, h2⟩ := S.dead _ hda
            obtain ⟨h3, h4⟩ := seen_dead h1 h2 hs
            rw [h3]
            rw [h4] at hl
            dsimp only at hl ⊢
            split at hl
            · rename_i bytes hbytes
              split at hl
              · cases hl
              rename_i q1
              rw [if_neg q1]
              simp only [List.foldlM_nil, pure, Except.pure, List.map_nil] at hl ⊢
              cases hl
              refine ⟨_, rfl, ⟨S.tape, S.drawn, S.os, S.output, by simp [S.size], fun y hy => ?_, fun y hy => ?_⟩, by simp, fun t ht => by cases ht⟩
              · have hne : at_.block ≠ y := fun e => hy (e ▸ hda)
                simp only [Array.getElem?_setIfInBounds_ne hne, S.same y hy]
              · by_cases hey : at_.block = y
                · subst hey
                  exact ⟨cs, ty, fr, by simp [lt_of_some h1], by simp [lt_of_some h2]⟩
                · obtain ⟨cs', ty', fr', h1', h2'⟩ := S.dead y hy
                  exact ⟨cs', ty', fr', by rw [Array.getElem?_setIfInBounds_ne hey]; exact h1', by rw [Array.getElem?_setIfInBounds_ne hey]; exact h2'⟩
            · cases hl
          · rw [seen_congr (S.same _ hda), hs]
            have hrow := seen_parts hs
            dsimp only at hl ⊢
            split at hl
            · rename_i bytes hbytes
              split at hl
              · cases hl
              rename_i q1
              rw [if_neg q1]
              split at hl
              · cases hl
              rename_i c' hc'
              (try simp only [hc'])
              simp only [pure, Except.pure] at hl ⊢
              cases hl
              refine ⟨_, rfl, S.set hda, by simp, fun t ht => ?_⟩
              obtain ⟨y, _, rfl⟩ := List.mem_map.1 ht
              exact ⟨hda, lt_of_some hrow⟩
            · cases hl
    | _ => cases h
end
end Go.Proofs.Ytcfpilkhjpegcaa

/- Tame texts, on: a run that goes through in the world with dead blocks goes through in the other; a run looks at the tape only as far as it draws. -/
namespace Go.Proofs.Ytcfpilkhjpegcaa
open Go

theorem Sim.setCell {D : Nat → Prop} {w v : World} (S : Sim D w v) {a : Addr} {x : Value} (hd : ¬ D a.block) : Sim D (w.setCell a x) (v.setCell a x) := by
  refine ⟨S.tape, S.drawn, S.os, S.output, by simp [World.setCell, S.size], fun y hy => ?_, fun y hy => ?_⟩
  · simp only [World.setCell, Array.getElem?_modify]
    by_cases he : a.block = y
    · subst he; simp only [if_true, S.same _ hd]
    · simp only [if_neg he, S.same y hy]
  · have hne : a.block ≠ y := fun e => hd (e ▸ hy)
    obtain ⟨cs, ty, fr, h1, h2⟩ := S.dead y hy
    exact ⟨cs, ty, fr, by simp only [World.setCell, Array.getElem?_modify, if_neg hne]; exact h1, by simp only [World.setCell, Array.getElem?_modify, if_neg hne]; exact h2⟩

theorem Sim.push {D : Nat → Prop} {w v : World} (S : Sim D w v) (o : Obj) : Sim D { w with heap := w.heap.push o } { v with heap := v.heap.push o } := by
  have hlt : ∀ y, D y → y < w.heap.size := fun y hy => by obtain ⟨_, _, _, _, h⟩ := S.dead y hy; exact lt_of_some h
  refine ⟨S.tape, S.drawn, S.os, S.output, by simp [S.size], fun y hy => ?_, fun y hy => ?_⟩
  · simp only [Array.getElem?_push, S.size, S.same y hy]
  · obtain ⟨cs, ty, fr, h1, h2⟩ := S.dead y hy
    have h3 := hlt y hy
    have h4 : y ≠ w.heap.size := by omega
    have h5 : y ≠ v.heap.size := by rw [S.size]; exact h4
    exact ⟨cs, ty, fr, by simp only [Array.getElem?_push, if_neg h5]; exact h1, by simp only [Array.getElem?_push, if_neg h4]; exact h2⟩

theorem Sim.draw {D : Nat → Prop} {w v : World} (S : Sim D w v) : Sim D { w with drawn := w.drawn + 1 } { v with drawn := v.drawn + 1 } :=
  ⟨S.tape, by show v.drawn + 1 = w.drawn + 1; rw [S.drawn], S.os, S.output, S.size, S.same, S.dead⟩

theorem setCell_size (w : World) (a : Addr) (x : Value) : (w.setCell a x).heap.size = w.heap.size := by simp [World.setCell]

theorem arr_push {α : Type} (a : Array α) (x : α) (u : Array α) : a.push x ++ u = a ++ (#[x] ++ u) := by simp

/-- A RUN THAT GOES THROUGH IN THE WORLD WITH DEAD BLOCKS GOES THROUGH IN THE OTHER, and what it lists touches no dead block. -/
theorem Tame.sim {P : Program} {α : Type} {Q : α → Prop} {D : Nat → Prop} {s : Sem α} (hs : Tame P Q s) :
    ∀ {w v : World} {es₁ es₂ : Array Event} {x : α} {w' : World} {es' : Array Event}, Sim D w v → s.runT P w es₁ = (.ok x w', es') →
      ∃ v' u, s.runT P v es₂ = (.ok x v', es₂ ++ u) ∧ Sim D w' v' ∧ Q x ∧ w.heap.size ≤ w'.heap.size ∧ ∀ e ∈ u, EvT D w'.heap.size e := by
  induction hs with
  | pure hq =>
    intro w v es₁ es₂ x w' es' S h
    simp only [Sem.runT] at h
    cases h
    exact ⟨v, #[], by simp [Sem.runT], S, hq, Nat.le_refl _, by simp⟩
  | @load a k hk ih =>
    intro w v es₁ es₂ x w' es' S h
    simp only [Sem.runT] at h ⊢
    cases hc : w.cell? a with
    | some y =>
      rw [hc] at h
      obtain ⟨h1, h2, h3⟩ := S.cell hc
      rw [h2]
      dsimp only at h ⊢
      obtain ⟨v', u, e1, e2, e3, e4, e5⟩ := ih y (es₂ := es₂.push ⟨.cell a, false, Mode.plain == Mode.atomic⟩) S h
      refine ⟨v', #[⟨.cell a, false, Mode.plain == Mode.atomic⟩] ++ u, by rw [← arr_push]; exact e1, e2, e3, e4, fun e he => ?_⟩
      rcases Array.mem_append.1 he with he | he
      · simp only [List.mem_toArray, List.mem_cons, List.not_mem_nil, or_false] at he
        subst he
        exact .inl ⟨a, false, rfl, h1, by omega⟩
      · exact e5 e he
    | none =>
      rw [hc] at h
      dsimp only at h
      have hd : ¬ D a.block := fun hd => by
        obtain ⟨cs, ty, fr, _, h2⟩ := S.dead _ hd
        obtain ⟨⟨e, he⟩, _⟩ := far_dead (P := P) (m := Mode.plain == Mode.atomic) h2
        rw [he] at h
        cases h
      rw [S.cell_none hd hc]
      dsimp only
      cases hf : w.farLoad P a (Mode.plain == Mode.atomic) with
      | error e => rw [hf] at h; cases h
      | ok r =>
        rw [hf] at h
        obtain ⟨h1, h2⟩ := S.farLoad hf
        have h1' : v.farLoad P a (Mode.plain == Mode.atomic) = .ok r := h1
        rw [h1']
        dsimp only at h ⊢
        obtain ⟨v', u, e1, e2, e3, e4, e5⟩ := ih r.1 (es₂ := es₂ ++ r.2.toArray.map (⟨.cell ·, false, Mode.plain == Mode.atomic⟩)) S h
        refine ⟨v', r.2.toArray.map (⟨.cell ·, false, Mode.plain == Mode.atomic⟩) ++ u, by rw [← Array.append_assoc]; exact e1, e2, e3, e4, fun e he => ?_⟩
        rcases Array.mem_append.1 he with he | he
        · obtain ⟨t, ht, rfl⟩ := Array.mem_map.1 he
          have := h2 t (by simpa using ht)
          exact .inl ⟨t, false, rfl, this.1, by omega⟩
        · exact e5 e he
  | @store a y k hk ih =>
    intro w v es₁ es₂ x w' es' S h
    have key : ∀ (hna : ∀ z, y ≠ .agg z) (hnt : ∀ z, y ≠ .tuple z), ∃ v' u, (Sem.store .plain a y k).runT P v es₂ = (.ok x v', es₂ ++ u) ∧ Sim D w' v' ∧ Q x ∧ w.heap.size ≤ w'.heap.size ∧ ∀ e ∈ u, EvT D w'.heap.size e := by
      intro hna hnt
      have h0 : (match w.cell? a with
        | some _ =>
          if w.frozen? a then (Result.halt (.unsupported (.unsafePointer "a write to bytes that a string shares")) w, es₁)
          else k.runT P (w.setCell a y) (es₁.push ⟨.cell a, true, Mode.plain == Mode.atomic⟩)
        | none => match w.farStore P a y (Mode.plain == Mode.atomic) with
          | .ok (w, touched) => k.runT P w (es₁ ++ touched.toArray.map (⟨.cell ·, true, Mode.plain == Mode.atomic⟩))
          | .error h => (.halt h w, es₁)) = (.ok x w', es') := by
        rw [← h]
        cases y <;> first | rfl | exact absurd rfl (hna _) | exact absurd rfl (hnt _)
      have g0 : ∀ es, (Sem.store .plain a y k).runT P v es = (match v.cell? a with
        | some _ =>
          if v.frozen? a then (Result.halt (.unsupported (.unsafePointer "a write to bytes that a string shares")) v, es)
          else k.runT P (v.setCell a y) (es.push ⟨.cell a, true, Mode.plain == Mode.atomic⟩)
        | none => match v.farStore P a y (Mode.plain == Mode.atomic) with
          | .ok (w, touched) => k.runT P w (es ++ touched.toArray.map (⟨.cell ·, true, Mode.plain == Mode.atomic⟩))
          | .error h => (.halt h v, es)) := by
        intro es
        cases y <;> first | rfl | exact absurd rfl (hna _) | exact absurd rfl (hnt _)
      rw [g0]
      cases hc : w.cell? a with
      | some z =>
        rw [hc] at h0
        obtain ⟨h1, h2, h3⟩ := S.cell hc
        rw [h2]
        dsimp only at h0 ⊢
        have hfz : v.frozen? a = w.frozen? a := by unfold World.frozen?; rw [S.same _ h1]
        rw [hfz]
        split at h0
        · cases h0
        rename_i hnf
        rw [if_neg hnf]
        obtain ⟨v', u, e1, e2, e3, e4, e5⟩ := ih (es₂ := es₂.push ⟨.cell a, true, Mode.plain == Mode.atomic⟩) (S.setCell (x := y) h1) h0
        rw [setCell_size] at e4
        refine ⟨v', #[⟨.cell a, true, Mode.plain == Mode.atomic⟩] ++ u, by rw [← arr_push]; exact e1, e2, e3, e4, fun e he => ?_⟩
        rcases Array.mem_append.1 he with he | he
        · simp only [List.mem_toArray, List.mem_cons, List.not_mem_nil, or_false] at he
          subst he
          exact .inl ⟨a, true, rfl, h1, by omega⟩
        · exact e5 e he
      | none =>
        rw [hc] at h0
        dsimp only at h0
        have hd : ¬ D a.block := fun hd => by
          obtain ⟨cs, ty, fr, _, h2⟩ := S.dead _ hd
          obtain ⟨_, hz⟩ := far_dead (P := P) (m := Mode.plain == Mode.atomic) h2
          obtain ⟨e, he⟩ := hz y
          rw [he] at h0
          cases h0
        rw [S.cell_none hd hc]
        dsimp only
        cases hf : w.farStore P a y (Mode.plain == Mode.atomic) with
        | error e => rw [hf] at h0; cases h0
        | ok r =>
          rw [hf] at h0
          obtain ⟨v1, h1, hS, hsz, h2⟩ := S.farStore hf
          have h1' : v.farStore P a y (Mode.plain == Mode.atomic) = .ok (v1, r.2) := h1
          rw [h1']
          dsimp only at h0 ⊢
          obtain ⟨v', u, e1, e2, e3, e4, e5⟩ := ih (es₂ := es₂ ++ r.2.toArray.map (⟨.cell ·, true, Mode.plain == Mode.atomic⟩)) hS h0
          refine ⟨v', r.2.toArray.map (⟨.cell ·, true, Mode.plain == Mode.atomic⟩) ++ u, by rw [← Array.append_assoc]; exact e1, e2, e3, by omega, fun e he => ?_⟩
          rcases Array.mem_append.1 he with he | he
          · obtain ⟨t, ht, rfl⟩ := Array.mem_map.1 he
            have := h2 t (by simpa using ht)
            exact .inl ⟨t, true, rfl, this.1, by omega⟩
          · exact e5 e he
    cases y with
    | agg z => simp [Sem.runT] at h
    | tuple z => simp [Sem.runT] at h
    | _ => exact key (by intro z hz; cases hz) (by intro z hz; cases hz)
  | @new o k ho hk ih =>
    intro w v es₁ es₂ x w' es' S h
    simp only [Sem.runT] at h ⊢
    rw [S.size]
    obtain ⟨v', u, e1, e2, e3, e4, e5⟩ := ih w.heap.size (es₂ := es₂) (S.push o) h
    simp only [Array.size_push] at e4
    exact ⟨v', u, e1, e2, e3, by omega, e5⟩
  | @shape r k he hk ih =>
    intro w v es₁ es₂ x w' es' S h
    simp only [Sem.runT] at h ⊢
    have hk' : k (v.shape? r) = k (w.shape? r) ∨ FailsS P (k (w.shape? r)) := by
      by_cases hd : D r
      · obtain ⟨cs, ty, fr, h1, h2⟩ := S.dead _ hd
        unfold World.shape?
        rw [h1, h2]
        exact he _ _
      · unfold World.shape?
        rw [S.same _ hd]
        exact .inl rfl
    rcases hk' with hk' | hk'
    · rw [hk']
      exact ih _ S h
    · obtain ⟨e, w'', hr, _⟩ := hk' w
      rw [← Sem.runT_fst P _ w es₁, h] at hr
      cases hr
  | @getObj r k hk ih =>
    intro w v es₁ es₂ x w' es' S h
    simp only [Sem.runT] at h ⊢
    have hd : ¬ D r := fun hd => by
      obtain ⟨cs, ty, fr, _, h2⟩ := S.dead _ hd
      rw [h2] at h
      cases h
    rw [S.same _ hd]
    cases hr : w.heap[r]? with
    | none => rw [hr] at h; cases h
    | some o =>
      rw [hr] at h
      cases o with
      | cells c e f => cases h
      | _ =>
        dsimp only at h ⊢
        obtain ⟨v', u, e1, e2, e3, e4, e5⟩ := ih _ (es₂ := es₂.push ⟨.obj r, false, Obj.isChan _⟩) S h
        refine ⟨v', #[⟨.obj r, false, Obj.isChan _⟩] ++ u, by rw [← arr_push]; exact e1, e2, e3, e4, fun e he => ?_⟩
        rcases Array.mem_append.1 he with he | he
        · simp only [List.mem_toArray, List.mem_cons, List.not_mem_nil, or_false] at he
          subst he
          exact .inr (.inl ⟨r, _, rfl, by have := lt_of_some hr; omega⟩)
        · exact e5 e he
  | @setObj r o k ho hk ih =>
    intro w v es₁ es₂ x w' es' S h
    simp only [Sem.runT] at h ⊢
    have hd : ¬ D r := fun hd => by
      obtain ⟨cs, ty, fr, _, h2⟩ := S.dead _ hd
      rw [h2] at h
      cases h
    rw [S.same _ hd]
    cases hr : w.heap[r]? with
    | none => rw [hr] at h; cases h
    | some o' =>
      rw [hr] at h
      cases o' with
      | cells c e f => cases h
      | _ =>
        dsimp only at h ⊢
        obtain ⟨v', u, e1, e2, e3, e4, e5⟩ := ih (es₂ := es₂.push ⟨.obj r, true, o.isChan⟩) (S.set hd) h
        simp only [Array.size_setIfInBounds] at e4
        refine ⟨v', #[⟨.obj r, true, o.isChan⟩] ++ u, by rw [← arr_push]; exact e1, e2, e3, e4, fun e he => ?_⟩
        rcases Array.mem_append.1 he with he | he
        · simp only [List.mem_toArray, List.mem_cons, List.not_mem_nil, or_false] at he
          subst he
          have hc : o.isChan = false := by cases o <;> first | rfl | cases ho
          rw [hc]
          exact .inr (.inr (.inl ⟨r, rfl, by have := lt_of_some hr; omega⟩))
        · exact e5 e he
  | @choose q k hk ih =>
    intro w v es₁ es₂ x w' es' S h
    simp only [Sem.runT] at h ⊢
    split at h
    · rename_i hq
      rw [if_pos hq]
      exact ih _ S h
    · rename_i hq
      have hq' : q.cut (v.tape v.drawn q) = q.cut (w.tape w.drawn q) := by rw [S.tape, S.drawn]
      rw [if_neg hq, hq']
      have := ih _ (es₂ := es₂) S.draw h
      exact this
  | @program k hk ih =>
    intro w v es₁ es₂ x w' es' S h
    simp only [Sem.runT] at h ⊢
    exact ih S h
  | @mark k hk ih =>
    intro w v es₁ es₂ x w' es' S h
    simp only [Sem.runT] at h ⊢
    obtain ⟨v', u, e1, e2, e3, e4, e5⟩ := ih (es₂ := es₂.push ⟨.mark .noRoom, false, true⟩) S h
    refine ⟨v', #[⟨.mark .noRoom, false, true⟩] ++ u, by rw [← arr_push]; exact e1, e2, e3, e4, fun e he => ?_⟩
    rcases Array.mem_append.1 he with he | he
    · simp only [List.mem_toArray, List.mem_cons, List.not_mem_nil, or_false] at he
      subst he
      exact .inr (.inr (.inr rfl))
    · exact e5 e he
  | halt hh =>
    intro w v es₁ es₂ x w' es' S h
    simp only [Sem.runT] at h
    cases h
  | fails hf =>
    intro w v es₁ es₂ x w' es' S h
    obtain ⟨e, w'', hr, _⟩ := hf w
    rw [← Sem.runT_fst P _ w es₁, h] at hr
    cases hr

/-! ### A run looks at the tape only as far as it draws -/
end Go.Proofs.Ytcfpilkhjpegcaa
namespace Go
def World.re (w : World) (τ : Nat → Question → Nat) (d : Nat) : World := { w with tape := τ, drawn := d }
def Result.world {α : Type} : Result α → World
  | .ok _ w => w
  | .halt _ w => w
def Result.re {α : Type} (r : Result α) (τ : Nat → Question → Nat) (d : Nat) : Result α :=
  match r with
  | .ok a w => .ok a (w.re τ d)
  | .halt h w => .halt h (w.re τ d)
end Go
namespace Go.Proofs.Ytcfpilkhjpegcaa
open Go

theorem re_re (w : World) (τ τ' : Nat → Question → Nat) (d d' : Nat) : (w.re τ d).re τ' d' = w.re τ' d' := rfl
theorem re_self (w : World) : w.re w.tape w.drawn = w := rfl

theorem farLoad_re {P : Program} (w : World) (τ : Nat → Question → Nat) (d : Nat) (a : Addr) (m : Bool) : (w.re τ d).farLoad P a m = w.farLoad P a m := rfl
theorem viewStore_world {P : Program} {w : World} {at_ k : Addr} {u : TypeId} {x : Value} {m : Bool} {r : World × List Addr} (h : w.viewStore P at_ u k x m = .ok r) : ∃ o, r.1 = { w with heap := w.heap.setIfInBounds at_.block o } := by
  unfold World.viewStore at h
  simp only [bind, Except.bind] at h
  split at h
  · cases h
  cases hs : w.seen P at_ u k m with
  | error e => rw [hs] at h; cases h
  | ok q =>
    rw [hs] at h
    dsimp only at h
    split at h
    · split at h
      · cases h
      split at h
      · cases h
      simp only [pure, Except.pure] at h
      cases h
      exact ⟨_, rfl⟩
    · cases h

theorem viewStore_re {P : Program} (w : World) (τ : Nat → Question → Nat) (d : Nat) (at_ k : Addr) (u : TypeId) (x : Value) (m : Bool) :
    (w.re τ d).viewStore P at_ u k x m = (match w.viewStore P at_ u k x m with | .ok (w', t) => .ok (w'.re τ d, t) | .error e => .error e) := by
  unfold World.viewStore
  have hs : (w.re τ d).seen P at_ u k m = w.seen P at_ u k m := rfl
  simp only [bind, Except.bind, hs]
  split
  · rfl
  cases w.seen P at_ u k m with
  | error e => rfl
  | ok q =>
    dsimp only
    split
    · split
      · rfl
      split
      · rfl
      · rfl
    · rfl

theorem farStore_re {P : Program} (w : World) (τ : Nat → Question → Nat) (d : Nat) (a : Addr) (x : Value) (m : Bool) :
    (w.re τ d).farStore P a x m = (match w.farStore P a x m with | .ok (w', t) => .ok (w'.re τ d, t) | .error e => .error e) := by
  unfold World.farStore World.noCell
  have hb' : (w.re τ d).heap[a.block]? = w.heap[a.block]? := rfl
  rw [hb']
  cases hb : w.heap[a.block]? with
  | none => rfl
  | some o =>
    cases o with
    | view at_ u =>
      dsimp only
      rw [viewStore_re]
      cases w.viewStore P at_ u a x m with
      | ok r => rfl
      | error e => rfl
    | _ => rfl

theorem farStore_world {P : Program} {w : World} {a : Addr} {x : Value} {m : Bool} {r : World × List Addr} (h : w.farStore P a x m = .ok r) : ∃ b o, r.1 = { w with heap := w.heap.setIfInBounds b o } := by
  unfold World.farStore at h
  cases hb : w.heap[a.block]? with
  | none => rw [hb] at h; cases h
  | some o =>
    rw [hb] at h
    cases o with
    | view at_ ty =>
      dsimp only at h
      cases hl : w.viewStore P at_ ty a x m with
      | error e => rw [hl] at h; cases h
      | ok r' =>
        rw [hl] at h
        cases h
        obtain ⟨o, ho⟩ := viewStore_world hl
        exact ⟨_, o, ho⟩
    | _ => cases h

/-- A run that halts, however the tape goes on, halts. -/
theorem Tame.halts {P : Program} {α : Type} {Q : α → Prop} {s : Sem α} (hs : Tame P Q s) : ∀ {u u' : World} {h : Halt}, s.run P u = .halt h u' →
    Halt.tame h = true ∧ ∀ (τ : Nat → Question → Nat) (o : Nat), (∀ j q, τ (o + j) q = u.tape (u.drawn + j) q) → ∃ h' u'', s.run P (u.re τ o) = .halt h' u'' ∧ Halt.tame h' = true := by
  induction hs with
  | pure hq => intro u u' h hr; simp [Sem.run] at hr
  | @load a k hk ih =>
    intro u u' h hr
    simp only [Sem.run] at hr ⊢
    have hc' : ∀ τ o, (u.re τ o).cell? a = u.cell? a := fun _ _ => rfl
    simp only [hc', farLoad_re]
    cases hc : u.cell? a with
    | some y => rw [hc] at hr; exact ih y hr
    | none =>
      rw [hc] at hr
      dsimp only at hr ⊢
      cases hf : u.farLoad P a (Mode.plain == Mode.atomic) with
      | ok r => rw [hf] at hr; exact ih r.1 hr
      | error e =>
        rw [hf] at hr
        cases hr
        have : Halt.tame h = true := by
          unfold World.farLoad at hf
          split at hf
          · split at hf <;> cases hf; rfl
          · cases hf
            unfold World.noCell
            split <;> rfl
        exact ⟨this, fun τ o _ => ⟨_, _, rfl, this⟩⟩
  | @store a y k hk ih =>
    intro u u' h hr
    have key : ∀ u' : World, (∀ z, y ≠ .agg z) → (∀ z, y ≠ .tuple z) → (Sem.store .plain a y k).run P u' = (match u'.cell? a with
        | some _ => if u'.frozen? a then .halt (.unsupported (.unsafePointer "a write to bytes that a string shares")) u' else k.run P (u'.setCell a y)
        | none => match u'.farStore P a y (Mode.plain == Mode.atomic) with
          | .ok (w, _) => k.run P w
          | .error h => .halt h u') := by
      intro u' hna hnt
      cases y <;> first | rfl | exact absurd rfl (hna _) | exact absurd rfl (hnt _)
    have main : (∀ z, y ≠ .agg z) → (∀ z, y ≠ .tuple z) → Halt.tame h = true ∧ ∀ (τ : Nat → Question → Nat) (o : Nat), (∀ j q, τ (o + j) q = u.tape (u.drawn + j) q) → ∃ h' u'', (Sem.store .plain a y k).run P (u.re τ o) = .halt h' u'' ∧ Halt.tame h' = true := by
      intro hna hnt
      rw [key u hna hnt] at hr
      simp only [key _ hna hnt]
      have hc' : ∀ τ o, (u.re τ o).cell? a = u.cell? a := fun _ _ => rfl
      have hz' : ∀ τ o, (u.re τ o).frozen? a = u.frozen? a := fun _ _ => rfl
      simp only [hc', hz', farStore_re]
      cases hc : u.cell? a with
      | some z =>
        rw [hc] at hr
        dsimp only at hr ⊢
        split at hr
        · rename_i hz
          cases hr
          exact ⟨rfl, fun τ o _ => ⟨_, _, by rw [if_pos hz], rfl⟩⟩
        · rename_i hz
          obtain ⟨h1, h2⟩ := ih hr
          exact ⟨h1, fun τ o hτ => by rw [if_neg hz]; exact h2 τ o hτ⟩
      | none =>
        rw [hc] at hr
        dsimp only at hr ⊢
        cases hf : u.farStore P a y (Mode.plain == Mode.atomic) with
        | ok r =>
          rw [hf] at hr
          obtain ⟨b, o, ho⟩ := farStore_world hf
          obtain ⟨h1, h2⟩ := ih hr
          refine ⟨h1, fun τ o' hτ => h2 τ o' ?_⟩
          rw [ho]
          exact hτ
        | error e =>
          rw [hf] at hr
          cases hr
          have : Halt.tame h = true := by
            unfold World.farStore at hf
            split at hf
            · split at hf <;> cases hf; rfl
            · cases hf
              unfold World.noCell
              split <;> rfl
          exact ⟨this, fun τ o _ => ⟨_, _, rfl, this⟩⟩
    cases y with
    | agg z => cases hr; exact ⟨rfl, fun τ o _ => ⟨_, _, rfl, rfl⟩⟩
    | tuple z => cases hr; exact ⟨rfl, fun τ o _ => ⟨_, _, rfl, rfl⟩⟩
    | _ => exact main (by intro z hz; cases hz) (by intro z hz; cases hz)
  | @new o k ho hk ih => intro u u' h hr; exact ih u.heap.size hr
  | @shape r k he hk ih => intro u u' h hr; exact ih (u.shape? r) hr
  | @getObj r k hk ih =>
    intro u u' h hr
    simp only [Sem.run] at hr ⊢
    have hr' : ∀ τ o, (u.re τ o).heap[r]? = u.heap[r]? := fun _ _ => rfl
    simp only [hr']
    cases hb : u.heap[r]? with
    | none => rw [hb] at hr; cases hr; exact ⟨rfl, fun τ o _ => ⟨_, _, rfl, rfl⟩⟩
    | some o =>
      rw [hb] at hr
      cases o with
      | cells c e f => cases hr; exact ⟨rfl, fun τ o _ => ⟨_, _, rfl, rfl⟩⟩
      | _ => exact ih _ hr
  | @setObj r o k ho hk ih =>
    intro u u' h hr
    simp only [Sem.run] at hr ⊢
    have hr' : ∀ τ o, (u.re τ o).heap[r]? = u.heap[r]? := fun _ _ => rfl
    simp only [hr']
    cases hb : u.heap[r]? with
    | none => rw [hb] at hr; cases hr; exact ⟨rfl, fun τ o _ => ⟨_, _, rfl, rfl⟩⟩
    | some o' =>
      rw [hb] at hr
      cases o' with
      | cells c e f => cases hr; exact ⟨rfl, fun τ o _ => ⟨_, _, rfl, rfl⟩⟩
      | _ => exact ih hr
  | @choose q k hk ih =>
    intro u u' h hr
    simp only [Sem.run] at hr ⊢
    by_cases hq : q.forced = true
    · simp only [if_pos hq] at hr ⊢
      exact ih 0 hr
    · simp only [if_neg hq] at hr ⊢
      obtain ⟨h1, h2⟩ := ih _ hr
      refine ⟨h1, fun τ o hτ => ?_⟩
      have e0 : τ o q = u.tape u.drawn q := by simpa using hτ 0 q
      show ∃ h' u'', (k (q.cut (τ o q))).run P ((u.re τ o).re τ (o + 1)) = _ ∧ _
      rw [e0]
      exact h2 τ (o + 1) fun j q' => by
        have := hτ (j + 1) q'
        rw [show o + 1 + j = o + (j + 1) by omega]
        show _ = u.tape (u.drawn + 1 + j) q'
        rw [show u.drawn + 1 + j = u.drawn + (j + 1) by omega]
        exact this
  | @program k hk ih => intro u u' h hr; exact ih hr
  | @mark k hk ih => intro u u' h hr; exact ih hr
  | @halt hh ht => intro u u' h hr; cases hr; exact ⟨ht, fun τ o _ => ⟨_, _, rfl, ht⟩⟩
  | @fails s hf =>
    intro u u' h hr
    refine ⟨?_, fun τ o _ => hf _⟩
    obtain ⟨e, w', hr', he⟩ := hf u
    rw [hr] at hr'
    cases hr'
    exact he

/-- A run that goes through looks at the tape only as far as it draws. -/
theorem Tame.tape {P : Program} {α : Type} {Q : α → Prop} {s : Sem α} (hs : Tame P Q s) : ∀ {u u' : World} {x : α}, s.run P u = .ok x u' → Q x ∧ u.drawn ≤ u'.drawn ∧ u'.tape = u.tape ∧
    ∀ (τ : Nat → Question → Nat) (o : Nat), (∀ j q, u.drawn + j < u'.drawn → τ (o + j) q = u.tape (u.drawn + j) q) → s.run P (u.re τ o) = .ok x (u'.re τ (o + (u'.drawn - u.drawn))) := by
  induction hs with
  | pure hq =>
    intro u u' x hr
    cases hr
    exact ⟨hq, Nat.le_refl _, rfl, fun τ o _ => by simp [Sem.run]⟩
  | @load a k hk ih =>
    intro u u' x hr
    simp only [Sem.run] at hr ⊢
    have hc' : ∀ τ o, (u.re τ o).cell? a = u.cell? a := fun _ _ => rfl
    simp only [hc', farLoad_re]
    cases hc : u.cell? a with
    | some y => rw [hc] at hr; exact ih y hr
    | none =>
      rw [hc] at hr
      dsimp only at hr ⊢
      cases hf : u.farLoad P a (Mode.plain == Mode.atomic) with
      | ok r => rw [hf] at hr; exact ih r.1 hr
      | error e => rw [hf] at hr; cases hr
  | @store a y k hk ih =>
    intro u u' x hr
    have key : ∀ u' : World, (∀ z, y ≠ .agg z) → (∀ z, y ≠ .tuple z) → (Sem.store .plain a y k).run P u' = (match u'.cell? a with
        | some _ => if u'.frozen? a then .halt (.unsupported (.unsafePointer "a write to bytes that a string shares")) u' else k.run P (u'.setCell a y)
        | none => match u'.farStore P a y (Mode.plain == Mode.atomic) with
          | .ok (w, _) => k.run P w
          | .error h => .halt h u') := by
      intro u' hna hnt
      cases y <;> first | rfl | exact absurd rfl (hna _) | exact absurd rfl (hnt _)
    have main : (∀ z, y ≠ .agg z) → (∀ z, y ≠ .tuple z) → Q x ∧ u.drawn ≤ u'.drawn ∧ u'.tape = u.tape ∧
        ∀ (τ : Nat → Question → Nat) (o : Nat), (∀ j q, u.drawn + j < u'.drawn → τ (o + j) q = u.tape (u.drawn + j) q) → (Sem.store .plain a y k).run P (u.re τ o) = .ok x (u'.re τ (o + (u'.drawn - u.drawn))) := by
      intro hna hnt
      rw [key u hna hnt] at hr
      simp only [key _ hna hnt]
      have hc' : ∀ τ o, (u.re τ o).cell? a = u.cell? a := fun _ _ => rfl
      have hz' : ∀ τ o, (u.re τ o).frozen? a = u.frozen? a := fun _ _ => rfl
      simp only [hc', hz', farStore_re]
      cases hc : u.cell? a with
      | some z =>
        rw [hc] at hr
        dsimp only at hr ⊢
        split at hr
        · cases hr
        · rename_i hz
          simp only [if_neg hz]
          exact ih hr
      | none =>
        rw [hc] at hr
        dsimp only at hr ⊢
        cases hf : u.farStore P a y (Mode.plain == Mode.atomic) with
        | ok r =>
          rw [hf] at hr
          obtain ⟨b, o, ho⟩ := farStore_world hf
          have hd : r.1.drawn = u.drawn ∧ r.1.tape = u.tape := by rw [ho]; exact ⟨rfl, rfl⟩
          have := ih hr
          rw [hd.1, hd.2] at this
          exact this
        | error e => rw [hf] at hr; cases hr
    cases y with
    | agg z => cases hr
    | tuple z => cases hr
    | _ => exact main (by intro z hz; cases hz) (by intro z hz; cases hz)
  | @new o k ho hk ih => intro u u' x hr; exact ih u.heap.size hr
  | @shape r k he hk ih => intro u u' x hr; exact ih (u.shape? r) hr
  | @getObj r k hk ih =>
    intro u u' x hr
    simp only [Sem.run] at hr ⊢
    have hr' : ∀ τ o, (u.re τ o).heap[r]? = u.heap[r]? := fun _ _ => rfl
    simp only [hr']
    cases hb : u.heap[r]? with
    | none => rw [hb] at hr; cases hr
    | some o =>
      rw [hb] at hr
      cases o with
      | cells c e f => cases hr
      | _ => exact ih _ hr
  | @setObj r o k ho hk ih =>
    intro u u' x hr
    simp only [Sem.run] at hr ⊢
    have hr' : ∀ τ o, (u.re τ o).heap[r]? = u.heap[r]? := fun _ _ => rfl
    simp only [hr']
    cases hb : u.heap[r]? with
    | none => rw [hb] at hr; cases hr
    | some o' =>
      rw [hb] at hr
      cases o' with
      | cells c e f => cases hr
      | _ => exact ih hr
  | @choose q k hk ih =>
    intro u u' x hr
    simp only [Sem.run] at hr ⊢
    by_cases hq : q.forced = true
    · simp only [if_pos hq] at hr ⊢
      exact ih 0 hr
    · simp only [if_neg hq] at hr ⊢
      obtain ⟨h0, h1, h3, h2⟩ := ih _ hr
      simp only at h1 h2 h3
      refine ⟨h0, by omega, h3, fun τ o hτ => ?_⟩
      have e0 : τ o q = u.tape u.drawn q := by simpa using hτ 0 q (by omega)
      show (k (q.cut (τ o q))).run P ((u.re τ o).re τ (o + 1)) = _
      rw [e0]
      have := h2 τ (o + 1) (fun j q' hj => by
        have := hτ (j + 1) q' (by omega)
        rw [show o + 1 + j = o + (j + 1) by omega, show u.drawn + 1 + j = u.drawn + (j + 1) by omega]
        exact this)
      rw [show o + (u'.drawn - u.drawn) = o + 1 + (u'.drawn - (u.drawn + 1)) by omega]
      exact this
  | @program k hk ih => intro u u' x hr; exact ih hr
  | @mark k hk ih => intro u u' x hr; exact ih hr
  | halt hh => intro u u' x hr; cases hr
  | fails hf =>
    intro u u' x hr
    obtain ⟨e, w', hr', _⟩ := hf u
    rw [hr] at hr'
    cases hr'

end Go.Proofs.Ytcfpilkhjpegcaa
