/- The functions that run plainly. -/
import Derived.Test.YtcfpilkhjpegcaaK62
namespace Go.Proofs.Ytcfpilkhjpegcaa
open Go Go.Conc

def badU : List Nat := [3, 4, 5, 6, 7, 8, 10, 13, 26, 28, 36, 52, 67, 68, 69, 70, 92, 93, 94, 95, 96, 97, 98, 99, 100, 101, 102, 103, 104, 105, 106, 107, 108, 109, 123, 124, 125, 126, 127]
def SU : Set' where
  F f := decide (3 ≤ f) && decide (f ≤ 135) && !badU.contains f
  D f := if f == 63 || f == 133 then [1, 6] else if f == 91 || f == 135 then [1, 11] else []
theorem su_all : ((List.range 136).all fun f => !SU.F f || okFn Try.prog SU f) = true := by kernel_rfl
theorem su_ok (f : FuncId) (h : SU.F f = true) : okFn Try.prog SU f = true := by
  have hlt : f < 136 := by
    have : (decide (3 ≤ f) && decide (f ≤ 135) && !badU.contains f) = true := h
    simp only [Bool.and_eq_true, decide_eq_true_eq] at this
    exact Nat.lt_succ_of_le this.1.2
  have := List.all_eq_true.1 su_all f (List.mem_range.2 hlt)
  simpa [h] using this
theorem no_ready : (Try.prog.funcs.toList.all fun f => ((f.body.map readies).getD []).isEmpty) = true := by kernel_rfl
theorem no_early : NoEarly Try.prog := ⟨by kernel_rfl, fun g => by
  unfold Program.stepOf
  rw [Array.findIdx?_eq_none_iff]
  intro f hf
  have := List.all_eq_true.1 no_ready f (by simpa using hf)
  cases hb : f.body with
  | none => simp
  | some c =>
    simp [hb] at this
    simp [this]⟩
theorem setOkU : SetOk Try.prog SU := { door := trivial, none := by kernel_rfl, early := no_early, ok := su_ok }
end Go.Proofs.Ytcfpilkhjpegcaa

/- The call of usage, as one rule. -/
namespace Go.Proofs.Ytcfpilkhjpegcaa
open Go Go.Conc Go.ConcN Go.RowKit

section
variable {D : Nat → Prop} {Post : Value → World → Prop} {cs : List Frame}

theorem frameU (v : Value) : Frame.enter (Try.prog) 36 #[v] .normal = (base 36).at ⟨#[v, undef, undef, undef, undef, undef, undef, undef, undef, undef, undef, undef, undef, undef, undef, undef, undef, undef, undef, undef, undef, undef, undef, undef], []⟩ [.code bodyS] := by
  rw [enter_at _ Try.func36 (c := bodyS) rfl]
  rw [show (Try.f36).ntmps = 24 by kernel_rfl]
  simp [Array.replicate]
theorem bodyS_eq : bodyS = .seq (codeAt bodyS [0]) (.seq (codeAt bodyS [1, 0]) (.seq (.region 2 bornOps false) headS)) := by kernel_rfl
theorem info_vec : (Try.prog.info? 55).map (fun i => (i.zero, i.size, i.bytes)) = some (some (.slice none 0 0), 1, 24) := by kernel_rfl

theorem Wn.unre {g : Goroutine} {w : World} {τ : Nat → Question → Nat} {d : Nat} (h : Wn (Try.prog) Post D g (w.re τ d)) : Wn (Try.prog) Post D g w := fun v gs sl t q hs => h v gs sl t q hs
/-- Behind Wait: the result is handed back. -/
theorem usageBack {lB C n : Nat} {T : Array Value} {w : World} {c : Frame} (hs : T.size = 24) (s3 : T.getD 3 undef = .pointer (some ⟨lB, 0, none⟩)) (hc : w.cell? ⟨lB, 0, none⟩ = some (.slice (some ⟨C, 0, none⟩) n n))
    (h : Wn (Try.prog) Post D (G (c.finish (.slice (some ⟨C, 0, none⟩) n n)) cs) w) : Wn (Try.prog) Post D (G ((base 36).at ⟨T, []⟩ [.inRegion waitOps [], .code restS]) (c :: cs)) w := by
  refine Wn.silent rfl (fun u => stepG_region_end) ?_
  have e : restS = .seq (codeAt bodyS [1, 1, 1, 1, 1, 0]) .ret := by kernel_rfl
  rw [e]
  refine Wn.silent rfl (fun u => stepG_seq) ?_
  refine Wn.code (Q := fun e a' w' => e = .normal ∧ a'.tmps.getD 2 undef = .slice (some ⟨C, 0, none⟩) n n ∧ ∃ τ d, w' = w.re τ d) setOkU ⟨_, Try.func36⟩ (by kernel_rfl) (by kernel_rfl) (fun τ => ?_) (fun e a' w' h => .inl h.1) ?_ ?_
  · obtain ⟨v0, v1, v2, v3, v4, v5, v6, v7, v8, v9, v10, v11, v12, v13, v14, v15, v16, v17, v18, v19, v20, v21, v22, v23, rfl⟩ := array24 T hs
    simp only [Array.getD_eq_getD_getElem?, List.getElem?_toArray, List.getElem?_cons_succ, List.getElem?_cons_zero, Option.getD_some] at s3
    subst s3
    have hc1 : (w.re τ 0).cell? ⟨lB, 0, none⟩ = some (.slice (some ⟨C, 0, none⟩) n n) := hc
    simp only [bodyS, codeAt, Try.f36, Option.getD_some]
    go_wp2
    exact ⟨τ, 0, rfl⟩
  · intro T' w' τ d ⟨_, ht, τ', d', e'⟩
    refine Wn.unre (τ := τ) (d := d) ?_
    rw [e']
    refine Wn.silent rfl (fun u => stepG_ret') ?_
    refine Wn.leave Try.func36 fun τ2 d2 => ⟨_, _, results_tmp (t := 2) rfl _ _ _, ?_⟩
    simp only at ht
    rw [ht]
    exact (h.re).re
  · intro T' todo w' τ d ⟨h0, _⟩
    cases h0
end
end Go.Proofs.Ytcfpilkhjpegcaa

/- The call of usage, as one rule: its front. -/
namespace Go.Proofs.Ytcfpilkhjpegcaa
open Go Go.Conc Go.ConcN Go.RowKit

section
variable {D : Nat → Prop} {Post : Value → World → Prop} {cs : List Frame}

/-- Behind a piece that is left normally, its temporaries and its world known. -/
theorem Wn.piece1 {f : FuncId} (hfn : ∃ fn, Try.prog.funcs[f]? = some fn) (hD : SU.D f = []) {c : Code} (hi : okC (Try.prog) SU f [] c = true) {tmps T : Array Value} {k : List Item} {w w1 : World}
    (hA : ∀ τ, c.wp (Try.prog) (fun e a' w' => e = .normal ∧ a'.tmps = T ∧ ∃ τ d, w' = w1.re τ d) ⟨tmps, []⟩ (w.re τ 0))
    (h : Wn (Try.prog) Post D (G ((base f).at ⟨T, []⟩ k) cs) w1) : Wn (Try.prog) Post D (G ((base f).at ⟨tmps, []⟩ (.code c :: k)) cs) w := by
  refine Wn.code setOkU hfn hD hi hA (fun e a' w' h => .inl h.1) ?_ ?_
  · intro T' w' τ d ⟨_, ht, τ', d', e'⟩
    refine Wn.unre (τ := τ) (d := d) ?_
    rw [e']
    simp only at ht
    subst ht
    exact h.re
  · intro T' todo w' τ d ⟨h0, _⟩
    cases h0

/-- The world behind regions 0 and 1. -/
def frontW (cv : Array Value) (n : Nat) (w : World) : World :=
  ((w.alloc (.cells cv 26)).alloc (.cells (madeCells #[.slice none 0 0] n) 55)).alloc (.cells #[.slice (some ⟨w.heap.size + 1, 0, none⟩) n n] 57)

theorem usageFront {Ar A : Option Addr} {lr cr n cap : Nat} (hn : n ≤ 1000) {w : World}
    (h : Wn (Try.prog) Post D (G ((base 36).at ⟨#[.agg #[.slice Ar lr cr, .slice A n cap], .pointer (some ⟨w.heap.size, 0, none⟩), .slice none 0 0, .pointer (some ⟨w.heap.size + 2, 0, none⟩), undef, undef, undef, .pointer (some ⟨w.heap.size, 1, none⟩), .slice A n cap, .int .i64 n, .slice (some ⟨w.heap.size + 1, 0, none⟩) n n, undef, undef, undef, undef, undef, undef, undef, undef, undef, undef, undef, undef, undef], []⟩ [.inRegion bornOps [0], .code headS]) cs) (frontW #[.slice Ar lr cr, .slice A n cap] n w)) :
    Wn (Try.prog) Post D (G (Frame.enter (Try.prog) 36 #[.agg #[.slice Ar lr cr, .slice A n cap]] .normal) cs) w := by
  rw [frameU, bodyS_eq]
  refine Wn.silent rfl (fun u => stepG_seq) ?_
  refine Wn.piece1 (w1 := w.alloc (.cells #[.slice Ar lr cr, .slice A n cap] 26)) (T := #[.agg #[.slice Ar lr cr, .slice A n cap], .pointer (some ⟨w.heap.size, 0, none⟩), .slice none 0 0, undef, undef, undef, undef, undef, undef, undef, undef, undef, undef, undef, undef, undef, undef, undef, undef, undef, undef, undef, undef, undef]) ⟨_, Try.func36⟩ (by kernel_rfl) (by kernel_rfl) (fun τ => ?_) ?_
  · simp only [bodyS, codeAt, Try.f36, Option.getD_some]
    go_wp2
    exact ⟨rfl, τ, 0, rfl⟩
  refine Wn.silent rfl (fun u => stepG_seq) ?_
  refine Wn.piece1 (w1 := frontW #[.slice Ar lr cr, .slice A n cap] n w) (T := #[.agg #[.slice Ar lr cr, .slice A n cap], .pointer (some ⟨w.heap.size, 0, none⟩), .slice none 0 0, .pointer (some ⟨w.heap.size + 2, 0, none⟩), undef, undef, undef, .pointer (some ⟨w.heap.size, 1, none⟩), .slice A n cap, .int .i64 n, .slice (some ⟨w.heap.size + 1, 0, none⟩) n n, undef, undef, undef, undef, undef, undef, undef, undef, undef, undef, undef, undef, undef]) ⟨_, Try.func36⟩ (by kernel_rfl) (by kernel_rfl) (fun τ => ?_) ?_
  · obtain ⟨i0, hi0, hz0, hz1, hz2⟩ := info_parts info_vec
    have hmk : ∀ w : World, (Instr.makeSlice 57 (.int .i64 n) (.int .i64 n)).run (Try.prog) w = .ok (.slice (some ⟨w.heap.size, 0, none⟩) n n) (w.alloc (.cells (madeCells (Value.slice none 0 0).cells (n * 1)) 55)) := fun w => by
      have := run_makeSlice (P := (Try.prog)) w 57 55 i0 (.slice none 0 0) Try.underlying57 hi0 hz0 .i64 .i64 n n (by omega) (by omega) (by rw [hz1]; omega) (by rw [hz2]; omega) (by omega)
      rw [hz1] at this
      simpa using this
    have hc1 : ((w.alloc (.cells #[.slice Ar lr cr, .slice A n cap] 26)).re τ 0).cell? ⟨w.heap.size, 1, none⟩ = some (.slice A n cap) := cell_new (w.re τ 0) #[.slice Ar lr cr, .slice A n cap] 26 1
    have hsz : ((w.alloc (.cells #[.slice Ar lr cr, .slice A n cap] 26)).re τ 0).heap.size = w.heap.size + 1 := alloc_size w _
    have hgoal : ∀ wA : World, wA = (w.alloc (.cells #[.slice Ar lr cr, .slice A n cap] 26)).re τ 0 → (wA.alloc (.cells (madeCells #[.slice none 0 0] n) 55)).alloc (.cells #[.slice (some ⟨w.heap.size + 1, 0, none⟩) n n] 57) = (frontW #[.slice Ar lr cr, .slice A n cap] n w).re τ 0 := by
      rintro _ rfl
      rfl
    generalize hwA : (w.alloc (.cells #[.slice Ar lr cr, .slice A n cap] 26)).re τ 0 = wA at hc1 hsz ⊢
    have hgoal' := hgoal wA hwA.symm
    clear hgoal hwA
    generalize hb : w.heap.size = B at *
    simp only [bodyS, codeAt, Try.f36, Option.getD_some]
    go_wp2
    exact ⟨τ, 0, rfl⟩
  refine Wn.silent rfl (fun u => stepG_seq) ?_
  refine Wn.silent rfl (fun u => stepG_region) ?_
  exact h
end
end Go.Proofs.Ytcfpilkhjpegcaa

/- The call of usage, as one rule. -/
namespace Go.Proofs.Ytcfpilkhjpegcaa
open Go Go.Conc Go.ConcN Go.RowKit

section
variable {D : Nat → Prop} {Post : Value → World → Prop} {cs : List Frame}

theorem frontW_old (cv : Array Value) (n : Nat) (w : World) {b : Nat} (h : b < w.heap.size) : (frontW cv n w).heap[b]? = w.heap[b]? := by
  unfold frontW
  rw [alloc_old _ _ (by simp only [alloc_size]; omega), alloc_old _ _ (by simp only [alloc_size]; omega), alloc_old _ _ h]
theorem frontW_size (cv : Array Value) (n : Nat) (w : World) : (frontW cv n w).heap.size = w.heap.size + 3 := by simp only [frontW, alloc_size]
theorem frontW_clus (cv : Array Value) (n : Nat) (w : World) : (frontW cv n w).heap[w.heap.size]? = some (.cells cv 26) := by
  unfold frontW
  rw [alloc_old _ _ (by simp only [alloc_size]; omega), alloc_old _ _ (by simp only [alloc_size]; omega)]
  exact alloc_at _ _
theorem frontW_loads (cv : Array Value) (n : Nat) (w : World) : (frontW cv n w).heap[w.heap.size + 1]? = some (.cells (madeCells #[.slice none 0 0] n) 55) := by
  unfold frontW
  rw [alloc_old _ _ (by simp only [alloc_size]; omega)]
  have := alloc_at (w.alloc (.cells cv 26)) (.cells (madeCells #[.slice none 0 0] n) 55)
  rwa [alloc_size] at this
theorem frontW_box (cv : Array Value) (n : Nat) (w : World) : (frontW cv n w).heap[w.heap.size + 2]? = some (.cells #[.slice (some ⟨w.heap.size + 1, 0, none⟩) n n] 57) := by
  have := alloc_at ((w.alloc (.cells cv 26)).alloc (.cells (madeCells #[.slice none 0 0] n) 55)) (.cells #[.slice (some ⟨w.heap.size + 1, 0, none⟩) n n] 57)
  simp only [alloc_size] at this
  exact this
theorem tasksK_of {K : Nat → Prop} {w wf : World} {v : Value} {ts : List TaskD} (h : RT w v ts) (hg : GoodTs ts) (hw : ∀ b o x, w.cell? ⟨b, o, none⟩ = some x → K b ∧ wf.cell? ⟨b, o, none⟩ = some x) : TasksK K wf v ts := by
  obtain ⟨A, c, rfl, h1, h2, hr⟩ := h.get
  refine ⟨A, c, rfl, h1, h2, fun j t ht => ?_⟩
  have hj : j < ts.length := by
    rcases Nat.lt_or_ge j ts.length with h | h
    · exact h
    · rw [List.getElem?_eq_none h] at ht; cases ht
  obtain ⟨b, o, x, An, cn, rfl, e, c1, c2, hn⟩ := hr j hj
  have ex : x = t := by have := e.out; rw [ht] at this; exact (Option.some.inj this).symm
  subst ex
  have hl := (hg.2 x (List.mem_of_getElem? ht)).1
  obtain ⟨A', c', e', g1, g2, g3⟩ := hn.get
  obtain ⟨b', o', x0, rfl, _, c3⟩ := g3 0 (by omega)
  have eA : An = some ⟨b', o', none⟩ := by injection e'
  have eC : cn = c' := by injection e'
  subst eA eC
  refine ⟨b, o, ⟨b', o', none⟩, cn, rfl, (hw _ _ _ c1).1, (hw _ _ _ c1).2, (hw _ _ _ c2).2, b', o', cn, rfl, g1, g2, .inl (hw _ _ _ c3).1, fun i y hy => ?_⟩
  have hi : i < x.need.length := by
    rcases Nat.lt_or_ge i x.need.length with h | h
    · exact h
    · rw [List.getElem?_eq_none h] at hy; cases hy
  obtain ⟨b2, o2, y2, e2, e3, c4⟩ := g3 i hi
  cases e2
  have : y2 = y := by have := e3.out; rw [hy] at this; exact (Option.some.inj this).symm
  subst this
  exact (hw _ _ _ c4).2
end
end Go.Proofs.Ytcfpilkhjpegcaa

/- The call of usage, as one rule: whole. -/
namespace Go.Proofs.Ytcfpilkhjpegcaa
open Go Go.Conc Go.ConcN Go.RowKit

section
variable {D : Nat → Prop} {Post : Value → World → Prop} {cs : List Frame}

theorem unitsK_of {K : Nat → Prop} {w wf : World} {A : Option Addr} {n cap : Nat} {us : List UnitD} (h : RU w (.slice A n cap) us) (hg : ∀ u ∈ us, GoodTs u.tasks) (hw : ∀ b o x, w.cell? ⟨b, o, none⟩ = some x → K b ∧ wf.cell? ⟨b, o, none⟩ = some x) : n = us.length ∧ us.length ≤ cap ∧ cap ≤ 9223372036854775807 ∧ UnitsK K wf A us := by
  obtain ⟨A', c, e, h1, h2, hr⟩ := h.get
  obtain ⟨rfl, rfl, rfl⟩ : A = A' ∧ n = us.length ∧ cap = c := by injection e with a b c; exact ⟨a, b, c⟩
  refine ⟨rfl, h1, h2, fun j u hu => ?_⟩
  have hj : j < us.length := by
    rcases Nat.lt_or_ge j us.length with h | h
    · exact h
    · rw [List.getElem?_eq_none h] at hu; cases hu
  obtain ⟨b, o, x, An, cn, rfl, e, c1, c2, hn⟩ := hr j hj
  have ex : x = u := by have := e.out; rw [hu] at this; exact (Option.some.inj this).symm
  subst ex
  exact ⟨b, o, _, rfl, (hw _ _ _ c1).1, (hw _ _ _ c1).2, (hw _ _ _ c2).2, tasksK_of hn (hg x (List.mem_of_getElem? hu)) hw⟩
/-- USAGE. -/
theorem usageWn {us : List UnitD} {Ar A : Option Addr} {lr cr n cap : Nat} {w : World} {c : Frame} (hU : RU w (.slice A n cap) us) (hg : ∀ u ∈ us, GoodTs u.tasks) (hn : us.length ≤ 1000) (hdead : ∀ b, D b → ∃ ty fr, w.heap[b]? = some (.cells #[] ty fr))
    (hEnd : ∀ (w1 : World) (C : Nat) (cc : Array Value) (rs : Nat → Nat), w1.os = w.os → w1.output = w.output → (∀ b, b < w.heap.size → w1.heap[b]? = w.heap[b]?) → w.heap.size < w1.heap.size → (∃ ty fr, w1.heap[w.heap.size + 3]? = some (.cells #[] ty fr)) → w.heap.size ≤ C → C ≠ w.heap.size + 3 → w1.heap[C]? = some (.cells cc 55) → cc.size = n →
      (∀ i, i < n → cc[i]? = some (.slice (some ⟨rs i, 0, none⟩) 3 3) ∧ w.heap.size + 3 < rs i ∧ rs i < w1.heap.size ∧ w1.heap[rs i]? = some (.cells (rowU us i) 3)) →
      Wn (Try.prog) Post (fun b => D b ∨ b = w.heap.size + 3) (G (c.finish (.slice (some ⟨C, 0, none⟩) n n)) cs) w1) :
    Wn (Try.prog) Post D (G (Frame.enter (Try.prog) 36 #[.agg #[.slice Ar lr cr, .slice A n cap]] .normal) (c :: cs)) w := by
  have hDl : ∀ b, D b → b < w.heap.size := fun b hb => let ⟨_, _, e⟩ := hdead b hb; obj_ltU e
  have hf := unitsK_of (K := fun b => b < (frontW #[.slice Ar lr cr, .slice A n cap] n w).heap.size ∧ b ≠ w.heap.size + 1 ∧ ¬ D b) (wf := frontW #[.slice Ar lr cr, .slice A n cap] n w) hU hg (fun b o x hx => by
    have hb := World.block_lt_of_cell? w _ hx
    simp only at hb
    refine ⟨⟨by rw [frontW_size]; omega, by omega, fun hd => ?_⟩, ?_⟩
    · obtain ⟨ty, fr, e⟩ := hdead b hd
      simp [World.cell?, e] at hx
    · unfold World.cell? at hx ⊢
      simp only at hx ⊢
      rw [frontW_old _ _ _ hb]
      exact hx)
  obtain ⟨rfl, h1, h2, hUK⟩ := hf
  refine usageFront hn ?_
  refine usagePhase (us := us) (A := A) (cap := cap) (n := us.length) (C := w.heap.size + 1) (lB := w.heap.size + 2) (cB := w.heap.size) rfl rfl rfl rfl hn ⟨h1, h2⟩ (fun b hb => by have := hDl b hb; rw [frontW_size]; omega) (by rw [frontW_size]; omega) (fun hd => by have := hDl _ hd; omega)
    ⟨_, frontW_loads _ _ _, by simp [size_madeCells]⟩ hg ⟨⟨by omega, fun hd => by have := hDl _ hd; omega⟩, by simp [World.cell?, frontW_clus]⟩ ⟨⟨by omega, fun hd => by have := hDl _ hd; omega⟩, by simp [World.cell?, frontW_box]⟩ hUK ?_
  intro w1 e1 e2 e3 e4 e5 ⟨cc, rs, e6, e7, e8⟩ T' g1 g2
  rw [frontW_size] at e3 e4 e5 e8
  have hbox : w1.cell? ⟨w.heap.size + 2, 0, none⟩ = some (.slice (some ⟨w.heap.size + 1, 0, none⟩) us.length us.length) := by
    unfold World.cell?
    rw [e3 (w.heap.size + 2) (by omega) (by omega), frontW_box]
    rfl
  have := hEnd w1 (w.heap.size + 1) cc rs e1 e2 (fun b hb => (e3 b (by omega) (by omega)).trans (frontW_old _ _ _ hb)) (by omega) e4 (by omega) (by omega) e6 e7 (fun i hi => e8 i hi)
  rw [frontW_size]
  exact usageBack g1 g2 hbox this
end
end Go.Proofs.Ytcfpilkhjpegcaa

/- Drawn regions, beside goroutines that only leave. -/
namespace Go.Proofs.Ytcfpilkhjpegcaa
open Go Go.Conc Go.ConcN Go.RowKit

section
variable {P : Program} {Post : Value → World → Prop} {ops : Array Oper} {f : FuncId} {k : List Item} {cs : List Frame}

theorem Wn.unreP {D : Nat → Prop} {g : Goroutine} {w : World} {τ : Nat → Question → Nat} {d : Nat} (h : Wn P Post D g (w.re τ d)) : Wn P Post D g w := fun v gs sl t q hs => h v gs sl t q hs

/-- Into a region that asks the tape for its order. -/
theorem Wn.draw {D : Nat → Prop} (hm : P.follows .mixedOrders = true) {id : Nat} {tmps : Array Value} {w : World}
    (h : ∀ t, Wn P Post D (G ((base f).at ⟨tmps, []⟩ (.inRegion ops (Region.linearise .any ops t) :: k)) cs) w) :
    Wn P Post D (G ((base f).at ⟨tmps, []⟩ (.code (.region id ops true) :: k)) cs) w := by
  refine Wn.one rfl (tm_choose (P := P) (.order f id)) (fun t => G ((base f).at ⟨tmps, []⟩ (.inRegion ops (Region.linearise .any ops t) :: k)) cs) (fun u x u' es hr => ?_) fun τ d => ?_
  · have h1 : ((choose (.order f id) : Sem Nat)).runT P u #[] = (.ok (u.tape u.drawn (.order f id)) { u with drawn := u.drawn + 1 }, #[]) := by
      rfl
    rw [h1] at hr
    cases hr
    refine ⟨0, ?_⟩
    rw [stepG_region_draw, seen_none]
    simp only [Region.schedule, hm, if_true, Bool.true_or]
    rfl
  · refine ⟨τ d (.order f id), w.re τ (d + 1), ?_, (h _).re⟩
    simp [choose, Sem.run, Question.forced, Question.cut, World.re]

/-- Whatever order the tape picks: an invariant of what has come up so far. -/
theorem Wn.drawn (Inv : Array Bool → (Nat → Prop) → Array Value → World → Prop) (hback : (List.range ops.size).all (fun i => ((ops[i]?).map fun o => o.after.all fun e => decide (e.on < i)).getD true) = true)
    (step : ∀ (l : Array Bool) (D : Nat → Prop) (a : Array Value) (w : World) (i : Nat) (o : Oper) (rest : List Nat), l.size = ops.size → ops[i]? = some o → l.getD i true = false → (∀ e ∈ o.after, Region.binds .any e = true → l.getD e.on false = true) → Inv l D a w →
      (∀ D' a' w', Inv (l.setIfInBounds i true) D' a' w' → Wn P Post D' (G ((base f).at ⟨a', []⟩ (.inRegion ops rest :: k)) cs) w') → Wn P Post D (G ((base f).at ⟨a, []⟩ (.inRegion ops (i :: rest) :: k)) cs) w)
    (done : ∀ (l : Array Bool) (D : Nat → Prop) (a : Array Value) (w : World), l.size = ops.size → (∀ i, i < ops.size → l.getD i false = true) → Inv l D a w → Wn P Post D (G ((base f).at ⟨a, []⟩ (.inRegion ops [] :: k)) cs) w) :
    ∀ (fuel t : Nat) (l : Array Bool) (D : Nat → Prop) (a : Array Value) (w : World), l.size = ops.size → l.toList.count false = fuel → Inv l D a w → Wn P Post D (G ((base f).at ⟨a, []⟩ (.inRegion ops (Region.linearise.go .any ops fuel t l []) :: k)) cs) w := by
  have full : ∀ (l : Array Bool), l.size = ops.size → (∀ i, i < ops.size → l.getD i true = true) → ∀ i, i < ops.size → l.getD i false = true := fun l hl h i hi => by
    have := h i hi
    simpa [Array.getD, hl, hi] using this
  intro fuel
  induction fuel with
  | zero =>
    intro t l D a w hl hc hI
    rw [Region.linearise.go]
    refine done l D a w hl (full l hl fun i hi => ?_) hI
    have := List.count_eq_zero.1 hc
    cases hv : l.getD i true with
    | true => rfl
    | false =>
      refine absurd ?_ this
      have hlt : i < l.size := by omega
      have : l.toList[i]'(by simpa using hlt) = false := by simpa [Array.getD, hlt] using hv
      rw [← this]
      exact List.getElem_mem _
  | succ fuel ih =>
    intro t l D a w hl hc hI
    rw [Region.linearise.go]
    show Wn P Post D (G ((base f).at ⟨a, []⟩ (.inRegion ops (match (Region.ready .any ops l)[t % (Region.ready .any ops l).length]? with
      | some i => Region.linearise.go .any ops fuel (t / (Region.ready .any ops l).length) (l.setIfInBounds i true) [i]
      | none => [].reverse) :: k)) cs) w
    cases hi : (Region.ready .any ops l)[t % (Region.ready .any ops l).length]? with
    | none =>
      have hnil : Region.ready .any ops l = [] := by
        cases hr : Region.ready .any ops l with
        | nil => rfl
        | cons x xs =>
          rw [hr] at hi
          have hlt : t % (x :: xs).length < (x :: xs).length := Nat.mod_lt _ (by simp)
          simp at hi
          simp at hlt
          omega
      refine done l D a w hl (full l hl fun i => ?_) hI
      induction i using Nat.strongRecOn with
      | _ i ihi =>
        intro hlt
        cases hv : l.getD i true with
        | true => rfl
        | false =>
          have ho : ops[i]? = some ops[i] := Array.getElem?_eq_getElem hlt
          have : i ∈ Region.ready .any ops l := by
            rw [mem_ready]
            refine ⟨hv, ops[i], ho, fun e he _ => ?_⟩
            have hb := List.all_eq_true.1 hback i (List.mem_range.2 hlt)
            rw [ho] at hb
            obtain ⟨x, hx, rfl⟩ := Array.mem_iff_getElem.1 he
            have : (ops[i].after[x]).on < i := by
              simp only [Option.map_some, Option.getD_some, Array.all_eq_true, decide_eq_true_eq] at hb
              exact hb x hx
            have h1 := ihi _ this (by omega)
            have : (ops[i].after[x]).on < l.size := by omega
            simpa [Array.getD, this] using h1
          rw [hnil] at this
          cases this
    | some i =>
      obtain ⟨h0, o, ho, hall⟩ := mem_ready.1 (List.mem_of_getElem? hi)
      simp only []
      rw [linearise_go_acc, List.reverse_singleton, List.singleton_append]
      exact step l D a w i o (Region.linearise.go .any ops fuel (t / (Region.ready .any ops l).length) (l.setIfInBounds i true) []) hl ho h0 hall hI
        fun D' a' w' hI' => ih _ _ D' a' w' (by simpa using hl) (by have := count_set h0; omega) hI'
end
end Go.Proofs.Ytcfpilkhjpegcaa
