/- The program's worker, in company. -/
import Derived.Test.YtcfpilkhjpegcaaK60
namespace Go.Proofs.Ytcfpilkhjpegcaa
open Go Go.Conc Go.ConcN Go.RowKit Go.Conc.Lib Go.ConcR.Gen Go.ConcN.Gen
open Go.ConcR (DC0)

theorem TasksK.since {Wg C n : Nat} {K : Nat → Prop} {ci : Nat} {W0 W : Nat → Prop} {w0 w : World} {l : List (Nat × Array Value × TypeId)} {v : Value} {ts : List TaskD} (h : KR lk.tWg Wg C n K ci W0 w0 l W w) (hv : TasksK K w0 v ts) : TasksK K w v ts := by
  obtain ⟨A, c, e, h1, h2, hr⟩ := hv
  refine ⟨A, c, e, h1, h2, fun j t ht => ?_⟩
  obtain ⟨b, o, An, cn, g1, g2, g3, g4, bb, oo, cc, f1, f2, f3, f4, f5⟩ := hr j t ht
  exact ⟨b, o, An, cn, g1, g2, h.cell (.inl g2) g3, h.cell (.inl g2) g4, bb, oo, cc, f1, f2, f3, f4, fun j x hx => h.cell (.inl (f4.resolve_right id)) (f5 j x hx)⟩

noncomputable def botU : Frame := { (default : Frame) with fn := Try.prog.funcs.size, defers := [], mode := .panicking [goexitEntry] }
def callU (Wg uB lB iB : Nat) : Deferred := { target := .fn (.func 68) #[.pointer (some ⟨Wg, 0, none⟩), .pointer (some ⟨uB, 0, none⟩), .pointer (some ⟨lB, 0, none⟩), .pointer (some ⟨iB, 0, none⟩)], args := #[] }
noncomputable def bodyU : Code := Try.f68.body.getD .skip

/-- The worker's own way out, once Done has left. -/
theorem quitsU (T : Array Value) (k : List Item) : QuitsD Try.prog 2 0 (G { (baseD 68).at ⟨T, []⟩ k with mode := .returning } [botU]) := by
  refine QuitsD.ctl (g' := G botU []) rfl (fun w => ?_) ?_
  · simp [G, stepG, unwind, doReturn, results, Frame.at, baseD, botU, Try.func68, Try.f68, seen, GStep.after, goexitEntry]
  refine QuitsD.ctl (g' := { G botU [] with status := .finished }) rfl (fun w => ?_) ⟨rfl, rfl⟩
  simp [G, stepG, unwind, botU, goexitEntry, Frame.catches]
  rfl

theorem bornU (Wg uB lB iB : Nat) (w : World) : stepG Try.prog false (born Try.prog (callU Wg uB lB iB)) w =
    .go (G ((baseD 68).at ⟨#[.pointer (some ⟨Wg, 0, none⟩), .pointer (some ⟨uB, 0, none⟩), .pointer (some ⟨lB, 0, none⟩), .pointer (some ⟨iB, 0, none⟩), undef, undef, undef, undef, undef, undef], []⟩ [.code bodyU]) [botU]) w #[] := by
  simp [born, callU, stepG, unwind, callDeferred, invoke, callFunc, Try.func68, Try.f68, seen, GStep.after, G, Frame.enter, Frame.at, baseD, botU, bodyU]


section
variable {Wg C n : Nat} {K : Nat → Prop} {ci : Nat}
noncomputable def usageOps : Array Oper := opsOf (codeAt bodyU [1])

/-- From the region's end: out, and Done up to its release. -/
theorem outU {row : Nat → Array Value} {T : Array Value} {W : Nat → Prop} {w : World} {r : Value} (_hci : ci < n) (hF : WgLive lk.tWg Wg w ∧ Has C (ci + 1 - 1) r w) (hfin : FinU C row 3 ci W w) :
    GoesG Try.prog false (RWk lk.tWg Wg C n K ci) (DWk C n K ci) (Stop7 Try.prog lk.tWg Wg C n (FinU C row 3) ci) 30 W (G ((baseD 68).at ⟨T, [dcall 69 #[.pointer (some ⟨Wg, 0, none⟩)]]⟩ [.inRegion usageOps []]) [botU]) w := by
  have hgo : Goes Try.prog false (RW lk.tWg Wg C n 0 (ci + 1 - 1)) DC0 (AtR0 Try.prog lk.tWg Wg C n 0 (ci + 1) r) 30 (G ((baseD 68).at ⟨T, [dcall 69 #[.pointer (some ⟨Wg, 0, none⟩)]]⟩ [.inRegion usageOps []]) [botU]) w := by
    u_c stepG_region_end kn_rely hF
    u_c stepG_end kn_rely hF
    u_in kn_rely hF
    rw [stepG_unwind_enter rfl Try.func69 (nm_done lk) rfl]
    simp only [goes_go]
    refine ⟨by u_nil, ?_⟩
    walk_nrmf Try.f69
    have hA := @doneU _ lk Try.prog wgl Wg C n (ci + 1) r
    simp only [body_done, doneFn, Option.getD_some] at hA
    exact (hA rfl (quitsU _ _) _ hF).mono (by omega)
  refine GoesG.mono (fun W' g w ⟨e, f, s⟩ => ?_) (GoesG.of (R := RWk lk.tWg Wg C n K ci) (Dg := DWk C n K ci) (W := W) (R0 := RW lk.tWg Wg C n 0 (ci + 1 - 1)) (D0 := DC0) (F := FinU C row 3 ci W) (fun _ _ h => h.toRW) (fun _ _ h hf => finU_ok _ _ _ _ _ h hf) (fun _ _ _ h => ?_) hfin hgo)
  · obtain ⟨rfl, rfl⟩ := h
    exact ⟨DWk.idle, rfl, id⟩
  · subst e
    exact ⟨r, s, f⟩
end
end Go.Proofs.Ytcfpilkhjpegcaa

/- The program's worker, in company: its region. -/
namespace Go.Proofs.Ytcfpilkhjpegcaa
open Go Go.Conc Go.ConcN Go.RowKit Go.Conc.Lib

structure WSl (Wg uB lB iB : Nat) (a : Act) : Prop where
  defers : a.defers = [dcall 69 #[.pointer (some ⟨Wg, 0, none⟩)]]
  size : a.tmps.size = 10
  s1 : a.tmps.getD 1 undef = .pointer (some ⟨uB, 0, none⟩)
  s2 : a.tmps.getD 2 undef = .pointer (some ⟨lB, 0, none⟩)
  s3 : a.tmps.getD 3 undef = .pointer (some ⟨iB, 0, none⟩)
theorem WSl.put {Wg uB lB iB : Nat} {a : Act} (h : WSl Wg uB lB iB a) {t : Nat} (ht : 3 < t) (v : Value) : WSl Wg uB lB iB (a.put (some t) v) := by
  obtain ⟨h1, h2, h3, h4, h5⟩ := h
  refine ⟨h1, by simpa [Act.put] using h2, ?_, ?_, ?_⟩ <;> (simp only [Act.put]; rw [getD_setU _ (by omega)]; assumption)
def uval (C n ci uB : Nat) (v : Value) : Nat → Value
  | 0 => .slice (some ⟨C, 0, none⟩) n n
  | 1 => .int .i64 ci
  | 2 => .pointer (some ⟨uB, 1, none⟩)
  | 3 => v
  | 5 => .pointer (some ⟨C, ci, none⟩)
  | _ => undef

section
variable {Wg C n : Nat} {K : Nat → Prop} {ci : Nat}

theorem getD_mark {l : Array Bool} {i j : Nat} (h : i ≠ j) (d : Bool) : (l.setIfInBounds i true).getD j d = l.getD j d := by simp [Array.getD_eq_getD_getElem?, Array.getElem?_setIfInBounds_ne h]

set_option maxRecDepth 100000 in
set_option maxHeartbeats 8000000 in
theorem workRegion {row : Nat → Array Value} {v : Value} {ts : List TaskD} {uB lB iB : Nat} {W0 W : Nat → Prop} {w0 w : World} {a : Act}
    (hci : ci < n) (_hn : n ≤ 9223372036854775807) (hu : K uB ∧ w0.cell? ⟨uB, 1, none⟩ = some v) (hl : K lB ∧ w0.cell? ⟨lB, 0, none⟩ = some (.slice (some ⟨C, 0, none⟩) n n)) (hi : K iB ∧ w0.cell? ⟨iB, 0, none⟩ = some (.int .i64 ci))
    (hts : TasksK K w0 v ts) (hg : GoodTs ts) (hrow : row ci = ((loadL ts).map (Value.int .i64)).toArray) (hlive : WgLive lk.tWg Wg w0) (hpay : PayAt C n w0) (hCW : C ≠ Wg)
    (hS : WSl Wg uB lB iB a) (hF : (KR lk.tWg Wg C n K ci) W0 w0 [] W w) :
    (GoesG Try.prog false (RWk lk.tWg Wg C n K ci) (DWk C n K ci)) (Stop7 Try.prog lk.tWg Wg C n (FinU C row 3) ci) (30 + (61 + 300 * ts.length) * 7 + 1) W (G ((baseD 68).at a [.code (codeAt bodyU [1])]) [botU]) w := by
  have i1 : (ci : Int) < (n : Int) := by omega
  obtain ⟨hu1, cu⟩ := hu
  obtain ⟨hl1, cl⟩ := hl
  obtain ⟨hi1, ciB⟩ := hi
  have e : codeAt bodyU [1] = .region 1 usageOps true := by kernel_rfl
  rw [e]
  have hsz : usageOps.size = 7 := by kernel_rfl
  refine GoesG.draw (by kernel_rfl) (fun W w => DWk.draw W w) fun w₁ h₁ t => ?_
  replace hF := (hF.rely h₁).draw
  clear h₁ e
  let Inv : Array Bool → Act → (Nat → Prop) → World → Prop := fun l a W' w' => WSl Wg uB lB iB a ∧ (∀ j, j < 6 → j ≠ 4 → l.getD j false = true → a.tmps.getD (4 + j) undef = uval C n ci uB v j) ∧ (l.getD 6 false = true → ∀ j, j < 6 → l.getD j true = true) ∧
    ((l.getD 6 false = false ∧ ((l.getD 4 false = false ∧ (KR lk.tWg Wg C n K ci) W0 w0 [] W' w') ∨ (l.getD 4 false = true ∧ ∃ r, a.tmps.getD 8 undef = .slice (some ⟨r, 0, none⟩) 3 3 ∧ (KR lk.tWg Wg C n K ci) W0 w0 [(r, row ci, 3)] W' w'))) ∨
     (l.getD 6 false = true ∧ WgLive lk.tWg Wg w' ∧ ∃ r, Has C (ci + 1 - 1) r w' ∧ FinU C row 3 ci W' w'))
  have key := GoesG.drawn (P := Try.prog) (main := false) (R := RWk lk.tWg Wg C n K ci) (Dg := DWk C n K ci) (Stop := Stop7 Try.prog lk.tWg Wg C n (FinU C row 3) ci) (ops := usageOps) (b := baseD 68) (k := []) (cs := [botU]) Inv (61 + 300 * ts.length) 30 (by kernel_rfl) ?step ?done
  case done =>
    intro l a' W' w' hl hall ⟨hS', _, _, hc⟩
    rcases hc with ⟨h6, _⟩ | ⟨_, hlv, r, hh, hf⟩
    · rw [hall 6 (by omega)] at h6; cases h6
    · obtain ⟨T, ds⟩ := a'
      obtain ⟨rfl, _⟩ := hS'
      exact outU hci ⟨hlv, hh⟩ hf
  case step =>
    intro l a' W' w' i o rest n' hl ho h0 hdep ⟨hS', hv, h6, hc⟩ hnext
    have hi7 : i < 7 := by
      have := (Array.getElem?_eq_some_iff.1 ho).1
      omega
    have l6 : l.getD 6 false = false := by
      cases hx : l.getD 6 false with
      | false => rfl
      | true =>
        by_cases hi6 : i = 6
        · subst hi6
          have : 6 < l.size := by omega
          simp [Array.getD, this] at hx h0
          rw [h0] at hx; cases hx
        · have := h6 hx i (by omega)
          rw [h0] at this; cases this
    have hc' := hc.resolve_right fun x => by have := x.1; rw [l6] at this; cases this
    have hKR : ∃ rl, (KR lk.tWg Wg C n K ci) W0 w0 rl W' w' := hc'.2.elim (fun x => ⟨_, x.2⟩) fun ⟨_, r, _, x⟩ => ⟨_, x⟩
    have vstep : ∀ (x : Value), i < 6 → i ≠ 4 → x = uval C n ci uB v i → o.dst = some (4 + i) → Region.wanted o (yielded usageOps a'.tmps) = true →
        (∀ w₁, RWk lk.tWg Wg C n K ci W' w' w₁ → (execOp a'.eval o).run Try.prog w₁ = .ok (.value x) w₁) → (∀ w₁, RWk lk.tWg Wg C n K ci W' w' w₁ → ∀ e ∈ (execOp a'.eval o).events Try.prog w₁ #[], ∃ ad : Addr, e = ⟨.cell ad, false, false⟩ ∧ (K ad.block ∨ W' ad.block)) →
        (GoesG Try.prog false (RWk lk.tWg Wg C n K ci) (DWk C n K ci)) (Stop7 Try.prog lk.tWg Wg C n (FinU C row 3) ci) (n' + (61 + 300 * ts.length)) W' (G ((baseD 68).at a' (.inRegion usageOps (i :: rest) :: [])) [botU]) w' := by
      intro x hi hi4 hv' hd hw hr he
      refine GoesG.le (n := n' + 1) (by omega) (GoesG.value ho hw (by decide) hr he (hnext _ _ _ ⟨?_, ?_, ?_, .inl ⟨?_, ?_⟩⟩))
      · rw [hd]; exact hS'.put (by omega) x
      · intro j hj hj4 hl'
        rw [hd]
        simp only [Act.put]
        by_cases e : j = i
        · subst e; rw [getD_setU_same _ (by rw [hS'.size]; omega)]; exact hv'
        · rw [getD_setU _ (by omega)]
          exact hv j hj hj4 (by rwa [getD_mark (Ne.symm e)] at hl')
      · intro h
        rw [getD_mark (by omega), l6] at h; cases h
      · rw [getD_mark (by omega)]; exact l6
      · rw [getD_mark (show i ≠ 4 from hi4)]
        refine hc'.2.imp id fun ⟨h4, r, hr8, hk⟩ => ⟨h4, r, ?_, hk⟩
        rw [hd]
        simp only [Act.put]
        rw [getD_setU _ (by omega)]
        exact hr8
    have ho1 := ho
    have hi : i = 0 ∨ i = 1 ∨ i = 2 ∨ i = 3 ∨ i = 4 ∨ i = 5 ∨ i = 6 := by omega
    simp only [usageOps, bodyU, opsOf, codeAt, Try.f68, Option.getD_some] at ho1
    rcases hi with rfl | rfl | rfl | rfl | rfl | rfl | rfl <;> simp only [List.getElem?_toArray, List.getElem?_cons_zero, List.getElem?_cons_succ, Option.some.injEq] at ho1 <;> subst ho1
    · have e2 : a'.eval (.tmp 2) = .pointer (some ⟨lB, 0, none⟩) := hS'.s2
      generalize a'.eval = ev at e2 vstep
      refine vstep _ (by omega) (by omega) rfl rfl rfl (fun w₁ h₁ => ?_) (fun w₁ h₁ e he => ?_)
      · obtain ⟨rl, hk⟩ := hKR
        have c1 := (hk.rely h₁).cell (.inl hl1) cl
        (go_simp; try rfl)
      · obtain ⟨rl, hk⟩ := hKR
        have c1 := (hk.rely h₁).cell (.inl hl1) cl
        simp [go_sem, *] at he
        subst he
        exact ⟨_, rfl, .inl hl1⟩
    · have e3 : a'.eval (.tmp 3) = .pointer (some ⟨iB, 0, none⟩) := hS'.s3
      generalize a'.eval = ev at e3 vstep
      refine vstep _ (by omega) (by omega) rfl rfl rfl (fun w₁ h₁ => ?_) (fun w₁ h₁ e he => ?_)
      · obtain ⟨rl, hk⟩ := hKR
        have c1 := (hk.rely h₁).cell (.inl hi1) ciB
        (go_simp; try rfl)
      · obtain ⟨rl, hk⟩ := hKR
        have c1 := (hk.rely h₁).cell (.inl hi1) ciB
        simp [go_sem, *] at he
        subst he
        exact ⟨_, rfl, .inl hi1⟩
    · have e1 : a'.eval (.tmp 1) = .pointer (some ⟨uB, 0, none⟩) := hS'.s1
      generalize a'.eval = ev at e1 vstep
      refine vstep _ (by omega) (by omega) rfl rfl rfl (fun w₁ h₁ => ?_) (fun w₁ h₁ e he => ?_)
      · (go_simp; try rfl)
      · simp [go_sem, *] at he
    · have e6 : a'.eval (.tmp 6) = .pointer (some ⟨uB, 1, none⟩) := hv 2 (by omega) (by omega) (hdep { on := 2, ground := .data } (by simp) rfl)
      generalize a'.eval = ev at e6 vstep
      refine vstep _ (by omega) (by omega) rfl rfl rfl (fun w₁ h₁ => ?_) (fun w₁ h₁ e he => ?_)
      · obtain ⟨rl, hk⟩ := hKR
        have c1 := (hk.rely h₁).cell (.inl hu1) cu
        (go_simp; try rfl)
      · obtain ⟨rl, hk⟩ := hKR
        have c1 := (hk.rely h₁).cell (.inl hu1) cu
        simp [go_sem, *] at he
        subst he
        exact ⟨_, rfl, .inl hu1⟩
    · -- the call
      have e7 : a'.tmps.getD 7 undef = v := hv 3 (by omega) (by omega) (hdep { on := 3, ground := .data } (by simp) rfl)
      have l4 : l.getD 4 false = false := by
        have : 4 < l.size := by omega
        simpa [Array.getD, this] using h0
      have hk : (KR lk.tWg Wg C n K ci) W0 w0 [] W' w' := by
        rcases hc'.2 with x | x
        · exact x.2
        · have := x.1; rw [l4] at this; cases this
      refine GoesG.le (n := n' + 60 + 300 * ts.length) (by omega) ?_
      refine loadG (v := v) ho rfl (by decide) rfl (by simp only [List.map_toArray, List.map_cons, List.map_nil, Act.eval, e7]) (TasksK.since hk hts) hg hk.here fun r W1 w1 hF1 => ?_
      rw [← hrow] at hF1
      have hk1 := hk.call hF1
      refine hnext _ _ _ ⟨hS'.put (by omega) _, fun j hj hj4 hl' => ?_, fun h => ?_, .inl ⟨?_, .inr ⟨?_, r, ?_, by simpa using hk1⟩⟩⟩
      · simp only [Act.put]
        rw [getD_setU _ (by omega)]
        exact hv j hj hj4 (by rwa [getD_mark (Ne.symm hj4)] at hl')
      · rw [getD_mark (by omega), l6] at h; cases h
      · rw [getD_mark (by omega)]; exact l6
      · have : 4 < l.size := by omega
        simp [Array.getD, this]
      · simp only [Act.put]
        exact getD_setU_same _ (by rw [hS'.size]; omega)
    · have e4 : a'.eval (.tmp 4) = .slice (some ⟨C, 0, none⟩) n n := hv 0 (by omega) (by omega) (hdep { on := 0, ground := .data } (by simp) rfl)
      have e5 : a'.eval (.tmp 5) = .int .i64 ci := hv 1 (by omega) (by omega) (hdep { on := 1, ground := .data } (by simp) rfl)
      generalize a'.eval = ev at e4 e5 vstep
      refine vstep _ (by omega) (by omega) rfl rfl rfl (fun w₁ h₁ => ?_) (fun w₁ h₁ e he => ?_)
      · (go_simp; try rfl)
      · simp [go_sem, *] at he
    · -- the store
      have e9 : a'.eval (.tmp 9) = .pointer (some ⟨C, ci, none⟩) := hv 5 (by omega) (by omega) (hdep { on := 5, ground := .data } (by simp) rfl)
      have l4 : l.getD 4 false = true := hdep { on := 4, ground := .data } (by simp) rfl
      have hall : ∀ j, j < 6 → l.getD j true = true := by
        intro j hj
        have hh : l.getD j false = true := by
          have : j = 0 ∨ j = 1 ∨ j = 2 ∨ j = 3 ∨ j = 4 ∨ j = 5 := by omega
          rcases this with rfl | rfl | rfl | rfl | rfl | rfl
          · exact hdep { on := 0, ground := .phase } (by simp) rfl
          · exact hdep { on := 1, ground := .phase } (by simp) rfl
          · exact hdep { on := 2, ground := .phase } (by simp) rfl
          · exact hdep { on := 3, ground := .phase } (by simp) rfl
          · exact l4
          · exact hdep { on := 5, ground := .data } (by simp) rfl
        have : j < l.size := by omega
        simpa [Array.getD, this] using hh
      obtain ⟨r, e8, hk⟩ : ∃ r, a'.eval (.tmp 8) = .slice (some ⟨r, 0, none⟩) 3 3 ∧ (KR lk.tWg Wg C n K ci) W0 w0 [(r, row ci, 3)] W' w' := by
        rcases hc'.2 with x | x
        · have := x.1; rw [l4] at this; cases this
        · exact x.2
      refine GoesG.le (n := n' + 1) (by omega) (GoesG.step rfl fun w₁ h₁ => ?_)
      have hF1 := hk.rely h₁
      obtain ⟨cs, hp1, hp2⟩ := hF1.rel.pay hpay
      have hpc : w₁.cell? ⟨C, ci, none⟩ = some (cs[ci]'(by omega)) := by simp [World.cell?, hp1, show ci < cs.size by omega]
      have hpf : w₁.frozen? ⟨C, ci, none⟩ = false := by simp [World.frozen?, hp1]
      refine goes_oper_k ho rfl (by decide) (fun K' hK' => ?_)
      generalize hev : a'.eval = ev at e8 e9 ⊢
      go_simp
      refine hK' _ _ ⟨DWk.give (fun e he => ?_) ⟨cs, hp1, hp2⟩, ?_⟩
      · have hm := mem_listed he
        rw [hev] at hm
        simp [go_sem, storedEv, *] at hm
        exact hm
      have hA := aside_setCell w₁ ⟨C, ci, none⟩ (.slice (some ⟨r, 0, none⟩) 3 3)
      rw [grow_same hA.size]
      obtain ⟨g1, g2, g3⟩ := hF1.rows _ (List.mem_cons_self ..)
      have hrC : r ≠ C := (hF1.own g1).2.2.1
      have hcell : (w₁.setCell ⟨C, ci, none⟩ (.slice (some ⟨r, 0, none⟩) 3 3)).cell? ⟨C, ci, none⟩ = some (.slice (some ⟨r, 0, none⟩) 3 3) := by
        have := setCell_row (k := ci) (.slice (some ⟨r, 0, none⟩) 3 3) hp1
        simp [World.cell?, this, show ci < cs.size by omega]
      refine hnext _ _ _ ⟨hS', fun j hj hj4 hl' => hv j hj hj4 (by rwa [getD_mark (by omega)] at hl'), fun _ j hj => by rw [getD_mark (by omega)]; exact hall j hj, .inr ⟨?_, ?_, _, hcell, r, g2, hcell, (hA.block r hrC).trans g3⟩⟩
      · have : 6 < l.size := by omega
        simp [Array.getD, this]
      · obtain ⟨st, sm, hw⟩ := hF1.rel.live hlive
        exact ⟨st, sm, (hA.block Wg (Ne.symm hCW)).trans hw⟩
  have h7 : (Array.replicate 7 false).toList.count false = 7 := by decide
  have := key 7 t (Array.replicate 7 false) a W { w₁ with drawn := w₁.drawn + 1 } (by rw [hsz]; rfl) h7 ⟨hS, fun j hj _ h => ?_, fun h => ?_, .inl ⟨rfl, .inl ⟨rfl, hF⟩⟩⟩
  · unfold Region.linearise
    rw [hsz]
    exact this
  · exfalso
    revert h
    simp [Array.getD]
  · exfalso
    revert h
    simp [Array.getD]

set_option maxRecDepth 100000 in
/-- THE WORKER. -/
theorem workerG {row : Nat → Array Value} {v : Value} {ts : List TaskD} {uB lB iB : Nat} {w : World}
    (hci : ci < n) (hn : n ≤ 9223372036854775807) (hu : K uB ∧ w.cell? ⟨uB, 1, none⟩ = some v) (hl : K lB ∧ w.cell? ⟨lB, 0, none⟩ = some (.slice (some ⟨C, 0, none⟩) n n)) (hi : K iB ∧ w.cell? ⟨iB, 0, none⟩ = some (.int .i64 ci))
    (hts : TasksK K w v ts) (hg : GoodTs ts) (hrow : row ci = ((loadL ts).map (Value.int .i64)).toArray) (hlive : WgLive lk.tWg Wg w) (hpay : PayAt C n w) (hCW : C ≠ Wg) (hK : ∀ b, K b → b < w.heap.size) (hC : C < w.heap.size) (hWg : Wg < w.heap.size) :
    (GoesG Try.prog false (RWk lk.tWg Wg C n K ci) (DWk C n K ci)) (Stop7 Try.prog lk.tWg Wg C n (FinU C row 3) ci) (30 + (61 + 300 * ts.length) * 7 + 1 + 10) (fun _ => False) (born Try.prog (callU Wg uB lB iB)) w := by
  have hF : (KR lk.tWg Wg C n K ci) (fun _ => False) w [] (fun _ => False) w := KR.start (fun b hb => hK b (hb.resolve_right id)) hC hWg
  have hreg := fun (a : Act) (w1 : World) hS hF => workRegion (W0 := fun _ => False) (W := fun _ => False) (a := a) (w := w1) hci hn hu hl hi hts hg hrow hlive hpay hCW hS hF
  simp only [bodyU, codeAt, Try.f68, Option.getD_some] at hreg
  (refine GoesG.step rfl (fun _ hz₁ => ?_); replace hF := KR.rely hF hz₁; clear hz₁)
  rw [bornU]
  simp only [goes_go, grow_self, bodyU, Try.f68, Option.getD_some]
  refine ⟨DWk.idle, ?_⟩
  ((refine GoesG.step rfl (fun _ hz₁ => ?_); replace hF := KR.rely hF hz₁; clear hz₁); rw [stepG_seq]; simp only [goes_go, grow_self]; refine ⟨DWk.idle, ?_⟩)
  ((refine GoesG.step rfl (fun _ hz₁ => ?_); replace hF := KR.rely hF hz₁; clear hz₁); rw [stepG_region]; simp only [goes_go, grow_self, List.size_toArray, List.length_cons, List.length_nil, Nat.zero_add, List.range, List.range.loop]; refine ⟨DWk.idle, ?_⟩)
  ((refine GoesG.step rfl (fun _ hz₁ => ?_); replace hF := KR.rely hF hz₁; clear hz₁); rw [stepG_defer rfl rfl (by k_ne) rfl]; simp only [goes_go, grow_self]; refine ⟨DWk.idle, ?_⟩; walk_nrm)
  ((refine GoesG.step rfl (fun _ hz₁ => ?_); replace hF := KR.rely hF hz₁; clear hz₁); rw [stepG_region_end]; simp only [goes_go, grow_self]; refine ⟨DWk.idle, ?_⟩)
  exact (hreg _ _ ⟨rfl, rfl, rfl, rfl, rfl⟩ hF).le (by omega)
end
end Go.Proofs.Ytcfpilkhjpegcaa
