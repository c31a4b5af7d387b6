/- Workers that make memory of their own, and their starter: the starter's steps; the run to behind the join. -/
import Derived.Test.YtcfpilkhjpegcaaK56
namespace Go.Proofs.Ytcfpilkhjpegcaa
open Go Go.Conc Go.ConcN Go.Conc.Lib
open Go.ConcR (KK WgAt stA smA rd wr mk Payload DC0 Bk g_of_ofEvents ofEvent_mk)
variable [Payload]

section
variable {P : Program} {ty : TypeId} {Wg C n o N1 : Nat} {D : Nat → Prop} {Fin : Nat → (Nat → Prop) → World → Prop} {gR : Goroutine → Prop} {Anc : Goroutine → World → Prop} {v0 : World}
  {tag tag' : CTag} {j f0 f' d0 : Nat} {a a' : Goroutine} {w w' : World} {K W : Nat → Nat → Prop} {gs : Array Goroutine} {t : Trace} {Dw : Nat → WD} {sl : Option (Nat × Nat)} {st sm st' sm' : Int} {es : Array Event}


/-- Whatever step of the starter's that is no go statement. -/
theorem stepOf0 (hF : FinOk ty Wg C n Fin) (ha : gs[0]? = some a) (hcm : Cm P ty Wg C n o N1 D Fin v0 j gs w t Dw d0 K W) {W' : Nat → Nat → Prop} (hgo : stepG P true a w = .go a' w' es) (hW' : ∀ k, k ≠ 0 → W' k = W k)
    (hrw : ∀ i, i < j → o ≤ i → RWk ty Wg C n (K (i + 1)) (i - o) (W (i + 1)) w w')
    (htr : TrI D Wg C o K W' j w'.heap.size (t ++ MemOp.ofEvents 0 a.frame.fn a.frame.place es)) (hgeo : Geom D Wg C N1 K W' w'.heap.size) (hpay : PayAt C n w') (hfr : Fr Wg C N1 v0 w')
    (hcs' : CS P ty Wg C n o Fin gR Anc tag' j f' (deafBehind d0 es) (K 0) (W' 0) a' w') (hwg : WgAt ty Wg w' st' sm') (hmode : Go.ConcN.Mode j Dw tag' st' sm')
    (hacq : tag' = .ret → AcqO Wg o j (t ++ MemOp.ofEvents 0 a.frame.fn a.frame.place es))
    (hlt : phi (o + n) (Vc j Dw) tag' < phi (o + n) (Vc j Dw) tag ∨ (phi (o + n) (Vc j Dw) tag' = phi (o + n) (Vc j Dw) tag ∧ f' < f0)) : (Lower (InvU P ty Wg C n o N1 D Fin gR Anc v0) (phi (o + n) (Vc j Dw) tag + Ssum j Dw, f0 + 2 * Fsum j Dw) (runT P (crowd gs w sl) 0) t) := by
  have hrun := runT_crowd_go (P := P) (sl := sl) (i := 0) ha (by simpa using hgo)
  refine ⟨_, _, (phi (o + n) (Vc j Dw) tag' + Ssum j Dw, f' + 2 * Fsum j Dw), hrun, ?_,
    _, w', sl, j, Dw, tag', f', deafBehind d0 es, a', st', sm', K, W', rfl, get_map_set_same _ _ _ (by rw [hcm.size]; omega), hcs', hcm.step0 hF hW' hrw htr hgeo hpay hfr, hwg, hmode, hacq, rfl⟩
  rcases hlt with h | ⟨h1, h2⟩
  · exact Prod.Lex.left _ _ (by omega)
  · rw [h1]; exact Prod.Lex.right _ (by omega)

/-- Its own. -/
theorem idle0 (hF : FinOk ty Wg C n Fin) (ha : gs[0]? = some a) (hcm : Cm P ty Wg C n o N1 D Fin v0 j gs w t Dw d0 K W) (hwg : WgAt ty Wg w st sm) (hmode : Go.ConcN.Mode j Dw tag st sm) (hacq : tag = .ret → AcqO Wg o j t)
    (hgo : stepG P true a w = .go a' w' es) (hd : D0 Wg (K 0) (W 0) w w' es) (hcs' : CS P ty Wg C n o Fin gR Anc tag j f' d0 (K 0) (grow (W 0) w w') a' w') (hf : f' < f0) : (Lower (InvU P ty Wg C n o N1 D Fin gR Anc v0) (phi (o + n) (Vc j Dw) tag + Ssum j Dw, f0 + 2 * Fsum j Dw) (runT P (crowd gs w sl) 0) t) := by
  obtain ⟨h1, h2, h3, h4, h5, h6⟩ := hcm.own0 (fn := a.frame.fn) (pos := a.frame.place) hd
  obtain ⟨cs, hc1, hc2⟩ := hcm.pay
  have hdf : deafBehind d0 es = d0 := deafBehind_idle (fun e he => (hd.evs e he).elim (fun x => x.idle) fun ⟨ad, _, x⟩ => by rcases x with rfl | rfl <;> simp) d0
  exact stepOf0 hF ha hcm hgo (fun k hk => upd_ne W _ hk) h1 h2 h3 ⟨cs, h6.trans hc1, hc2⟩ h4 (by rw [hdf, upd_same]; exact hcs') (hwg.of_block h5) hmode (fun e => (hacq e).app fun i r _ hr => hr.appOther g_of_ofEvents (by omega)) (.inr ⟨rfl, hf⟩)

/-- The library's bookkeeping, by the starter. -/
theorem book0 (hF : FinOk ty Wg C n Fin) (ha : gs[0]? = some a) (hcm : Cm P ty Wg C n o N1 D Fin v0 j gs w t Dw d0 K W)
    (hgo : stepG P true a w = .go a' w' es) (hA : Aside Wg w w') (hwg' : WgAt ty Wg w' st' sm') (hbk : ∀ e ∈ es, Bk Wg e) (hcs' : CS P ty Wg C n o Fin gR Anc tag' j f' (deafBehind d0 es) (K 0) (W 0) a' w')
    (hmode' : Go.ConcN.Mode j Dw tag' st' sm') (hne : tag' ≠ .ret) (hlt : phi (o + n) (Vc j Dw) tag' < phi (o + n) (Vc j Dw) tag ∨ (phi (o + n) (Vc j Dw) tag' = phi (o + n) (Vc j Dw) tag ∧ f' < f0)) : (Lower (InvU P ty Wg C n o N1 D Fin gR Anc v0) (phi (o + n) (Vc j Dw) tag + Ssum j Dw, f0 + 2 * Fsum j Dw) (runT P (crowd gs w sl) 0) t) := by
  obtain ⟨h1, _, h3, h4, h5, h7⟩ := hcm.book (k := 0) (Nat.zero_le _) (fn := a.frame.fn) (pos := a.frame.place) hA ⟨_, _, hwg'⟩ hbk (fun h => absurd rfl h)
  exact stepOf0 hF ha hcm hgo (fun _ _ => rfl) h1 h3 h4 h7 h5 hcs' hwg' hmode' (fun e => absurd e hne) hlt

/-- The load in Wait. -/
theorem w1U (hF : FinOk ty Wg C n Fin) (hn : n < 2147483648) (ha : gs[0]? = some a) {Dw : Nat → WD} (hcm : Cm P ty Wg C n o N1 D Fin v0 (o + n) gs w t Dw 1 K W) (hwg : WgAt ty Wg w st sm) (hmode : Go.ConcN.Mode (o + n) Dw .w1 st sm)
    (h : GoesG P true (R0 ty Wg C n (K 0)) (D0 Wg (K 0)) (VW1 P ty Wg C n gR Anc (K 0)) f0 (W 0) a w) :
    Lower (InvU P ty Wg C n o N1 D Fin gR Anc v0) (phi (o + n) (Vc (o + n) Dw) .w1 + Ssum (o + n) Dw, f0 + 2 * Fsum (o + n) Dw) (runT P (crowd gs w sl) 0) t := by
  rcases GoesG.cases h with hstop | ⟨m', rfl, hstep⟩
  · obtain ⟨_, hall⟩ := hstop w (.refl w)
    obtain ⟨ho, rfl, rfl, _⟩ := hmode.open_inv trivial
    have hV := hcm.vc (Nat.le_add_right o n)
    obtain ⟨a', hgo, h0, hne⟩ := hall (Vc (o + n) Dw) (by omega) (by simpa [pend] using hwg)
    by_cases hv : Vc (o + n) Dw = 0
    · obtain ⟨m₂, hk⟩ := h0 hv
      refine book0 hF ha hcm hgo (.refl Wg w) hwg bk_rd (tag' := .ke) (.ke hk) ?_ (by simp) (.inl (by simp only [phi]; omega))
      have e : ((Vc (o + n) Dw + pend .w1 : Nat) : Int) * KK = 0 := by rw [hv]; simp [pend]
      rw [e]
      exact .fin trivial (allQuit_of ho hv)
    · obtain ⟨m₂, hk⟩ := hne hv
      exact book0 hF ha hcm hgo (.refl Wg w) hwg bk_rd (tag' := .w2 (Vc (o + n) Dw)) (.w2 hk) (hmode.reopen trivial trivial rfl (fun vs e => by cases e; omega)) (by simp) (.inl (by simp only [phi]; omega))
  · obtain ⟨a', w', es, hgo, hD, hg'⟩ := hstep w (.refl w)
    exact idle0 hF ha hcm hwg hmode (by simp) hgo hD (.w1 hg') (by omega)

/-- The go statement. -/
theorem Cm.spawn (_hF : FinOk ty Wg C n Fin) (h : Cm P ty Wg C n o N1 D Fin v0 j gs w t Dw 0 K W) (hoj : o ≤ j) {child : Goroutine} {x y : MemOp} {m : Nat} (hx : x.g = 0 ∧ x.act = .go (j + 1)) (hy : y.g = j + 1 ∧ y.act = .start)
    (hc : GoesG P false (RWk ty Wg C n (fun b => K 0 b ∨ W 0 b) (j - o)) (DWk C n (fun b => K 0 b ∨ W 0 b) (j - o)) (Stop7 P ty Wg C n Fin (j - o)) m (fun _ => False) child w) :
    Cm P ty Wg C n o N1 D Fin v0 (j + 1) ((gs.setIfInBounds 0 a').push child) w (t ++ #[x, y]) (upd Dw j ⟨7, m, 0⟩) 0 (upd (upd K (j + 1) (fun b => K 0 b ∨ W 0 b)) 0 (fun b => K 0 b ∨ W 0 b)) (upd W 0 fun _ => False) := by
  have G := h.geo
  have hm : ∀ op ∈ #[x, y], op = x ∨ op = y := by intro op hop; simpa using hop
  have hst : ∀ op ∈ #[x, y], op.act ≠ .mark .disable ∧ op.act ≠ .mark .enable := by
    intro op hop
    rcases hm op hop with rfl | rfl
    · rw [hx.2]; exact ⟨by simp, by simp⟩
    · rw [hy.2]; exact ⟨by simp, by simp⟩
  have htn : ∀ op ∈ #[x, y], op.act.touch? = none := by
    intro op hop
    rcases hm op hop with rfl | rfl
    · rw [hx.2]; rfl
    · rw [hy.2]; rfl
  have oldW : ∀ k b, upd W 0 (fun _ => False) k b → k ≠ 0 ∧ W k b := fun k b hb => by
    by_cases e : k = 0
    · subst e; rw [upd_same] at hb; exact hb.elim
    · rw [upd_ne W _ e] at hb; exact ⟨e, hb⟩
  have oldK : ∀ k b, upd (upd K (j + 1) (fun b => K 0 b ∨ W 0 b)) 0 (fun b => K 0 b ∨ W 0 b) k b → K k b ∨ K 0 b ∨ W 0 b := fun k b hb => by
    by_cases e : k = 0
    · subst e; rw [upd_same] at hb; exact .inr hb
    · rw [upd_ne _ _ e] at hb
      by_cases e' : k = j + 1
      · subst e'; rw [upd_same] at hb; exact .inr hb
      · rw [upd_ne _ _ e'] at hb; exact .inl hb
  have hK0 : ∀ b, K 0 b ∨ W 0 b → b < w.heap.size ∧ b ≠ C ∧ ¬ D b := fun b hb => hb.elim (G.rd 0 b) fun x => ⟨(G.own 0 b x).2, G.neC x, G.notD x⟩
  have G' : Geom D Wg C N1 (upd (upd K (j + 1) (fun b => K 0 b ∨ W 0 b)) 0 (fun b => K 0 b ∨ W 0 b)) (upd W 0 fun _ => False) w.heap.size :=
    ⟨G.le, G.hC, G.hCD, G.hWg, G.dead, fun k b hb => G.own k b (oldW k b hb).2, fun k b hb => (oldK k b hb).elim (G.rd k b) (hK0 b), fun k k' b h1 h2 => G.apart k k' b (oldW k b h1).2 (oldW k' b h2).2, fun k k' b h1 h2 => by
      obtain ⟨hk, h1⟩ := oldW k b h1
      rcases oldK k' b h2 with h2 | h2 | h2
      · exact G.ownRd _ _ _ h1 h2
      · exact G.ownRd _ _ _ h1 h2
      · exact hk (G.apart _ _ _ h1 h2)⟩
  have Kle : ∀ k, 1 ≤ k → k ≤ j → upd (upd K (j + 1) (fun b => K 0 b ∨ W 0 b)) 0 (fun b => K 0 b ∨ W 0 b) k = K k := fun k k1 kj => by rw [upd_ne _ _ (by omega), upd_ne _ _ (by omega)]
  have Wle : ∀ k, 1 ≤ k → upd W 0 (fun _ => False) k = W k := fun k k1 => upd_ne W _ (by omega)
  have hct : CT (Sh D) (OwnF o C (upd W 0 fun _ => False)) (RdF (upd (upd K (j + 1) (fun b => K 0 b ∨ W 0 b)) 0 (fun b => K 0 b ∨ W 0 b))) t j :=
    CT.change h.tr.ct (fun k l k1 kj ⟨ad, e, x⟩ => .inl ⟨ad, e, by rw [Wle k k1] at x; exact x⟩) (fun k l k1 kj ⟨ad, e, x⟩ => ⟨ad, e, by rw [Kle k k1 kj] at x; exact x⟩) (fun k l k1 kj ⟨ad, e, x⟩ => ⟨ad, e, by rw [Wle k k1]; exact x⟩) (fun k l k1 kj ⟨ad, e, x⟩ => ⟨ad, e, by rw [Kle k k1 kj]; exact x⟩)
  refine ⟨by simp [h.size], fun i hi => ?_, ⟨hct.fork (G'.apartF o) hx hy h.deaf0, h.tr.norel.app fun op hop => ?_, fun op hop => ?_, fun op hop z hz => ?_, fun i z hz hk => ?_, ?_⟩, G', by rw [Deaf_still t 0 _ hst, h.deaf0], fun i hi => ?_, fun i hi ho hs => ?_, h.pay, h.fr, fun k hk b => ?_⟩
  · rcases Nat.lt_or_ge i j with hlt | hge
    · obtain ⟨g, hg, hsg⟩ := h.wk i hlt
      refine ⟨g, ?_, by rw [upd_ne Dw _ (by omega), Kle (i + 1) (by omega) (by omega), Wle (i + 1) (by omega)]; exact hsg⟩
      rw [Array.getElem?_push_lt (by simp [h.size]; omega), ← Array.getElem?_eq_getElem, Array.getElem?_setIfInBounds_ne (by omega)]
      exact hg
    · obtain rfl : i = j := by omega
      have e0 : i + 1 - 1 - o = i - o := by omega
      have eW : W (i + 1) = fun _ => False := by
        funext b
        exact eq_false (h.rest (i + 1) (by omega) b).1
      refine ⟨child, ?_, by rw [upd_same, upd_ne _ _ (by omega), upd_same, Wle (i + 1) (by omega), eW]; exact .work (by omega) (by rw [e0]; exact hc)⟩
      rw [show i + 1 = (gs.setIfInBounds 0 a').size by simp [h.size], Array.getElem?_push_size]
  · rcases hm op hop with rfl | rfl
    · rw [hx.2]; simp
    · rw [hy.2]; simp
  · rcases Array.mem_append.1 hop with h' | h'
    · exact h.tr.seen op h'
    · rcases hm op h' with rfl | rfl
      · rw [hx.2]; trivial
      · rw [hy.2]; trivial
  · rcases Array.mem_append.1 hop with h' | h'
    · exact h.tr.mem op h' z hz
    · rw [htn op h'] at hz; cases hz
  · obtain ⟨op, ho, hox⟩ := touch_of hz
    rcases getElem?_append_cases ho with ⟨_, ho'⟩ | ⟨_, hou⟩
    · exact (h.tr.atom i z (by rw [touchAt_of ho']; exact hox) hk).imp (fun x => x.app _) id
    · rw [htn op hou] at hox; cases hox
  · obtain ⟨t0, u, rfl, h0, hu⟩ := h.tr.pre
    refine ⟨t0, u ++ #[x, y], by rw [Array.append_assoc], h0, fun op hop hg hog => ?_⟩
    rcases Array.mem_append.1 hop with h' | h'
    · exact hu op h' hg hog
    · exact htn op h'
  · rw [Deaf_still t _ _ hst]
    rcases Nat.lt_or_ge i j with hlt | hge
    · rw [h.deafW i hlt, upd_ne Dw _ (by omega)]
    · obtain rfl : i = j := by omega
      rw [upd_same]
      exact Deaf_absent fun a op ha e => by have := h.tr.ct.gs a op ha; omega
  · rcases Nat.lt_or_ge i j with hlt | hge
    · rw [upd_ne Dw _ (by omega)] at hs
      obtain ⟨r, hr⟩ := h.rel i hlt ho hs
      refine ⟨r, hr.appNot fun op hop => ?_⟩
      rcases hm op hop with rfl | rfl
      · rw [hx.1]; omega
      · rw [hy.1]; omega
    · obtain rfl : i = j := by omega
      rw [upd_same] at hs
      simp at hs
  · rw [upd_ne _ _ (show k ≠ 0 by omega), upd_ne _ _ (show k ≠ 0 by omega), upd_ne _ _ (show k ≠ j + 1 by omega)]
    exact h.rest k (by omega) b

/-- The starter has come behind the join. -/
def Back (P : Program) (ty : TypeId) (Wg C n _o N1 : Nat) (D : Nat → Prop) (Fin : Nat → (Nat → Prop) → World → Prop) (gR : Goroutine → Prop) (v0 : World) (m : Machine) (t : Trace) : Prop :=
  ∃ gs w sl q aR, m = crowd gs w sl ∧ gs[0]? = some aR ∧ gR aR ∧ FmL P D gs w t q ∧ PayAt C n w ∧ Fr Wg C N1 v0 w ∧ (∃ st sm, WgAt ty Wg w st sm) ∧ N1 ≤ w.heap.size ∧
    ∃ W : Nat → Nat → Prop, (∀ k b, W k b → N1 ≤ b ∧ b < w.heap.size) ∧ (∀ k k' b, W k b → W k' b → k = k') ∧ ∀ i, i < n → Fin i (W i) w

set_option maxHeartbeats 1600000 in
theorem starterU (hF : FinOk ty Wg C n Fin) (hn : n < 2147483648)
    (hAn : ∀ (K W : Nat → Prop) g w, Anc g w → ∃ m, GoesG P true (R0 ty Wg C n K) (D0 Wg K) (VW1 P ty Wg C n gR Anc K) m W g w)
    (ha : gs[0]? = some a) (hcs : CS P ty Wg C n o Fin gR Anc tag j f0 d0 (K 0) (W 0) a w) (hcm : Cm P ty Wg C n o N1 D Fin v0 j gs w t Dw d0 K W) (hwg : WgAt ty Wg w st sm) (hmode : Go.ConcN.Mode j Dw tag st sm)
    (hacq : tag = .ret → AcqO Wg o j t) (hrun : a.status = .running) : (tag = .ret ∧ gR a) ∨ (Lower (InvU P ty Wg C n o N1 D Fin gR Anc v0) (phi (o + n) (Vc j Dw) tag + Ssum j Dw, f0 + 2 * Fsum j Dw) (runT P (crowd gs w sl) 0) t) := by
  have hVj := hcm.vc hcs.oj
  generalize hK0 : K 0 = k0 at hcs
  generalize hW0 : W 0 = w0 at hcs
  cases hcs with
  | skd hr h =>
    rcases GoesG.cases h with hstop | ⟨m', rfl, hstep⟩
    · obtain ⟨_, a', hgo, m₂, hk⟩ := hstop w (.refl w)
      subst hK0 hW0
      exact .inr (book0 hF ha hcm hgo (.refl Wg w) hwg bk_dis (.sa1 hr hk) (hmode.reopen trivial trivial rfl (by simp)) (by simp) (.inl (by simp only [phi]; omega)))
    · obtain ⟨a', w', es, hgo, hD, hg'⟩ := hstep w (.refl w)
      subst hK0 hW0
      exact .inr (idle0 hF ha hcm hwg hmode (by simp) hgo hD (.skd hr hg') (by omega))
  | @sa1 r _ _ _ _ _ hr h =>
    rcases GoesG.cases h with hstop | ⟨m', rfl, hstep⟩
    · obtain ⟨_, hall⟩ := hstop w (.refl w)
      obtain ⟨ho, rfl, rfl, _⟩ := hmode.open_inv trivial
      obtain ⟨a', hgo, m₂, hk⟩ := hall (Vc (o + (n - (r + 1))) Dw) (by omega) (by simpa [pend] using hwg)
      subst hK0 hW0
      refine .inr (book0 hF ha hcm hgo (aside_setCell w (stA Wg) _) (hwg.setSt _) bk_rw (.ske hr hk) ?_ (by simp) (.inl (by simp only [phi]; omega)))
      have e : (((Vc (o + (n - (r + 1))) Dw : Nat) : Int) + 1) * KK = ((Vc (o + (n - (r + 1))) Dw + pend (.sp r 3) : Nat) : Int) * KK := by simp [pend]
      rw [e]
      exact .opn trivial ho (by simp)
    · obtain ⟨a', w', es, hgo, hD, hg'⟩ := hstep w (.refl w)
      subst hK0 hW0
      exact .inr (idle0 hF ha hcm hwg hmode (by simp) hgo hD (.sa1 hr hg') (by omega))
  | ske hr h =>
    rcases GoesG.cases h with hstop | ⟨m', rfl, hstep⟩
    · obtain ⟨_, a', hgo, m₂, hk⟩ := hstop w (.refl w)
      subst hK0 hW0
      exact .inr (book0 hF ha hcm hgo (.refl Wg w) hwg bk_en (.sgo hr hk) (hmode.reopen trivial trivial rfl (by simp)) (by simp) (.inl (by simp only [phi]; omega)))
    · obtain ⟨a', w', es, hgo, hD, hg'⟩ := hstep w (.refl w)
      subst hK0 hW0
      exact .inr (idle0 hF ha hcm hwg hmode (by simp) hgo hD (.ske hr hg') (by omega))
  | @sgo r _ _ _ _ _ hr h =>
    rcases GoesG.cases h with hstop | ⟨m', rfl, hstep⟩
    · obtain ⟨_, a', child, hsp, _, hwk0, hnext⟩ := hstop w (.refl w)
      obtain ⟨m₂, hwk⟩ := hwk0 hcm.pay
      obtain ⟨ho, rfl, rfl, _⟩ := hmode.open_inv trivial
      have hrun' := runT_crowd_spawn (P := P) (sl := sl) (i := 0) ha (by simpa using hsp)
      rw [hcm.size] at hrun'
      subst hK0 hW0
      have eci : o + (n - (r + 1)) - o = n - (r + 1) := by omega
      have hcm' := hcm.spawn hF (by omega) (a' := a') (x := { g := 0, fn := a.frame.fn, pos := a.frame.place, act := .go (o + (n - (r + 1)) + 1) }) (y := { g := o + (n - (r + 1)) + 1, fn := child.frame.fn, pos := a.frame.place, act := .start }) ⟨rfl, rfl⟩ ⟨rfl, rfl⟩ (by rw [eci]; exact hwk)
      have eV : Vc (o + (n - (r + 1)) + 1) (upd Dw (o + (n - (r + 1))) ⟨7, m₂, 0⟩) = Vc (o + (n - (r + 1))) Dw + 1 := by
        simp only [Vc, sumTo, upd_same]
        rw [sumTo_upd_out Dw _ cnt (Nat.le_refl _)]; rfl
      have eS : Ssum (o + (n - (r + 1)) + 1) (upd Dw (o + (n - (r + 1))) ⟨7, m₂, 0⟩) = Ssum (o + (n - (r + 1))) Dw + 7 := by
        simp only [Ssum, sumTo, upd_same]
        rw [sumTo_upd_out Dw _ WD.stage (Nat.le_refl _)]
      have ho' : OpenSt (o + (n - (r + 1)) + 1) (upd Dw (o + (n - (r + 1))) ⟨7, m₂, 0⟩) := fun i hi => by
        by_cases e : i = o + (n - (r + 1))
        · subst e; rw [upd_same]; simp
        · rw [upd_ne Dw _ e]; exact ho i (by omega)
      have ha' : ((gs.setIfInBounds 0 a').push child)[0]? = some a' := by
        rw [Array.getElem?_push_lt (by simp [hcm.size]), ← Array.getElem?_eq_getElem]
        simp [hcm.size]
      have ej : o + (n - (r + 1)) + 1 = o + (n - r) := by omega
      have est : ∀ tag', pend tag' = 0 → ((Vc (o + (n - (r + 1))) Dw + pend (.sp r 2) : Nat) : Int) * KK = ((Vc (o + (n - r)) (upd Dw (o + (n - (r + 1))) ⟨7, m₂, 0⟩) + pend tag' : Nat) : Int) * KK := fun tag' hp => by rw [← ej, eV, hp]; simp [pend]
      rw [ej] at hrun' hcm' eV eS ho'
      have eK0 : upd (upd K (o + (n - r)) (fun b => K 0 b ∨ W 0 b)) 0 (fun b => K 0 b ∨ W 0 b) 0 = fun b => K 0 b ∨ W 0 b := upd_same _ _ _
      cases r with
      | zero =>
        obtain ⟨m₃, hk⟩ := hnext
        simp only [Nat.sub_zero] at hrun' hcm' eV eS ho' est eK0
        refine .inr ⟨_, _, (phi (o + n) (Vc (o + n) (upd Dw (o + (n - (0 + 1))) ⟨7, m₂, 0⟩)) .kd + Ssum (o + n) (upd Dw (o + (n - (0 + 1))) ⟨7, m₂, 0⟩), m₃ + 2 * Fsum (o + n) (upd Dw (o + (n - (0 + 1))) ⟨7, m₂, 0⟩)), hrun', Prod.Lex.left _ _ (by simp only [phi]; omega),
          _, w, sl, o + n, _, .kd, m₃, 0, a', _, _, _, _, rfl, ha', by rw [eK0, upd_same]; exact .kd hk, hcm', hwg, ?_, by simp, rfl⟩
        rw [est .kd rfl]
        exact .opn trivial ho' (by simp)
      | succ r' =>
        obtain ⟨m₃, hk⟩ := hnext
        refine .inr ⟨_, _, (phi (o + n) (Vc (o + (n - (r' + 1))) (upd Dw (o + (n - (r' + 1 + 1))) ⟨7, m₂, 0⟩)) (.sp r' 5) + Ssum (o + (n - (r' + 1))) (upd Dw (o + (n - (r' + 1 + 1))) ⟨7, m₂, 0⟩), m₃ + 2 * Fsum (o + (n - (r' + 1))) (upd Dw (o + (n - (r' + 1 + 1))) ⟨7, m₂, 0⟩)), hrun', Prod.Lex.left _ _ (by simp only [phi]; omega),
          _, w, sl, o + (n - (r' + 1)), _, .sp r' 5, m₃, 0, a', _, _, _, _, rfl, ha', by rw [eK0, upd_same]; exact .skd (by omega) hk, hcm', hwg, ?_, by simp, rfl⟩
        rw [est (.sp r' 5) rfl]
        exact .opn trivial ho' (by simp)
    · obtain ⟨a', w', es, hgo, hD, hg'⟩ := hstep w (.refl w)
      subst hK0 hW0
      exact .inr (idle0 hF ha hcm hwg hmode (by simp) hgo hD (.sgo hr hg') (by omega))
  | kd h =>
    rcases GoesG.cases h with hstop | ⟨m', rfl, hstep⟩
    · obtain ⟨_, a', hgo, m₂, hk⟩ := hstop w (.refl w)
      subst hK0 hW0
      exact .inr (book0 hF ha hcm hgo (.refl Wg w) hwg bk_dis (.anch hk) (hmode.reopen trivial trivial rfl (by simp)) (by simp) (.inl (by simp only [phi]; omega)))
    · obtain ⟨a', w', es, hgo, hD, hg'⟩ := hstep w (.refl w)
      subst hK0 hW0
      exact .inr (idle0 hF ha hcm hwg hmode (by simp) hgo hD (.kd hg') (by omega))
  | anch h =>
    rcases GoesG.cases h with hstop | ⟨m', rfl, hstep⟩
    · obtain ⟨m₂, hk⟩ := hAn (K 0) (W 0) a w (hstop w (.refl w))
      obtain ⟨m₁, ops, μ', h1, h2, h3⟩ := w1U (sl := sl) hF hn ha hcm hwg (hmode.reopen trivial trivial rfl (by simp)) hk
      exact .inr ⟨m₁, ops, μ', h1, lt2_trans h2 (Prod.Lex.left _ _ (by simp only [phi]; omega)), h3⟩
    · obtain ⟨a', w', es, hgo, hD, hg'⟩ := hstep w (.refl w)
      subst hK0 hW0
      exact .inr (idle0 hF ha hcm hwg hmode (by simp) hgo hD (.anch hg') (by omega))
  | w1 h =>
    subst hK0 hW0
    exact .inr (w1U hF hn ha hcm hwg hmode h)
  | @w2 vs _ _ _ _ _ h =>
    rcases GoesG.cases h with hstop | ⟨m', rfl, hstep⟩
    · obtain ⟨_, hall⟩ := hstop w (.refl w)
      obtain ⟨ho, rfl, rfl, hw2⟩ := hmode.open_inv trivial
      obtain ⟨hle, h1⟩ := hw2 vs rfl
      obtain ⟨hhit, hmiss⟩ := hall (Vc (o + n) Dw) (by omega) (by simpa [pend] using hwg)
      subst hK0 hW0
      by_cases e : Vc (o + n) Dw = vs
      · obtain ⟨a', hgo, m₂, hk⟩ := hhit e
        exact .inr (book0 hF ha hcm hgo (aside_setCell w (stA Wg) _) (hwg.setSt _) bk_rw (.w3 hk) (.reg trivial ho (by omega)) (by simp) (.inl (by simp only [phi]; omega)))
      · obtain ⟨a', hgo, m₂, hk⟩ := hmiss e
        exact .inr (book0 hF ha hcm hgo (.refl Wg w) hwg bk_rd (.anch hk) (hmode.reopen trivial trivial rfl (by simp)) (by simp) (.inl (by simp only [phi]; omega)))
    · obtain ⟨a', w', es, hgo, hD, hg'⟩ := hstep w (.refl w)
      subst hK0 hW0
      exact .inr (idle0 hF ha hcm hwg hmode (by simp) hgo hD (.w2 hg') (by omega))
  | w3 h =>
    rcases GoesG.cases h with hstop | ⟨m', rfl, hstep⟩
    · obtain ⟨_, hoff, hblk, htake⟩ := hstop w (.refl w)
      subst hK0 hW0
      cases hmode with
      | opn h1 _ _ => exact h1.elim
      | reg h1 h2 h3 => exact .inr (book0 hF ha hcm (hblk ⟨_, hwg⟩) (.refl Wg w) hwg (by simp) (.blk hstop) (.reg trivial h2 h3) (by simp) (.inr ⟨rfl, by omega⟩))
      | last L h1 h2 h3 h4 => exact .inr (book0 hF ha hcm (hblk ⟨_, hwg⟩) (.refl Wg w) hwg (by simp) (.blk hstop) (.last L trivial h2 h3 h4) (by simp) (.inr ⟨rfl, by omega⟩))
      | sema h2 =>
        obtain ⟨a', hgo, m₂, hk⟩ := htake hwg
        exact .inr (book0 hF ha hcm hgo (aside_setCell w (smA Wg) _) (hwg.setSm 0) bk_sem (.w4 hk) (.fin trivial h2) (by simp) (.inl (by simp only [phi]; omega)))
      | fin h1 _ => exact h1.elim
    · obtain ⟨a', w', es, hgo, hD, hg'⟩ := hstep w (.refl w)
      subst hK0 hW0
      exact .inr (idle0 hF ha hcm hwg hmode (by simp) hgo hD (.w3 hg') (by omega))
  | blk h => simp at hrun
  | w4 h =>
    rcases GoesG.cases h with hstop | ⟨m', rfl, hstep⟩
    · obtain ⟨_, hx⟩ := hstop w (.refl w)
      obtain ⟨hq, rfl, rfl⟩ := hmode.fin_inv trivial
      obtain ⟨a', hgo, m₂, hk⟩ := hx hwg
      subst hK0 hW0
      exact .inr (book0 hF ha hcm hgo (.refl Wg w) hwg bk_rd (.ke hk) (.fin trivial hq) (by simp) (.inl (by simp only [phi]; omega)))
    · obtain ⟨a', w', es, hgo, hD, hg'⟩ := hstep w (.refl w)
      subst hK0 hW0
      exact .inr (idle0 hF ha hcm hwg hmode (by simp) hgo hD (.w4 hg') (by omega))
  | ke h =>
    rcases GoesG.cases h with hstop | ⟨m', rfl, hstep⟩
    · obtain ⟨_, a', hgo, m₂, hk⟩ := hstop w (.refl w)
      obtain ⟨hq, rfl, rfl⟩ := hmode.fin_inv trivial
      subst hK0 hW0
      exact .inr (book0 hF ha hcm hgo (.refl Wg w) hwg bk_en (.acq hk) (.fin trivial hq) (by simp) (.inl (by simp only [phi]; omega)))
    · obtain ⟨a', w', es, hgo, hD, hg'⟩ := hstep w (.refl w)
      subst hK0 hW0
      exact .inr (idle0 hF ha hcm hwg hmode (by simp) hgo hD (.ke hg') (by omega))
  | acq h =>
    rcases GoesG.cases h with hstop | ⟨m', rfl, hstep⟩
    · obtain ⟨_, a', hgo, m₂, hk⟩ := hstop w (.refl w)
      obtain ⟨hq, rfl, rfl⟩ := hmode.fin_inv trivial
      subst hK0 hW0
      have hWgl : Wg < w.heap.size := Nat.lt_of_lt_of_le (hcm.geo.dead Wg hcm.geo.hWg) hcm.geo.le
      have hmt : ∀ e ∈ #[mk (.acquire (stA Wg))], (MemAct.ofEvent e).touch? = none := by intro e he; simp at he; subst he; rfl
      refine .inr (stepOf0 hF ha hcm hgo (fun _ _ => rfl) (fun i _ _ => RWk.refl w) (hcm.tr.app (fun e he => ?_) (hcm.tr.ct.app0 (hcm.geo.apartF o) (ok0_mute hmt)) (fun h => absurd rfl h)) hcm.geo hcm.pay hcm.fr (.ret hk) hwg (.fin trivial hq) (fun _ => ?_) (.inl (by simp only [phi]; omega)))
      · simp at he
        subst he
        exact ⟨by simp [mk], hWgl, fun x hx => (by cases hx), fun x hx => (by cases hx)⟩
      have e1 : MemOp.ofEvents 0 a.frame.fn a.frame.place #[mk (.acquire (stA Wg))] = #[{ g := 0, fn := a.frame.fn, pos := a.frame.place, act := .mark (.acquire (stA Wg)) }] := by rw [ofEvents_eq]; simp [ofEvent_mk]
      have hy : (t ++ #[({ g := 0, fn := a.frame.fn, pos := a.frame.place, act := .mark (.acquire (stA Wg)) } : MemOp)])[t.size]? = some { g := 0, fn := a.frame.fn, pos := a.frame.place, act := .mark (.acquire (stA Wg)) } := by simp
      refine ⟨t.size, by rw [e1, act?_of hy], by rw [e1]; simp [Trace.g?], by rw [e1]; exact ⟨0, by simp [Trace.g?], by rw [deaf_old (Nat.le_refl _)]; exact hcm.deaf0⟩, fun i ho hi => ?_⟩
      obtain ⟨r, hr⟩ := hcm.rel i hi ho (by rw [hq i hi]; omega)
      exact ⟨r, hr.appOther g_of_ofEvents (by omega), lt_of_act? hr.act⟩
    · obtain ⟨a', w', es, hgo, hD, hg'⟩ := hstep w (.refl w)
      subst hK0 hW0
      exact .inr (idle0 hF ha hcm hwg hmode (by simp) hgo hD (.acq hg') (by omega))
  | ret h =>
    rcases GoesG.cases h with hstop | ⟨m', rfl, hstep⟩
    · exact .inl ⟨rfl, hstop w (.refl w)⟩
    · obtain ⟨a', w', es, hgo, hD, hg'⟩ := hstep w (.refl w)
      subst hK0 hW0
      exact .inr (idle0 hF ha hcm hwg hmode hacq hgo hD (.ret hg') (by omega))

/-- Behind the join all others only leave. -/
theorem backU {aR : Goroutine} (hgR : gs[0]? = some aR) (hR : gR aR) {Dw : Nat → WD} (hcm : Cm P ty Wg C n o N1 D Fin v0 (o + n) gs w t Dw 0 K W) (hwg : WgAt ty Wg w st sm) (hmode : Go.ConcN.Mode (o + n) Dw .ret st sm) (hacq : AcqO Wg o (o + n) t) :
    Back P ty Wg C n o N1 D Fin gR v0 (crowd gs w sl) t := by
  obtain ⟨hq, rfl, rfl⟩ := hmode.fin_inv trivial
  obtain ⟨q, h1, h2, h3, h4⟩ := hacq
  refine ⟨gs, w, sl, fun i => (Dw (i - 1)).fuel, aR, rfl, hgR, hR, ⟨⟨fun i g hi hg => ?_, fun i hi => ?_⟩, hcm.tr.past (hcm.tr.over h1 h2 h3 h4) hcm.deaf0, hcm.tr.ct.quiet, hcm.tr.mem, fun op hop => ?_⟩, hcm.pay, hcm.fr, ⟨_, _, hwg⟩, hcm.geo.le,
    fun i => W (o + i + 1), fun k b hb => hcm.geo.own _ b hb, fun k k' b hb hb' => by have := hcm.geo.apart _ _ b hb hb'; omega, fun i hi => ?_⟩
  · obtain ⟨i', rfl⟩ : ∃ i', i = i' + 1 := ⟨i - 1, by omega⟩
    have hlt : i' < o + n := by have := (Array.getElem?_eq_some_iff.1 hg).1; rw [hcm.size] at this; omega
    obtain ⟨g', hg', hs⟩ := hcm.wk i' hlt
    rw [hg] at hg'
    cases hg'
    rw [hcm.deafW i' hlt]
    exact hs.quits (hq i' hlt)
  · refine Deaf_absent fun x op hx e => ?_
    have := hcm.tr.ct.gs x op hx
    have := hcm.size
    omega
  · obtain ⟨i, hi, rfl⟩ := Array.mem_iff_getElem.1 hop
    have := hcm.tr.ct.gs i _ (Array.getElem?_eq_getElem hi)
    have := hcm.size
    omega
  · obtain ⟨g', _, hs⟩ := hcm.wk (o + i) (by omega)
    have := hs.fin (by omega) (by rw [hq (o + i) (by omega)]; omega)
    rwa [show o + i + 1 - 1 - o = i by omega] at this

/-- Nobody stands still. -/
theorem someRunsU (hAr : ∀ g w, Anc g w → g.status = .running) (hgR : ∀ g, gR g → g.status = .running) (ha : gs[0]? = some a) (hcs : CS P ty Wg C n o Fin gR Anc tag j f0 d0 (K 0) (W 0) a w) (hcm : Cm P ty Wg C n o N1 D Fin v0 j gs w t Dw d0 K W) (hmode : Go.ConcN.Mode j Dw tag st sm) :
    ∃ (i : Nat) (g : Goroutine), gs[i]? = some g ∧ g.status = .running := by
  rcases hcs.status hAr hgR with ⟨hs, _⟩ | ⟨_, rfl⟩
  · exact ⟨0, a, ha, hs⟩
  · cases hmode with
    | opn h1 _ _ => exact h1.elim
    | reg _ _ h3 =>
      obtain ⟨i, hi, h5⟩ := exists_counted h3
      obtain ⟨g, hg, hs⟩ := hcm.wk i hi
      exact ⟨i + 1, g, hg, hs.running_of (by omega)⟩
    | last L _ h2 h3 _ =>
      obtain ⟨g, hg, hs⟩ := hcm.wk L h2
      exact ⟨L + 1, g, hg, hs.running_of (by omega)⟩
    | fin h1 _ => exact h1.elim

theorem awakeU (hAr : ∀ g w, Anc g w → g.status = .running) (hgR : ∀ g, gR g → g.status = .running) (ha : gs[0]? = some a) (hcs : CS P ty Wg C n o Fin gR Anc tag j f0 d0 (K 0) (W 0) a w) (hcm : Cm P ty Wg C n o N1 D Fin v0 j gs w t Dw d0 K W) : ∀ g ∈ gs, awake g := by
  intro g hg tm
  obtain ⟨i, hi⟩ := Array.mem_iff_getElem?.1 hg
  cases i with
  | zero =>
    rw [ha] at hi; cases hi
    rcases hcs.status hAr hgR with ⟨hs, _⟩ | ⟨hs, _⟩ <;> rw [hs] <;> simp
  | succ i =>
    have hlt : i < j := by have := (Array.getElem?_eq_some_iff.1 hi).1; rw [hcm.size] at this; omega
    obtain ⟨g', hg', hs⟩ := hcm.wk i hlt
    rw [hi] at hg'; cases hg'
    rcases hs.status with h | h <;> rw [h] <;> simp

/-- One step of the machine. -/
theorem machineU (hF : FinOk ty Wg C n Fin) (hn : n < 2147483648) (hAr : ∀ g w, Anc g w → g.status = .running) (hgR : ∀ g, gR g → g.status = .running)
    (hAn : ∀ (K W : Nat → Prop) g w, Anc g w → ∃ m, GoesG P true (R0 ty Wg C n K) (D0 Wg K) (VW1 P ty Wg C n gR Anc K) m W g w)
    (μ : Nat × Nat) (m : Machine) (t : Trace) (h : InvU P ty Wg C n o N1 D Fin gR Anc v0 μ m t) : Back P ty Wg C n o N1 D Fin gR v0 m t ∨ Lower (InvU P ty Wg C n o N1 D Fin gR Anc v0) μ (stepT P m) t := by
  obtain ⟨gs, w, sl, j, Dw, tag, f0, d0, a, st, sm, K, W, rfl, ha, hcs, hcm, hwg, hmode, hacq, rfl⟩ := h
  by_cases hend : tag = .ret ∧ gR a
  · obtain ⟨rfl, hR⟩ := hend
    cases hcs with
    | ret h => exact .inl (backU ha hR hcm hwg hmode (hacq rfl))
  right
  obtain ⟨i, g, d, sl', hi, hg, hst⟩ := crowd_pick (P := P) (w := w) (sl := sl) (awakeU hAr hgR ha hcs hcm) (someRunsU hAr hgR ha hcs hcm hmode)
  rw [hst]
  have hcs' := hcs.rely (R0.at w d)
  have hcm' := hcm.at hF d
  cases i with
  | zero =>
    rw [ha] at hi
    cases hi
    rcases starterU (sl := sl') hF hn hAn ha hcs' hcm' hwg hmode hacq hg with h | h
    · exact absurd h hend
    · exact h
  | succ i =>
    have hlt : i < j := by have := (Array.getElem?_eq_some_iff.1 hi).1; rw [hcm.size] at this; omega
    exact workerU (sl := sl') hF hAr hgR hn ha hcs' hcm' hwg hmode hacq hlt hi hg

theorem reachU (hF : FinOk ty Wg C n Fin) (hn : n < 2147483648) (hAr : ∀ g w, Anc g w → g.status = .running) (hgR : ∀ g, gR g → g.status = .running)
    (hAn : ∀ (K W : Nat → Prop) g w, Anc g w → ∃ m, GoesG P true (R0 ty Wg C n K) (D0 Wg K) (VW1 P ty Wg C n gR Anc K) m W g w) :
    ∀ (μ : Nat × Nat) (m : Machine) (t : Trace), InvU P ty Wg C n o N1 D Fin gR Anc v0 μ m t → ∃ N m' t', runNT P N m t = (.next m', t') ∧ Back P ty Wg C n o N1 D Fin gR v0 m' t' := by
  intro μ
  induction μ using (Prod.lex Nat.lt_wfRel Nat.lt_wfRel).wf.induction with
  | _ μ ih =>
    intro m t h
    rcases machineU hF hn hAr hgR hAn μ m t h with hb | ⟨m₁, ops, μ', h1, h2, h3⟩
    · exact ⟨0, m, t, rfl, hb⟩
    · obtain ⟨N, m', t', h4, h5⟩ := ih μ' h2 m₁ (t ++ ops) h3
      exact ⟨N + 1, m', t', by simp only [runNT, h1]; exact h4, h5⟩
end
end Go.Proofs.Ytcfpilkhjpegcaa

/- A phase: from the group's birth to behind the join. -/
namespace Go.Proofs.Ytcfpilkhjpegcaa
open Go Go.Conc Go.ConcN Go.Conc.Lib
open Go.ConcR (KK WgAt wgBlock stA smA rd wr mk Payload)

/-! ### the dead blocks, emptied -/
open Classical in
noncomputable def kill (D : Nat → Prop) (w : World) : World := { w with heap := w.heap.mapIdx fun b x => if D b then (match x with | .cells _ ty fr => .cells #[] ty fr | x => x) else x }
section
variable {D : Nat → Prop} {w : World}
theorem kill_size : (kill D w).heap.size = w.heap.size := by simp [kill]
theorem kill_live {b : Nat} (h : ¬ D b) : (kill D w).heap[b]? = w.heap[b]? := by simp [kill, h]
theorem kill_dead {b : Nat} (h : D b) {cs : Array Value} {ty : TypeId} {fr : Nat × Nat} (hw : w.heap[b]? = some (.cells cs ty fr)) : (kill D w).heap[b]? = some (.cells #[] ty fr) := by simp [kill, h, hw]
theorem kill_sim (h : ∀ b, D b → ∃ cs ty fr, w.heap[b]? = some (.cells cs ty fr)) : SimH D (kill D w) w :=
  ⟨rfl, rfl, rfl, rfl, kill_size.symm, fun _ hb => (kill_live hb).symm, fun b hb => let ⟨cs, ty, fr, e⟩ := h b hb; ⟨cs, ty, fr, e, kill_dead hb e⟩⟩
end

/-- A worker's result: its cell leads to three numbers in a block of its own. -/
def FinU (C : Nat) (row : Nat → Array Value) (tI : TypeId) (i : Nat) (W : Nat → Prop) (w : World) : Prop :=
  ∃ r, W r ∧ w.cell? ⟨C, i, none⟩ = some (.slice (some ⟨r, 0, none⟩) 3 3) ∧ w.heap[r]? = some (.cells (row i) tI)

section
variable [Payload]
theorem finU_ok {ty : TypeId} {Wg C n : Nat} {row : Nat → Array Value} {tI : TypeId} : FinOk ty Wg C n (FinU C row tI) :=
  fun _ _ _ _ _ hr ⟨r, h1, h2, h3⟩ => ⟨r, h1, hr.cell.trans h2, (hr.same r (.inr h1)).trans h3⟩

section
variable {P : Program} {D : Nat → Prop} {Post : Value → World → Prop}

omit [Payload] in
/-- One step of goroutine 0's, whatever it is. -/
theorem Wn.exact {g : Goroutine} {w : World} (hrun : g.status = .running) (h : ∀ v gs sl t q, SimH D w v → gs[0]? = some g → FmL P D gs v t q → ∃ g' v' es, stepG P true g v = .go g' v' es ∧
      ∃ N last o w' t', runNT P (N + 1) (crowd ((gs.map (woken P g g' v')).setIfInBounds 0 g') v' sl) (t ++ MemOp.ofEvents 0 g.frame.fn g.frame.place es) = (.ended o w', t') ∧
        runN P N (crowd ((gs.map (woken P g g' v')).setIfInBounds 0 g') v' sl) = .next last ∧ step P last = .ended o w' ∧ Good P Post last o w' t') : Wn P Post D g w := by
  intro v gs sl t q
  have main : ∀ (M : Nat) (v : World) (gs : Array Goroutine) (sl : Option (Nat × Nat)) (t : Trace) (q : Nat → Nat), sumTo gs.size q ≤ M → SimH D w v → gs[0]? = some g → FmL P D gs v t q →
      ∃ N last o w' t', runNT P (N + 1) (crowd gs v sl) t = (.ended o w', t') ∧ runN P N (crowd gs v sl) = .next last ∧ step P last = .ended o w' ∧ Good P Post last o w' t' := by
    intro M
    induction M using Nat.strongRecOn with
    | _ M ihM =>
      intro v gs sl t q hM hsim h0 hF
      rcases hF.pick h0 hrun sl with ⟨d, sl', hst⟩ | ⟨d, sl', gs', t', q', hst, hsz, h0', hlt, hF'⟩
      · obtain ⟨g', v', es, hgo, hend⟩ := h (v.at d) gs sl' t q (hsim.at d) h0 (hF.at d)
        have hrunT := runT_crowd_go (P := P) (sl := sl') (i := 0) h0 (show stepG P (0 == 0) g (v.at d) = _ from hgo)
        exact ends_after (n := 1) (by simp only [runNT, hst, hrunT]) hend
      · exact ends_after (n := 1) (by simp only [runNT, hst]) (ihM (sumTo gs'.size q') (by omega) (v.at d) gs' sl' (t ++ t') q' (Nat.le_refl _) (hsim.at d) h0' hF')
  exact main _ v gs sl t q (Nat.le_refl _)

/-- THE PHASE. -/
theorem Wn.phase {ty : TypeId} {Wg C n : Nat} {row : Nat → Array Value} {tI : TypeId} {g0 gB : Goroutine} {gR : Goroutine → Prop} {w0 : World} {Anc : Goroutine → World → Prop}
    (hrun : g0.status = .running) (hWg : w0.heap.size = Wg) (hstep : ∀ v : World, v.heap.size = Wg → stepG P true g0 v = .go gB { v with heap := v.heap.push (wgBlock ty 0 0) } #[])
    (hDd : ∀ b, D b → b < Wg) (hC : C < Wg) (hCD : ¬ D C) (hpay : PayAt C n w0) (hn : n < 2147483648)
    (hAr : ∀ g w, Anc g w → g.status = .running) (hgR : ∀ g, gR g → g.status = .running)
    (hAn : ∀ (K W : Nat → Prop) g w, Anc g w → ∃ m, GoesG P true (R0 ty Wg C n K) (D0 Wg K) (VW1 P ty Wg C n gR Anc K) m W g w)
    (hSp : ∀ v1 : World, WgAt ty Wg v1 0 0 → v1.heap.size = Wg + 1 → (∀ b, b < Wg → ¬ D b → v1.heap[b]? = w0.heap[b]?) → Spw P ty Wg C n (FinU C row tI) Anc n (fun b => b < Wg ∧ b ≠ C ∧ ¬ D b) (fun _ => False) gB v1)
    (hEnd : ∀ w1 : World, w1.os = w0.os → w1.output = w0.output → (∀ b, b < Wg → b ≠ C → w1.heap[b]? = w0.heap[b]?) → (∃ ty fr, w1.heap[Wg]? = some (.cells #[] ty fr)) → Wg < w1.heap.size →
      (∃ (cs : Array Value) (rs : Nat → Nat), w1.heap[C]? = some (.cells cs Payload.ety) ∧ cs.size = n ∧ ∀ i, i < n → cs[i]? = some (.slice (some ⟨rs i, 0, none⟩) 3 3) ∧ Wg < rs i ∧ rs i < w1.heap.size ∧ w1.heap[rs i]? = some (.cells (row i) tI)) →
      ∀ aR, gR aR → Wn P Post (fun b => D b ∨ b = Wg) aR w1) : Wn P Post D g0 w0 := by
  refine Wn.exact hrun fun v gs sl t q hsim h0 hF => ⟨gB, _, #[], hstep v (hsim.size.trans hWg), ?_⟩
  have hsz : v.heap.size = Wg := hsim.size.trans hWg
  obtain ⟨o, ho⟩ : ∃ o, gs.size = o + 1 := ⟨gs.size - 1, by have := (Array.getElem?_eq_some_iff.1 h0).1; omega⟩
  generalize hv1 : ({ v with heap := v.heap.push (wgBlock ty 0 0) } : World) = v1
  have hsz1 : v1.heap.size = Wg + 1 := by rw [← hv1]; simp [hsz]
  have hlow : ∀ b, b < Wg → v1.heap[b]? = v.heap[b]? := fun b hb => by
    rw [← hv1]
    exact Array.getElem?_push_lt (by omega) |>.trans (Array.getElem?_eq_getElem (by omega)).symm
  have hwg : WgAt ty Wg v1 0 0 := by
    unfold WgAt
    rw [← hv1, ← hsz]
    exact Array.getElem?_push_size
  have hneC : C ≠ Wg := by omega
  have hsame : ∀ b, b < Wg → ¬ D b → v1.heap[b]? = w0.heap[b]? := fun b hb hd => (hlow b hb).trans (hsim.same b hd)
  have hpay1 : PayAt C n v1 := by
    obtain ⟨cs, h1, h2⟩ := hpay
    exact ⟨cs, (hsame C hC hCD).trans h1, h2⟩
  let D' : Nat → Prop := fun b => D b ∨ b = Wg
  let K : Nat → Nat → Prop := fun k b => k = 0 ∧ b < Wg ∧ b ≠ C ∧ ¬ D b
  let W : Nat → Nat → Prop := fun _ _ => False
  have hK0 : K 0 = fun b => b < Wg ∧ b ≠ C ∧ ¬ D b := by funext b; simp [K]
  have hgeo : Geom D' Wg C (Wg + 1) K W v1.heap.size := by
    refine ⟨by omega, by omega, fun h => h.elim hCD hneC, .inr rfl, fun b hb => ?_, fun k b hb => hb.elim, fun k b hb => ?_, fun k k' b hb => hb.elim, fun k k' b hb => hb.elim⟩
    · rcases hb with hb | rfl
      · have := hDd b hb; omega
      · omega
    · obtain ⟨_, h1, h2, h3⟩ := hb
      exact ⟨by omega, h2, fun h => h.elim h3 (by omega)⟩
  have htr : TrI D' Wg C o K W o v1.heap.size t := TrI.start hF hsz ho (fun k k1 _ b h => by have := h.1; omega) (fun k _ _ b h => h) (by omega)
  have htr' : TrI D' Wg C o K W o v1.heap.size (t ++ MemOp.ofEvents 0 g0.frame.fn g0.frame.place #[]) := by simpa [MemOp.ofEvents] using htr
  have hgs0 : ((gs.map (woken P g0 gB v1)).setIfInBounds 0 gB)[0]? = some gB := by simp [ho]
  have hcm : Cm P ty Wg C n o (Wg + 1) D' (FinU C row tI) v1 o ((gs.map (woken P g0 gB v1)).setIfInBounds 0 gB) v1 (t ++ MemOp.ofEvents 0 g0.frame.fn g0.frame.place #[]) (fun i => ⟨1, q (i + 1), Deaf t (i + 1)⟩) 0 K W := by
    refine ⟨by simp [ho], fun i hi => ?_, htr', hgeo, ?_, fun i hi => ?_, fun i hi ho' => by omega, hpay1, ⟨rfl, rfl, fun _ _ _ _ => rfl⟩, fun k hk b => ⟨fun h => h, fun h => by have := h.1; omega⟩⟩
    · have hlt : i + 1 < gs.size := by omega
      have hq := hF.leavers.old (i + 1) gs[i + 1] (by omega) (Array.getElem?_eq_getElem hlt)
      refine ⟨gs[i + 1], ?_, .old (by omega) hq⟩
      rw [get_map_set _ _ _ _ (by omega), Array.getElem?_eq_getElem hlt, Option.map_some, woken_quitsD hq]
    · simpa [MemOp.ofEvents] using hF.past.hears
    · simp [MemOp.ofEvents]
  have hmode : ∀ tag, isOpen tag → pend tag = 0 → (∀ vs, tag ≠ .w2 vs) → Go.ConcN.Mode o (fun i => (⟨1, q (i + 1), Deaf t (i + 1)⟩ : WD)) tag 0 0 := fun tag h1 h2 h3 => by
    have hV : Vc o (fun i => (⟨1, q (i + 1), Deaf t (i + 1)⟩ : WD)) = 0 := by
      have := sumTo_le (f := fun i => cnt (⟨1, q (i + 1), Deaf t (i + 1)⟩ : WD)) (c := 0) (j := o) fun i _ => Nat.le_refl _
      simpa [Vc] using this
    have := Mode.opn (j := o) (D := fun i => (⟨1, q (i + 1), Deaf t (i + 1)⟩ : WD)) h1 (fun i _ => .inr (.inr (.inr rfl))) (fun vs e => absurd e (h3 vs))
    simpa [hV, h2] using this
  have hInv : ∃ μ, InvU P ty Wg C n o (Wg + 1) D' (FinU C row tI) gR Anc v1 μ (crowd ((gs.map (woken P g0 gB v1)).setIfInBounds 0 gB) v1 sl) (t ++ MemOp.ofEvents 0 g0.frame.fn g0.frame.place #[]) := by
    have hsp := hSp v1 hwg hsz1 hsame
    rw [← hK0] at hsp
    cases n with
    | zero =>
      obtain ⟨m, hk⟩ := hsp
      exact ⟨_, _, v1, sl, o, _, .kd, m, 0, gB, 0, 0, K, W, rfl, hgs0, .kd hk, hcm, hwg, hmode .kd trivial rfl (by simp), by simp, rfl⟩
    | succ r =>
      obtain ⟨m, hk⟩ := hsp
      have hc := CS.skd (P := P) (ty := ty) (Wg := Wg) (C := C) (n := r + 1) (o := o) (Fin := FinU C row tI) (gR := gR) (Anc := Anc) (Nat.lt_succ_self r) hk
      rw [show o + (r + 1 - (r + 1)) = o by omega] at hc
      exact ⟨_, _, v1, sl, o, _, .sp r 5, m, 0, gB, 0, 0, K, W, rfl, hgs0, hc, hcm, hwg, hmode (.sp r 5) trivial rfl (by simp), by simp, rfl⟩
  obtain ⟨μ, hI⟩ := hInv
  obtain ⟨N, m', t', hr, gs', w, sl', q', aR, rfl, hg', hRa, hF', ⟨cs, hc1, hc2⟩, hfr, ⟨st, sm, hwg'⟩, hN, W', hW1, _, hfin⟩ := reachU finU_ok hn hAr hgR hAn μ _ _ hI
  refine ends_after hr ?_
  have hdead : ∀ b, D' b → ∃ cs ty fr, w.heap[b]? = some (.cells cs ty fr) := fun b hb => by
    by_cases e : b = Wg
    · subst e; exact ⟨_, _, _, hwg'⟩
    · have hd : D b := hb.resolve_right e
      obtain ⟨cs, ty, fr, e1, _⟩ := hsim.dead b hd
      have := hDd b hd
      exact ⟨cs, ty, fr, (hfr.old b (by omega) e (fun x => hCD (x ▸ hd))).trans ((hlow b this).trans e1)⟩
  have hbase : ∀ b, b < Wg → b ≠ C → w.heap[b]? = v.heap[b]? := fun b hb hc => (hfr.old b (by omega) (by omega) hc).trans (hlow b hb)
  have hv1o : v1.os = v.os := by rw [← hv1]
  have hv1p : v1.output = v.output := by rw [← hv1]
  have hnC : ¬ D' C := fun h => h.elim hCD hneC
  have hpick : ∀ i, ∃ r, i < n → W' i r ∧ w.cell? ⟨C, i, none⟩ = some (.slice (some ⟨r, 0, none⟩) 3 3) ∧ w.heap[r]? = some (.cells (row i) tI) := fun i => by
    by_cases hi : i < n
    · obtain ⟨r, h⟩ := hfin i hi
      exact ⟨r, fun _ => h⟩
    · exact ⟨0, fun h => absurd h hi⟩
  obtain ⟨rs, hrs⟩ := Classical.skolem.1 hpick
  refine hEnd (kill D' w) (hfr.os.trans (hv1o.trans hsim.os)) (hfr.output.trans (hv1p.trans hsim.output)) (fun b hb hc => ?_) ⟨_, _, kill_dead (.inr rfl) hwg'⟩ (by rw [kill_size]; omega)
    ⟨cs, rs, (kill_live hnC).trans hc1, hc2, fun i hi => ?_⟩ aR hRa w gs' sl' t' q' (kill_sim hdead) hg' hF'
  · by_cases hd : D b
    · obtain ⟨cs', ty', fr', e1, e2⟩ := hsim.dead b hd
      rw [kill_dead (.inl hd) ((hbase b hb hc).trans e1)]
      exact e2.symm
    · rw [kill_live fun h => h.elim hd (by omega), hbase b hb hc]
      exact hsim.same b hd
  · obtain ⟨h1, h2, h3⟩ := hrs i hi
    have hb := hW1 i _ h1
    refine ⟨by simpa [World.cell?, hc1] using h2, by omega, by rw [kill_size]; omega, ?_⟩
    rw [kill_live fun h => ?_]
    · exact h3
    · rcases h with h | h
      · have := hDd _ h; omega
      · omega
end
end
end Go.Proofs.Ytcfpilkhjpegcaa
