/- A goroutine's own steps in company, in which what it makes is its own: the kit's 'Goes' with a set that grows. -/
import Derived.Conc.WgGenN3
import Derived.Conc.WgWords
namespace Go.Proofs.Ytcfpilkhjpegcaa
open Go Go.Conc

/-- What is one's own behind a step that has led from w to w'. -/
def grow (W : Nat → Prop) (w w' : World) : Nat → Prop := fun b => W b ∨ (w.heap.size ≤ b ∧ b < w'.heap.size)
theorem grow_same {W : Nat → Prop} {w w' : World} (h : w'.heap.size = w.heap.size) : grow W w w' = W := by
  funext b
  refine propext ⟨fun hb => hb.elim id fun ⟨h1, h2⟩ => ?_, .inl⟩
  omega

/-- At most n own steps from a stop; ahead of each the others may have turned the world by R; D is asked of each; what a step makes is one's own. -/
def GoesG (P : Program) (main : Bool) (R : (Nat → Prop) → World → World → Prop) (Dg : (Nat → Prop) → World → World → Array Event → Prop) (Stop : (Nat → Prop) → Goroutine → World → Prop) : Nat → (Nat → Prop) → Goroutine → World → Prop
  | 0, W, g, w => ∀ w₁, R W w w₁ → Stop W g w₁
  | n + 1, W, g, w => (∀ w₁, R W w w₁ → Stop W g w₁) ∨ (g.status = .running ∧ ∀ w₁, R W w w₁ → (stepG P main g w₁).goes fun g' w' es => Dg W w₁ w' es ∧ GoesG P main R Dg Stop n (grow W w₁ w') g' w')

section
variable {P : Program} {main : Bool} {R : (Nat → Prop) → World → World → Prop} {Dg : (Nat → Prop) → World → World → Array Event → Prop} {Stop : (Nat → Prop) → Goroutine → World → Prop}

theorem GoesG.stop {n : Nat} {W : Nat → Prop} {g : Goroutine} {w : World} (h : ∀ w₁, R W w w₁ → Stop W g w₁) : GoesG P main R Dg Stop n W g w := by
  cases n with
  | zero => exact h
  | succ n => exact .inl h
theorem GoesG.step {n : Nat} {W : Nat → Prop} {g : Goroutine} {w : World} (hs : g.status = .running)
    (h : ∀ w₁, R W w w₁ → (stepG P main g w₁).goes fun g' w' es => Dg W w₁ w' es ∧ GoesG P main R Dg Stop n (grow W w₁ w') g' w') : GoesG P main R Dg Stop (n + 1) W g w := .inr ⟨hs, h⟩
theorem GoesG.rely (trans : ∀ W a b c, R W a b → R W b c → R W a c) {n : Nat} {W : Nat → Prop} {g : Goroutine} {w w₁ : World} (h : GoesG P main R Dg Stop n W g w) (hr : R W w w₁) : GoesG P main R Dg Stop n W g w₁ := by
  cases n with
  | zero => exact fun w₂ h₂ => h w₂ (trans _ _ _ _ hr h₂)
  | succ n =>
    rcases h with h | ⟨hs, h⟩
    · exact .inl fun w₂ h₂ => h w₂ (trans _ _ _ _ hr h₂)
    · exact .inr ⟨hs, fun w₂ h₂ => h w₂ (trans _ _ _ _ hr h₂)⟩
theorem goes_imp {s : GStep} {K K' : Goroutine → World → Array Event → Prop} (h : s.goes K) (hk : ∀ g w es, K g w es → K' g w es) : s.goes K' := by
  cases s <;> first | exact hk _ _ _ h | exact h
theorem GoesG.le : ∀ {n m : Nat} {W : Nat → Prop} {g : Goroutine} {w : World}, n ≤ m → GoesG P main R Dg Stop n W g w → GoesG P main R Dg Stop m W g w
  | 0, m, W, g, w, _, h => GoesG.stop h
  | n + 1, 0, W, g, w, hm, _ => by omega
  | n + 1, m + 1, W, g, w, hm, h => by
    rcases h with h | ⟨hs, h⟩
    · exact .inl h
    · exact .inr ⟨hs, fun w₁ h₁ => goes_imp (h w₁ h₁) fun _ _ _ ⟨d, x⟩ => ⟨d, x.le (by omega)⟩⟩
/-- One way behind the other. -/
theorem GoesG.then (refl : ∀ W w, R W w w) {Stop' : (Nat → Prop) → Goroutine → World → Prop} {m : Nat} (hm : ∀ W g w, Stop W g w → GoesG P main R Dg Stop' m W g w) :
    ∀ {n : Nat} {W : Nat → Prop} {g : Goroutine} {w : World}, GoesG P main R Dg Stop n W g w → GoesG P main R Dg Stop' (n + m) W g w
  | 0, W, g, w, h => (hm W g w (h w (refl _ _))).le (by omega)
  | n + 1, W, g, w, h => by
    rcases h with h | ⟨hs, h⟩
    · exact (hm W g w (h w (refl _ _))).le (by omega)
    · rw [show n + 1 + m = (n + m) + 1 by omega]
      exact .inr ⟨hs, fun w₁ h₁ => goes_imp (h w₁ h₁) fun _ _ _ ⟨d, x⟩ => ⟨d, x.then refl hm⟩⟩
theorem GoesG.mono {Stop' : (Nat → Prop) → Goroutine → World → Prop} (hm : ∀ W g w, Stop W g w → Stop' W g w) : ∀ {n : Nat} {W : Nat → Prop} {g : Goroutine} {w : World}, GoesG P main R Dg Stop n W g w → GoesG P main R Dg Stop' n W g w
  | 0, _, _, _, h => fun w₁ h₁ => hm _ _ _ (h w₁ h₁)
  | _ + 1, _, _, _, h => by
    rcases h with h | ⟨hs, h⟩
    · exact .inl fun w₁ h₁ => hm _ _ _ (h w₁ h₁)
    · exact .inr ⟨hs, fun w₁ h₁ => goes_imp (h w₁ h₁) fun _ _ _ ⟨d, x⟩ => ⟨d, x.mono hm⟩⟩
theorem GoesG.running (refl : ∀ W w, R W w w) (hs : ∀ W g w, Stop W g w → g.status = .running) {n : Nat} {W : Nat → Prop} {g : Goroutine} {w : World} (h : GoesG P main R Dg Stop n W g w) : g.status = .running := by
  cases n with
  | zero => exact hs _ _ _ (h w (refl _ _))
  | succ n => exact h.elim (fun h => hs _ _ _ (h w (refl _ _))) fun h => h.1
theorem GoesG.cases {n : Nat} {W : Nat → Prop} {g : Goroutine} {w : World} (h : GoesG P main R Dg Stop n W g w) : (∀ w₁, R W w w₁ → Stop W g w₁) ∨ ∃ m, n = m + 1 ∧ ∀ w₁, R W w w₁ → ∃ g' w' es, stepG P main g w₁ = .go g' w' es ∧ Dg W w₁ w' es ∧ GoesG P main R Dg Stop m (grow W w₁ w') g' w' := by
  cases n with
  | zero => exact .inl h
  | succ n => exact h.imp id fun h => ⟨n, rfl, fun w₁ h₁ => goes_elim (h.2 w₁ h₁)⟩

/-- The kit's walk, in which nothing is made and something else is known of the world besides. -/
theorem GoesG.of {R0 : World → World → Prop} {D0 : World → World → Array Event → Prop} {Stop0 : Goroutine → World → Prop} {W : Nat → Prop} {F : World → Prop} (hR : ∀ w w₁, R W w w₁ → R0 w w₁) (hF : ∀ w w₁, R W w w₁ → F w → F w₁)
    (hD : ∀ w w' es, D0 w w' es → Dg W w w' es ∧ w'.heap.size = w.heap.size ∧ (F w → F w')) : ∀ {n : Nat} {g : Goroutine} {w : World}, F w → Goes P main R0 D0 Stop0 n g w → GoesG P main R Dg (fun W' g w => W' = W ∧ F w ∧ Stop0 g w) n W g w
  | 0, g, w, hf, h => fun w₁ h₁ => ⟨rfl, hF _ _ h₁ hf, h w₁ (hR _ _ h₁)⟩
  | n + 1, g, w, hf, h => by
    rcases h with h | ⟨hs, h⟩
    · exact .inl fun w₁ h₁ => ⟨rfl, hF _ _ h₁ hf, h w₁ (hR _ _ h₁)⟩
    · refine .inr ⟨hs, fun w₁ h₁ => goes_imp (h w₁ (hR _ _ h₁)) fun g' w' es ⟨d, x⟩ => ?_⟩
      obtain ⟨d1, d2, d3⟩ := hD _ _ _ d
      rw [grow_same d2]
      exact ⟨d1, GoesG.of hR hF hD (d3 (hF _ _ h₁ hf)) x⟩
end
end Go.Proofs.Ytcfpilkhjpegcaa

/- The starter's ways through the group's Add(1) and Wait, whatever the others do meanwhile, so long as the group's block stays one. -/
namespace Go.Proofs.Ytcfpilkhjpegcaa
open Go Go.Conc Go.ConcN Go.RowKit Go.Conc.Lib Go.ConcR.Gen Go.ConcN.Gen
open Go.ConcR (KK wgBlock WgAt stA smA rd wr mk DC0)

/-- What the starter suffers there: anything, but the group's block stays one. -/
def RL (ty : TypeId) (Wg : Nat) (w w₁ : World) : Prop := WgLive ty Wg w → WgLive ty Wg w₁
/-- What it does there: nothing; it says that it reads or writes the group's cells. -/
def DL (Wg : Nat) (w w' : World) (es : Array Event) : Prop := w' = w ∧ ∀ e ∈ es, ∃ a : Addr, a.block = Wg ∧ (e = ⟨.mark (.read a), false, true⟩ ∨ e = ⟨.mark (.write a), false, true⟩)
theorem dl_none {Wg : Nat} {w : World} {es : Array Event} (h : ∀ e ∈ es, False) : DL Wg w w es := ⟨rfl, fun e he => (h e he).elim⟩
theorem rl {ty : TypeId} {Wg : Nat} {w w₁ : World} (h : WgLive ty Wg w) (r : RL ty Wg w w₁) : WgLive ty Wg w₁ := r h

section
variable (P : Program) (ty : TypeId) (Wg : Nat) (gA : Goroutine)
def AKe (g : Goroutine) (w : World) : Prop := g.status = .running ∧ ∃ g', stepG P true g w = .go g' w #[mk .enable] ∧ ∃ m, (Goes P true (RL ty Wg) (DL Wg)) (fun g _ => g = gA) m g' w
/-- The add of 1, whatever the count. -/
def AA1 (g : Goroutine) (w : World) : Prop := g.status = .running ∧ ∀ v : Nat, v < 2147483647 → WgAt ty Wg w (v * KK) 0 →
  ∃ g', stepG P true g w = .go g' (w.setCell (stA Wg) (.int .u64 ((v + 1) * KK))) #[rd (stA Wg), wr (stA Wg)] ∧ ∃ m, (Goes P true (RL ty Wg) (DL Wg)) (AKe P ty Wg gA) m g' (w.setCell (stA Wg) (.int .u64 ((v + 1) * KK)))
def AKd (g : Goroutine) (w : World) : Prop := g.status = .running ∧ ∃ g', stepG P true g w = .go g' w #[mk .disable] ∧ ∃ m, (Goes P true (RL ty Wg) (DL Wg)) (AA1 P ty Wg gA) m g' w

def BAcq (g : Goroutine) (w : World) : Prop := g.status = .running ∧ ∃ g', stepG P true g w = .go g' w #[mk (.acquire (stA Wg))] ∧ ∃ m, (Goes P true (RL ty Wg) (DL Wg)) (fun g _ => g = gA) m g' w
def BKe (g : Goroutine) (w : World) : Prop := g.status = .running ∧ ∃ g', stepG P true g w = .go g' w #[mk .enable] ∧ ∃ m, (Goes P true (RL ty Wg) (DL Wg)) (BAcq P ty Wg gA) m g' w
def BW4 (g : Goroutine) (w : World) : Prop := g.status = .running ∧ (WgAt ty Wg w 0 0 → ∃ g', stepG P true g w = .go g' w #[rd (stA Wg)] ∧ ∃ m, (Goes P true (RL ty Wg) (DL Wg)) (BKe P ty Wg gA) m g' w)
def BW3 (g : Goroutine) (w : World) : Prop := g.status = .running ∧ g.offers = none ∧
  ((∃ st, WgAt ty Wg w st 0) → stepG P true g w = .go { g with status := .blocked } w #[]) ∧
  (WgAt ty Wg w 0 1 → ∃ g', stepG P true g w = .go g' (w.setCell (smA Wg) (.int .u32 0)) (semEvents (smA Wg)) ∧ ∃ m, (Goes P true (RL ty Wg) (DL Wg)) (BW4 P ty Wg gA) m g' (w.setCell (smA Wg) (.int .u32 0)))
section
variable (Anch : Goroutine → World → Prop)
/-- The CompareAndSwap, 'vs' having been seen: it hits or misses. -/
def BW2 (vs : Nat) (g : Goroutine) (w : World) : Prop := g.status = .running ∧ ∀ v : Nat, v < 2147483648 → WgAt ty Wg w (v * KK) 0 →
  (v = vs → ∃ g', stepG P true g w = .go g' (w.setCell (stA Wg) (.int .u64 (v * KK + 1))) #[rd (stA Wg), wr (stA Wg)] ∧ ∃ m, (Goes P true (RL ty Wg) (DL Wg)) (BW3 P ty Wg gA) m g' (w.setCell (stA Wg) (.int .u64 (v * KK + 1)))) ∧
  (v ≠ vs → ∃ g', stepG P true g w = .go g' w #[rd (stA Wg)] ∧ ∃ m, (Goes P true (RL ty Wg) (DL Wg)) Anch m g' w)
def BW1 (g : Goroutine) (w : World) : Prop := g.status = .running ∧ ∀ v : Nat, v < 2147483648 → WgAt ty Wg w (v * KK) 0 → ∃ g', stepG P true g w = .go g' w #[rd (stA Wg)] ∧
  (v = 0 → ∃ m, (Goes P true (RL ty Wg) (DL Wg)) (BKe P ty Wg gA) m g' w) ∧ (v ≠ 0 → ∃ m, (Goes P true (RL ty Wg) (DL Wg)) (BW2 P ty Wg gA Anch v) m g' w)
def BKd (g : Goroutine) (w : World) : Prop := g.status = .running ∧ ∃ g', stepG P true g w = .go g' w #[mk .disable] ∧ ∃ m, (Goes P true (RL ty Wg) (DL Wg)) Anch m g' w
end
end

/-- At the head of Wait's loop. -/
def Anch (L : WgLink) (Wg : Nat) (c : Frame) (cs : List Frame) (g : Goroutine) (w : World) : Prop :=
  ∃ T : Array Value, g = G ((base L.wait).at ⟨T, []⟩ [.code (L7 L), .inLoop (L7 L), .inBlock 0]) (c :: cs) ∧ T.size = 84 ∧ T[0]? = some (.pointer (some ⟨Wg, 0, none⟩)) ∧ WgLive L.tWg Wg w



section
variable {L : WgLink} {P : Program} {Wg : Nat} {b₀ : Frame} {a₀ : Act} {ops₀ : Array Oper} {i₀ : Nat} {rest₀ : List Nat} {k₀ : List Item} {cs : List Frame}

set_option maxRecDepth 100000 in
set_option maxHeartbeats 16000000 in
theorem goAddL (H : WgLib P L) (w : World) (hF : WgLive L.tWg Wg w) :
    Goes P true (RL L.tWg Wg) (DL Wg) (AKd P L.tWg Wg (G (b₀.at (a₀.put ((ops₀[i₀]?).bind (·.dst)) (.tuple #[])) (.inRegion ops₀ rest₀ :: k₀)) cs)) 20
      (G ((base L.add).at ⟨#[.pointer (some ⟨Wg, 0, none⟩), .int .i64 1, undef, undef, undef, undef, undef, undef, undef, undef, undef, undef, undef, undef, undef, undef, undef, undef, undef, undef, undef, undef, undef, undef, undef, undef, undef, undef, undef, undef, undef, undef, undef, undef, undef, undef, undef, undef, undef, undef, undef, undef, undef, undef, undef, undef, undef, undef, undef, undef, undef, undef, undef, undef, undef, undef, undef, undef, undef, undef, undef, undef, undef, undef, undef, undef, undef, undef, undef, undef, undef, undef, undef, undef, undef, undef, undef, undef, undef, undef, undef, undef, undef, undef, undef, undef, undef, undef, undef, undef, undef, undef, undef, undef, undef, undef, undef, undef, undef, undef, undef, undef, undef, undef, undef, undef, undef, undef, undef, undef, undef, undef, undef, undef, undef, undef, undef], []⟩ [.code (body_add L)]) (b₀.at a₀ (.inRegion ops₀ (i₀ :: rest₀) :: k₀) :: cs)) w := by
  lib_facts
  simp only [body_add, addFn, Option.getD_some]
  (u_in rl hF; rw [stepG_seq]; simp only [goes_go]; refine ⟨by (refine dl_none ?_; intro ez hez; simp at hez), ?_⟩)
  (u_in rl hF; rw [stepG_cond (t := true) (by first | rfl | (simp [Act.eval]; omega))]; simp only [goes_go, ↓reduceIte]; refine ⟨by (refine dl_none ?_; intro ez hez; simp at hez), ?_⟩)
  (u_in rl hF; rw [stepG_seq]; simp only [goes_go]; refine ⟨by (refine dl_none ?_; intro ez hez; simp at hez), ?_⟩)
  (u_in rl hF; rw [stepG_seq]; simp only [goes_go]; refine ⟨by (refine dl_none ?_; intro ez hez; simp at hez), ?_⟩)
  (u_in rl hF; rw [stepG_region]; simp only [goes_go, List.size_toArray, List.length_cons, List.length_nil, Nat.reduceAdd, Nat.zero_add, List.range, List.range.loop]; refine ⟨by (refine dl_none ?_; intro ez hez; simp at hez), ?_⟩)
  iterate 2 ((u_in rl hF; refine goes_oper_k rfl rfl (by k_ne) (fun Kz hKz => ?_); go_simp; refine hKz _ _ ⟨?_, ?_⟩; (focus (refine dl_none ?_; intro ez hez; have hmz := mem_listed hez; simp [go_sem, *] at hmz)); clear hKz Kz; try w_num))
  (u_in rl hF; rw [stepG_region_end]; simp only [goes_go]; refine ⟨by (refine dl_none ?_; intro ez hez; simp at hez), ?_⟩)
  (u_in rl hF; rw [stepG_cond (t := false) (by first | rfl | (simp [Act.eval]; omega))]; simp only [goes_go, Bool.false_eq_true, ↓reduceIte]; refine ⟨by (refine dl_none ?_; intro ez hez; simp at hez), ?_⟩)
  (u_in rl hF; rw [stepG_skip]; simp only [goes_go]; refine ⟨by (refine dl_none ?_; intro ez hez; simp at hez), ?_⟩)
  (u_in rl hF; rw [stepG_seq]; simp only [goes_go]; refine ⟨by (refine dl_none ?_; intro ez hez; simp at hez), ?_⟩)
  (u_in rl hF; rw [stepG_region]; simp only [goes_go, List.size_toArray, List.length_cons, List.length_nil, Nat.zero_add, List.range, List.range.loop]; refine ⟨by (refine dl_none ?_; intro ez hez; simp at hez), ?_⟩)
  (refine Goes.stop (fun w₁ h₁ => ?_); replace hF := rl hF h₁; clear h₁)
  refine ⟨rfl, _, stepG_mark0 .disable (by simp) rfl rfl (by k_ne) rfl H.f_disable (x_disable_n L) (x_disable_b L) (x_disable_x L) (x_disable_f L), 60, ?_⟩
  walk_nrm
  (u_in rl hF; rw [stepG_region_end]; simp only [goes_go]; refine ⟨by (refine dl_none ?_; intro ez hez; simp at hez), ?_⟩)
  (u_in rl hF; rw [stepG_region]; simp only [goes_go, List.size_toArray, List.length_cons, List.length_nil, Nat.zero_add, List.range, List.range.loop]; refine ⟨by (refine dl_none ?_; intro ez hez; simp at hez), ?_⟩)
  (u_in rl hF; rw [stepG_defer rfl rfl (by k_ne) rfl]; simp only [goes_go]; refine ⟨by (refine dl_none ?_; intro ez hez; simp at hez), ?_⟩; walk_nrm)
  (u_in rl hF; rw [stepG_region_end]; simp only [goes_go]; refine ⟨by (refine dl_none ?_; intro ez hez; simp at hez), ?_⟩)
  (u_in rl hF; rw [stepG_seq]; simp only [goes_go]; refine ⟨by (refine dl_none ?_; intro ez hez; simp at hez), ?_⟩)
  (u_in rl hF; rw [stepG_region]; simp only [goes_go, List.size_toArray, List.length_cons, List.length_nil, Nat.zero_add, List.range, List.range.loop]; refine ⟨by (refine dl_none ?_; intro ez hez; simp at hez), ?_⟩)
  (u_in rl hF; refine goes_oper_k rfl rfl (by k_ne) (fun Kz hKz => ?_); go_simp; refine hKz _ _ ⟨?_, ?_⟩; (focus (refine dl_none ?_; intro ez hez; have hmz := mem_listed hez; simp [go_sem, *] at hmz)); clear hKz Kz; try w_num)
  (u_in rl hF; rw [stepG_region_end]; simp only [goes_go]; refine ⟨by (refine dl_none ?_; intro ez hez; simp at hez), ?_⟩)
  (u_in rl hF; rw [stepG_seq]; simp only [goes_go]; refine ⟨by (refine dl_none ?_; intro ez hez; simp at hez), ?_⟩)
  (u_in rl hF; rw [stepG_seq]; simp only [goes_go]; refine ⟨by (refine dl_none ?_; intro ez hez; simp at hez), ?_⟩)
  (u_in rl hF; rw [stepG_region]; simp only [goes_go, List.size_toArray, List.length_cons, List.length_nil, Nat.zero_add, List.range, List.range.loop]; refine ⟨by (refine dl_none ?_; intro ez hez; simp at hez), ?_⟩)
  (u_in rl hF; rw [stepG_entry_pure (.bool false) rfl rfl (by k_ne) rfl H.f_inBubble (x_inBubble_n L) (x_inBubble_b L) (x_inBubble_x L) (x_inBubble_f L)]; simp only [goes_go]; refine ⟨by (refine dl_none ?_; intro ez hez; simp at hez), ?_⟩; walk_nrm)
  (u_in rl hF; rw [stepG_region_end]; simp only [goes_go]; refine ⟨by (refine dl_none ?_; intro ez hez; simp at hez), ?_⟩)
  (u_in rl hF; rw [stepG_cond (t := false) (by first | rfl | (simp [Act.eval]; omega))]; simp only [goes_go, Bool.false_eq_true, ↓reduceIte]; refine ⟨by (refine dl_none ?_; intro ez hez; simp at hez), ?_⟩)
  (u_in rl hF; rw [stepG_skip]; simp only [goes_go]; refine ⟨by (refine dl_none ?_; intro ez hez; simp at hez), ?_⟩)
  (u_in rl hF; rw [stepG_seq]; simp only [goes_go]; refine ⟨by (refine dl_none ?_; intro ez hez; simp at hez), ?_⟩)
  (u_in rl hF; rw [stepG_region]; simp only [goes_go, List.size_toArray, List.length_cons, List.length_nil, Nat.reduceAdd, Nat.zero_add, List.range, List.range.loop]; refine ⟨by (refine dl_none ?_; intro ez hez; simp at hez), ?_⟩)
  iterate 6 ((u_in rl hF; refine goes_oper_k rfl rfl (by k_ne) (fun Kz hKz => ?_); go_simp; refine hKz _ _ ⟨?_, ?_⟩; (focus (refine dl_none ?_; intro ez hez; have hmz := mem_listed hez; simp [go_sem, *] at hmz)); clear hKz Kz; try w_num))
  (u_in rl hF; refine goes_call rfl rfl (by k_ne) rfl H.f_uAdd (nm_uAdd L) rfl ⟨by (refine dl_none ?_; intro ez hez; simp at hez), ?_⟩; walk_nrmf uAddFn)
  (u_in rl hF; rw [stepG_seq]; simp only [goes_go]; refine ⟨by (refine dl_none ?_; intro ez hez; simp at hez), ?_⟩)
  (u_in rl hF; rw [stepG_region]; simp only [goes_go, List.size_toArray, List.length_cons, List.length_nil, Nat.zero_add, List.range, List.range.loop]; refine ⟨by (refine dl_none ?_; intro ez hez; simp at hez), ?_⟩)
  (u_in rl hF; refine goes_oper_k rfl rfl (by k_ne) (fun Kz hKz => ?_); go_simp; refine hKz _ _ ⟨?_, ?_⟩; (focus (refine dl_none ?_; intro ez hez; have hmz := mem_listed hez; simp [go_sem, *] at hmz)); clear hKz Kz; try w_num)
  (u_in rl hF; rw [stepG_region_end]; simp only [goes_go]; refine ⟨by (refine dl_none ?_; intro ez hez; simp at hez), ?_⟩)
  (u_in rl hF; rw [stepG_seq]; simp only [goes_go]; refine ⟨by (refine dl_none ?_; intro ez hez; simp at hez), ?_⟩)
  (u_in rl hF; rw [stepG_region]; simp only [goes_go, List.size_toArray, List.length_cons, List.length_nil, Nat.reduceAdd, Nat.zero_add, List.range, List.range.loop]; refine ⟨by (refine dl_none ?_; intro ez hez; simp at hez), ?_⟩)
  iterate 4 ((u_in rl hF; refine goes_oper_k rfl rfl (by k_ne) (fun Kz hKz => ?_); go_simp; refine hKz _ _ ⟨?_, ?_⟩; (focus (refine dl_none ?_; intro ez hez; have hmz := mem_listed hez; simp [go_sem, *] at hmz)); clear hKz Kz; try w_num))
  (refine Goes.stop (fun w₁ h₁ => ?_); replace hF := rl hF h₁; clear h₁)
  refine ⟨rfl, fun v hv hw => ?_⟩
  rcases Nat.eq_zero_or_pos v with rfl | hvp
  · -- the count is now 1
    replace hw : WgAt L.tWg Wg w₁ 0 0 := by simpa using hw
    have z : (((0 : Nat) : Int) + 1) * KK = KK := by simp
    rw [z]
    have e0 : IntKind.u64.wrap (0 + 4294967296) = KK := by decide
    refine ⟨_, (stepG_add_atomic rfl rfl (by k_ne) rfl H.f_addU64 (x_addU64_n L) (x_addU64_b L) (x_addU64_x L) .u64 (x_addU64_f L) rfl rfl hw.cellSt (hw.thaw 0)).trans (by rw [e0]; rfl), 140, ?_⟩
    replace hF : WgLive L.tWg Wg (w₁.setCell (stA Wg) (.int .u64 KK)) := ⟨_, _, hw.setSt _⟩
    clear hw
    simp only [KK] at hF ⊢
    walk_nrm
    (u_in rl hF; refine goes_oper_k rfl rfl (by k_ne) (fun Kz hKz => ?_); go_simp; refine hKz _ _ ⟨?_, ?_⟩; (focus (refine dl_none ?_; intro ez hez; have hmz := mem_listed hez; simp [go_sem, *] at hmz)); clear hKz Kz; try w_num)
    (u_in rl hF; rw [stepG_region_end]; simp only [goes_go]; refine ⟨by (refine dl_none ?_; intro ez hez; simp at hez), ?_⟩)
    (u_in rl hF; rw [stepG_ret']; simp only [goes_go]; refine ⟨by (refine dl_none ?_; intro ez hez; simp at hez), ?_⟩)
    (u_in rl hF; refine goes_leave1 rfl rfl H.f_uAdd rfl ⟨by (refine dl_none ?_; intro ez hez; simp at hez), ?_⟩; walk_nrm)
    (u_in rl hF; refine goes_oper_k rfl rfl (by k_ne) (fun Kz hKz => ?_); go_simp; refine hKz _ _ ⟨?_, ?_⟩; (focus (refine dl_none ?_; intro ez hez; have hmz := mem_listed hez; simp [go_sem, *] at hmz)); clear hKz Kz; try w_num)
    (u_in rl hF; rw [stepG_region_end]; simp only [goes_go]; refine ⟨by (refine dl_none ?_; intro ez hez; simp at hez), ?_⟩)
    (u_in rl hF; rw [stepG_seq]; simp only [goes_go]; refine ⟨by (refine dl_none ?_; intro ez hez; simp at hez), ?_⟩)
    (u_in rl hF; rw [stepG_seq]; simp only [goes_go]; refine ⟨by (refine dl_none ?_; intro ez hez; simp at hez), ?_⟩)
    (u_in rl hF; rw [stepG_region]; simp only [goes_go, List.size_toArray, List.length_cons, List.length_nil, Nat.reduceAdd, Nat.zero_add, List.range, List.range.loop]; refine ⟨by (refine dl_none ?_; intro ez hez; simp at hez), ?_⟩)
    iterate 4 ((u_in rl hF; refine goes_oper_k rfl rfl (by k_ne) (fun Kz hKz => ?_); go_simp; refine hKz _ _ ⟨?_, ?_⟩; (focus (refine dl_none ?_; intro ez hez; have hmz := mem_listed hez; simp [go_sem, *] at hmz)); clear hKz Kz; try w_num))
    iterate 2 ((u_in rl hF; rw [stepG_unwanted rfl rfl]; simp only [goes_go]; refine ⟨by (refine dl_none ?_; intro ez hez; simp at hez), ?_⟩; walk_nrm))
    (u_in rl hF; refine goes_oper_k rfl rfl (by k_ne) (fun Kz hKz => ?_); go_simp; refine hKz _ _ ⟨?_, ?_⟩; (focus (refine dl_none ?_; intro ez hez; have hmz := mem_listed hez; simp [go_sem, *] at hmz)); clear hKz Kz; try w_num)
    (u_in rl hF; rw [stepG_region_end]; simp only [goes_go]; refine ⟨by (refine dl_none ?_; intro ez hez; simp at hez), ?_⟩)
    (u_in rl hF; rw [stepG_cond (t := false) (by first | rfl | (simp [Act.eval]; omega))]; simp only [goes_go, Bool.false_eq_true, ↓reduceIte]; refine ⟨by (refine dl_none ?_; intro ez hez; simp at hez), ?_⟩)
    (u_in rl hF; rw [stepG_skip]; simp only [goes_go]; refine ⟨by (refine dl_none ?_; intro ez hez; simp at hez), ?_⟩)
    (u_in rl hF; rw [stepG_seq]; simp only [goes_go]; refine ⟨by (refine dl_none ?_; intro ez hez; simp at hez), ?_⟩)
    (u_in rl hF; rw [stepG_region]; simp only [goes_go, List.size_toArray, List.length_cons, List.length_nil, Nat.reduceAdd, Nat.zero_add, List.range, List.range.loop]; refine ⟨by (refine dl_none ?_; intro ez hez; simp at hez), ?_⟩)
    iterate 4 ((u_in rl hF; refine goes_oper_k rfl rfl (by k_ne) (fun Kz hKz => ?_); go_simp; refine hKz _ _ ⟨?_, ?_⟩; (focus (refine dl_none ?_; intro ez hez; have hmz := mem_listed hez; simp [go_sem, *] at hmz)); clear hKz Kz; try w_num))
    (u_in rl hF; rw [stepG_region_end]; simp only [goes_go]; refine ⟨by (refine dl_none ?_; intro ez hez; simp at hez), ?_⟩)
    (u_in rl hF; rw [stepG_seq]; simp only [goes_go]; refine ⟨by (refine dl_none ?_; intro ez hez; simp at hez), ?_⟩)
    (u_in rl hF; rw [stepG_region]; simp only [goes_go, List.size_toArray, List.length_cons, List.length_nil, Nat.reduceAdd, Nat.zero_add, List.range, List.range.loop]; refine ⟨by (refine dl_none ?_; intro ez hez; simp at hez), ?_⟩)
    iterate 4 ((u_in rl hF; refine goes_oper_k rfl rfl (by k_ne) (fun Kz hKz => ?_); go_simp; refine hKz _ _ ⟨?_, ?_⟩; (focus (refine dl_none ?_; intro ez hez; have hmz := mem_listed hez; simp [go_sem, *] at hmz)); clear hKz Kz; try w_num))
    (u_in rl hF; rw [stepG_region_end]; simp only [goes_go]; refine ⟨by (refine dl_none ?_; intro ez hez; simp at hez), ?_⟩)
    (u_in rl hF; rw [stepG_seq]; simp only [goes_go]; refine ⟨by (refine dl_none ?_; intro ez hez; simp at hez), ?_⟩)
    (u_in rl hF; rw [stepG_seq]; simp only [goes_go]; refine ⟨by (refine dl_none ?_; intro ez hez; simp at hez), ?_⟩)
    (u_in rl hF; rw [stepG_region]; simp only [goes_go, List.size_toArray, List.length_cons, List.length_nil, Nat.reduceAdd, Nat.zero_add, List.range, List.range.loop]; refine ⟨by (refine dl_none ?_; intro ez hez; simp at hez), ?_⟩)
    iterate 10 ((u_in rl hF; refine goes_oper_k rfl rfl (by k_ne) (fun Kz hKz => ?_); go_simp; refine hKz _ _ ⟨?_, ?_⟩; (focus (refine dl_none ?_; intro ez hez; have hmz := mem_listed hez; simp [go_sem, *] at hmz)); clear hKz Kz; try w_num))
    (u_in rl hF; rw [stepG_region_end]; simp only [goes_go]; refine ⟨by (refine dl_none ?_; intro ez hez; simp at hez), ?_⟩)
    (u_in rl hF; rw [stepG_cond (t := true) (by first | rfl | (simp [Act.eval]; omega))]; simp only [goes_go, ↓reduceIte]; refine ⟨by (refine dl_none ?_; intro ez hez; simp at hez), ?_⟩)
    (u_in rl hF; rw [stepG_region]; simp only [goes_go, List.size_toArray, List.length_cons, List.length_nil, Nat.reduceAdd, Nat.zero_add, List.range, List.range.loop]; refine ⟨by (refine dl_none ?_; intro ez hez; simp at hez), ?_⟩)
    iterate 3 ((u_in rl hF; refine goes_oper_k rfl rfl (by k_ne) (fun Kz hKz => ?_); go_simp; refine hKz _ _ ⟨?_, ?_⟩; (focus (refine dl_none ?_; intro ez hez; have hmz := mem_listed hez; simp [go_sem, *] at hmz)); clear hKz Kz; try w_num))
    (u_in rl hF; refine goes_oper_k rfl rfl (by k_ne) (fun Kz hKz => ?_); have hcv := run_convert_to_unsafe (P := P) H.underlying_tPU32 H.underlying_tUP H.room_tU32 (WgLive.cell1 hF).choose_spec; have hce := fun es => events_convert_to_unsafe (P := P) H.underlying_tPU32 H.underlying_tUP H.room_tU32 (WgLive.cell1 hF).choose_spec es; go_simp; refine hKz _ _ ⟨?_, ?_⟩; (focus (refine dl_none ?_; intro ez hez; have hmz := mem_listed hez; simp [go_sem, hce] at hmz)); clear hKz Kz hcv hce)
    (u_in rl hF; rw [(stepG_markAt .read (by simp) rfl rfl (by k_ne) rfl H.f_raceRead (x_raceRead_n L) (x_raceRead_b L) (x_raceRead_x L) (x_raceRead_f L) (ad := ⟨Wg, 1, none⟩) (by simp [Act.eval]))]; simp only [goes_go]; refine ⟨⟨rfl, fun ex hex => ?_⟩, ?_⟩; (focus (rw [Array.mem_singleton] at hex; subst hex; exact ⟨⟨Wg, 1, none⟩, rfl, by simp⟩)); walk_nrm)
    (u_in rl hF; rw [stepG_region_end]; simp only [goes_go]; refine ⟨by (refine dl_none ?_; intro ez hez; simp at hez), ?_⟩)
    (u_in rl hF; rw [stepG_seq]; simp only [goes_go]; refine ⟨by (refine dl_none ?_; intro ez hez; simp at hez), ?_⟩)
    (u_in rl hF; rw [stepG_seq]; simp only [goes_go]; refine ⟨by (refine dl_none ?_; intro ez hez; simp at hez), ?_⟩)
    (u_in rl hF; rw [stepG_region]; simp only [goes_go, List.size_toArray, List.length_cons, List.length_nil, Nat.reduceAdd, Nat.zero_add, List.range, List.range.loop]; refine ⟨by (refine dl_none ?_; intro ez hez; simp at hez), ?_⟩)
    iterate 2 ((u_in rl hF; refine goes_oper_k rfl rfl (by k_ne) (fun Kz hKz => ?_); go_simp; refine hKz _ _ ⟨?_, ?_⟩; (focus (refine dl_none ?_; intro ez hez; have hmz := mem_listed hez; simp [go_sem, *] at hmz)); clear hKz Kz; try w_num))
    (u_in rl hF; rw [stepG_region_end]; simp only [goes_go]; refine ⟨by (refine dl_none ?_; intro ez hez; simp at hez), ?_⟩)
    (u_in rl hF; rw [stepG_cond (t := false) (by first | rfl | (simp [Act.eval]; omega))]; simp only [goes_go, Bool.false_eq_true, ↓reduceIte]; refine ⟨by (refine dl_none ?_; intro ez hez; simp at hez), ?_⟩)
    (u_in rl hF; rw [stepG_skip]; simp only [goes_go]; refine ⟨by (refine dl_none ?_; intro ez hez; simp at hez), ?_⟩)
    (u_in rl hF; rw [stepG_seq]; simp only [goes_go]; refine ⟨by (refine dl_none ?_; intro ez hez; simp at hez), ?_⟩)
    (u_in rl hF; rw [stepG_seq]; simp only [goes_go]; refine ⟨by (refine dl_none ?_; intro ez hez; simp at hez), ?_⟩)
    (u_in rl hF; rw [stepG_region]; simp only [goes_go, List.size_toArray, List.length_cons, List.length_nil, Nat.reduceAdd, Nat.zero_add, List.range, List.range.loop]; refine ⟨by (refine dl_none ?_; intro ez hez; simp at hez), ?_⟩)
    iterate 3 ((u_in rl hF; refine goes_oper_k rfl rfl (by k_ne) (fun Kz hKz => ?_); go_simp; refine hKz _ _ ⟨?_, ?_⟩; (focus (refine dl_none ?_; intro ez hez; have hmz := mem_listed hez; simp [go_sem, *] at hmz)); clear hKz Kz; try w_num))
    iterate 2 ((u_in rl hF; rw [stepG_unwanted rfl rfl]; simp only [goes_go]; refine ⟨by (refine dl_none ?_; intro ez hez; simp at hez), ?_⟩; walk_nrm))
    iterate 2 ((u_in rl hF; refine goes_oper_k rfl rfl (by k_ne) (fun Kz hKz => ?_); go_simp; refine hKz _ _ ⟨?_, ?_⟩; (focus (refine dl_none ?_; intro ez hez; have hmz := mem_listed hez; simp [go_sem, *] at hmz)); clear hKz Kz; try w_num))
    iterate 4 ((u_in rl hF; rw [stepG_unwanted rfl rfl]; simp only [goes_go]; refine ⟨by (refine dl_none ?_; intro ez hez; simp at hez), ?_⟩; walk_nrm))
    (u_in rl hF; refine goes_oper_k rfl rfl (by k_ne) (fun Kz hKz => ?_); go_simp; refine hKz _ _ ⟨?_, ?_⟩; (focus (refine dl_none ?_; intro ez hez; have hmz := mem_listed hez; simp [go_sem, *] at hmz)); clear hKz Kz; try w_num)
    (u_in rl hF; rw [stepG_region_end]; simp only [goes_go]; refine ⟨by (refine dl_none ?_; intro ez hez; simp at hez), ?_⟩)
    (u_in rl hF; rw [stepG_cond (t := false) (by first | rfl | (simp [Act.eval]; omega))]; simp only [goes_go, Bool.false_eq_true, ↓reduceIte]; refine ⟨by (refine dl_none ?_; intro ez hez; simp at hez), ?_⟩)
    (u_in rl hF; rw [stepG_skip]; simp only [goes_go]; refine ⟨by (refine dl_none ?_; intro ez hez; simp at hez), ?_⟩)
    (u_in rl hF; rw [stepG_seq]; simp only [goes_go]; refine ⟨by (refine dl_none ?_; intro ez hez; simp at hez), ?_⟩)
    (u_in rl hF; rw [stepG_seq]; simp only [goes_go]; refine ⟨by (refine dl_none ?_; intro ez hez; simp at hez), ?_⟩)
    (u_in rl hF; rw [stepG_region]; simp only [goes_go, List.size_toArray, List.length_cons, List.length_nil, Nat.reduceAdd, Nat.zero_add, List.range, List.range.loop]; refine ⟨by (refine dl_none ?_; intro ez hez; simp at hez), ?_⟩)
    iterate 3 ((u_in rl hF; refine goes_oper_k rfl rfl (by k_ne) (fun Kz hKz => ?_); go_simp; refine hKz _ _ ⟨?_, ?_⟩; (focus (refine dl_none ?_; intro ez hez; have hmz := mem_listed hez; simp [go_sem, *] at hmz)); clear hKz Kz; try w_num))
    iterate 2 ((u_in rl hF; rw [stepG_unwanted rfl rfl]; simp only [goes_go]; refine ⟨by (refine dl_none ?_; intro ez hez; simp at hez), ?_⟩; walk_nrm))
    (u_in rl hF; refine goes_oper_k rfl rfl (by k_ne) (fun Kz hKz => ?_); go_simp; refine hKz _ _ ⟨?_, ?_⟩; (focus (refine dl_none ?_; intro ez hez; have hmz := mem_listed hez; simp [go_sem, *] at hmz)); clear hKz Kz; try w_num)
    (u_in rl hF; rw [stepG_region_end]; simp only [goes_go]; refine ⟨by (refine dl_none ?_; intro ez hez; simp at hez), ?_⟩)
    (u_in rl hF; rw [stepG_cond (t := true) (by first | rfl | (simp [Act.eval]; omega))]; simp only [goes_go, ↓reduceIte]; refine ⟨by (refine dl_none ?_; intro ez hez; simp at hez), ?_⟩)
    (u_in rl hF; rw [stepG_ret']; simp only [goes_go]; refine ⟨by (refine dl_none ?_; intro ez hez; simp at hez), ?_⟩)
    (refine Goes.stop (fun w₁ h₁ => ?_); replace hF := rl hF h₁; clear h₁)
    refine ⟨rfl, _, stepG_unwind_entry (v := .tuple #[]) (evs := #[mk .enable]) rfl H.f_enable (x_enable_n L) (x_enable_b L) (x_enable_x L) (x_enable_f L) (by simp [Extern.Race.none_]) (by simp [mk]) (by simp [mk]), 4, ?_⟩
    (u_in rl hF; refine goes_leave0 rfl rfl H.f_add rfl ⟨by (refine dl_none ?_; intro ez hez; simp at hez), ?_⟩; walk_nrm)
    exact Goes.stop fun _ _ => rfl
  · -- it is more
    obtain ⟨V, hV⟩ : ∃ V : Int, V = (v : Int) + 1 := ⟨_, rfl⟩
    obtain ⟨S, hS⟩ : ∃ S : Int, S = V * KK := ⟨_, rfl⟩
    have eS : IntKind.u64.wrap ((v : Int) * KK + 4294967296) = S := by rw [IntKind.wrap_u64, hS, hV]; simp only [KK]; omega
    rw [← hV, ← hS]
    have a1 : S / 4294967296 = V := by rw [hS]; simp only [KK]; omega
    have b1 : bits .and .u64 S 2147483648 = 0 := by rw [hS, hV]; have := st_flag (v + 1) 0 (by omega) (by omega); simpa [KK] using this
    have b2 : bits .and .u64 S 2147483647 = 0 := by rw [hS, hV]; have := st_waiters (v + 1) 0 (by omega) (by omega); simpa [KK] using this
    have c1 : IntKind.i32.wrap V = V := by rw [IntKind.wrap_i32]; omega
    have hV1 : 1 < V := by omega
    have hV2 : V < 2147483648 := by omega
    have q1 : (V == 1) = false := by simp; omega
    have q2 : decide (V = 1) = false := decide_eq_false (by omega)
    have q3 : decide (V < 0) = false := decide_eq_false (by omega)
    have q4 : decide (0 < V) = true := decide_eq_true (by omega)
    have q5 : (V == 0) = false := by simp; omega
    have q6 : decide (V = 0) = false := decide_eq_false (by omega)
    refine ⟨_, (stepG_add_atomic rfl rfl (by k_ne) rfl H.f_addU64 (x_addU64_n L) (x_addU64_b L) (x_addU64_x L) .u64 (x_addU64_f L) rfl rfl hw.cellSt (hw.thaw 0)).trans (by rw [eS]; rfl), 140, ?_⟩
    replace hF : WgLive L.tWg Wg (w₁.setCell (stA Wg) (.int .u64 S)) := ⟨_, _, hw.setSt _⟩
    clear hw hS hV eS
    walk_nrm
    (u_in rl hF; refine goes_oper_k rfl rfl (by k_ne) (fun Kz hKz => ?_); go_simp; refine hKz _ _ ⟨?_, ?_⟩; (focus (refine dl_none ?_; intro ez hez; have hmz := mem_listed hez; simp [go_sem, *] at hmz)); clear hKz Kz; try w_num)
    (u_in rl hF; rw [stepG_region_end]; simp only [goes_go]; refine ⟨by (refine dl_none ?_; intro ez hez; simp at hez), ?_⟩)
    (u_in rl hF; rw [stepG_ret']; simp only [goes_go]; refine ⟨by (refine dl_none ?_; intro ez hez; simp at hez), ?_⟩)
    (u_in rl hF; refine goes_leave1 rfl rfl H.f_uAdd rfl ⟨by (refine dl_none ?_; intro ez hez; simp at hez), ?_⟩; walk_nrm)
    (u_in rl hF; refine goes_oper_k rfl rfl (by k_ne) (fun Kz hKz => ?_); go_simp; refine hKz _ _ ⟨?_, ?_⟩; (focus (refine dl_none ?_; intro ez hez; have hmz := mem_listed hez; simp [go_sem, *] at hmz)); clear hKz Kz; try w_num)
    (u_in rl hF; rw [stepG_region_end]; simp only [goes_go]; refine ⟨by (refine dl_none ?_; intro ez hez; simp at hez), ?_⟩)
    (u_in rl hF; rw [stepG_seq]; simp only [goes_go]; refine ⟨by (refine dl_none ?_; intro ez hez; simp at hez), ?_⟩)
    (u_in rl hF; rw [stepG_seq]; simp only [goes_go]; refine ⟨by (refine dl_none ?_; intro ez hez; simp at hez), ?_⟩)
    (u_in rl hF; rw [stepG_region]; simp only [goes_go, List.size_toArray, List.length_cons, List.length_nil, Nat.reduceAdd, Nat.zero_add, List.range, List.range.loop]; refine ⟨by (refine dl_none ?_; intro ez hez; simp at hez), ?_⟩)
    iterate 4 ((u_in rl hF; refine goes_oper_k rfl rfl (by k_ne) (fun Kz hKz => ?_); go_simp; refine hKz _ _ ⟨?_, ?_⟩; (focus (refine dl_none ?_; intro ez hez; have hmz := mem_listed hez; simp [go_sem, *] at hmz)); clear hKz Kz; try w_num))
    iterate 2 ((u_in rl hF; rw [stepG_unwanted rfl rfl]; simp only [goes_go]; refine ⟨by (refine dl_none ?_; intro ez hez; simp at hez), ?_⟩; walk_nrm))
    (u_in rl hF; refine goes_oper_k rfl rfl (by k_ne) (fun Kz hKz => ?_); go_simp; refine hKz _ _ ⟨?_, ?_⟩; (focus (refine dl_none ?_; intro ez hez; have hmz := mem_listed hez; simp [go_sem, *] at hmz)); clear hKz Kz; try w_num)
    (u_in rl hF; rw [stepG_region_end]; simp only [goes_go]; refine ⟨by (refine dl_none ?_; intro ez hez; simp at hez), ?_⟩)
    (u_in rl hF; rw [stepG_cond (t := false) (by first | rfl | (simp [Act.eval]; omega))]; simp only [goes_go, Bool.false_eq_true, ↓reduceIte]; refine ⟨by (refine dl_none ?_; intro ez hez; simp at hez), ?_⟩)
    (u_in rl hF; rw [stepG_skip]; simp only [goes_go]; refine ⟨by (refine dl_none ?_; intro ez hez; simp at hez), ?_⟩)
    (u_in rl hF; rw [stepG_seq]; simp only [goes_go]; refine ⟨by (refine dl_none ?_; intro ez hez; simp at hez), ?_⟩)
    (u_in rl hF; rw [stepG_region]; simp only [goes_go, List.size_toArray, List.length_cons, List.length_nil, Nat.reduceAdd, Nat.zero_add, List.range, List.range.loop]; refine ⟨by (refine dl_none ?_; intro ez hez; simp at hez), ?_⟩)
    iterate 4 ((u_in rl hF; refine goes_oper_k rfl rfl (by k_ne) (fun Kz hKz => ?_); go_simp; refine hKz _ _ ⟨?_, ?_⟩; (focus (refine dl_none ?_; intro ez hez; have hmz := mem_listed hez; simp [go_sem, *] at hmz)); clear hKz Kz; try w_num))
    (u_in rl hF; rw [stepG_region_end]; simp only [goes_go]; refine ⟨by (refine dl_none ?_; intro ez hez; simp at hez), ?_⟩)
    (u_in rl hF; rw [stepG_seq]; simp only [goes_go]; refine ⟨by (refine dl_none ?_; intro ez hez; simp at hez), ?_⟩)
    (u_in rl hF; rw [stepG_region]; simp only [goes_go, List.size_toArray, List.length_cons, List.length_nil, Nat.reduceAdd, Nat.zero_add, List.range, List.range.loop]; refine ⟨by (refine dl_none ?_; intro ez hez; simp at hez), ?_⟩)
    iterate 4 ((u_in rl hF; refine goes_oper_k rfl rfl (by k_ne) (fun Kz hKz => ?_); go_simp; refine hKz _ _ ⟨?_, ?_⟩; (focus (refine dl_none ?_; intro ez hez; have hmz := mem_listed hez; simp [go_sem, *] at hmz)); clear hKz Kz; try w_num))
    (u_in rl hF; rw [stepG_region_end]; simp only [goes_go]; refine ⟨by (refine dl_none ?_; intro ez hez; simp at hez), ?_⟩)
    (u_in rl hF; rw [stepG_seq]; simp only [goes_go]; refine ⟨by (refine dl_none ?_; intro ez hez; simp at hez), ?_⟩)
    (u_in rl hF; rw [stepG_seq]; simp only [goes_go]; refine ⟨by (refine dl_none ?_; intro ez hez; simp at hez), ?_⟩)
    (u_in rl hF; rw [stepG_region]; simp only [goes_go, List.size_toArray, List.length_cons, List.length_nil, Nat.reduceAdd, Nat.zero_add, List.range, List.range.loop]; refine ⟨by (refine dl_none ?_; intro ez hez; simp at hez), ?_⟩)
    iterate 10 ((u_in rl hF; refine goes_oper_k rfl rfl (by k_ne) (fun Kz hKz => ?_); go_simp; refine hKz _ _ ⟨?_, ?_⟩; (focus (refine dl_none ?_; intro ez hez; have hmz := mem_listed hez; simp [go_sem, *] at hmz)); clear hKz Kz; try w_num))
    (u_in rl hF; rw [stepG_region_end]; simp only [goes_go]; refine ⟨by (refine dl_none ?_; intro ez hez; simp at hez), ?_⟩)
    (u_in rl hF; rw [stepG_cond (t := false) (by first | rfl | (simp [Act.eval]; omega))]; simp only [goes_go, Bool.false_eq_true, ↓reduceIte]; refine ⟨by (refine dl_none ?_; intro ez hez; simp at hez), ?_⟩)
    (u_in rl hF; rw [stepG_skip]; simp only [goes_go]; refine ⟨by (refine dl_none ?_; intro ez hez; simp at hez), ?_⟩)
    (u_in rl hF; rw [stepG_seq]; simp only [goes_go]; refine ⟨by (refine dl_none ?_; intro ez hez; simp at hez), ?_⟩)
    (u_in rl hF; rw [stepG_seq]; simp only [goes_go]; refine ⟨by (refine dl_none ?_; intro ez hez; simp at hez), ?_⟩)
    (u_in rl hF; rw [stepG_region]; simp only [goes_go, List.size_toArray, List.length_cons, List.length_nil, Nat.reduceAdd, Nat.zero_add, List.range, List.range.loop]; refine ⟨by (refine dl_none ?_; intro ez hez; simp at hez), ?_⟩)
    iterate 2 ((u_in rl hF; refine goes_oper_k rfl rfl (by k_ne) (fun Kz hKz => ?_); go_simp; refine hKz _ _ ⟨?_, ?_⟩; (focus (refine dl_none ?_; intro ez hez; have hmz := mem_listed hez; simp [go_sem, *] at hmz)); clear hKz Kz; try w_num))
    (u_in rl hF; rw [stepG_region_end]; simp only [goes_go]; refine ⟨by (refine dl_none ?_; intro ez hez; simp at hez), ?_⟩)
    (u_in rl hF; rw [stepG_cond (t := false) (by first | rfl | (simp [Act.eval]; omega))]; simp only [goes_go, Bool.false_eq_true, ↓reduceIte]; refine ⟨by (refine dl_none ?_; intro ez hez; simp at hez), ?_⟩)
    (u_in rl hF; rw [stepG_skip]; simp only [goes_go]; refine ⟨by (refine dl_none ?_; intro ez hez; simp at hez), ?_⟩)
    (u_in rl hF; rw [stepG_seq]; simp only [goes_go]; refine ⟨by (refine dl_none ?_; intro ez hez; simp at hez), ?_⟩)
    (u_in rl hF; rw [stepG_seq]; simp only [goes_go]; refine ⟨by (refine dl_none ?_; intro ez hez; simp at hez), ?_⟩)
    (u_in rl hF; rw [stepG_region]; simp only [goes_go, List.size_toArray, List.length_cons, List.length_nil, Nat.reduceAdd, Nat.zero_add, List.range, List.range.loop]; refine ⟨by (refine dl_none ?_; intro ez hez; simp at hez), ?_⟩)
    iterate 3 ((u_in rl hF; refine goes_oper_k rfl rfl (by k_ne) (fun Kz hKz => ?_); go_simp; refine hKz _ _ ⟨?_, ?_⟩; (focus (refine dl_none ?_; intro ez hez; have hmz := mem_listed hez; simp [go_sem, *] at hmz)); clear hKz Kz; try w_num))
    iterate 2 ((u_in rl hF; rw [stepG_unwanted rfl rfl]; simp only [goes_go]; refine ⟨by (refine dl_none ?_; intro ez hez; simp at hez), ?_⟩; walk_nrm))
    iterate 2 ((u_in rl hF; refine goes_oper_k rfl rfl (by k_ne) (fun Kz hKz => ?_); go_simp; refine hKz _ _ ⟨?_, ?_⟩; (focus (refine dl_none ?_; intro ez hez; have hmz := mem_listed hez; simp [go_sem, *] at hmz)); clear hKz Kz; try w_num))
    iterate 4 ((u_in rl hF; rw [stepG_unwanted rfl rfl]; simp only [goes_go]; refine ⟨by (refine dl_none ?_; intro ez hez; simp at hez), ?_⟩; walk_nrm))
    (u_in rl hF; refine goes_oper_k rfl rfl (by k_ne) (fun Kz hKz => ?_); go_simp; refine hKz _ _ ⟨?_, ?_⟩; (focus (refine dl_none ?_; intro ez hez; have hmz := mem_listed hez; simp [go_sem, *] at hmz)); clear hKz Kz; try w_num)
    (u_in rl hF; rw [stepG_region_end]; simp only [goes_go]; refine ⟨by (refine dl_none ?_; intro ez hez; simp at hez), ?_⟩)
    (u_in rl hF; rw [stepG_cond (t := false) (by first | rfl | (simp [Act.eval]; omega))]; simp only [goes_go, Bool.false_eq_true, ↓reduceIte]; refine ⟨by (refine dl_none ?_; intro ez hez; simp at hez), ?_⟩)
    (u_in rl hF; rw [stepG_skip]; simp only [goes_go]; refine ⟨by (refine dl_none ?_; intro ez hez; simp at hez), ?_⟩)
    (u_in rl hF; rw [stepG_seq]; simp only [goes_go]; refine ⟨by (refine dl_none ?_; intro ez hez; simp at hez), ?_⟩)
    (u_in rl hF; rw [stepG_seq]; simp only [goes_go]; refine ⟨by (refine dl_none ?_; intro ez hez; simp at hez), ?_⟩)
    (u_in rl hF; rw [stepG_region]; simp only [goes_go, List.size_toArray, List.length_cons, List.length_nil, Nat.reduceAdd, Nat.zero_add, List.range, List.range.loop]; refine ⟨by (refine dl_none ?_; intro ez hez; simp at hez), ?_⟩)
    iterate 3 ((u_in rl hF; refine goes_oper_k rfl rfl (by k_ne) (fun Kz hKz => ?_); go_simp; refine hKz _ _ ⟨?_, ?_⟩; (focus (refine dl_none ?_; intro ez hez; have hmz := mem_listed hez; simp [go_sem, *] at hmz)); clear hKz Kz; try w_num))
    iterate 2 ((u_in rl hF; rw [stepG_unwanted rfl rfl]; simp only [goes_go]; refine ⟨by (refine dl_none ?_; intro ez hez; simp at hez), ?_⟩; walk_nrm))
    (u_in rl hF; refine goes_oper_k rfl rfl (by k_ne) (fun Kz hKz => ?_); go_simp; refine hKz _ _ ⟨?_, ?_⟩; (focus (refine dl_none ?_; intro ez hez; have hmz := mem_listed hez; simp [go_sem, *] at hmz)); clear hKz Kz; try w_num)
    (u_in rl hF; rw [stepG_region_end]; simp only [goes_go]; refine ⟨by (refine dl_none ?_; intro ez hez; simp at hez), ?_⟩)
    (u_in rl hF; rw [stepG_cond (t := true) (by first | rfl | (simp [Act.eval]; omega))]; simp only [goes_go, ↓reduceIte]; refine ⟨by (refine dl_none ?_; intro ez hez; simp at hez), ?_⟩)
    (u_in rl hF; rw [stepG_ret']; simp only [goes_go]; refine ⟨by (refine dl_none ?_; intro ez hez; simp at hez), ?_⟩)
    (refine Goes.stop (fun w₁ h₁ => ?_); replace hF := rl hF h₁; clear h₁)
    refine ⟨rfl, _, stepG_unwind_entry (v := .tuple #[]) (evs := #[mk .enable]) rfl H.f_enable (x_enable_n L) (x_enable_b L) (x_enable_x L) (x_enable_f L) (by simp [Extern.Race.none_]) (by simp [mk]) (by simp [mk]), 4, ?_⟩
    (u_in rl hF; refine goes_leave0 rfl rfl H.f_add rfl ⟨by (refine dl_none ?_; intro ez hez; simp at hez), ?_⟩; walk_nrm)
    exact Goes.stop fun _ _ => rfl

set_option maxRecDepth 100000 in
set_option maxHeartbeats 16000000 in
/-- From Wait's entry to its loop's head. -/
theorem waitL (H : WgLib P L) (w : World) (hF : WgLive L.tWg Wg w) :
    Goes P true (RL L.tWg Wg) (DL Wg) (BKd P L.tWg Wg (Anch L Wg (b₀.at a₀ (.inRegion ops₀ (i₀ :: rest₀) :: k₀)) cs)) 8
      (G ((base L.wait).at ⟨#[.pointer (some ⟨Wg, 0, none⟩), undef, undef, undef, undef, undef, undef, undef, undef, undef, undef, undef, undef, undef, undef, undef, undef, undef, undef, undef, undef, undef, undef, undef, undef, undef, undef, undef, undef, undef, undef, undef, undef, undef, undef, undef, undef, undef, undef, undef, undef, undef, undef, undef, undef, undef, undef, undef, undef, undef, undef, undef, undef, undef, undef, undef, undef, undef, undef, undef, undef, undef, undef, undef, undef, undef, undef, undef, undef, undef, undef, undef, undef, undef, undef, undef, undef, undef, undef, undef, undef, undef, undef, undef], []⟩ [.code (body_wait L)]) (b₀.at a₀ (.inRegion ops₀ (i₀ :: rest₀) :: k₀) :: cs)) w := by
  lib_facts
  simp only [body_wait, waitFn, Option.getD_some]
  (u_in rl hF; rw [stepG_seq]; simp only [goes_go]; refine ⟨by (refine dl_none ?_; intro ez hez; simp at hez), ?_⟩)
  (u_in rl hF; rw [stepG_cond (t := true) (by first | rfl | (simp [Act.eval]; omega))]; simp only [goes_go, ↓reduceIte]; refine ⟨by (refine dl_none ?_; intro ez hez; simp at hez), ?_⟩)
  (u_in rl hF; rw [stepG_region]; simp only [goes_go, List.size_toArray, List.length_cons, List.length_nil, Nat.zero_add, List.range, List.range.loop]; refine ⟨by (refine dl_none ?_; intro ez hez; simp at hez), ?_⟩)
  (refine Goes.stop (fun w₁ h₁ => ?_); replace hF := rl hF h₁; clear h₁)
  refine ⟨rfl, _, stepG_mark0 .disable (by simp) rfl rfl (by k_ne) rfl H.f_disable (x_disable_n L) (x_disable_b L) (x_disable_x L) (x_disable_f L), 6, ?_⟩
  walk_nrm
  (u_in rl hF; rw [stepG_region_end]; simp only [goes_go]; refine ⟨by (refine dl_none ?_; intro ez hez; simp at hez), ?_⟩)
  (u_in rl hF; rw [stepG_block]; simp only [goes_go]; refine ⟨by (refine dl_none ?_; intro ez hez; simp at hez), ?_⟩)
  (u_in rl hF; rw [stepG_loop]; simp only [goes_go]; refine ⟨by (refine dl_none ?_; intro ez hez; simp at hez), ?_⟩)
  (refine Goes.stop (fun w₁ h₁ => ?_); replace hF := rl hF h₁; clear h₁)
  exact ⟨_, rfl, by simp, by simp, hF⟩

set_option maxRecDepth 100000 in
set_option maxHeartbeats 16000000 in
/-- From the loop's head. -/
theorem roundL (H : WgLib P L) (g : Goroutine) (w : World) (h : Anch L Wg (b₀.at a₀ (.inRegion ops₀ (i₀ :: rest₀) :: k₀)) cs g w) :
    ∃ m, Goes P true (RL L.tWg Wg) (DL Wg) (BW1 P L.tWg Wg (G (b₀.at (a₀.put ((ops₀[i₀]?).bind (·.dst)) (.tuple #[])) (.inRegion ops₀ rest₀ :: k₀)) cs) (Anch L Wg (b₀.at a₀ (.inRegion ops₀ (i₀ :: rest₀) :: k₀)) cs)) m g w := by
  lib_facts
  obtain ⟨T, rfl, hT84, t0, hF⟩ := h
  obtain ⟨v0, v1, v2, v3, v4, v5, v6, v7, v8, v9, v10, v11, v12, v13, v14, v15, v16, v17, v18, v19, v20, v21, v22, v23, v24, v25, v26, v27, v28, v29, v30, v31, v32, v33, v34, v35, v36, v37, v38, v39, v40, v41, v42, v43, v44, v45, v46, v47, v48, v49, v50, v51, v52, v53, v54, v55, v56, v57, v58, v59, v60, v61, v62, v63, v64, v65, v66, v67, v68, v69, v70, v71, v72, v73, v74, v75, v76, v77, v78, v79, v80, v81, v82, v83, rfl⟩ := array84 T hT84
  simp only [List.getElem?_toArray, List.getElem?_cons_zero, Option.some.injEq] at t0
  subst t0
  refine ⟨40, ?_⟩
  simp only [L7, body_wait, waitFn, Option.getD_some]
  (u_in rl hF; rw [stepG_block]; simp only [goes_go]; refine ⟨by (refine dl_none ?_; intro ez hez; simp at hez), ?_⟩)
  (u_in rl hF; rw [stepG_seq]; simp only [goes_go]; refine ⟨by (refine dl_none ?_; intro ez hez; simp at hez), ?_⟩)
  (u_in rl hF; rw [stepG_region]; simp only [goes_go, List.size_toArray, List.length_cons, List.length_nil, Nat.reduceAdd, Nat.zero_add, List.range, List.range.loop]; refine ⟨by (refine dl_none ?_; intro ez hez; simp at hez), ?_⟩)
  iterate 3 ((u_in rl hF; refine goes_oper_k rfl rfl (by k_ne) (fun Kz hKz => ?_); go_simp; refine hKz _ _ ⟨?_, ?_⟩; (focus (refine dl_none ?_; intro ez hez; have hmz := mem_listed hez; simp [go_sem, *] at hmz)); clear hKz Kz; try w_num))
  (u_in rl hF; refine goes_call rfl rfl (by k_ne) rfl H.f_uLoad (nm_uLoad L) rfl ⟨by (refine dl_none ?_; intro ez hez; simp at hez), ?_⟩; walk_nrmf uLoadFn)
  (u_in rl hF; rw [stepG_seq]; simp only [goes_go]; refine ⟨by (refine dl_none ?_; intro ez hez; simp at hez), ?_⟩)
  (u_in rl hF; rw [stepG_region]; simp only [goes_go, List.size_toArray, List.length_cons, List.length_nil, Nat.zero_add, List.range, List.range.loop]; refine ⟨by (refine dl_none ?_; intro ez hez; simp at hez), ?_⟩)
  (u_in rl hF; refine goes_oper_k rfl rfl (by k_ne) (fun Kz hKz => ?_); go_simp; refine hKz _ _ ⟨?_, ?_⟩; (focus (refine dl_none ?_; intro ez hez; have hmz := mem_listed hez; simp [go_sem, *] at hmz)); clear hKz Kz; try w_num)
  (u_in rl hF; rw [stepG_region_end]; simp only [goes_go]; refine ⟨by (refine dl_none ?_; intro ez hez; simp at hez), ?_⟩)
  (u_in rl hF; rw [stepG_seq]; simp only [goes_go]; refine ⟨by (refine dl_none ?_; intro ez hez; simp at hez), ?_⟩)
  (u_in rl hF; rw [stepG_region]; simp only [goes_go, List.size_toArray, List.length_cons, List.length_nil, Nat.reduceAdd, Nat.zero_add, List.range, List.range.loop]; refine ⟨by (refine dl_none ?_; intro ez hez; simp at hez), ?_⟩)
  iterate 3 ((u_in rl hF; refine goes_oper_k rfl rfl (by k_ne) (fun Kz hKz => ?_); go_simp; refine hKz _ _ ⟨?_, ?_⟩; (focus (refine dl_none ?_; intro ez hez; have hmz := mem_listed hez; simp [go_sem, *] at hmz)); clear hKz Kz; try w_num))
  (refine Goes.stop (fun w₁ h₁ => ?_); replace hF := rl hF h₁; clear h₁)
  refine ⟨rfl, fun v hv hw => ?_⟩
  rcases Nat.eq_zero_or_pos v with rfl | hvp
  · -- the join is seen
    replace hw : WgAt L.tWg Wg w₁ 0 0 := by simpa using hw
    refine ⟨_, stepG_load_atomic (v := 0) rfl rfl (by k_ne) rfl H.f_loadU64 (x_loadU64_n L) (x_loadU64_b L) (x_loadU64_x L) .u64 (x_loadU64_f L) rfl hw.cellSt, fun _ => ⟨60, ?_⟩, fun h => absurd rfl h⟩
    clear hw
    walk_nrm
    (u_in rl hF; refine goes_oper_k rfl rfl (by k_ne) (fun Kz hKz => ?_); go_simp; refine hKz _ _ ⟨?_, ?_⟩; (focus (refine dl_none ?_; intro ez hez; have hmz := mem_listed hez; simp [go_sem, *] at hmz)); clear hKz Kz; try w_num)
    (u_in rl hF; rw [stepG_region_end]; simp only [goes_go]; refine ⟨by (refine dl_none ?_; intro ez hez; simp at hez), ?_⟩)
    (u_in rl hF; rw [stepG_ret']; simp only [goes_go]; refine ⟨by (refine dl_none ?_; intro ez hez; simp at hez), ?_⟩)
    (u_in rl hF; refine goes_leave1 rfl rfl H.f_uLoad rfl ⟨by (refine dl_none ?_; intro ez hez; simp at hez), ?_⟩; walk_nrm)
    (u_in rl hF; refine goes_oper_k rfl rfl (by k_ne) (fun Kz hKz => ?_); go_simp; refine hKz _ _ ⟨?_, ?_⟩; (focus (refine dl_none ?_; intro ez hez; have hmz := mem_listed hez; simp [go_sem, *] at hmz)); clear hKz Kz; try w_num)
    (u_in rl hF; rw [stepG_region_end]; simp only [goes_go]; refine ⟨by (refine dl_none ?_; intro ez hez; simp at hez), ?_⟩)
    (u_in rl hF; rw [stepG_seq]; simp only [goes_go]; refine ⟨by (refine dl_none ?_; intro ez hez; simp at hez), ?_⟩)
    (u_in rl hF; rw [stepG_region]; simp only [goes_go, List.size_toArray, List.length_cons, List.length_nil, Nat.reduceAdd, Nat.zero_add, List.range, List.range.loop]; refine ⟨by (refine dl_none ?_; intro ez hez; simp at hez), ?_⟩)
    iterate 4 ((u_in rl hF; refine goes_oper_k rfl rfl (by k_ne) (fun Kz hKz => ?_); go_simp; refine hKz _ _ ⟨?_, ?_⟩; (focus (refine dl_none ?_; intro ez hez; have hmz := mem_listed hez; simp [go_sem, *] at hmz)); clear hKz Kz; try w_num))
    (u_in rl hF; rw [stepG_region_end]; simp only [goes_go]; refine ⟨by (refine dl_none ?_; intro ez hez; simp at hez), ?_⟩)
    (u_in rl hF; rw [stepG_seq]; simp only [goes_go]; refine ⟨by (refine dl_none ?_; intro ez hez; simp at hez), ?_⟩)
    (u_in rl hF; rw [stepG_region]; simp only [goes_go, List.size_toArray, List.length_cons, List.length_nil, Nat.reduceAdd, Nat.zero_add, List.range, List.range.loop]; refine ⟨by (refine dl_none ?_; intro ez hez; simp at hez), ?_⟩)
    iterate 4 ((u_in rl hF; refine goes_oper_k rfl rfl (by k_ne) (fun Kz hKz => ?_); go_simp; refine hKz _ _ ⟨?_, ?_⟩; (focus (refine dl_none ?_; intro ez hez; have hmz := mem_listed hez; simp [go_sem, *] at hmz)); clear hKz Kz; try w_num))
    (u_in rl hF; rw [stepG_region_end]; simp only [goes_go]; refine ⟨by (refine dl_none ?_; intro ez hez; simp at hez), ?_⟩)
    (u_in rl hF; rw [stepG_seq]; simp only [goes_go]; refine ⟨by (refine dl_none ?_; intro ez hez; simp at hez), ?_⟩)
    (u_in rl hF; rw [stepG_seq]; simp only [goes_go]; refine ⟨by (refine dl_none ?_; intro ez hez; simp at hez), ?_⟩)
    (u_in rl hF; rw [stepG_region]; simp only [goes_go, List.size_toArray, List.length_cons, List.length_nil, Nat.reduceAdd, Nat.zero_add, List.range, List.range.loop]; refine ⟨by (refine dl_none ?_; intro ez hez; simp at hez), ?_⟩)
    iterate 2 ((u_in rl hF; refine goes_oper_k rfl rfl (by k_ne) (fun Kz hKz => ?_); go_simp; refine hKz _ _ ⟨?_, ?_⟩; (focus (refine dl_none ?_; intro ez hez; have hmz := mem_listed hez; simp [go_sem, *] at hmz)); clear hKz Kz; try w_num))
    (u_in rl hF; rw [stepG_region_end]; simp only [goes_go]; refine ⟨by (refine dl_none ?_; intro ez hez; simp at hez), ?_⟩)
    (u_in rl hF; rw [stepG_cond (t := true) (by first | rfl | (simp [Act.eval]; omega))]; simp only [goes_go, ↓reduceIte]; refine ⟨by (refine dl_none ?_; intro ez hez; simp at hez), ?_⟩)
    (u_in rl hF; rw [stepG_seq]; simp only [goes_go]; refine ⟨by (refine dl_none ?_; intro ez hez; simp at hez), ?_⟩)
    (u_in rl hF; rw [stepG_cond (t := true) (by first | rfl | (simp [Act.eval]; omega))]; simp only [goes_go, ↓reduceIte]; refine ⟨by (refine dl_none ?_; intro ez hez; simp at hez), ?_⟩)
    (u_in rl hF; rw [stepG_seq]; simp only [goes_go]; refine ⟨by (refine dl_none ?_; intro ez hez; simp at hez), ?_⟩)
    (u_in rl hF; rw [stepG_region]; simp only [goes_go, List.size_toArray, List.length_cons, List.length_nil, Nat.zero_add, List.range, List.range.loop]; refine ⟨by (refine dl_none ?_; intro ez hez; simp at hez), ?_⟩)
    (refine Goes.stop (fun w₁ h₁ => ?_); replace hF := rl hF h₁; clear h₁)
    refine ⟨rfl, _, stepG_mark0 .enable (by simp) rfl rfl (by k_ne) rfl H.f_enable (x_enable_n L) (x_enable_b L) (x_enable_x L) (x_enable_f L), 20, ?_⟩
    walk_nrm
    (u_in rl hF; rw [stepG_region_end]; simp only [goes_go]; refine ⟨by (refine dl_none ?_; intro ez hez; simp at hez), ?_⟩)
    (u_in rl hF; rw [stepG_region]; simp only [goes_go, List.size_toArray, List.length_cons, List.length_nil, Nat.reduceAdd, Nat.zero_add, List.range, List.range.loop]; refine ⟨by (refine dl_none ?_; intro ez hez; simp at hez), ?_⟩)
    (u_in rl hF; refine goes_oper_k rfl rfl (by k_ne) (fun Kz hKz => ?_); go_simp; refine hKz _ _ ⟨?_, ?_⟩; (focus (refine dl_none ?_; intro ez hez; have hmz := mem_listed hez; simp [go_sem, *] at hmz)); clear hKz Kz; try w_num)
    (u_in rl hF; refine goes_oper_k rfl rfl (by k_ne) (fun Kz hKz => ?_); have hcv := run_convert_to_unsafe (P := P) H.underlying_tWgP H.underlying_tUP H.room_tWg (WgLive.cell0 hF).choose_spec; have hce := fun es => events_convert_to_unsafe (P := P) H.underlying_tWgP H.underlying_tUP H.room_tWg (WgLive.cell0 hF).choose_spec es; go_simp; refine hKz _ _ ⟨?_, ?_⟩; (focus (refine dl_none ?_; intro ez hez; have hmz := mem_listed hez; simp [go_sem, hce] at hmz)); clear hKz Kz hcv hce)
    (refine Goes.stop (fun w₁ h₁ => ?_); replace hF := rl hF h₁; clear h₁)
    refine ⟨rfl, _, stepG_markAt .acquire (by simp) rfl rfl (by k_ne) rfl H.f_acquire (x_acquire_n L) (x_acquire_b L) (x_acquire_x L) (x_acquire_f L) (by simp [Act.eval, stA]), ⟨40, ?_⟩⟩
    walk_nrm
    (u_in rl hF; rw [stepG_region_end]; simp only [goes_go]; refine ⟨by (refine dl_none ?_; intro ez hez; simp at hez), ?_⟩)
    (u_in rl hF; rw [stepG_seq]; simp only [goes_go]; refine ⟨by (refine dl_none ?_; intro ez hez; simp at hez), ?_⟩)
    (u_in rl hF; rw [stepG_seq]; simp only [goes_go]; refine ⟨by (refine dl_none ?_; intro ez hez; simp at hez), ?_⟩)
    (u_in rl hF; rw [stepG_region]; simp only [goes_go, List.size_toArray, List.length_cons, List.length_nil, Nat.reduceAdd, Nat.zero_add, List.range, List.range.loop]; refine ⟨by (refine dl_none ?_; intro ez hez; simp at hez), ?_⟩)
    iterate 8 ((u_in rl hF; refine goes_oper_k rfl rfl (by k_ne) (fun Kz hKz => ?_); go_simp; refine hKz _ _ ⟨?_, ?_⟩; (focus (refine dl_none ?_; intro ez hez; have hmz := mem_listed hez; simp [go_sem, *] at hmz)); clear hKz Kz; try w_num))
    iterate 2 ((u_in rl hF; rw [stepG_unwanted rfl rfl]; simp only [goes_go]; refine ⟨by (refine dl_none ?_; intro ez hez; simp at hez), ?_⟩; walk_nrm))
    (u_in rl hF; refine goes_oper_k rfl rfl (by k_ne) (fun Kz hKz => ?_); go_simp; refine hKz _ _ ⟨?_, ?_⟩; (focus (refine dl_none ?_; intro ez hez; have hmz := mem_listed hez; simp [go_sem, *] at hmz)); clear hKz Kz; try w_num)
    (u_in rl hF; rw [stepG_region_end]; simp only [goes_go]; refine ⟨by (refine dl_none ?_; intro ez hez; simp at hez), ?_⟩)
    (u_in rl hF; rw [stepG_cond (t := false) (by first | rfl | (simp [Act.eval]; omega))]; simp only [goes_go, Bool.false_eq_true, ↓reduceIte]; refine ⟨by (refine dl_none ?_; intro ez hez; simp at hez), ?_⟩)
    (u_in rl hF; rw [stepG_skip]; simp only [goes_go]; refine ⟨by (refine dl_none ?_; intro ez hez; simp at hez), ?_⟩)
    (u_in rl hF; rw [stepG_ret']; simp only [goes_go]; refine ⟨by (refine dl_none ?_; intro ez hez; simp at hez), ?_⟩)
    (u_in rl hF; refine goes_leave0 rfl rfl H.f_wait rfl ⟨by (refine dl_none ?_; intro ez hez; simp at hez), ?_⟩; walk_nrm)
    exact Goes.stop fun _ _ => rfl
  · -- the count is v
    obtain ⟨S, hS⟩ : ∃ S : Int, (v : Int) * KK = S := ⟨_, rfl⟩
    have a1 : S / 4294967296 = (v : Int) := by rw [← hS]; simp only [KK]; omega
    have b1 : bits .and .u64 S 2147483648 = 0 := by rw [← hS]; have := st_flag v 0 (by omega) (by omega); simpa [KK] using this
    have b2 : bits .and .u64 S 2147483647 = 0 := by rw [← hS]; have := st_waiters v 0 (by omega) (by omega); simpa [KK] using this
    have c1 : IntKind.i32.wrap (v : Int) = (v : Int) := by rw [IntKind.wrap_i32]; omega
    have w1 : IntKind.u64.wrap (S + 1) = S + 1 := by rw [IntKind.wrap_u64, ← hS]; simp only [KK]; omega
    have q3 : decide ((v : Int) < 0) = false := decide_eq_false (by omega)
    have q4 : decide (0 < (v : Int)) = true := decide_eq_true (by omega)
    have q5 : ((v : Int) == 0) = false := by simp; omega
    have q6 : decide ((v : Int) = 0) = false := decide_eq_false (by omega)
    rw [hS] at hw
    refine ⟨_, stepG_load_atomic (v := S) rfl rfl (by k_ne) rfl H.f_loadU64 (x_loadU64_n L) (x_loadU64_b L) (x_loadU64_x L) .u64 (x_loadU64_f L) rfl hw.cellSt, fun h0 => absurd h0 (by omega), fun _ => ⟨80, ?_⟩⟩
    clear hw
    walk_nrm
    (u_in rl hF; refine goes_oper_k rfl rfl (by k_ne) (fun Kz hKz => ?_); go_simp; refine hKz _ _ ⟨?_, ?_⟩; (focus (refine dl_none ?_; intro ez hez; have hmz := mem_listed hez; simp [go_sem, *] at hmz)); clear hKz Kz; try w_num)
    (u_in rl hF; rw [stepG_region_end]; simp only [goes_go]; refine ⟨by (refine dl_none ?_; intro ez hez; simp at hez), ?_⟩)
    (u_in rl hF; rw [stepG_ret']; simp only [goes_go]; refine ⟨by (refine dl_none ?_; intro ez hez; simp at hez), ?_⟩)
    (u_in rl hF; refine goes_leave1 rfl rfl H.f_uLoad rfl ⟨by (refine dl_none ?_; intro ez hez; simp at hez), ?_⟩; walk_nrm)
    (u_in rl hF; refine goes_oper_k rfl rfl (by k_ne) (fun Kz hKz => ?_); go_simp; refine hKz _ _ ⟨?_, ?_⟩; (focus (refine dl_none ?_; intro ez hez; have hmz := mem_listed hez; simp [go_sem, *] at hmz)); clear hKz Kz; try w_num)
    (u_in rl hF; rw [stepG_region_end]; simp only [goes_go]; refine ⟨by (refine dl_none ?_; intro ez hez; simp at hez), ?_⟩)
    (u_in rl hF; rw [stepG_seq]; simp only [goes_go]; refine ⟨by (refine dl_none ?_; intro ez hez; simp at hez), ?_⟩)
    (u_in rl hF; rw [stepG_region]; simp only [goes_go, List.size_toArray, List.length_cons, List.length_nil, Nat.reduceAdd, Nat.zero_add, List.range, List.range.loop]; refine ⟨by (refine dl_none ?_; intro ez hez; simp at hez), ?_⟩)
    iterate 4 ((u_in rl hF; refine goes_oper_k rfl rfl (by k_ne) (fun Kz hKz => ?_); go_simp; refine hKz _ _ ⟨?_, ?_⟩; (focus (refine dl_none ?_; intro ez hez; have hmz := mem_listed hez; simp [go_sem, *] at hmz)); clear hKz Kz; try w_num))
    (u_in rl hF; rw [stepG_region_end]; simp only [goes_go]; refine ⟨by (refine dl_none ?_; intro ez hez; simp at hez), ?_⟩)
    (u_in rl hF; rw [stepG_seq]; simp only [goes_go]; refine ⟨by (refine dl_none ?_; intro ez hez; simp at hez), ?_⟩)
    (u_in rl hF; rw [stepG_region]; simp only [goes_go, List.size_toArray, List.length_cons, List.length_nil, Nat.reduceAdd, Nat.zero_add, List.range, List.range.loop]; refine ⟨by (refine dl_none ?_; intro ez hez; simp at hez), ?_⟩)
    iterate 4 ((u_in rl hF; refine goes_oper_k rfl rfl (by k_ne) (fun Kz hKz => ?_); go_simp; refine hKz _ _ ⟨?_, ?_⟩; (focus (refine dl_none ?_; intro ez hez; have hmz := mem_listed hez; simp [go_sem, *] at hmz)); clear hKz Kz; try w_num))
    (u_in rl hF; rw [stepG_region_end]; simp only [goes_go]; refine ⟨by (refine dl_none ?_; intro ez hez; simp at hez), ?_⟩)
    (u_in rl hF; rw [stepG_seq]; simp only [goes_go]; refine ⟨by (refine dl_none ?_; intro ez hez; simp at hez), ?_⟩)
    (u_in rl hF; rw [stepG_seq]; simp only [goes_go]; refine ⟨by (refine dl_none ?_; intro ez hez; simp at hez), ?_⟩)
    (u_in rl hF; rw [stepG_region]; simp only [goes_go, List.size_toArray, List.length_cons, List.length_nil, Nat.reduceAdd, Nat.zero_add, List.range, List.range.loop]; refine ⟨by (refine dl_none ?_; intro ez hez; simp at hez), ?_⟩)
    iterate 2 ((u_in rl hF; refine goes_oper_k rfl rfl (by k_ne) (fun Kz hKz => ?_); go_simp; refine hKz _ _ ⟨?_, ?_⟩; (focus (refine dl_none ?_; intro ez hez; have hmz := mem_listed hez; simp [go_sem, *] at hmz)); clear hKz Kz; try w_num))
    (u_in rl hF; rw [stepG_region_end]; simp only [goes_go]; refine ⟨by (refine dl_none ?_; intro ez hez; simp at hez), ?_⟩)
    (u_in rl hF; rw [stepG_cond (t := false) (by first | rfl | (simp [Act.eval]; omega))]; simp only [goes_go, Bool.false_eq_true, ↓reduceIte]; refine ⟨by (refine dl_none ?_; intro ez hez; simp at hez), ?_⟩)
    (u_in rl hF; rw [stepG_skip]; simp only [goes_go]; refine ⟨by (refine dl_none ?_; intro ez hez; simp at hez), ?_⟩)
    (u_in rl hF; rw [stepG_seq]; simp only [goes_go]; refine ⟨by (refine dl_none ?_; intro ez hez; simp at hez), ?_⟩)
    (u_in rl hF; rw [stepG_region]; simp only [goes_go, List.size_toArray, List.length_cons, List.length_nil, Nat.reduceAdd, Nat.zero_add, List.range, List.range.loop]; refine ⟨by (refine dl_none ?_; intro ez hez; simp at hez), ?_⟩)
    iterate 6 ((u_in rl hF; refine goes_oper_k rfl rfl (by k_ne) (fun Kz hKz => ?_); go_simp; refine hKz _ _ ⟨?_, ?_⟩; (focus (refine dl_none ?_; intro ez hez; have hmz := mem_listed hez; simp [go_sem, *] at hmz)); clear hKz Kz; try w_num))
    (u_in rl hF; refine goes_call rfl rfl (by k_ne) rfl H.f_uCas (nm_uCas L) rfl ⟨by (refine dl_none ?_; intro ez hez; simp at hez), ?_⟩; walk_nrmf uCasFn)
    (u_in rl hF; rw [stepG_seq]; simp only [goes_go]; refine ⟨by (refine dl_none ?_; intro ez hez; simp at hez), ?_⟩)
    (u_in rl hF; rw [stepG_region]; simp only [goes_go, List.size_toArray, List.length_cons, List.length_nil, Nat.zero_add, List.range, List.range.loop]; refine ⟨by (refine dl_none ?_; intro ez hez; simp at hez), ?_⟩)
    (u_in rl hF; refine goes_oper_k rfl rfl (by k_ne) (fun Kz hKz => ?_); go_simp; refine hKz _ _ ⟨?_, ?_⟩; (focus (refine dl_none ?_; intro ez hez; have hmz := mem_listed hez; simp [go_sem, *] at hmz)); clear hKz Kz; try w_num)
    (u_in rl hF; rw [stepG_region_end]; simp only [goes_go]; refine ⟨by (refine dl_none ?_; intro ez hez; simp at hez), ?_⟩)
    (u_in rl hF; rw [stepG_seq]; simp only [goes_go]; refine ⟨by (refine dl_none ?_; intro ez hez; simp at hez), ?_⟩)
    (u_in rl hF; rw [stepG_region]; simp only [goes_go, List.size_toArray, List.length_cons, List.length_nil, Nat.reduceAdd, Nat.zero_add, List.range, List.range.loop]; refine ⟨by (refine dl_none ?_; intro ez hez; simp at hez), ?_⟩)
    iterate 5 ((u_in rl hF; refine goes_oper_k rfl rfl (by k_ne) (fun Kz hKz => ?_); go_simp; refine hKz _ _ ⟨?_, ?_⟩; (focus (refine dl_none ?_; intro ez hez; have hmz := mem_listed hez; simp [go_sem, *] at hmz)); clear hKz Kz; try w_num))
    refine Goes.stop (fun w₂ h₂ => ?_)
    replace hF := rl hF h₂
    clear h₂
    refine ⟨rfl, fun v' hv' hw => ⟨fun e => ?_, fun e => ?_⟩⟩
    · -- it hits
      subst e
      rw [hS] at hw ⊢
      refine ⟨_, (stepG_cas_hit (v := S) (n := S + 1) rfl rfl (by k_ne) rfl H.f_casU64 (x_casU64_n L) (x_casU64_b L) (x_casU64_x L) .u64 (x_casU64_f L) rfl rfl rfl hw.cellSt (hw.thaw 0)).trans (by rfl), 80, ?_⟩
      replace hF : WgLive L.tWg Wg (w₂.setCell (stA Wg) (.int .u64 (S + 1))) := ⟨_, _, hw.setSt _⟩
      clear hw
      walk_nrm
      (u_in rl hF; refine goes_oper_k rfl rfl (by k_ne) (fun Kz hKz => ?_); go_simp; refine hKz _ _ ⟨?_, ?_⟩; (focus (refine dl_none ?_; intro ez hez; have hmz := mem_listed hez; simp [go_sem, *] at hmz)); clear hKz Kz; try w_num)
      (u_in rl hF; rw [stepG_region_end]; simp only [goes_go]; refine ⟨by (refine dl_none ?_; intro ez hez; simp at hez), ?_⟩)
      (u_in rl hF; rw [stepG_ret']; simp only [goes_go]; refine ⟨by (refine dl_none ?_; intro ez hez; simp at hez), ?_⟩)
      (u_in rl hF; refine goes_leave1 rfl rfl H.f_uCas rfl ⟨by (refine dl_none ?_; intro ez hez; simp at hez), ?_⟩; walk_nrm)
      (u_in rl hF; rw [stepG_region_end]; simp only [goes_go]; refine ⟨by (refine dl_none ?_; intro ez hez; simp at hez), ?_⟩)
      (u_in rl hF; rw [stepG_cond (t := true) (by first | rfl | (simp [Act.eval]; omega))]; simp only [goes_go, ↓reduceIte]; refine ⟨by (refine dl_none ?_; intro ez hez; simp at hez), ?_⟩)
      (u_in rl hF; rw [stepG_seq]; simp only [goes_go]; refine ⟨by (refine dl_none ?_; intro ez hez; simp at hez), ?_⟩)
      (u_in rl hF; rw [stepG_seq]; simp only [goes_go]; refine ⟨by (refine dl_none ?_; intro ez hez; simp at hez), ?_⟩)
      (u_in rl hF; rw [stepG_region]; simp only [goes_go, List.size_toArray, List.length_cons, List.length_nil, Nat.reduceAdd, Nat.zero_add, List.range, List.range.loop]; refine ⟨by (refine dl_none ?_; intro ez hez; simp at hez), ?_⟩)
      iterate 4 ((u_in rl hF; refine goes_oper_k rfl rfl (by k_ne) (fun Kz hKz => ?_); go_simp; refine hKz _ _ ⟨?_, ?_⟩; (focus (refine dl_none ?_; intro ez hez; have hmz := mem_listed hez; simp [go_sem, *] at hmz)); clear hKz Kz; try w_num))
      (u_in rl hF; rw [stepG_region_end]; simp only [goes_go]; refine ⟨by (refine dl_none ?_; intro ez hez; simp at hez), ?_⟩)
      (u_in rl hF; rw [stepG_cond (t := true) (by first | rfl | (simp [Act.eval]; omega))]; simp only [goes_go, ↓reduceIte]; refine ⟨by (refine dl_none ?_; intro ez hez; simp at hez), ?_⟩)
      (u_in rl hF; rw [stepG_region]; simp only [goes_go, List.size_toArray, List.length_cons, List.length_nil, Nat.reduceAdd, Nat.zero_add, List.range, List.range.loop]; refine ⟨by (refine dl_none ?_; intro ez hez; simp at hez), ?_⟩)
      iterate 3 ((u_in rl hF; refine goes_oper_k rfl rfl (by k_ne) (fun Kz hKz => ?_); go_simp; refine hKz _ _ ⟨?_, ?_⟩; (focus (refine dl_none ?_; intro ez hez; have hmz := mem_listed hez; simp [go_sem, *] at hmz)); clear hKz Kz; try w_num))
      (u_in rl hF; refine goes_oper_k rfl rfl (by k_ne) (fun Kz hKz => ?_); have hcv := run_convert_to_unsafe (P := P) H.underlying_tPU32 H.underlying_tUP H.room_tU32 (WgLive.cell1 hF).choose_spec; have hce := fun es => events_convert_to_unsafe (P := P) H.underlying_tPU32 H.underlying_tUP H.room_tU32 (WgLive.cell1 hF).choose_spec es; go_simp; refine hKz _ _ ⟨?_, ?_⟩; (focus (refine dl_none ?_; intro ez hez; have hmz := mem_listed hez; simp [go_sem, hce] at hmz)); clear hKz Kz hcv hce)
      (u_in rl hF; rw [(stepG_markAt .write (by simp) rfl rfl (by k_ne) rfl H.f_raceWrite (x_raceWrite_n L) (x_raceWrite_b L) (x_raceWrite_x L) (x_raceWrite_f L) (ad := ⟨Wg, 1, none⟩) (by simp [Act.eval]))]; simp only [goes_go]; refine ⟨⟨rfl, fun ex hex => ?_⟩, ?_⟩; (focus (rw [Array.mem_singleton] at hex; subst hex; exact ⟨⟨Wg, 1, none⟩, rfl, by simp⟩)); walk_nrm)
      (u_in rl hF; rw [stepG_region_end]; simp only [goes_go]; refine ⟨by (refine dl_none ?_; intro ez hez; simp at hez), ?_⟩)
      (u_in rl hF; rw [stepG_seq]; simp only [goes_go]; refine ⟨by (refine dl_none ?_; intro ez hez; simp at hez), ?_⟩)
      (u_in rl hF; rw [stepG_region]; simp only [goes_go, List.size_toArray, List.length_cons, List.length_nil, Nat.zero_add, List.range, List.range.loop]; refine ⟨by (refine dl_none ?_; intro ez hez; simp at hez), ?_⟩)
      (u_in rl hF; refine goes_oper_k rfl rfl (by k_ne) (fun Kz hKz => ?_); go_simp; refine hKz _ _ ⟨?_, ?_⟩; (focus (refine dl_none ?_; intro ez hez; have hmz := mem_listed hez; simp [go_sem, *] at hmz)); clear hKz Kz; try w_num)
      (u_in rl hF; rw [stepG_region_end]; simp only [goes_go]; refine ⟨by (refine dl_none ?_; intro ez hez; simp at hez), ?_⟩)
      (u_in rl hF; rw [stepG_seq]; simp only [goes_go]; refine ⟨by (refine dl_none ?_; intro ez hez; simp at hez), ?_⟩)
      (u_in rl hF; rw [stepG_seq]; simp only [goes_go]; refine ⟨by (refine dl_none ?_; intro ez hez; simp at hez), ?_⟩)
      (u_in rl hF; rw [stepG_region]; simp only [goes_go, List.size_toArray, List.length_cons, List.length_nil, Nat.reduceAdd, Nat.zero_add, List.range, List.range.loop]; refine ⟨by (refine dl_none ?_; intro ez hez; simp at hez), ?_⟩)
      iterate 4 ((u_in rl hF; refine goes_oper_k rfl rfl (by k_ne) (fun Kz hKz => ?_); go_simp; refine hKz _ _ ⟨?_, ?_⟩; (focus (refine dl_none ?_; intro ez hez; have hmz := mem_listed hez; simp [go_sem, *] at hmz)); clear hKz Kz; try w_num))
      (u_in rl hF; rw [stepG_unwanted rfl rfl]; simp only [goes_go]; refine ⟨by (refine dl_none ?_; intro ez hez; simp at hez), ?_⟩; walk_nrm)
      (u_in rl hF; refine goes_oper_k rfl rfl (by k_ne) (fun Kz hKz => ?_); go_simp; refine hKz _ _ ⟨?_, ?_⟩; (focus (refine dl_none ?_; intro ez hez; have hmz := mem_listed hez; simp [go_sem, *] at hmz)); clear hKz Kz; try w_num)
      (u_in rl hF; rw [stepG_region_end]; simp only [goes_go]; refine ⟨by (refine dl_none ?_; intro ez hez; simp at hez), ?_⟩)
      (u_in rl hF; rw [stepG_cond (t := false) (by first | rfl | (simp [Act.eval]; omega))]; simp only [goes_go, Bool.false_eq_true, ↓reduceIte]; refine ⟨by (refine dl_none ?_; intro ez hez; simp at hez), ?_⟩)
      (u_in rl hF; rw [stepG_skip]; simp only [goes_go]; refine ⟨by (refine dl_none ?_; intro ez hez; simp at hez), ?_⟩)
      (u_in rl hF; rw [stepG_seq]; simp only [goes_go]; refine ⟨by (refine dl_none ?_; intro ez hez; simp at hez), ?_⟩)
      (u_in rl hF; rw [stepG_region]; simp only [goes_go, List.size_toArray, List.length_cons, List.length_nil, Nat.reduceAdd, Nat.zero_add, List.range, List.range.loop]; refine ⟨by (refine dl_none ?_; intro ez hez; simp at hez), ?_⟩)
      iterate 4 ((u_in rl hF; refine goes_oper_k rfl rfl (by k_ne) (fun Kz hKz => ?_); go_simp; refine hKz _ _ ⟨?_, ?_⟩; (focus (refine dl_none ?_; intro ez hez; have hmz := mem_listed hez; simp [go_sem, *] at hmz)); clear hKz Kz; try w_num))
      refine Goes.stop (fun w₃ h₃ => ?_)
      replace hF := rl hF h₃
      clear h₃
      refine ⟨rfl, rfl, fun ⟨st, hw⟩ => stepG_semacquire_wait rfl rfl rfl H.f_semacquire (x_semacquire_n L) (x_semacquire_b L) (x_semacquire_x L) (x_semacquire_f L) (by simp [Act.eval, smA]) hw.cellSm, fun hf => ?_⟩
      refine ⟨_, (stepG_semacquire (n := 1) rfl rfl (by k_ne) rfl H.f_semacquire (x_semacquire_n L) (x_semacquire_b L) (x_semacquire_x L) (x_semacquire_f L) (by simp [Act.eval, smA]) hf.cellSm (by k_ne) (hf.thaw 1)).trans (by rfl), 40, ?_⟩
      replace hF : WgLive L.tWg Wg (w₃.setCell (smA Wg) (.int .u32 0)) := ⟨_, _, hf.setSm 0⟩
      clear hf
      walk_nrm
      (u_in rl hF; rw [stepG_region_end]; simp only [goes_go]; refine ⟨by (refine dl_none ?_; intro ez hez; simp at hez), ?_⟩)
      (u_in rl hF; rw [stepG_seq]; simp only [goes_go]; refine ⟨by (refine dl_none ?_; intro ez hez; simp at hez), ?_⟩)
      (u_in rl hF; rw [stepG_region]; simp only [goes_go, List.size_toArray, List.length_cons, List.length_nil, Nat.reduceAdd, Nat.zero_add, List.range, List.range.loop]; refine ⟨by (refine dl_none ?_; intro ez hez; simp at hez), ?_⟩)
      iterate 3 ((u_in rl hF; refine goes_oper_k rfl rfl (by k_ne) (fun Kz hKz => ?_); go_simp; refine hKz _ _ ⟨?_, ?_⟩; (focus (refine dl_none ?_; intro ez hez; have hmz := mem_listed hez; simp [go_sem, *] at hmz)); clear hKz Kz; try w_num))
      (u_in rl hF; refine goes_call rfl rfl (by k_ne) rfl H.f_uLoad (nm_uLoad L) rfl ⟨by (refine dl_none ?_; intro ez hez; simp at hez), ?_⟩; walk_nrmf uLoadFn)
      (u_in rl hF; rw [stepG_seq]; simp only [goes_go]; refine ⟨by (refine dl_none ?_; intro ez hez; simp at hez), ?_⟩)
      (u_in rl hF; rw [stepG_region]; simp only [goes_go, List.size_toArray, List.length_cons, List.length_nil, Nat.zero_add, List.range, List.range.loop]; refine ⟨by (refine dl_none ?_; intro ez hez; simp at hez), ?_⟩)
      (u_in rl hF; refine goes_oper_k rfl rfl (by k_ne) (fun Kz hKz => ?_); go_simp; refine hKz _ _ ⟨?_, ?_⟩; (focus (refine dl_none ?_; intro ez hez; have hmz := mem_listed hez; simp [go_sem, *] at hmz)); clear hKz Kz; try w_num)
      (u_in rl hF; rw [stepG_region_end]; simp only [goes_go]; refine ⟨by (refine dl_none ?_; intro ez hez; simp at hez), ?_⟩)
      (u_in rl hF; rw [stepG_seq]; simp only [goes_go]; refine ⟨by (refine dl_none ?_; intro ez hez; simp at hez), ?_⟩)
      (u_in rl hF; rw [stepG_region]; simp only [goes_go, List.size_toArray, List.length_cons, List.length_nil, Nat.reduceAdd, Nat.zero_add, List.range, List.range.loop]; refine ⟨by (refine dl_none ?_; intro ez hez; simp at hez), ?_⟩)
      iterate 3 ((u_in rl hF; refine goes_oper_k rfl rfl (by k_ne) (fun Kz hKz => ?_); go_simp; refine hKz _ _ ⟨?_, ?_⟩; (focus (refine dl_none ?_; intro ez hez; have hmz := mem_listed hez; simp [go_sem, *] at hmz)); clear hKz Kz; try w_num))
      refine Goes.stop (fun w₄ h₄ => ?_)
      replace hF := rl hF h₄
      clear h₄
      refine ⟨rfl, fun hw => ⟨_, stepG_load_atomic (v := 0) rfl rfl (by k_ne) rfl H.f_loadU64 (x_loadU64_n L) (x_loadU64_b L) (x_loadU64_x L) .u64 (x_loadU64_f L) rfl hw.cellSt, 40, ?_⟩⟩
      clear hw
      walk_nrm
      (u_in rl hF; refine goes_oper_k rfl rfl (by k_ne) (fun Kz hKz => ?_); go_simp; refine hKz _ _ ⟨?_, ?_⟩; (focus (refine dl_none ?_; intro ez hez; have hmz := mem_listed hez; simp [go_sem, *] at hmz)); clear hKz Kz; try w_num)
      (u_in rl hF; rw [stepG_region_end]; simp only [goes_go]; refine ⟨by (refine dl_none ?_; intro ez hez; simp at hez), ?_⟩)
      (u_in rl hF; rw [stepG_ret']; simp only [goes_go]; refine ⟨by (refine dl_none ?_; intro ez hez; simp at hez), ?_⟩)
      (u_in rl hF; refine goes_leave1 rfl rfl H.f_uLoad rfl ⟨by (refine dl_none ?_; intro ez hez; simp at hez), ?_⟩; walk_nrm)
      iterate 2 ((u_in rl hF; refine goes_oper_k rfl rfl (by k_ne) (fun Kz hKz => ?_); go_simp; refine hKz _ _ ⟨?_, ?_⟩; (focus (refine dl_none ?_; intro ez hez; have hmz := mem_listed hez; simp [go_sem, *] at hmz)); clear hKz Kz; try w_num))
      (u_in rl hF; rw [stepG_region_end]; simp only [goes_go]; refine ⟨by (refine dl_none ?_; intro ez hez; simp at hez), ?_⟩)
      (u_in rl hF; rw [stepG_seq]; simp only [goes_go]; refine ⟨by (refine dl_none ?_; intro ez hez; simp at hez), ?_⟩)
      (u_in rl hF; rw [stepG_cond (t := true) (by first | rfl | (simp [Act.eval]; omega))]; simp only [goes_go, ↓reduceIte]; refine ⟨by (refine dl_none ?_; intro ez hez; simp at hez), ?_⟩)
      (u_in rl hF; rw [stepG_seq]; simp only [goes_go]; refine ⟨by (refine dl_none ?_; intro ez hez; simp at hez), ?_⟩)
      (u_in rl hF; rw [stepG_region]; simp only [goes_go, List.size_toArray, List.length_cons, List.length_nil, Nat.zero_add, List.range, List.range.loop]; refine ⟨by (refine dl_none ?_; intro ez hez; simp at hez), ?_⟩)
      (refine Goes.stop (fun w₁ h₁ => ?_); replace hF := rl hF h₁; clear h₁)
      refine ⟨rfl, _, stepG_mark0 .enable (by simp) rfl rfl (by k_ne) rfl H.f_enable (x_enable_n L) (x_enable_b L) (x_enable_x L) (x_enable_f L), 20, ?_⟩
      walk_nrm
      (u_in rl hF; rw [stepG_region_end]; simp only [goes_go]; refine ⟨by (refine dl_none ?_; intro ez hez; simp at hez), ?_⟩)
      (u_in rl hF; rw [stepG_region]; simp only [goes_go, List.size_toArray, List.length_cons, List.length_nil, Nat.reduceAdd, Nat.zero_add, List.range, List.range.loop]; refine ⟨by (refine dl_none ?_; intro ez hez; simp at hez), ?_⟩)
      (u_in rl hF; refine goes_oper_k rfl rfl (by k_ne) (fun Kz hKz => ?_); go_simp; refine hKz _ _ ⟨?_, ?_⟩; (focus (refine dl_none ?_; intro ez hez; have hmz := mem_listed hez; simp [go_sem, *] at hmz)); clear hKz Kz; try w_num)
      (u_in rl hF; refine goes_oper_k rfl rfl (by k_ne) (fun Kz hKz => ?_); have hcv := run_convert_to_unsafe (P := P) H.underlying_tWgP H.underlying_tUP H.room_tWg (WgLive.cell0 hF).choose_spec; have hce := fun es => events_convert_to_unsafe (P := P) H.underlying_tWgP H.underlying_tUP H.room_tWg (WgLive.cell0 hF).choose_spec es; go_simp; refine hKz _ _ ⟨?_, ?_⟩; (focus (refine dl_none ?_; intro ez hez; have hmz := mem_listed hez; simp [go_sem, hce] at hmz)); clear hKz Kz hcv hce)
      (refine Goes.stop (fun w₁ h₁ => ?_); replace hF := rl hF h₁; clear h₁)
      refine ⟨rfl, _, stepG_markAt .acquire (by simp) rfl rfl (by k_ne) rfl H.f_acquire (x_acquire_n L) (x_acquire_b L) (x_acquire_x L) (x_acquire_f L) (by simp [Act.eval, stA]), ⟨20, ?_⟩⟩
      walk_nrm
      (u_in rl hF; rw [stepG_region_end]; simp only [goes_go]; refine ⟨by (refine dl_none ?_; intro ez hez; simp at hez), ?_⟩)
      (u_in rl hF; rw [stepG_seq]; simp only [goes_go]; refine ⟨by (refine dl_none ?_; intro ez hez; simp at hez), ?_⟩)
      (u_in rl hF; rw [stepG_seq]; simp only [goes_go]; refine ⟨by (refine dl_none ?_; intro ez hez; simp at hez), ?_⟩)
      (u_in rl hF; rw [stepG_region]; simp only [goes_go, List.size_toArray, List.length_cons, List.length_nil, Nat.zero_add, List.range, List.range.loop]; refine ⟨by (refine dl_none ?_; intro ez hez; simp at hez), ?_⟩)
      (u_in rl hF; refine goes_oper_k rfl rfl (by k_ne) (fun Kz hKz => ?_); go_simp; refine hKz _ _ ⟨?_, ?_⟩; (focus (refine dl_none ?_; intro ez hez; have hmz := mem_listed hez; simp [go_sem, *] at hmz)); clear hKz Kz; try w_num)
      (u_in rl hF; rw [stepG_region_end]; simp only [goes_go]; refine ⟨by (refine dl_none ?_; intro ez hez; simp at hez), ?_⟩)
      (u_in rl hF; rw [stepG_cond (t := false) (by first | rfl | (simp [Act.eval]; omega))]; simp only [goes_go, Bool.false_eq_true, ↓reduceIte]; refine ⟨by (refine dl_none ?_; intro ez hez; simp at hez), ?_⟩)
      (u_in rl hF; rw [stepG_skip]; simp only [goes_go]; refine ⟨by (refine dl_none ?_; intro ez hez; simp at hez), ?_⟩)
      (u_in rl hF; rw [stepG_ret']; simp only [goes_go]; refine ⟨by (refine dl_none ?_; intro ez hez; simp at hez), ?_⟩)
      (u_in rl hF; refine goes_leave0 rfl rfl H.f_wait rfl ⟨by (refine dl_none ?_; intro ez hez; simp at hez), ?_⟩; walk_nrm)
      exact Goes.stop fun _ _ => rfl
    · -- it misses
      refine ⟨_, stepG_cas_miss (v := (v' : Int) * KK) (old := S) (n := S + 1) rfl rfl (by k_ne) rfl H.f_casU64 (x_casU64_n L) (x_casU64_b L) (x_casU64_x L) .u64 (x_casU64_f L) rfl rfl rfl hw.cellSt (hw.thaw 0) (by rw [← hS]; simp only [KK]; omega), 20, ?_⟩
      clear hw
      walk_nrm
      (u_in rl hF; refine goes_oper_k rfl rfl (by k_ne) (fun Kz hKz => ?_); go_simp; refine hKz _ _ ⟨?_, ?_⟩; (focus (refine dl_none ?_; intro ez hez; have hmz := mem_listed hez; simp [go_sem, *] at hmz)); clear hKz Kz; try w_num)
      (u_in rl hF; rw [stepG_region_end]; simp only [goes_go]; refine ⟨by (refine dl_none ?_; intro ez hez; simp at hez), ?_⟩)
      (u_in rl hF; rw [stepG_ret']; simp only [goes_go]; refine ⟨by (refine dl_none ?_; intro ez hez; simp at hez), ?_⟩)
      (u_in rl hF; refine goes_leave1 rfl rfl H.f_uCas rfl ⟨by (refine dl_none ?_; intro ez hez; simp at hez), ?_⟩; walk_nrm)
      (u_in rl hF; rw [stepG_region_end]; simp only [goes_go]; refine ⟨by (refine dl_none ?_; intro ez hez; simp at hez), ?_⟩)
      (u_in rl hF; rw [stepG_cond (t := false) (by first | rfl | (simp [Act.eval]; omega))]; simp only [goes_go, Bool.false_eq_true, ↓reduceIte]; refine ⟨by (refine dl_none ?_; intro ez hez; simp at hez), ?_⟩)
      (u_in rl hF; rw [stepG_skip]; simp only [goes_go]; refine ⟨by (refine dl_none ?_; intro ez hez; simp at hez), ?_⟩)
      (u_in rl hF; rw [stepG_inBlock]; simp only [goes_go]; refine ⟨by (refine dl_none ?_; intro ez hez; simp at hez), ?_⟩)
      (u_in rl hF; rw [stepG_inLoop]; simp only [goes_go]; refine ⟨by (refine dl_none ?_; intro ez hez; simp at hez), ?_⟩)
      refine Goes.stop (fun w₃ h₃ => ?_)
      exact ⟨_, rfl, by simp, by simp, rl hF h₃⟩
end
end Go.Proofs.Ytcfpilkhjpegcaa
