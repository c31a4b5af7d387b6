/- The program's starter, in company: its loop. -/
import Derived.Test.YtcfpilkhjpegcaaK61
import Derived.Test.YtcfpilkhjpegcaaK58
namespace Go.Proofs.Ytcfpilkhjpegcaa
open Go Go.Conc Go.ConcN Go.RowKit Go.Conc.Lib Go.ConcR.Gen Go.ConcN.Gen
open Go.ConcR (KK WgAt stA smA rd wr mk)

theorem weakenM {P : Program} {main : Bool} {R : World → World → Prop} {D : World → World → Array Event → Prop} {S T : Goroutine → World → Prop} (hm : ∀ g w, S g w → T g w) : ∀ {n : Nat} {g : Goroutine} {w : World}, Goes P main R D S n g w → Goes P main R D T n g w
  | 0, _, _, h => fun w₁ h₁ => hm _ _ (h w₁ h₁)
  | _ + 1, _, _, h => by
    rcases h with h | ⟨hs, h⟩
    · exact .inl fun w₁ h₁ => hm _ _ (h w₁ h₁)
    · exact .inr ⟨hs, fun w₁ h₁ => goes_imp (h w₁ h₁) fun _ _ _ ⟨d, x⟩ => ⟨d, weakenM hm x⟩⟩
section
variable {P : Program} {ty : TypeId} {Wg : Nat} {gA : Goroutine} {A A' : Goroutine → World → Prop}
theorem bw2_weaken (hm : ∀ g w, A g w → A' g w) {vs : Nat} {g : Goroutine} {w : World} (h : BW2 P ty Wg gA A vs g w) : BW2 P ty Wg gA A' vs g w :=
  ⟨h.1, fun v hv hw => ⟨(h.2 v hv hw).1, fun e => let ⟨g', h1, m, h2⟩ := (h.2 v hv hw).2 e; ⟨g', h1, m, weakenM hm h2⟩⟩⟩
theorem bw1_weaken (hm : ∀ g w, A g w → A' g w) {g : Goroutine} {w : World} (h : BW1 P ty Wg gA A g w) : BW1 P ty Wg gA A' g w :=
  ⟨h.1, fun v hv hw => let ⟨g', h1, h2, h3⟩ := h.2 v hv hw; ⟨g', h1, h2, fun e => let ⟨m, h4⟩ := h3 e; ⟨m, weakenM (fun _ _ x => bw2_weaken hm x) h4⟩⟩⟩
theorem bkd_weaken (hm : ∀ g w, A g w → A' g w) {g : Goroutine} {w : World} (h : BKd P ty Wg A g w) : BKd P ty Wg A' g w :=
  ⟨h.1, let ⟨g', h1, m, h2⟩ := h.2; ⟨g', h1, m, weakenM hm h2⟩⟩
end

/-- Units that may be read. -/
def UnitsK (K : Nat → Prop) (w : World) (A : Option Addr) (us : List UnitD) : Prop :=
  ∀ j u, us[j]? = some u → ∃ b o v, A = some ⟨b, o, none⟩ ∧ K b ∧ w.cell? ⟨b, o + j * 2, none⟩ = some (.bool u.opened) ∧ w.cell? ⟨b, o + j * 2 + 1, none⟩ = some v ∧ TasksK K w v u.tasks
theorem array24 (T : Array Value) (h : T.size = 24) : ∃ v0 v1 v2 v3 v4 v5 v6 v7 v8 v9 v10 v11 v12 v13 v14 v15 v16 v17 v18 v19 v20 v21 v22 v23, T = #[v0, v1, v2, v3, v4, v5, v6, v7, v8, v9, v10, v11, v12, v13, v14, v15, v16, v17, v18, v19, v20, v21, v22, v23] := by
  obtain ⟨l⟩ := T
  match l, h with
  | [v0, v1, v2, v3, v4, v5, v6, v7, v8, v9, v10, v11, v12, v13, v14, v15, v16, v17, v18, v19, v20, v21, v22, v23], _ => exact ⟨v0, v1, v2, v3, v4, v5, v6, v7, v8, v9, v10, v11, v12, v13, v14, v15, v16, v17, v18, v19, v20, v21, v22, v23, rfl⟩

noncomputable def bodyS : Code := Try.f36.body.getD .skip
noncomputable def loopS : Code := codeAt bodyS [1, 1, 1, 0, 1, 0, 0]
noncomputable def waitS : Code := codeAt bodyS [1, 1, 1, 1]
noncomputable def waitOps : Array Oper := opsOf (codeAt bodyS [1, 1, 1, 1, 0])
noncomputable def restS : Code := codeAt bodyS [1, 1, 1, 1, 1]
def rowU (us : List UnitD) (i : Nat) : Array Value := ((loadL (us.getD i default).tasks).map (Value.int .i64)).toArray

/-- Behind Wait. -/
def RRU (lB : Nat) (cs : List Frame) (g : Goroutine) : Prop := ∃ T : Array Value, T.size = 24 ∧ T.getD 3 undef = .pointer (some ⟨lB, 0, none⟩) ∧ g = G ((base 36).at ⟨T, []⟩ [.inRegion waitOps [], .code restS]) cs
/-- At the head of Wait's loop. -/
def AncU (Wg lB : Nat) (cs : List Frame) (g : Goroutine) (w : World) : Prop := ∃ T : Array Value, T.size = 24 ∧ T.getD 3 undef = .pointer (some ⟨lB, 0, none⟩) ∧ Anch lk Wg ((base 36).at ⟨T, []⟩ [.inRegion waitOps [0], .code restS]) cs g w

section
variable {Wg C n lB : Nat} {cs : List Frame}
theorem ancU (K W : Nat → Prop) (g : Goroutine) (w : World) (h : AncU Wg lB cs g w) : ∃ m, GoesG Try.prog true (R0 lk.tWg Wg C n K) (D0 Wg K) (VW1 Try.prog lk.tWg Wg C n (RRU lB cs) (AncU Wg lB cs) K) m W g w := by
  obtain ⟨T, hs, h3, h⟩ := h
  obtain ⟨m, hm⟩ := roundL wgl g w h
  refine roundV (gA := G ((base 36).at (Act.put ⟨T, []⟩ ((waitOps[0]?).bind (·.dst)) (.tuple #[])) [.inRegion waitOps [], .code restS]) cs) ?_ ⟨m, weakenM (fun g w x => bw1_weaken (fun g w y => ⟨T, hs, h3, y⟩) x) hm⟩
  have e : (waitOps[0]?).bind (·.dst) = some 22 := by kernel_rfl
  rw [e]
  exact ⟨T.setIfInBounds 22 (.tuple #[]), by simpa using hs, by rw [getD_setU _ (by omega)]; exact h3, rfl⟩
end
end Go.Proofs.Ytcfpilkhjpegcaa

/- The program's starter, in company: it starts the workers. -/
namespace Go.Proofs.Ytcfpilkhjpegcaa
open Go Go.Conc Go.ConcN Go.RowKit Go.Conc.Lib Go.ConcR.Gen Go.ConcN.Gen
open Go.ConcR (KK WgAt stA smA rd wr mk)

section
variable {Wg C n lB : Nat} {cs : List Frame}
/-- Where the starter's way to the next stop leads. -/
noncomputable def StopU (Wg C n lB : Nat) (cs : List Frame) (us : List UnitD) (r : Nat) (K : Nat → Prop) : (Nat → Prop) → Goroutine → World → Prop :=
  match r with
  | 0 => VKd (Try.prog) lk.tWg Wg C n (AncU Wg lB cs) K
  | r + 1 => StKd (Try.prog) lk.tWg Wg C n (FinU C (rowU us) 3) K (n - (r + 1)) (fun K' => Spw (Try.prog) lk.tWg Wg C n (FinU C (rowU us) 3) (AncU Wg lB cs) r K' (fun _ => False))
theorem spw_iff (us : List UnitD) (r : Nat) (K W : Nat → Prop) (g : Goroutine) (w : World) : Spw (Try.prog) lk.tWg Wg C n (FinU C (rowU us) 3) (AncU Wg lB cs) r K W g w ↔ ∃ m, GoesG (Try.prog) true (R0 lk.tWg Wg C n K) (D0 Wg K) (StopU Wg C n lB cs us r K) m W g w := by cases r <;> exact Iff.rfl
theorem events_store_bool (P : Program) (w : World) (es : Array Event) (a : Addr) (m : Go.Mode) (t : Bool) : (store a (.bool t) m).events P w es = storedEv P w es a (.bool t) m := events_store P w es a _ m rfl
attribute [go_sem] events_store_bool

theorem TasksK.starter {K0 K W : Nat → Prop} {wb w : World} {l : List (Nat × Array Value × TypeId)} {v : Value} {ts : List TaskD} (h : KS lk.tWg Wg C n K0 wb K W l w) (hv : TasksK K0 wb v ts) : TasksK (fun b => K b ∨ W b) w v ts := by
  obtain ⟨A, c, e, h1, h2, hr⟩ := hv
  refine ⟨A, c, e, h1, h2, fun j t ht => ?_⟩
  obtain ⟨b, o, An, cn, g1, g2, g3, g4, bb, oo, cc, f1, f2, f3, f4, f5⟩ := hr j t ht
  exact ⟨b, o, An, cn, g1, .inl (h.sub _ g2), h.cell g2 g3, h.cell g2 g4, bb, oo, cc, f1, f2, f3, .inl (.inl (h.sub _ (f4.resolve_right id))), fun j x hx => h.cell (f4.resolve_right id) (f5 j x hx)⟩

set_option maxRecDepth 100000 in
set_option maxHeartbeats 8000000 in
theorem spawnU {us : List UnitD} {A : Option Addr} {cap : Nat} {K0 : Nat → Prop} {wb : World} (hn : us.length = n) (hn2 : n ≤ 1000) (hcap : n ≤ cap ∧ cap ≤ 9223372036854775807)
    (hU : UnitsK K0 wb A us) (hg : ∀ u ∈ us, GoodTs u.tasks) (hl : K0 lB ∧ wb.cell? ⟨lB, 0, none⟩ = some (.slice (some ⟨C, 0, none⟩) n n)) (hCW : C ≠ Wg) :
    ∀ (r j : Nat), j + r = n → ∃ f, ∀ (K W : Nat → Prop) (l : List (Nat × Array Value × TypeId)) (w : World) (T : Array Value), T.size = 24 → T.getD 3 undef = .pointer (some ⟨lB, 0, none⟩) → T.getD 4 undef = .pointer (some ⟨Wg, 0, none⟩) → T.getD 12 undef = .slice A n cap → T.getD 13 undef = .int .i64 n → T.getD 14 undef = .int .i64 j →
      KS lk.tWg Wg C n K0 wb K W l w → GoesG (Try.prog) true (R0 lk.tWg Wg C n K) (D0 Wg K) (StopU Wg C n lB cs us r K) f W (G ((base 36).at ⟨T, []⟩ [.code loopS, .inLoop loopS, .inBlock 0, .code waitS]) cs) w := by
  intro r
  induction r with
  | zero =>
    intro j hj
    obtain rfl : j = n := by omega
    refine ⟨40, ?_⟩
    intro K W l w T hs s3 s4 s12 s13 s14 hF
    obtain ⟨v0, v1, v2, v3, v4, v5, v6, v7, v8, v9, v10, v11, v12, v13, v14, v15, v16, v17, v18, v19, v20, v21, v22, v23, rfl⟩ := array24 T hs
    simp only [Array.getD_eq_getD_getElem?, List.getElem?_toArray, List.getElem?_cons_succ, List.getElem?_cons_zero, Option.getD_some] at s3 s4 s12 s13 s14
    subst s3 s4 s12 s13 s14
    have hnl : ¬ ((j : Int) < (j : Int)) := by omega
    have hA := fun (a₀ : Act) (w : World) (hF : WgLive lk.tWg Wg w) => waitL (b₀ := base 36) (a₀ := a₀) (ops₀ := waitOps) (i₀ := 0) (rest₀ := []) (k₀ := [.code restS]) (cs := cs) wgl w hF
    simp only [StopU]
    simp only [loopS, waitS, waitOps, restS, bodyS, opsOf, codeAt, Try.f36, body_wait, waitFn, Option.getD_some] at hA ⊢
    ((refine GoesG.step rfl (fun _ hz₁ => ?_); replace hF := KS.rely hF hz₁; clear hz₁); rw [stepG_seq]; simp only [goes_go, grow_self]; refine ⟨D0.idle, ?_⟩)
    ((refine GoesG.step rfl (fun _ hz₁ => ?_); replace hF := KS.rely hF hz₁; clear hz₁); rw [stepG_region]; simp only [goes_go, grow_self, List.size_toArray, List.length_cons, List.length_nil, Nat.zero_add, List.range, List.range.loop]; refine ⟨D0.idle, ?_⟩)
    ((refine GoesG.step rfl (fun _ hz₁ => ?_); replace hF := KS.rely hF hz₁; clear hz₁); refine goes_oper_k rfl rfl (by decide) (fun Kz hKz => ?_); go_simp; refine hKz _ _ ⟨?_, ?_⟩; (focus (rw [listed_nil (by simp [go_sem, *])]; exact D0.idle)); clear hKz Kz; simp only [grow_self])
    ((refine GoesG.step rfl (fun _ hz₁ => ?_); replace hF := KS.rely hF hz₁; clear hz₁); rw [stepG_region_end]; simp only [goes_go, grow_self]; refine ⟨D0.idle, ?_⟩)
    ((refine GoesG.step rfl (fun _ hz₁ => ?_); replace hF := KS.rely hF hz₁; clear hz₁); rw [stepG_seq]; simp only [goes_go, grow_self]; refine ⟨D0.idle, ?_⟩)
    ((refine GoesG.step rfl (fun _ hz₁ => ?_); replace hF := KS.rely hF hz₁; clear hz₁); rw [stepG_cond (t := false) (by first | rfl | (simp [Act.eval]; done) | (simp [Act.eval]; omega))]; simp only [goes_go, grow_self, Bool.false_eq_true, ↓reduceIte]; refine ⟨D0.idle, ?_⟩)
    ((refine GoesG.step rfl (fun _ hz₁ => ?_); replace hF := KS.rely hF hz₁; clear hz₁); refine goes_exit rfl ?_; simp only [grow_self]; refine ⟨D0.idle, ?_⟩)
    ((refine GoesG.step rfl (fun _ hz₁ => ?_); replace hF := KS.rely hF hz₁; clear hz₁); rw [stepG_seq]; simp only [goes_go, grow_self]; refine ⟨D0.idle, ?_⟩)
    ((refine GoesG.step rfl (fun _ hz₁ => ?_); replace hF := KS.rely hF hz₁; clear hz₁); rw [stepG_region]; simp only [goes_go, grow_self, List.size_toArray, List.length_cons, List.length_nil, Nat.zero_add, List.range, List.range.loop]; refine ⟨D0.idle, ?_⟩)
    (refine GoesG.step rfl (fun _ hz₁ => ?_); replace hF := KS.rely hF hz₁; clear hz₁)
    refine goes_call rfl rfl (by decide) rfl Try.func70 (nm_wait lk) rfl ⟨D0.idle, ?_⟩
    simp only [grow_self]
    walk_nrmf Try.f70
    refine GoesG.le (n := 8) (by omega) (throughWait (weakenM (fun g w x => bkd_weaken (fun g w y => ?_) x) (hA _ _ hF.live)))
    refine ⟨_, ?_, ?_, by
      simp only [waitOps, restS, bodyS, opsOf, codeAt, Try.f36, Option.getD_some]
      exact y⟩
    · rfl
    · rfl
  | succ r ih =>
    intro j hj
    obtain ⟨f₁, h₁⟩ := ih (j + 1) (by omega)
    refine ⟨60, ?_⟩
    intro K W l w T hs s3 s4 s12 s13 s14 hF
    have hjn : j < n := by omega
    have hlt : (j : Int) < (n : Int) := by omega
    have ej : n - (r + 1) = j := by omega
    obtain ⟨u, hu⟩ : ∃ u, us[j]? = some u := ⟨_, List.getElem?_eq_getElem (by omega)⟩
    obtain ⟨bU, oU, v, rfl, hKu, c1, c2, hts⟩ := hU j u hu
    have hts0 := hts
    obtain ⟨At, ct, rfl, _, _, _⟩ := hts
    have hgu := hg u (List.mem_of_getElem? hu)
    have hw2 : IntKind.i64.wrap ((j : Int) + 1) = (j : Int) + 1 := IntWalk.i64_in _ (by omega)
    have hrow : rowU us j = ((loadL u.tasks).map (Value.int .i64)).toArray := by simp [rowU, hu]
    obtain ⟨v0, v1, v2, v3, v4, v5, v6, v7, v8, v9, v10, v11, v12, v13, v14, v15, v16, v17, v18, v19, v20, v21, v22, v23, rfl⟩ := array24 T hs
    simp only [Array.getD_eq_getD_getElem?, List.getElem?_toArray, List.getElem?_cons_succ, List.getElem?_cons_zero, Option.getD_some] at s3 s4 s12 s13 s14
    subst s3 s4 s12 s13 s14
    have hA := fun (a₀ : Act) (ops₀ : Array Oper) (k₀ : List Item) (w : World) (hF : WgLive lk.tWg Wg w) => goAddL (b₀ := base 36) (a₀ := a₀) (ops₀ := ops₀) (i₀ := 0) (rest₀ := []) (k₀ := k₀) (cs := cs) wgl w hF
    simp only [StopU, ej]
    have h₂ := fun K W l w T g1 g2 g3 g4 g5 g6 => h₁ K W l w T g1 g2 g3 g4 g5 g6
    clear h₁ ih
    simp only [loopS, waitS, bodyS, codeAt, Try.f36, body_add, addFn, Option.getD_some] at hA h₂ ⊢
    ((refine GoesG.step rfl (fun _ hz₁ => ?_); replace hF := KS.rely hF hz₁; clear hz₁); rw [stepG_seq]; simp only [goes_go, grow_self]; refine ⟨D0.idle, ?_⟩)
    ((refine GoesG.step rfl (fun _ hz₁ => ?_); replace hF := KS.rely hF hz₁; clear hz₁); rw [stepG_region]; simp only [goes_go, grow_self, List.size_toArray, List.length_cons, List.length_nil, Nat.zero_add, List.range, List.range.loop]; refine ⟨D0.idle, ?_⟩)
    ((refine GoesG.step rfl (fun _ hz₁ => ?_); replace hF := KS.rely hF hz₁; clear hz₁); refine goes_oper_k rfl rfl (by decide) (fun Kz hKz => ?_); go_simp; refine hKz _ _ ⟨?_, ?_⟩; (focus (rw [listed_nil (by simp [go_sem, *])]; exact D0.idle)); clear hKz Kz; simp only [grow_self])
    ((refine GoesG.step rfl (fun _ hz₁ => ?_); replace hF := KS.rely hF hz₁; clear hz₁); rw [stepG_region_end]; simp only [goes_go, grow_self]; refine ⟨D0.idle, ?_⟩)
    ((refine GoesG.step rfl (fun _ hz₁ => ?_); replace hF := KS.rely hF hz₁; clear hz₁); rw [stepG_seq]; simp only [goes_go, grow_self]; refine ⟨D0.idle, ?_⟩)
    ((refine GoesG.step rfl (fun _ hz₁ => ?_); replace hF := KS.rely hF hz₁; clear hz₁); rw [stepG_cond (t := true) (by first | rfl | (simp [Act.eval]; done) | (simp [Act.eval]; omega))]; simp only [goes_go, grow_self, ↓reduceIte]; refine ⟨D0.idle, ?_⟩)
    ((refine GoesG.step rfl (fun _ hz₁ => ?_); replace hF := KS.rely hF hz₁; clear hz₁); rw [stepG_skip]; simp only [goes_go, grow_self]; refine ⟨D0.idle, ?_⟩)
    ((refine GoesG.step rfl (fun _ hz₁ => ?_); replace hF := KS.rely hF hz₁; clear hz₁); rw [stepG_seq]; simp only [goes_go, grow_self]; refine ⟨D0.idle, ?_⟩)
    ((refine GoesG.step rfl (fun _ hz₁ => ?_); replace hF := KS.rely hF hz₁; clear hz₁); rw [stepG_block]; simp only [goes_go, grow_self]; refine ⟨D0.idle, ?_⟩)
    ((refine GoesG.step rfl (fun _ hz₁ => ?_); replace hF := KS.rely hF hz₁; clear hz₁); rw [stepG_seq]; simp only [goes_go, grow_self]; refine ⟨D0.idle, ?_⟩)
    ((refine GoesG.step rfl (fun _ hz₁ => ?_); replace hF := KS.rely hF hz₁; clear hz₁); rw [stepG_region]; simp only [goes_go, grow_self, List.size_toArray, List.length_cons, List.length_nil, Nat.reduceAdd, Nat.zero_add, List.range, List.range.loop]; refine ⟨D0.idle, ?_⟩)
    ((refine GoesG.step rfl (fun _ hz₁ => ?_); replace hF := KS.rely hF hz₁; clear hz₁); refine goes_oper_k rfl rfl (by decide) (fun Kz hKz => ?_); go_simp; refine hKz _ _ ⟨?_, ?_⟩; (focus (rw [listed_nil (by simp [go_sem, *])]; exact D0.idle)); clear hKz Kz; simp only [grow_self])
    ((refine GoesG.step rfl (fun _ hz₁ => ?_); replace hF := KS.rely hF hz₁; clear hz₁); refine goes_oper_k rfl rfl (by decide) (fun Kz hKz => ?_); go_simp; refine hKz _ _ ⟨?_, ?_⟩; (focus (rw [listed_nil (by simp [go_sem, *])]; exact D0.idle)); clear hKz Kz; simp only [grow_self])
    (refine GoesG.step rfl (fun _ hz₁ => ?_); replace hF := KS.rely hF hz₁; clear hz₁)
    have k1 := hF.cell hKu c1
    have k2 := hF.cell hKu c2
    refine goes_oper_k rfl rfl (by decide) (fun K' hK' => ?_)
    go_simp
    refine hK' _ _ ⟨?_, ?_⟩
    · refine D0.reads (fun e he => ?_)
      have hm := mem_listed he
      simp [go_sem, *] at hm
      rcases hm with rfl | rfl <;> exact ⟨_, rfl, .inl (hF.sub _ hKu)⟩
    clear hK' K' k1 k2
    simp only [grow_self]
    refine GoesG.step rfl (fun w5 h5 => ?_)
    replace hF := hF.rely h5
    clear h5
    refine goes_oper_k rfl rfl (by decide) (fun K' hK' => ?_)
    go_simp
    refine hK' _ _ ⟨?_, ?_⟩
    · refine D0.alloc _ (fun e he => ?_)
      have hm := mem_listed he
      simp [go_sem, *] at hm
    clear hK' K'
    replace hF := hF.alloc #[.int .i64 0] 3
    refine GoesG.step rfl (fun w6 h6 => ?_)
    replace hF := hF.rely h6
    clear h6
    refine goes_oper_k rfl rfl (by decide) (fun K' hK' => ?_)
    go_simp
    refine hK' _ _ ⟨?_, ?_⟩
    · refine D0.alloc _ (fun e he => ?_)
      have hm := mem_listed he
      simp [go_sem, *] at hm
    clear hK' K'
    replace hF := hF.alloc #[.bool false, .slice none 0 0] 44
    generalize hiB : w5.heap.size = iB at hF ⊢
    generalize huB : w6.heap.size = uB at hF ⊢
    generalize grow (grow W w5 _) w6 _ = W5 at hF ⊢
    (refine GoesG.step rfl (fun _ hz₁ => ?_); replace hF := KS.rely hF hz₁; clear hz₁)
    obtain ⟨k1, f1⟩ := hF.row (r := iB) (List.mem_cons_of_mem _ (List.mem_cons_self ..)) (k := 0) rfl
    refine goes_oper_k rfl rfl (by decide) (fun K' hK' => ?_)
    go_simp
    refine hK' _ _ ⟨D0.store (hF.rows _ (List.mem_cons_of_mem _ (List.mem_cons_self ..))).1 fun e he => ?_, ?_⟩
    · have hm := mem_listed he
      simp [go_sem, storedEv, *] at hm
      subst hm
      exact ⟨_, rfl, rfl⟩
    clear hK' K' k1 f1
    rw [grow_same (aside_setCell _ _ _).size]
    replace hF := (hF.swap.set (k := 0) (.int .i64 j)).swap
    (refine GoesG.step rfl (fun _ hz₁ => ?_); replace hF := KS.rely hF hz₁; clear hz₁)
    obtain ⟨k1, f1⟩ := hF.row (r := uB) (List.mem_cons_self ..) (k := 0) rfl
    obtain ⟨k2, f2⟩ := hF.row (r := uB) (List.mem_cons_self ..) (k := 1) rfl
    refine goes_oper_k rfl rfl (by decide) (fun K' hK' => ?_)
    go_simp
    refine hK' _ _ ⟨D0.store2 (hF.rows _ (List.mem_cons_self ..)).1 fun e he => ?_, ?_⟩
    · have hm := mem_listed he
      simp [go_sem, storedEv, *] at hm
      rcases hm with rfl | rfl <;> exact ⟨_, rfl, rfl⟩
    clear hK' K' k1 f1 k2 f2
    rw [grow_same ((aside_setCell _ _ _).size.trans (aside_setCell _ _ _).size)]
    replace hF := (hF.set (k := 0) (.bool u.opened)).set (k := 1) (.slice At u.tasks.length ct)
    simp only [List.setIfInBounds_toArray, List.set_cons_zero, List.set_cons_succ] at hF
    ((refine GoesG.step rfl (fun _ hz₁ => ?_); replace hF := KS.rely hF hz₁; clear hz₁); rw [stepG_region_end]; simp only [goes_go, grow_self]; refine ⟨D0.idle, ?_⟩)
    ((refine GoesG.step rfl (fun _ hz₁ => ?_); replace hF := KS.rely hF hz₁; clear hz₁); rw [stepG_seq]; simp only [goes_go, grow_self]; refine ⟨D0.idle, ?_⟩)
    ((refine GoesG.step rfl (fun _ hz₁ => ?_); replace hF := KS.rely hF hz₁; clear hz₁); rw [stepG_region]; simp only [goes_go, grow_self, List.size_toArray, List.length_cons, List.length_nil, Nat.zero_add, List.range, List.range.loop]; refine ⟨D0.idle, ?_⟩)
    (refine GoesG.step rfl (fun _ hz₁ => ?_); replace hF := KS.rely hF hz₁; clear hz₁)
    refine goes_call rfl rfl (by decide) rfl Try.func67 (nm_add lk) rfl ⟨D0.idle, ?_⟩
    simp only [grow_self]
    walk_nrmf Try.f67
    have hKW : ¬ K Wg := fun x => (hF.bnd _ (.inl x)).2.1 rfl
    have hWW : ¬ W5 Wg := fun x => (hF.bnd _ (.inr x)).2.1 rfl
    refine GoesG.le (n := 20) (by omega) (throughAdd (m := 10) hKW hWW hCW (hA _ _ _ _ hF.live) fun w' hr => ?_)
    replace hF := hF.rely hr
    clear hr hA
    walk_nrm
    ((refine GoesG.step rfl (fun _ hz₁ => ?_); replace hF := KS.rely hF hz₁; clear hz₁); rw [stepG_region_end]; simp only [goes_go, grow_self]; refine ⟨D0.idle, ?_⟩)
    ((refine GoesG.step rfl (fun _ hz₁ => ?_); replace hF := KS.rely hF hz₁; clear hz₁); rw [stepG_region]; simp only [goes_go, grow_self, List.size_toArray, List.length_cons, List.length_nil, Nat.reduceAdd, Nat.zero_add, List.range, List.range.loop]; refine ⟨D0.idle, ?_⟩)
    ((refine GoesG.step rfl (fun _ hz₁ => ?_); replace hF := KS.rely hF hz₁; clear hz₁); refine goes_oper_k rfl rfl (by decide) (fun Kz hKz => ?_); go_simp; refine hKz _ _ ⟨?_, ?_⟩; (focus (rw [listed_nil (by simp [go_sem, *])]; exact D0.idle)); clear hKz Kz; simp only [grow_self])
    refine GoesG.stop (fun w₂ r₂ => ?_)
    replace hF := hF.rely r₂
    clear r₂
    refine ⟨rfl, ?_⟩
    rw [stepG_spawn (d := callU Wg uB lB iB) (w' := w₂) (f := .func 68) (c := #[.pointer (some ⟨Wg, 0, none⟩), .pointer (some ⟨uB, 0, none⟩), .pointer (some ⟨lB, 0, none⟩), .pointer (some ⟨iB, 0, none⟩)]) rfl rfl (by decide) (by simp [go_sem, callU, Deferred.ofValue]) rfl]
    generalize hL : listed _ _ _ _ _ = Lx
    have hLx : Lx = #[] := by
      rw [← hL]
      simp [listed, go_sem, seen, Deferred.ofValue]
      rfl
    subst hLx
    clear hL
    obtain ⟨q1, _, q2⟩ := hF.rows (uB, #[.bool u.opened, .slice At u.tasks.length ct], 44) (List.mem_cons_self ..)
    obtain ⟨q3, _, q4⟩ := hF.rows (iB, #[.int .i64 j], 3) (List.mem_cons_of_mem _ (List.mem_cons_self ..))
    have hx1 := (hF.row (r := uB) (List.mem_cons_self ..) (k := 1) rfl).1
    have hx2 := (hF.row (r := iB) (List.mem_cons_of_mem _ (List.mem_cons_self ..)) (k := 0) rfl).1
    refine ⟨_, _, rfl, rfl, fun hpay => ⟨_, workerG hjn (by omega) ⟨.inr q1, hx1⟩ ⟨.inl (hF.sub _ hl.1), hF.cell hl.1 hl.2⟩ ⟨.inr q3, hx2⟩ (TasksK.starter hF hts0) hgu hrow hF.live hF.pay hCW (fun b hb => (hF.bnd b hb).1) hF.cl hF.wgl⟩, ?_⟩
    replace hF := hF.fork
    clear q1 q2 q3 q4 hx1 hx2
    refine (spw_iff us r _ _ _ _).2 ⟨f₁ + 10, ?_⟩
    walk_nrm
    ((refine GoesG.step rfl (fun _ hz₁ => ?_); replace hF := KS.rely hF hz₁; clear hz₁); rw [stepG_region_end]; simp only [goes_go, grow_self]; refine ⟨D0.idle, ?_⟩)
    ((refine GoesG.step rfl (fun _ hz₁ => ?_); replace hF := KS.rely hF hz₁; clear hz₁); rw [stepG_inBlock]; simp only [goes_go, grow_self]; refine ⟨D0.idle, ?_⟩)
    ((refine GoesG.step rfl (fun _ hz₁ => ?_); replace hF := KS.rely hF hz₁; clear hz₁); rw [stepG_region]; simp only [goes_go, grow_self, List.size_toArray, List.length_cons, List.length_nil, Nat.reduceAdd, Nat.zero_add, List.range, List.range.loop]; refine ⟨D0.idle, ?_⟩)
    ((refine GoesG.step rfl (fun _ hz₁ => ?_); replace hF := KS.rely hF hz₁; clear hz₁); refine goes_oper_k rfl rfl (by decide) (fun Kz hKz => ?_); go_simp; refine hKz _ _ ⟨?_, ?_⟩; (focus (rw [listed_nil (by simp [go_sem, *])]; exact D0.idle)); clear hKz Kz; simp only [grow_self])
    ((refine GoesG.step rfl (fun _ hz₁ => ?_); replace hF := KS.rely hF hz₁; clear hz₁); refine goes_oper_k rfl rfl (by decide) (fun Kz hKz => ?_); go_simp; refine hKz _ _ ⟨?_, ?_⟩; (focus (rw [listed_nil (by simp [go_sem, *])]; exact D0.idle)); clear hKz Kz; simp only [grow_self])
    ((refine GoesG.step rfl (fun _ hz₁ => ?_); replace hF := KS.rely hF hz₁; clear hz₁); rw [stepG_region_end]; simp only [goes_go, grow_self]; refine ⟨D0.idle, ?_⟩)
    ((refine GoesG.step rfl (fun _ hz₁ => ?_); replace hF := KS.rely hF hz₁; clear hz₁); rw [stepG_inLoop]; simp only [goes_go, grow_self]; refine ⟨D0.idle, ?_⟩)
    exact (h₂ _ _ _ _ _ rfl rfl rfl rfl rfl (by simp) hF).le (by omega)
end
end Go.Proofs.Ytcfpilkhjpegcaa

/- The program's usage: from the group's birth to behind the join. -/
namespace Go.Proofs.Ytcfpilkhjpegcaa
open Go Go.Conc Go.ConcN Go.RowKit Go.Conc.Lib Go.ConcR.Gen Go.ConcN.Gen
open Go.ConcR (KK WgAt wgBlock stA smA rd wr mk)

noncomputable def bornOps : Array Oper := opsOf (codeAt bodyS [1, 1, 0])
noncomputable def headS : Code := codeAt bodyS [1, 1, 1]

section
variable {C n lB cB : Nat} {cs : List Frame} {D : Nat → Prop} {Post : Value → World → Prop}

set_option maxRecDepth 100000 in
set_option maxHeartbeats 4000000 in
/-- The group is made. -/
theorem bornStep {T : Array Value} (hs : T.size = 24) (v : World) : stepG (Try.prog) true (G ((base 36).at ⟨T, []⟩ [.inRegion bornOps [0], .code headS]) cs) v =
    .go (G ((base 36).at ⟨T.setIfInBounds 4 (.pointer (some ⟨v.heap.size, 0, none⟩)), []⟩ [.inRegion bornOps [], .code headS]) cs) { v with heap := v.heap.push (wgBlock lk.tWg 0 0) } #[] := by
  obtain ⟨v0, v1, v2, v3, v4, v5, v6, v7, v8, v9, v10, v11, v12, v13, v14, v15, v16, v17, v18, v19, v20, v21, v22, v23, rfl⟩ := array24 T hs
  simp only [bornOps, bodyS, opsOf, codeAt, Try.f36, Option.getD_some]
  rw [stepG_value (v := .pointer (some ⟨v.heap.size, 0, none⟩)) (w' := v.alloc (wgBlock lk.tWg 0 0)) rfl rfl (by decide)]
  · have e : ∀ (a : Act) (o : Oper), (execOp a.eval o).events (Try.prog) v #[] = #[] → listed (Try.prog) (base 36).fn a o v = #[] := fun a o h => listed_nil h
    rw [e]
    · rfl
    · simp [go_sem]
  · go_simp
    rfl

set_option maxRecDepth 100000 in
set_option maxHeartbeats 4000000 in
theorem usagePhase {us : List UnitD} {A : Option Addr} {cap : Nat} {w0 : World} {T : Array Value} (hs : T.size = 24) (s1 : T.getD 1 undef = .pointer (some ⟨cB, 0, none⟩)) (s3 : T.getD 3 undef = .pointer (some ⟨lB, 0, none⟩))
    (hn : us.length = n) (hn2 : n ≤ 1000) (hcap : n ≤ cap ∧ cap ≤ 9223372036854775807)
    (hDd : ∀ b, D b → b < w0.heap.size) (hC : C < w0.heap.size) (hCD : ¬ D C) (hpay : PayAt C n w0) (hg : ∀ u ∈ us, GoodTs u.tasks)
    (hc : (cB ≠ C ∧ ¬ D cB) ∧ w0.cell? ⟨cB, 1, none⟩ = some (.slice A n cap)) (hl : (lB ≠ C ∧ ¬ D lB) ∧ w0.cell? ⟨lB, 0, none⟩ = some (.slice (some ⟨C, 0, none⟩) n n)) (hU : UnitsK (fun b => b < w0.heap.size ∧ b ≠ C ∧ ¬ D b) w0 A us)
    (hEnd : ∀ w1 : World, w1.os = w0.os → w1.output = w0.output → (∀ b, b < w0.heap.size → b ≠ C → w1.heap[b]? = w0.heap[b]?) → (∃ ty fr, w1.heap[w0.heap.size]? = some (.cells #[] ty fr)) → w0.heap.size < w1.heap.size →
      (∃ (cc : Array Value) (rs : Nat → Nat), w1.heap[C]? = some (.cells cc 55) ∧ cc.size = n ∧ ∀ i, i < n → cc[i]? = some (.slice (some ⟨rs i, 0, none⟩) 3 3) ∧ w0.heap.size < rs i ∧ rs i < w1.heap.size ∧ w1.heap[rs i]? = some (.cells (rowU us i) 3)) →
      ∀ T' : Array Value, T'.size = 24 → T'.getD 3 undef = .pointer (some ⟨lB, 0, none⟩) → Wn (Try.prog) Post (fun b => D b ∨ b = w0.heap.size) (G ((base 36).at ⟨T', []⟩ [.inRegion waitOps [], .code restS]) cs) w1) :
    Wn (Try.prog) Post D (G ((base 36).at ⟨T, []⟩ [.inRegion bornOps [0], .code headS]) cs) w0 := by
  refine Wn.phase (ty := lk.tWg) (Wg := w0.heap.size) (C := C) (n := n) (row := rowU us) (tI := 3) (gB := G ((base 36).at ⟨T.setIfInBounds 4 (.pointer (some ⟨w0.heap.size, 0, none⟩)), []⟩ [.inRegion bornOps [], .code headS]) cs)
    (gR := RRU lB cs) (Anc := AncU w0.heap.size lB cs) rfl rfl (fun v hv => by rw [bornStep hs, hv]) hDd hC hCD hpay (by omega) ?_ ?_ ancU ?_ ?_
  · rintro g w ⟨T', _, _, T'', rfl, _⟩
    rfl
  · rintro g ⟨T', _, _, rfl⟩
    rfl
  · intro v1 hwg hsz hsame
    have hcell : ∀ (b o : Nat) (x : Value), b < w0.heap.size → ¬ D b → w0.cell? ⟨b, o, none⟩ = some x → v1.cell? ⟨b, o, none⟩ = some x := fun b o x h1 h2 h3 => by
      unfold World.cell? at h3 ⊢
      rw [hsame b h1 h2]
      exact h3
    have hlt : ∀ {b o : Nat} {x : Value}, w0.cell? ⟨b, o, none⟩ = some x → b < w0.heap.size := fun h => World.block_lt_of_cell? w0 _ h
    obtain ⟨cc, hp1, hp2⟩ := hpay
    have hF : KS lk.tWg w0.heap.size C n (fun b => b < w0.heap.size ∧ b ≠ C ∧ ¬ D b) v1 (fun b => b < w0.heap.size ∧ b ≠ C ∧ ¬ D b) (fun _ => False) [] v1 :=
      ⟨fun _ h => h, fun _ _ => rfl, fun b hb => by obtain ⟨h1, h2, _⟩ := hb.resolve_right id; exact ⟨by omega, by omega, h2⟩, ⟨0, 0, hwg⟩, ⟨cc, (hsame C hC hCD).trans hp1, hp2⟩, by simp, .nil⟩
    have hT : ∀ {v : Value} {ts : List TaskD}, TasksK (fun b => b < w0.heap.size ∧ b ≠ C ∧ ¬ D b) w0 v ts → TasksK (fun b => b < w0.heap.size ∧ b ≠ C ∧ ¬ D b) v1 v ts := by
      rintro v ts ⟨A, c, e, h1, h2, hr⟩
      refine ⟨A, c, e, h1, h2, fun j t ht => ?_⟩
      obtain ⟨b, o, An, cn, g1, g2, g3, g4, bb, oo, cc, f1, f2, f3, f4, f5⟩ := hr j t ht
      exact ⟨b, o, An, cn, g1, g2, hcell _ _ _ g2.1 g2.2.2 g3, hcell _ _ _ g2.1 g2.2.2 g4, bb, oo, cc, f1, f2, f3, f4, fun j x hx => hcell _ _ _ (f4.resolve_right id).1 (f4.resolve_right id).2.2 (f5 j x hx)⟩
    have hU1 : UnitsK (fun b => b < w0.heap.size ∧ b ≠ C ∧ ¬ D b) v1 A us := fun j u hu => by
      obtain ⟨b, o, v, g1, g2, g3, g4, g5⟩ := hU j u hu
      exact ⟨b, o, v, g1, g2, hcell _ _ _ g2.1 g2.2.2 g3, hcell _ _ _ g2.1 g2.2.2 g4, hT g5⟩
    have hcK : (fun b => b < w0.heap.size ∧ b ≠ C ∧ ¬ D b) cB := ⟨hlt hc.2, hc.1⟩
    have hlK : (fun b => b < w0.heap.size ∧ b ≠ C ∧ ¬ D b) lB := ⟨hlt hl.2, hl.1⟩
    have hc1 := hcell _ _ _ hcK.1 hc.1.2 hc.2
    have hl1 := hcell _ _ _ hlK.1 hl.1.2 hl.2
    obtain ⟨f, hf⟩ := spawnU (Wg := w0.heap.size) (lB := lB) (cs := cs) (K0 := fun b => b < w0.heap.size ∧ b ≠ C ∧ ¬ D b) (wb := v1) hn hn2 hcap hU1 hg ⟨hlK, hl1⟩ (by omega) n 0 (by omega)
    refine (spw_iff us n _ _ _ _).2 ⟨f + 20, ?_⟩
    obtain ⟨v0, x1, v2, x3, v4, v5, v6, v7, v8, v9, v10, v11, v12, v13, v14, v15, v16, v17, v18, v19, v20, v21, v22, v23, rfl⟩ := array24 T hs
    simp only [Array.getD_eq_getD_getElem?, List.getElem?_toArray, List.getElem?_cons_succ, List.getElem?_cons_zero, Option.getD_some] at s1 s3
    subst s1 s3
    have hf2 := fun K W l w T g1 g2 g3 g4 g5 g6 => hf K W l w T g1 g2 g3 g4 g5 g6
    clear hf
    simp only [List.setIfInBounds_toArray, List.set_cons_succ, List.set_cons_zero]
    simp only [bornOps, headS, loopS, waitS, bodyS, opsOf, codeAt, Try.f36, Option.getD_some] at hf2 ⊢
    ((refine GoesG.step rfl (fun _ hz₁ => ?_); replace hF := KS.rely hF hz₁; clear hz₁); rw [stepG_region_end]; simp only [goes_go, grow_self]; refine ⟨D0.idle, ?_⟩)
    ((refine GoesG.step rfl (fun _ hz₁ => ?_); replace hF := KS.rely hF hz₁; clear hz₁); rw [stepG_seq]; simp only [goes_go, grow_self]; refine ⟨D0.idle, ?_⟩)
    ((refine GoesG.step rfl (fun _ hz₁ => ?_); replace hF := KS.rely hF hz₁; clear hz₁); rw [stepG_seq]; simp only [goes_go, grow_self]; refine ⟨D0.idle, ?_⟩)
    ((refine GoesG.step rfl (fun _ hz₁ => ?_); replace hF := KS.rely hF hz₁; clear hz₁); rw [stepG_region]; simp only [goes_go, grow_self, List.size_toArray, List.length_cons, List.length_nil, Nat.reduceAdd, Nat.zero_add, List.range, List.range.loop]; refine ⟨D0.idle, ?_⟩)
    ((refine GoesG.step rfl (fun _ hz₁ => ?_); replace hF := KS.rely hF hz₁; clear hz₁); refine goes_oper_k rfl rfl (by decide) (fun Kz hKz => ?_); go_simp; refine hKz _ _ ⟨?_, ?_⟩; (focus (rw [listed_nil (by simp [go_sem, *])]; exact D0.idle)); clear hKz Kz; simp only [grow_self])
    (refine GoesG.step rfl (fun _ hz₁ => ?_); replace hF := KS.rely hF hz₁; clear hz₁)
    have k1 := hF.cell hcK hc1
    refine goes_oper_k rfl rfl (by decide) (fun K' hK' => ?_)
    go_simp
    refine hK' _ _ ⟨?_, ?_⟩
    · refine D0.reads (fun e he => ?_)
      have hm := mem_listed he
      simp [go_sem, *] at hm
      subst hm
      exact ⟨_, rfl, .inl hcK⟩
    clear hK' K' k1
    simp only [grow_self]
    ((refine GoesG.step rfl (fun _ hz₁ => ?_); replace hF := KS.rely hF hz₁; clear hz₁); refine goes_oper_k rfl rfl (by decide) (fun Kz hKz => ?_); go_simp; refine hKz _ _ ⟨?_, ?_⟩; (focus (rw [listed_nil (by simp [go_sem, *])]; exact D0.idle)); clear hKz Kz; simp only [grow_self])
    ((refine GoesG.step rfl (fun _ hz₁ => ?_); replace hF := KS.rely hF hz₁; clear hz₁); refine goes_oper_k rfl rfl (by decide) (fun Kz hKz => ?_); go_simp; refine hKz _ _ ⟨?_, ?_⟩; (focus (rw [listed_nil (by simp [go_sem, *])]; exact D0.idle)); clear hKz Kz; simp only [grow_self])
    ((refine GoesG.step rfl (fun _ hz₁ => ?_); replace hF := KS.rely hF hz₁; clear hz₁); rw [stepG_region_end]; simp only [goes_go, grow_self]; refine ⟨D0.idle, ?_⟩)
    ((refine GoesG.step rfl (fun _ hz₁ => ?_); replace hF := KS.rely hF hz₁; clear hz₁); rw [stepG_block]; simp only [goes_go, grow_self]; refine ⟨D0.idle, ?_⟩)
    ((refine GoesG.step rfl (fun _ hz₁ => ?_); replace hF := KS.rely hF hz₁; clear hz₁); rw [stepG_loop]; simp only [goes_go, grow_self]; refine ⟨D0.idle, ?_⟩)
    exact (hf2 _ _ _ _ _ rfl rfl rfl rfl rfl rfl hF).le (by omega)
  · intro w1 h1 h2 h3 h4 h5 h6 aR hR
    obtain ⟨T', g1, g2, rfl⟩ := hR
    exact hEnd w1 h1 h2 h3 h4 h5 h6 T' g1 g2
end
end Go.Proofs.Ytcfpilkhjpegcaa
