/- Walking beside goroutines that only leave: the end of a piece is the beginning of the rest. -/
import Derived.Test.YtcfpilkhjpegcaaK63
import Derived.Test.YtcfpilkhjpegcaaK64
import Derived.Test.YtcfpilkhjpegcaaK66
import Derived.Test.YtcfpilkhjpegcaaK4
import Derived.Test.YtcfpilkhjpegcaaK5
namespace Go.Proofs.Ytcfpilkhjpegcaa
open Go Go.Conc Go.ConcN Go.RowKit

/-- all that was there is as it was; the tape may be another -/
structure Sup (w w' : World) : Prop where
  os : w'.os = w.os
  output : w'.output = w.output
  size : w.heap.size ≤ w'.heap.size
  block : ∀ k, k < w.heap.size → w'.heap[k]? = w.heap[k]?
theorem Sup.refl (w : World) : Sup w w := ⟨rfl, rfl, Nat.le_refl _, fun _ _ => rfl⟩
theorem Sup.trans {a b c : World} (h : Sup a b) (k : Sup b c) : Sup a c :=
  ⟨k.os.trans h.os, k.output.trans h.output, Nat.le_trans h.size k.size, fun i hi => (k.block i (Nat.lt_of_lt_of_le hi h.size)).trans (h.block i hi)⟩
theorem Sup.of {w w' : World} (h : Ext w w') : Sup w w' := ⟨h.os, h.output, h.size, h.block⟩
theorem Sup.ext {w w' : World} (h : Sup w w') : Ext w (w'.re w.tape w.drawn) := ⟨h.os, rfl, h.output, h.size, h.block⟩
theorem Sup.re (w : World) (τ : Nat → Question → Nat) (d : Nat) : Sup w (w.re τ d) := ⟨rfl, rfl, Nat.le_refl _, fun _ _ => rfl⟩
theorem Sup.obj {w w' : World} (h : Sup w w') {b : Nat} {o : Obj} (hc : w.heap[b]? = some o) : w'.heap[b]? = some o := (h.block b (obj_lt hc)).trans hc
theorem Sup.cell {w w' : World} (h : Sup w w') {b o : Nat} {v : Value} (hc : w.cell? ⟨b, o, none⟩ = some v) : w'.cell? ⟨b, o, none⟩ = some v := h.ext.cell hc
theorem RI.sup {w w' : World} {v : Value} {xs : List Int} (h : RI w v xs) (hs : Sup w w') : RI w' v xs := by
  have := RI.ext h hs.ext
  exact this
theorem RU.sup {w w' : World} {v : Value} {xs : List UnitD} (h : RU w v xs) (hs : Sup w w') : RU w' v xs := by
  have := RU.ext h hs.ext
  exact this
theorem ClusV.sup {w w' : World} {v : Value} {C : ClusD} (h : ClusV w v C) (hs : Sup w w') : ClusV w' v C :=
  let ⟨rv, uv, h1, h2, h3⟩ := h; ⟨rv, uv, h1, h2.sup hs, h3.sup hs⟩

/-- The dead blocks are rows without cells. -/
def Dead (D : Nat → Prop) (w : World) : Prop := ∀ b, D b → ∃ ty fr, w.heap[b]? = some (.cells #[] ty fr)
theorem Dead.sup {D : Nat → Prop} {w w' : World} (h : Dead D w) (hs : Sup w w') : Dead D w' := fun b hb => let ⟨ty, fr, e⟩ := h b hb; ⟨ty, fr, hs.obj e⟩
theorem Dead.none (w : World) : Dead (fun _ => False) w := fun _ h => h.elim
/-- More dead blocks, none of them old. -/
def DMore (w : World) (D D' : Nat → Prop) : Prop := ∀ b, D' b → D b ∨ w.heap.size ≤ b
theorem DMore.refl (w : World) (D : Nat → Prop) : DMore w D D := fun _ h => .inl h
theorem DMore.trans {w w' : World} {D D' D2 : Nat → Prop} (h : DMore w D D') (hs : Sup w w') (k : DMore w' D' D2) : DMore w D D2 := fun b hb => (k b hb).elim (h b) fun x => .inr (Nat.le_trans hs.size x)

section
variable {D : Nat → Prop} {Post : Value → World → Prop} {cs : List Frame} {f : FuncId} {k : List Item}
/-- the end of a piece: the rest goes on -/
def EndK (Post : Value → World → Prop) (D : Nat → Prop) (f : FuncId) (k : List Item) (cs : List Frame) : Exit → Act → World → Prop := fun e a w =>
  (e = .normal ∧ Wn Try.prog Post D (G ((base f).at ⟨a.tmps, []⟩ k) cs) w) ∨ (e = .ret ∧ ∀ todo, Wn Try.prog Post D (G { (base f).at ⟨a.tmps, []⟩ todo with mode := .returning } cs) w)
theorem EndK.on {a : Act} {w : World} (h : Wn Try.prog Post D (G ((base f).at ⟨a.tmps, []⟩ k) cs) w) : EndK Post D f k cs .normal a w := .inl ⟨rfl, h⟩
theorem EndK.out {a : Act} {w : World} (h : ∀ todo, Wn Try.prog Post D (G { (base f).at ⟨a.tmps, []⟩ todo with mode := .returning } cs) w) : EndK Post D f k cs .ret a w := .inr ⟨rfl, h⟩

/-- A piece of text, and on. -/
theorem Wn.codeK (hfn : ∃ fn, Try.prog.funcs[f]? = some fn) (hD : SU.D f = []) {c : Code} (hi : okC Try.prog SU f [] c = true) {tmps : Array Value} {w : World}
    (hA : ∀ w1, Sup w w1 → w1.heap.size = w.heap.size → c.wp Try.prog (EndK Post D f k cs) ⟨tmps, []⟩ w1) : Wn Try.prog Post D (G ((base f).at ⟨tmps, []⟩ (.code c :: k)) cs) w := by
  refine Wn.code (Q := EndK Post D f k cs) setOkU hfn hD hi (fun τ => hA _ (Sup.re w τ 0) rfl) (fun e a' w' h => h.imp (fun x => x.1) (fun x => x.1)) ?_ ?_
  · intro T' w' τ d h
    rcases h with ⟨_, h⟩ | ⟨h, _⟩
    · exact Wn.unre h
    · cases h
  · intro T' todo w' τ d h
    rcases h with ⟨h, _⟩ | ⟨_, h⟩
    · cases h
    · exact Wn.unre (h todo)
/-- The first piece of several. -/
theorem Wn.seqK (hfn : ∃ fn, Try.prog.funcs[f]? = some fn) (hD : SU.D f = []) {c R : Code} (hi : okC Try.prog SU f [] c = true) {tmps : Array Value} {w : World}
    (hA : ∀ w1, Sup w w1 → w1.heap.size = w.heap.size → c.wp Try.prog (EndK Post D f (.code R :: k) cs) ⟨tmps, []⟩ w1) : Wn Try.prog Post D (G ((base f).at ⟨tmps, []⟩ (.code (c.seq R) :: k)) cs) w :=
  Wn.silent rfl (fun _u => stepG_seq) (Wn.codeK hfn hD hi hA)
/-- The operations that are still to come, and on. -/
theorem Wn.opsK (hfn : ∃ fn, Try.prog.funcs[f]? = some fn) (hD : SU.D f = []) {ops : Array Oper} {is : List Nat} (hi : okItem Try.prog SU f [] (.inRegion ops is) = true) {tmps : Array Value} {w : World}
    (hA : ∀ w1, Sup w w1 → w1.heap.size = w.heap.size → wpOps Try.prog ops (EndK Post D f k cs) is ⟨tmps, []⟩ w1) : Wn Try.prog Post D (G ((base f).at ⟨tmps, []⟩ (.inRegion ops is :: k)) cs) w := by
  refine Wn.ops (Q := EndK Post D f k cs) setOkU hfn hD hi (fun τ => hA _ (Sup.re w τ 0) rfl) (fun e a' w' h => h.imp (fun x => x.1) (fun x => x.1)) ?_ ?_
  · intro T' w' τ d h
    rcases h with ⟨_, h⟩ | ⟨h, _⟩
    · exact Wn.unre h
    · cases h
  · intro T' todo w' τ d h
    rcases h with ⟨h, _⟩ | ⟨_, h⟩
    · cases h
    · exact Wn.unre (h todo)
/-- One operation, and on. -/
theorem Wn.opK {ops : Array Oper} {i : Nat} {rest : List Nat} {o : Oper} (ho : ops[i]? = some o) {tmps : Array Value} {w : World} (hw : Region.wanted o (yielded ops tmps) = true) (hp : plainOp Try.prog o.op = true)
    (h : ∀ w1, Sup w w1 → w1.heap.size = w.heap.size → ∃ n w', (execOp (Act.eval ⟨tmps, []⟩) o).run Try.prog w1 = .ok n w' ∧ ∀ v, (n = .value v ∨ (n = .skip ∧ v = undef)) → Wn Try.prog Post D (G ((base f).at (Act.put ⟨tmps, []⟩ o.dst v) (.inRegion ops rest :: k)) cs) w') :
    Wn Try.prog Post D (G ((base f).at ⟨tmps, []⟩ (.inRegion ops (i :: rest) :: k)) cs) w :=
  Wn.op ho hw hp fun τ d => h _ (Sup.re w τ d) rfl
/-- A call by its contract, and on. -/
theorem Wn.callK {g : FuncId} (hf : SU.F g = true) (hD : SU.D g = []) {args : Array Value} {c : Frame} {w : World}
    (hc : ∀ w1, Sup w w1 → w1.heap.size = w.heap.size → Calls Try.prog g args w1 fun e w' => ∃ v, e = .returned v ∧ Wn Try.prog Post D (G (c.finish v) cs) w') : Wn Try.prog Post D (G (Frame.enter Try.prog g args .normal) (c :: cs)) w := by
  refine Wn.call (R := fun e w' => ∃ v, e = .returned v ∧ Wn Try.prog Post D (G (c.finish v) cs) w') setOkU hf (fun t ht => by rw [hD] at ht; cases ht) (fun τ => hc _ (Sup.re w τ 0) rfl) (fun ch w' h => ?_) (fun w' h => ?_) (fun v w' τ d h => ?_)
  · obtain ⟨v, h, _⟩ := h; cases h
  · obtain ⟨v, h, _⟩ := h; cases h
  · obtain ⟨v', h1, h2⟩ := h
    cases h1
    exact Wn.unre h2
/-- The return to the caller. -/
theorem Wn.leaveK {fn : Func} {t : Tmp} (hf : Try.prog.funcs[f]? = some fn) (hr : fn.results = #[.tmp t]) {tmps : Array Value} {todo : List Item} {c : Frame} {w : World} (h : Wn Try.prog Post D (G (c.finish (tmps.getD t undef)) cs) w) :
    Wn Try.prog Post D (G { (base f).at ⟨tmps, []⟩ todo with mode := .returning } (c :: cs)) w :=
  Wn.leave hf fun _τ _d => ⟨_, _, results_tmp hr _ _ _, h.re⟩
end
end Go.Proofs.Ytcfpilkhjpegcaa

/- The program's list of what is left, beside goroutines that only leave. -/
namespace Go.Proofs.Ytcfpilkhjpegcaa
open Go Go.Conc Go.ConcN Go.RowKit

section
variable {D : Nat → Prop} {Post : Value → World → Prop} {cs : List Frame} {f : FuncId} {k : List Item}
/-- all but one block is as it was -/
structure GrR (R0 : Nat) (w w' : World) : Prop where
  os : w'.os = w.os
  output : w'.output = w.output
  size : w.heap.size ≤ w'.heap.size
  block : ∀ k, k < w.heap.size → k ≠ R0 → w'.heap[k]? = w.heap[k]?
theorem GrR.refl (R0 : Nat) (w : World) : GrR R0 w w := ⟨rfl, rfl, Nat.le_refl _, fun _ _ _ => rfl⟩
theorem GrR.ext {R0 : Nat} {w a b : World} (h : GrR R0 w a) (k : Ext a b) : GrR R0 w b := ⟨k.os.trans h.os, k.output.trans h.output, Nat.le_trans h.size k.size, fun i hi hn => (k.block i (Nat.lt_of_lt_of_le hi h.size)).trans (h.block i hi hn)⟩
theorem GrR.grown {R0 : Nat} {w a b : World} {row : Option Nat} (h : GrR R0 w a) (k : a.grownBy b row) (hr : ∀ g, row = some g → g = R0 ∨ w.heap.size ≤ g) : GrR R0 w b :=
  ⟨k.os.trans h.os, k.output.trans h.output, Nat.le_trans h.size k.size, fun i hi hn => (k.block i (Nat.lt_of_lt_of_le hi h.size) fun e => by rcases hr i e.symm with h1 | h1 <;> omega).trans (h.block i hi hn)⟩
theorem GrR.sup {R0 : Nat} {w0 w w' : World} (h0 : Sup w0 w) (h : GrR R0 w w') (hR : w0.heap.size ≤ R0) : Sup w0 w' :=
  ⟨h.os.trans h0.os, h.output.trans h0.output, Nat.le_trans h0.size h.size, fun k hk => (h.block k (Nat.lt_of_lt_of_le hk h0.size) (by omega)).trans (h0.block k hk)⟩
theorem OI.sup {w w' : World} {base : Nat} {v : Value} {xs : List Int} (h : OI w base v xs) (hs : Sup w w') : OI w' base v xs := by
  have := Own.ext EI.ok h hs.ext
  exact this
theorem RVs.sup {w w' : World} {v : Value} {xs : List (List Int)} (h : RVs w v xs) (hs : Sup w w') : RVs w' v xs := by
  have := RVs.ext h hs.ext
  exact this
theorem finish_at {f : FuncId} {tmps : Array Value} {ops : Array Oper} {i : Nat} {rest : List Nat} {k : List Item} {v : Value} {o : Oper} {d : Nat} (ho : ops[i]? = some o) (hd : o.dst = some d) :
    ((base f).at ⟨tmps, []⟩ (.inRegion ops (i :: rest) :: k)).finish v = (base f).at ⟨tmps.setIfInBounds d v, []⟩ (.inRegion ops rest :: k) := by
  simp [Frame.finish, Frame.at, base, ho, hd]
/-- The operations that are still to come, as a list. -/
theorem Wn.listK (kk : Nat) (hfn : ∃ fn, Try.prog.funcs[f]? = some fn) (hD : SU.D f = []) {ops : Array Oper} {is : List Nat} (hi : okItem Try.prog SU f [] (.inRegion ops is) = true) (his : is = List.range' kk (ops.toList.drop kk).length) {tmps : Array Value} {w : World}
    (hA : ∀ w1, Sup w w1 → w1.heap.size = w.heap.size → wpList Try.prog ops (EndK Post D f k cs) (ops.toList.drop kk) ⟨tmps, []⟩ w1) : Wn Try.prog Post D (G ((base f).at ⟨tmps, []⟩ (.inRegion ops is :: k)) cs) w := by
  refine Wn.opsK hfn hD hi fun w1 h1 h2 => ?_
  have := hA w1 h1 h2
  rw [his, wpOps_eq_wpList _ kk (fun j => by simp)]
  exact this
end

noncomputable def bodyLf : Code := (Try.f52.body).getD .skip
noncomputable def lf0 : Code := codeAt bodyLf [0]
noncomputable def lf1 : Code := codeAt bodyLf [1, 0]
noncomputable def lfR : Code := codeAt bodyLf [1, 1, 1]
noncomputable def lfO : Array Oper := opsOf (codeAt bodyLf [1, 1, 0])
theorem bodyLf_eq : bodyLf = .seq lf0 (.seq lf1 (.seq (.region 2 lfO false) lfR)) := by kernel_rfl
theorem frameLf (v0 : Value) : Frame.enter Try.prog 52 #[v0] .normal = (base 52).at ⟨#[v0, undef, undef, undef, undef, undef, undef, undef, undef, undef, undef, undef, undef, undef, undef, undef, undef, undef, undef, undef, undef, undef, undef, undef, undef, undef, undef, undef, undef, undef, undef, undef, undef, undef, undef], []⟩ [.code bodyLf] := by
  rw [enter_at _ Try.func52 (c := bodyLf) rfl]
  rw [show (Try.f52).ntmps = 35 by kernel_rfl]
  simp [Array.replicate]

section
variable {D : Nat → Prop} {Post : Value → World → Prop} {cs : List Frame}

set_option maxRecDepth 100000 in
set_option maxHeartbeats 4000000 in
theorem leftsWn {cv : Value} {C : ClusD} {w : World} {c : Frame} (h : ClusV w cv C) (hok : clusOk C = true) (hdead : Dead D w)
    (hEnd : ∀ (w' : World) (D' : Nat → Prop) (v : Value), Sup w w' → Dead D' w' → DMore w D D' → RI w' v (leftsL C) → Wn Try.prog Post D' (G (c.finish v) cs) w') :
    Wn Try.prog Post D (G (Frame.enter Try.prog 52 #[cv] .normal) (c :: cs)) w := by
  have HH := hid h
  obtain ⟨rv, uv, rfl, hr, hu⟩ := h
  obtain ⟨Ar, cr, rfl, q1⟩ := hr
  obtain ⟨Au, cu, rfl, q2⟩ := hu
  clear q1 q2
  have HD := hid hdead
  have HE := hid hEnd
  clear hdead hEnd
  rw [frameLf, bodyLf_eq]
  refine Wn.seqK ⟨_, Try.func52⟩ (by kernel_rfl) (by kernel_rfl) (fun w1 hS1 hz1 => ?_)
  have HS1 := hid hS1
  clear hS1
  simp only [lf0, bodyLf, codeAt, Try.f52, Option.getD_some]
  go_wp2
  refine EndK.on ?_
  obtain ⟨W, hW⟩ : ∃ W, W = w1.alloc (.cells #[.slice Ar C.room.length cr, .slice Au C.units.length cu] 26) := ⟨_, rfl⟩
  have hB : W.heap[w.heap.size]? = some (.cells #[.slice Ar C.room.length cr, .slice Au C.units.length cu] 26 (0, 0)) := by rw [hW, ← hz1]; exact heap_alloc_new _ _
  have HSW : Hid (Sup w W) := hid (HS1.out.trans (by rw [hW]; exact Sup.of (Ext.alloc _ _)))
  rw [← hW]
  clear hW hz1 HS1
  dsimp only
  refine Wn.seqK ⟨_, Try.func52⟩ (by kernel_rfl) (by kernel_rfl) (fun w2 hS2 hz2 => ?_)
  have HB := hid (hS2.obj hB)
  have HS2 := hid (HSW.out.trans hS2)
  clear hS2 hB HSW
  simp only [lf1, bodyLf, codeAt, Try.f52, Option.getD_some]
  go_wp2
  refine EndK.on ?_
  dsimp only
  obtain ⟨V, hV⟩ : ∃ V, V = w2.alloc (.cells #[] 3) := ⟨_, rfl⟩
  have hHW : w.heap.size < W.heap.size := by rw [← hz2]; exact obj_lt HB.out
  have HO : Hid (OI V w.heap.size (.slice (some ⟨W.heap.size, 0, none⟩) 0 0) []) := hid (by rw [hV]; exact Own.madeAt #[] 0 _ hz2 (Nat.le_of_lt hHW) (by omega) rfl)
  have HB1 : Hid (V.heap[w.heap.size]? = some (.cells #[.slice Ar C.room.length cr, .slice Au C.units.length cu] 26 (0, 0))) := hid (by rw [hV]; exact (Ext.alloc _ _).obj HB.out)
  have HSV : Hid (Sup w V) := hid (HS2.out.trans (by rw [hV]; exact Sup.of (Ext.alloc _ _)))
  have hRV : W.heap.size < V.heap.size := by rw [hV, alloc_size]; omega
  rw [← hV]
  clear hV HB HS2 hz2
  generalize W.heap.size = R0 at *
  refine Wn.silent rfl (fun u => stepG_seq) ?_
  refine Wn.silent rfl (fun u => stepG_region) ?_
  rw [show List.range lfO.size = [0, 1, 2] by kernel_rfl]
  simp only [lfO, opsOf, codeAt, bodyLf, Try.f52, Option.getD_some]
  refine Wn.opK rfl rfl rfl (fun w3 hS3 hz3 => ?_)
  have HB3 := hid (hS3.obj HB1.out)
  have HS3 := hid (HSV.out.trans hS3)
  have HO3 := hid (HO.out.sup hS3)
  have hR3 : R0 < w3.heap.size := Nat.lt_of_lt_of_le hRV hS3.size
  clear hRV
  have hb0 := obj_cell HB3.out (i := 0) rfl
  have hb1 := obj_cell HB3.out (i := 1) rfl
  clear hS3
  refine ⟨.value (.agg #[.slice Ar C.room.length cr, .slice Au C.units.length cu]), w3, ?_, fun v hv => ?_⟩
  · go_simp
  obtain rfl : v = .agg #[.slice Ar C.room.length cr, .slice Au C.units.length cu] := by
    rcases hv with h | ⟨h, _⟩
    · injection h with h; exact h.symm
    · cases h
  clear hv
  simp only [Act.put, List.setIfInBounds_toArray, List.getElem_toArray, List.getElem_cons_zero, List.set_cons_succ, List.set_cons_zero]
  refine Wn.enter rfl rfl rfl Try.func36 (by kernel_rfl) (by kernel_rfl) ?_
  simp only [List.map_toArray, List.map_cons, List.map_nil, Act.eval, Array.getD_eq_getD_getElem?, List.getElem?_toArray, List.getElem?_cons_succ, List.getElem?_cons_zero, Option.getD_some]
  have hgd : ∀ u ∈ C.units, GoodTs u.tasks := fun u hu => (clusOk_unit hok hu).1
  have hlen := clusOk_len hok
  have hRU : RU w3 (.slice Au C.units.length cu) C.units := by
    obtain ⟨_, _, he, _, h2⟩ := HH.out.sup HS3.out
    injection he with he
    injection he with he
    injection he with _ he
    injection he with he _
    rw [he]
    exact h2
  refine usageWn (us := C.units) hRU hgd (by omega) (HD.out.sup HS3.out) ?_
  intro w4 B4 cc rs a1 a2 a3 a4 a5 a6 a7 a8 a9 a10
  have hS34 : Sup w3 w4 := ⟨a1, a2, Nat.le_of_lt a4, a3⟩
  have HS4 := hid (HS3.out.trans hS34)
  have HB4 := hid (hS34.obj HB3.out)
  have HL4 : Hid (B4 < w4.heap.size ∧ B4 ≠ R0 ∧ w4.heap[B4]? = some (.cells cc 55) ∧ cc.size = C.units.length ∧ ∀ i, i < C.units.length → cc[i]? = some (.slice (some ⟨rs i, 0, none⟩) 3 3) ∧ rs i ≠ R0 ∧ rs i < w4.heap.size ∧ w4.heap[rs i]? = some (.cells (rowU C.units i) 3)) :=
    hid ⟨obj_lt a8, by omega, a8, a9, fun i hi => ⟨(a10 i hi).1, by have := (a10 i hi).2.1; omega, (a10 i hi).2.2.1, (a10 i hi).2.2.2⟩⟩
  have HO4 := hid (HO3.out.sup hS34)
  have hD4 : Hid (Dead (fun b => D b ∨ b = w3.heap.size + 3) w4) := hid (fun b hb => hb.elim (fun h => HD.out.sup HS4.out b h) (fun h => by rw [h]; exact a5))
  have hM4 : Hid (DMore w D (fun b => D b ∨ b = w3.heap.size + 3)) := hid (fun b hb => hb.imp id (fun h => by have := HS3.out.size; omega))
  rw [finish_at rfl rfl]
  simp only [List.setIfInBounds_toArray, List.set_cons_succ, List.set_cons_zero]
  clear a1 a2 a3 a4 a5 a6 a7 a8 a9 a10 hS34 hRU hb0 hb1 hz3 HB3 HO3 HS3 HSV HO HB1
  have hDR : Hid (∀ b, (fun b => D b ∨ b = w3.heap.size + 3) b → b ≠ R0) := hid fun b hb => hb.elim (fun h => by
    obtain ⟨ty, fr, e⟩ := HD.out b h
    have := obj_lt e
    omega) (fun h => by omega)
  generalize (fun b => D b ∨ b = w3.heap.size + 3) = D' at hD4 hM4 hDR ⊢
  refine Wn.listK 2 ⟨_, Try.func52⟩ (by kernel_rfl) (by kernel_rfl) (by kernel_rfl) (fun w5 hS5 hz5 => ?_)
  simp only [List.drop_succ_cons, List.drop_zero]
  go_wp2
  refine EndK.on ?_
  dsimp only
  refine Wn.codeK ⟨_, Try.func52⟩ (by kernel_rfl) (by kernel_rfl) (fun w6 hS6 hz6 => ?_)
  have hS46 := hS5.trans hS6
  have HS6 := hid (HS4.out.trans hS46)
  have HB6 := hid (hS46.obj HB4.out)
  have HL6 : Hid (∀ w', GrR R0 w6 w' → RVs w' (.slice (some ⟨B4, 0, none⟩) C.units.length C.units.length) (C.units.map fun u => loadL u.tasks)) := hid fun w' hg => by
    obtain ⟨l1, l2, l3, l4, l5⟩ := HL4.out
    have hz := hS46.size
    refine loads_read (n := C.units.length) (cc := cc) (rs := rs) ?_ l4 rfl (by omega) fun i hi => ⟨(l5 i hi).1, ?_⟩
    · rw [hg.block B4 (by omega) l2, hS46.obj l3]
    · obtain ⟨_, m2, m3, m4⟩ := l5 i hi
      rw [hg.block (rs i) (by omega) m2, hS46.obj m4]
  have HO6 := hid (HO4.out.sup hS46)
  have HD6 := hid (hD4.out.sup hS46)
  have hwz : w.heap.size ≤ w6.heap.size := HS6.out.size
  have HKW : Hid (∀ w', GrR R0 w6 w' → ∀ T, SameT T w w') := hid fun w' hg T k cur t fr _ hk => by
    have hlt := obj_lt hk
    rw [hg.block k (by omega) (by omega), HS6.out.obj hk]
  have HK : Hid (∀ w', GrR R0 w6 w' → RI w' (.slice Ar C.room.length cr) C.room ∧ RU w' (.slice Au C.units.length cu) C.units ∧ w'.heap[w.heap.size]? = some (.cells #[.slice Ar C.room.length cr, .slice Au C.units.length cu] 26 (0, 0))) := hid fun w' hg => by
    obtain ⟨_, _, he, h1, h2⟩ := HH.out
    injection he with he
    injection he with he
    injection he with he1 he
    injection he with he2 _
    refine ⟨?_, ?_, ?_⟩
    · rw [he1]; exact h1.same (HKW.out _ hg _)
    · rw [he2]; exact h2.same (HKW.out _ hg _)
    · rw [hg.block _ (by have := obj_lt HB6.out; omega) (by omega)]; exact HB6.out
  clear hS5 hS6 hz5 hz6 hS46 HS4 HB4 HL4 HO4 hD4
  simp only [lfR, bodyLf, codeAt, Try.f52, Option.getD_some]
  have hb1 := obj_cell HB6.out (i := 1) rfl
  go_wp2
  have HLL : Hid ((leftsL C).length = C.units.length) := hid (by unfold leftsL; rw [List.length_map])
  have HOK := hid hok
  have hlen' : (C.units.map fun u => loadL u.tasks).length = C.units.length := List.length_map _
  have HLen := hid hlen'
  have HRM : Hid (C.room.length = 3 ∧ Bd 1000000 C.room) := hid ⟨vecOk_len (roomOk_vec (clusOk_room hok)), (vecOk_bd (roomOk_vec (clusOk_room hok))).mono (by omega)⟩
  clear hok hgd hb1 HB6 HKW hlen' HH
  obtain ⟨i0_int, hi0_int, hz0_int, hz1_int, hz2_int⟩ := info_parts info_int
  go_loopw [3, 14] (fun s i wr => ∃ k : Nat, k ≤ C.units.length ∧ i = .int .i64 k ∧ OI wr w.heap.size s ((leftsL C).take k) ∧ (∀ g, s.ownBlock = some g → g = R0 ∨ w6.heap.size ≤ g) ∧ GrR R0 w6 wr) (fun _ i _ => C.units.length - (intOf i).toNat)
  case atStart => exact ⟨0, Nat.zero_le _, rfl, HO6.out, fun g hg => .inl (by simp [Value.ownBlock] at hg; exact hg.symm), GrR.refl _ _⟩
  case round =>
    obtain ⟨k, hk, rfl, hO, hR, hG⟩ := hrel
    obtain ⟨kR, kU, kB⟩ := HK.out _ hG
    obtain ⟨Au', cu', hAu, q1, q2, hg⟩ := RU.get kU
    injection hAu with e1 e3 e2
    clear e3 q1 q2
    subst e1 e2
    obtain ⟨AL, cL, hAL, q1, q2, hgL⟩ := RVs.get (HL6.out _ hG)
    injection hAL with e1 e3 e2
    clear e3 q1 q2
    subst e1 e2
    by_cases hlt : k < C.units.length
    · obtain ⟨b, o, x, An, cn, rfl, e, c1, c2, hnx⟩ := hg k hlt
      obtain ⟨bL, oL, y, AnL, cnL, hbL, eL, cL1, hny⟩ := hgL k (by rw [HLen.out]; exact hlt)
      injection hbL with hbL
      injection hbL with g1 g2 _
      subst g1
      subst g2
      obtain rfl : y = loadL x.tasks := by
        have h1 := eL.out
        rw [List.getElem?_map, e.out] at h1
        injection h1 with h1
        exact h1.symm
      have cL2 : wr.cell? ⟨B4, k, none⟩ = some (.slice AnL (loadL x.tasks).length cnL) := by simpa using cL1
      have i1 : (k : Int) < (C.units.length : Int) := by omega
      have hxm := List.mem_of_getElem? e.out
      have HLx : Hid ((leftsL C)[k]? = some (leftOr C x)) := hid (by unfold leftsL; rw [List.getElem?_map, e.out]; rfl)
      have HO := hid hO
      have hR2 := hid hR
      have HG := hid hG
      have HNY := hid hny
      have HRO := hid kR
      have HKB := hid kB
      have hsz := hG.size
      have HLK := hid (List.length_take_le k (leftsL C))
      clear cL1 hnx hny kR kU hg hgL hO hR hG
      cases ho : x.opened with
      | true =>
        have HV := hid (left_vec HOK.out hxm)
        have HLB := hid ((vecOk_bd (load_vec HOK.out hxm)).mono (by omega : (20 : Int) ≤ 1000000))
        obtain ⟨z, hz⟩ : ∃ z, z = sumL (leftL C.room x.tasks) := ⟨_, rfl⟩
        have HZ := hid hz
        have hzl : Hid (z = leftOr C x) := hid (by rw [hz, leftN_eq HRM.out.1]; simp [leftOr, ho])
        clear hz
        rw [ho] at c1
        go_wp2
        obtain ⟨U, hU⟩ : ∃ U, U = wr.alloc (.cells #[.bool true, .slice An x.tasks.length cn] 44) := ⟨_, rfl⟩
        have hEU : Ext wr U := by rw [hU]; exact Ext.alloc _ _
        rw [← hU]
        have hUz : U.heap.size = wr.heap.size + 1 := by rw [hU, alloc_size]
        clear hU
        have HEU := hid hEU
        have HG1 := hid (HG.out.ext hEU)
        have KH : Hid (∀ w', Ext U w' → w'.cell? ⟨w.heap.size, 0, none⟩ = some (.slice Ar C.room.length cr) ∧ w'.cell? ⟨B4, k, none⟩ = some (.slice AnL (loadL x.tasks).length cnL) ∧ Ext U w') :=
          hid fun w' hw => ⟨(hEU.trans hw).cell (obj_cell HKB.out (i := 0) rfl), (hEU.trans hw).cell cL2, hw⟩
        have hUd : Ext U U.drew := Below.drew (Below.refl _ _)
        clear c1 c2 cL2 hEU kB
        go_region_held3 (fun w' => w'.cell? ⟨w.heap.size, 0, none⟩ = some (.slice Ar C.room.length cr) ∧ w'.cell? ⟨B4, k, none⟩ = some (.slice AnL (loadL x.tasks).length cnL) ∧ Ext U w')
          (first | exact KH.out _ (by assumption))
          (first
            | (go_at_call 81; refine (iMinus _ _ C.room (loadL x.tasks) _ (HRO.out.ext (HEU.out.trans (by assumption))) (HNY.out.ext (HEU.out.trans (by assumption))) HRM.out.1 (loadL_len _) HRM.out.2 HLB.out).mono ?_; rintro e2 w2 ⟨v2, rfl, hv2, hE2⟩; have HV2 := hid hv2.read; have hU2 : Ext U w2 := Ext.trans (by assumption) hE2; clear hv2 hE2)
            | (go_at_call 82; refine (iTotalU _ (leftL C.room x.tasks) _ HV2.out HV.out).mono ?_; rintro e3 w3' ⟨rfl, rfl⟩; rw [← HZ.out]))
        have HU3 := hid hU2
        have HG3 := hid (HG1.out.ext hU2)
        have HO3 := hid (HO.out.ext EI.ok (HEU.out.trans hU2))
        have hz3 := hU2.size
        clear hUd hU2
        go_wp2_with (at_builtin; refine wpList_append_sl _ (by rfl) _ _ 23 (by rfl) EI.ok EI.flat (w.heap.size) 3 EI.ne i0_int _ 1 8 Try.underlying23 hi0_int hz0_int hz1_int hz2_int rfl (by omega) _ (by rfl) _ (HO3.out.ext EI.ok (Ext.alloc _ _)) _ (by rfl) _ (RSl.laid (cs := [.int .i64 z]) (heap_alloc_new _ _) rfl rfl) (by have := HLK.out; simp; omega) (by have := HLK.out; simp; omega) ?_ ?_; (focus (first | exact Nat.le_refl _ | (simp; done) | (simp; omega) | omega)); intro v1 w1 hO1 hg1 hat1 hs1; have hG1 := (HG3.out.ext (Ext.alloc _ _)).grown hg1 hR2.out; have hz1 := hg1.size)
        go_roundw
        case rel =>
          refine ⟨k + 1, by omega, by go_num, by rw [take_snoc HLx.out, ← hzl.out]; exact hO1, fun g hg => ?_, hG1⟩
          rcases hat1 with h | h
          · rw [h] at hg; exact hR2.out g hg
          · rw [h] at hg; injection hg with hg; right; rw [← hg]; simp; omega
        case measure => simp [intOf]; omega
      | false =>
        have hzl : Hid ((-1 : Int) = leftOr C x) := hid (by simp [leftOr, ho])
        rw [ho] at c1
        go_wp2_with (at_builtin; refine wpList_append_sl _ (by rfl) _ _ 23 (by rfl) EI.ok EI.flat (w.heap.size) 3 EI.ne i0_int _ 1 8 Try.underlying23 hi0_int hz0_int hz1_int hz2_int rfl (by omega) _ (by rfl) _ (HO.out.ext EI.ok ((Ext.alloc _ _).trans (Ext.alloc _ _))) _ (by rfl) _ (RSl.laid (cs := [.int .i64 (-1)]) (heap_new (by simp)) rfl rfl) (by have := HLK.out; simp; omega) (by have := HLK.out; simp; omega) ?_ ?_; (focus (first | exact Nat.le_refl _ | (simp; done) | (simp; omega) | omega)); intro v1 w1 hO1 hg1 hat1 hs1; have hG1 := (HG.out.ext ((Ext.alloc _ _).trans (Ext.alloc _ _))).grown hg1 hR2.out; have hz1 := hg1.size)
        go_roundw
        case rel =>
          refine ⟨k + 1, by omega, by go_num, by rw [take_snoc HLx.out, ← hzl.out]; exact hO1, fun g hg => ?_, hG1⟩
          rcases hat1 with h | h
          · rw [h] at hg; exact hR2.out g hg
          · rw [h] at hg; injection hg with hg; right; rw [← hg]; simp; omega
        case measure => simp [intOf]; omega
    · have hge : ¬ (k : Int) < (C.units.length : Int) := by omega
      have HO := hid hO
      have HG := hid hG
      have hzz := hid hk
      have hR2 := hid hR
      clear hO hG hR kR kU kB hg hgL
      go_wp2
      refine EndK.out fun todo => ?_
      refine Wn.leaveK Try.func52 rfl ?_
      have hk' : k = C.units.length := by have := hzz.out; omega
      have hf := HO.out.read
      rw [hk', ← HLL.out, List.take_length] at hf
      exact HE.out _ _ _ (HG.out.sup HS6.out (by omega)) (fun b hb => by
        obtain ⟨ty, fr, e⟩ := HD6.out b hb
        have hbl := obj_lt e
        exact ⟨ty, fr, (HG.out.block b hbl (hDR.out b hb)).trans e⟩) hM4.out hf
end
end Go.Proofs.Ytcfpilkhjpegcaa

/- What is left of all open nodes; the open node of which most is left: the program, beside goroutines that only leave. -/
namespace Go.Proofs.Ytcfpilkhjpegcaa
open Go Go.Conc Go.ConcN Go.RowKit

theorem ClusV.form {w : World} {cv : Value} {C : ClusD} (h : ClusV w cv C) : ∃ A c B d, cv = .agg #[.slice A C.room.length c, .slice B C.units.length d] := by
  obtain ⟨rv, uv, rfl, hr, hu⟩ := h
  obtain ⟨A, c, rfl, _⟩ := hr
  obtain ⟨B, d, rfl, _⟩ := hu
  exact ⟨A, c, B, d, rfl⟩
noncomputable def bodyUl : Code := (Try.f26.body).getD .skip
noncomputable def ul0 : Code := codeAt bodyUl [0]
noncomputable def ul1 : Code := codeAt bodyUl [1, 0]
noncomputable def ul2 : Code := codeAt bodyUl [1, 1, 0]
noncomputable def ulB : Code := codeAt bodyUl [1, 1, 1, 0, 1]
noncomputable def ulT : Code := codeAt bodyUl [1, 1, 1, 1]
noncomputable def ulO : Array Oper := opsOf (codeAt bodyUl [1, 1, 1, 0, 0])
theorem bodyUl_eq : bodyUl = .seq ul0 (.seq ul1 (.seq ul2 (.seq (.seq (.region 4 ulO false) ulB) ulT))) := by kernel_rfl
theorem frameUl (v0 : Value) : Frame.enter Try.prog 26 #[v0] .normal = (base 26).at ⟨#[v0, undef, undef, undef, undef, undef, undef, undef, undef, undef, undef, undef, undef, undef, undef, undef, undef, undef, undef, undef, undef, undef], []⟩ [.code bodyUl] := by
  rw [enter_at _ Try.func26 (c := bodyUl) rfl]
  rw [show (Try.f26).ntmps = 22 by kernel_rfl]
  simp [Array.replicate]

noncomputable def bodyUo : Code := (Try.f28.body).getD .skip
noncomputable def uo0 : Code := codeAt bodyUo [0]
noncomputable def uo1 : Code := codeAt bodyUo [1, 0]
noncomputable def uoR : Code := codeAt bodyUo [1, 1, 1]
noncomputable def uoO : Array Oper := opsOf (codeAt bodyUo [1, 1, 0])
theorem bodyUo_eq : bodyUo = .seq uo0 (.seq uo1 (.seq (.region 3 uoO false) uoR)) := by kernel_rfl
theorem frameUo (v0 : Value) : Frame.enter Try.prog 28 #[v0] .normal = (base 28).at ⟨#[v0, undef, undef, undef, undef, undef, undef, undef, undef, undef, undef, undef, undef, undef, undef, undef, undef, undef], []⟩ [.code bodyUo] := by
  rw [enter_at _ Try.func28 (c := bodyUo) rfl]
  rw [show (Try.f28).ntmps = 18 by kernel_rfl]
  simp [Array.replicate]

section
variable {D : Nat → Prop} {Post : Value → World → Prop} {cs : List Frame}

set_option maxRecDepth 100000 in
set_option maxHeartbeats 4000000 in
theorem usageLeftWn {cv : Value} {C : ClusD} {w : World} {c : Frame} (h : ClusV w cv C) (hl : C.units.length ≤ 4000000) (hfl : (C.units.map (·.tasks)).flatten.length ≤ 4000000) (hid' : ∀ t ∈ (C.units.map (·.tasks)).flatten, IdR t.id) (hdead : Dead D w)
    (hEnd : ∀ (w' : World) (D' : Nat → Prop), Sup w w' → Dead D' w' → DMore w D D' → Wn Try.prog Post D' (G (c.finish (.int .i64 (leftAll C))) cs) w') :
    Wn Try.prog Post D (G (Frame.enter Try.prog 26 #[cv] .normal) (c :: cs)) w := by
  have HH := hid h
  obtain ⟨Ar, cr, Au, cu, rfl⟩ := h.form
  have HD := hid hdead
  have HE := hid hEnd
  clear hdead hEnd h
  rw [frameUl, bodyUl_eq]
  refine Wn.seqK ⟨_, Try.func26⟩ (by kernel_rfl) (by kernel_rfl) (fun w1 hS1 hz1 => ?_)
  have HS1 := hid hS1
  clear hS1
  simp only [ul0, bodyUl, codeAt, Try.f26, Option.getD_some]
  go_wp2
  refine EndK.on ?_
  obtain ⟨W, hW⟩ : ∃ W, W = w1.alloc (.cells #[.slice Ar C.room.length cr, .slice Au C.units.length cu] 26) := ⟨_, rfl⟩
  have hB : W.heap[w.heap.size]? = some (.cells #[.slice Ar C.room.length cr, .slice Au C.units.length cu] 26 (0, 0)) := by rw [hW, ← hz1]; exact heap_alloc_new _ _
  have HSW : Hid (Sup w W) := hid (HS1.out.trans (by rw [hW]; exact Sup.of (Ext.alloc _ _)))
  rw [← hW]
  clear hW hz1 HS1
  dsimp only
  refine Wn.seqK ⟨_, Try.func26⟩ (by kernel_rfl) (by kernel_rfl) (fun w2 hS2 hz2 => ?_)
  have HB := hid (hS2.obj hB)
  have HS2 := hid (HSW.out.trans hS2)
  clear hS2 hB HSW hz2
  simp only [ul1, bodyUl, codeAt, Try.f26, Option.getD_some]
  have hb0 := obj_cell HB.out (i := 0) rfl
  have hb1 := obj_cell HB.out (i := 1) rfl
  cases hv : clusOk C with
  | false =>
    have HV := hid hv
    clear hv
    go_wp2_with (go_at_call 32; refine (iClusterValid _ C _ (HH.out.sup HS2.out) hl hfl hid').mono ?_; rintro e w3 ⟨rfl, hE3⟩; rw [HV.out]; have HE3 := hid hE3; clear hE3)
    refine EndK.out fun todo => ?_
    refine Wn.leaveK Try.func26 rfl ?_
    have hS3 := HS2.out.trans (Sup.of HE3.out)
    have := HE.out w3 D hS3 (HD.out.sup hS3) (DMore.refl _ _)
    unfold leftAll at this
    rw [HV.out] at this
    exact this
  | true =>
  have HV := hid hv
  clear hv
  go_wp2_with (go_at_call 32; refine (iClusterValid _ C _ (HH.out.sup HS2.out) hl hfl hid').mono ?_; rintro e w3 ⟨rfl, hE3⟩; rw [HV.out]; have HE3 := hid hE3; clear hE3)
  refine EndK.on ?_
  dsimp only
  have HS3 := hid (HS2.out.trans (Sup.of HE3.out))
  have HB3 := hid (HE3.out.obj HB.out)
  clear HB HS2 hb0 hb1
  refine Wn.seqK ⟨_, Try.func26⟩ (by kernel_rfl) (by kernel_rfl) (fun w4 hS4 hz4 => ?_)
  have HB4 := hid (hS4.obj HB3.out)
  have HS4 := hid (HS3.out.trans hS4)
  clear hS4 hz4 HS3 HB3
  simp only [ul2, bodyUl, codeAt, Try.f26, Option.getD_some]
  go_wp2
  refine EndK.on ?_
  dsimp only
  refine Wn.silent rfl (fun u => stepG_seq) ?_
  refine Wn.silent rfl (fun u => stepG_seq) ?_
  refine Wn.silent rfl (fun u => stepG_region) ?_
  rw [show List.range ulO.size = [0, 1, 2, 3] by kernel_rfl]
  simp only [ulO, opsOf, codeAt, bodyUl, Try.f26, Option.getD_some]
  refine Wn.opK rfl rfl rfl (fun w5 hS5 hz5 => ?_)
  have HB5 := hid (hS5.obj HB4.out)
  have HS5 := hid (HS4.out.trans hS5)
  have hb0 := obj_cell HB5.out (i := 0) rfl
  have hb1 := obj_cell HB5.out (i := 1) rfl
  clear hS5 hz5 HS4 HB4
  refine ⟨.value (.agg #[.slice Ar C.room.length cr, .slice Au C.units.length cu]), w5, ?_, fun v hv => ?_⟩
  · go_simp
  obtain rfl : v = .agg #[.slice Ar C.room.length cr, .slice Au C.units.length cu] := by
    rcases hv with h | ⟨h, _⟩
    · injection h with h; exact h.symm
    · cases h
  clear hv hb0 hb1
  simp only [Act.put, List.setIfInBounds_toArray, List.getElem_toArray, List.getElem_cons_zero, List.set_cons_succ, List.set_cons_zero]
  refine Wn.enter rfl rfl rfl Try.func52 (by kernel_rfl) (by kernel_rfl) ?_
  simp only [List.map_toArray, List.map_cons, List.map_nil, Act.eval, Array.getD_eq_getD_getElem?, List.getElem?_toArray, List.getElem?_cons_succ, List.getElem?_cons_zero, Option.getD_some]
  refine leftsWn (HH.out.sup HS5.out) HV.out (HD.out.sup HS5.out) ?_
  intro w6 D' v hS6 hD6 hM6 hR6
  have HS6 := hid (HS5.out.trans hS6)
  have HD6 := hid hD6
  have HM6 := hid (DMore.trans (DMore.refl w D) HS5.out hM6)
  have hR0 := hR6
  obtain ⟨AL, cL, rfl, _⟩ := hR6
  rw [finish_at rfl rfl]
  simp only [List.setIfInBounds_toArray, List.set_cons_succ, List.set_cons_zero]
  have HLL : Hid ((leftsL C).length = C.units.length) := hid (by unfold leftsL; rw [List.length_map])
  rw [HLL.out]
  have HR6 : Hid (RI w6 (.slice AL C.units.length cL) (leftsL C)) := hid (by rw [← HLL.out]; exact hR0)
  clear hS6 hD6 hM6 hR0 HS5 HB5
  refine Wn.listK 2 ⟨_, Try.func26⟩ (by kernel_rfl) (by kernel_rfl) (by kernel_rfl) (fun w7 hS7 hz7 => ?_)
  have HS7 := hid hS7
  clear hS7 hz7
  simp only [List.drop_succ_cons, List.drop_zero]
  go_wp2
  refine EndK.on ?_
  dsimp only
  refine Wn.codeK ⟨_, Try.func26⟩ (by kernel_rfl) (by kernel_rfl) (fun w8 hS8 hz8 => ?_)
  have HS8 := hid (HS6.out.trans (HS7.out.trans hS8))
  have HR8 := hid (HR6.out.sup (HS7.out.trans hS8))
  have HD8 := hid (HD6.out.sup (HS7.out.trans hS8))
  clear hS8 hz8 HS7 HS6 HR6 HD6
  obtain ⟨A', c', hA, q1, q2, hg⟩ := RI.get HR8.out
  injection hA with e1 e3 e2
  clear e3 q1 q2
  subst e1 e2
  simp only [ulB, bodyUl, codeAt, Try.f26, Option.getD_some]
  go_wp2
  go_loopw [3, 12] (fun s i wr => ∃ (k : Nat) (t : Int), k ≤ C.units.length ∧ i = .int .i64 k ∧ s = .int .i64 t ∧ Hid (t = leftTo C k) ∧ wr = w8) (fun _ i _ => C.units.length - (intOf i).toNat)
  case atStart => exact ⟨0, 0, Nat.zero_le _, rfl, rfl, hid rfl, rfl⟩
  case round =>
    obtain ⟨k, t, hk, rfl, rfl, H, rfl⟩ := hrel
    by_cases hlt : k < C.units.length
    · obtain ⟨b, o, y, rfl, e, c1⟩ := hg k (by rw [HLL.out]; exact hlt)
      have hu : C.units[k]? = some C.units[k] := List.getElem?_eq_getElem hlt
      obtain ⟨u, hue⟩ : ∃ u, u = C.units[k] := ⟨_, rfl⟩
      rw [← hue] at hu
      have hy : y = leftOr C u := by
        have h1 := e.out
        unfold leftsL at h1
        rw [List.getElem?_map, hu] at h1
        injection h1 with h1
        exact h1.symm
      have hb := leftN_bd HV.out (List.mem_of_getElem? hu)
      have ht := leftTo_bd HV.out k hk
      have hyb : -1 ≤ y ∧ y ≤ 60 := by rw [hy]; unfold leftOr; split <;> omega
      have htb : 0 ≤ t ∧ t ≤ 60 * (k : Int) := by rw [H.out]; exact ht
      have hl10 := (clusOk_len HV.out).2
      have HY := hid hy
      have HU := hid hu
      have i1 : (k : Int) < (C.units.length : Int) := by omega
      have hw1 : IntKind.i64.wrap (t + max y 0) = t + max y 0 := IntWalk.i64_in _ (by omega)
      clear hb ht hy hu hue hg
      go_wp2
      go_roundw
      case rel =>
        refine ⟨k + 1, _, by omega, by go_num, rfl, hid ?_, trivial⟩
        rw [leftTo_max HV.out HU.out, ← HY.out, ← H.out]
        split <;> omega
      case measure => simp [intOf]; omega
    · have hge : ¬ (k : Int) < (C.units.length : Int) := by omega
      have hzz := hid hk
      clear hg
      go_wp2
      refine EndK.on ?_
      dsimp only
      refine Wn.codeK ⟨_, Try.func26⟩ (by kernel_rfl) (by kernel_rfl) (fun w9 hS9 hz9 => ?_)
      have HS9 := hid hS9
      clear hS9 hz9
      simp only [ulT, bodyUl, codeAt, Try.f26, Option.getD_some]
      go_wp2
      refine EndK.out fun todo => ?_
      refine Wn.leaveK Try.func26 rfl ?_
      have hk' : k = C.units.length := by have := hzz.out; omega
      have := HE.out w9 D' (HS8.out.trans HS9.out) (HD8.out.sup HS9.out) HM6.out
      have e1 : leftAll C = t := by rw [H.out, hk']; unfold leftAll; rw [if_pos HV.out]
      rw [e1] at this
      exact this

set_option maxRecDepth 100000 in
set_option maxHeartbeats 4000000 in
theorem usageLoosWn {cv : Value} {C : ClusD} {w : World} {c : Frame} (h : ClusV w cv C) (hl : C.units.length ≤ 4000000) (hfl : (C.units.map (·.tasks)).flatten.length ≤ 4000000) (hid' : ∀ t ∈ (C.units.map (·.tasks)).flatten, IdR t.id) (hdead : Dead D w)
    (hEnd : ∀ (w' : World) (D' : Nat → Prop), Sup w w' → Dead D' w' → DMore w D D' → Wn Try.prog Post D' (G (c.finish (.int .i64 (loosN C))) cs) w') :
    Wn Try.prog Post D (G (Frame.enter Try.prog 28 #[cv] .normal) (c :: cs)) w := by
  have HH := hid h
  obtain ⟨Ar, cr, Au, cu, rfl⟩ := h.form
  have HD := hid hdead
  have HE := hid hEnd
  clear hdead hEnd h
  rw [frameUo, bodyUo_eq]
  refine Wn.seqK ⟨_, Try.func28⟩ (by kernel_rfl) (by kernel_rfl) (fun w1 hS1 hz1 => ?_)
  have HS1 := hid hS1
  clear hS1
  simp only [uo0, bodyUo, codeAt, Try.f28, Option.getD_some]
  go_wp2
  refine EndK.on ?_
  obtain ⟨W, hW⟩ : ∃ W, W = w1.alloc (.cells #[.slice Ar C.room.length cr, .slice Au C.units.length cu] 26) := ⟨_, rfl⟩
  have hB : W.heap[w.heap.size]? = some (.cells #[.slice Ar C.room.length cr, .slice Au C.units.length cu] 26 (0, 0)) := by rw [hW, ← hz1]; exact heap_alloc_new _ _
  have HSW : Hid (Sup w W) := hid (HS1.out.trans (by rw [hW]; exact Sup.of (Ext.alloc _ _)))
  rw [← hW]
  clear hW hz1 HS1
  dsimp only
  refine Wn.seqK ⟨_, Try.func28⟩ (by kernel_rfl) (by kernel_rfl) (fun w2 hS2 hz2 => ?_)
  have HB := hid (hS2.obj hB)
  have HS2 := hid (HSW.out.trans hS2)
  clear hS2 hB HSW hz2
  simp only [uo1, bodyUo, codeAt, Try.f28, Option.getD_some]
  have hb0 := obj_cell HB.out (i := 0) rfl
  have hb1 := obj_cell HB.out (i := 1) rfl
  cases hv : clusOk C with
  | false =>
    have HV := hid hv
    clear hv
    go_wp2_with (go_at_call 32; refine (iClusterValid _ C _ (HH.out.sup HS2.out) hl hfl hid').mono ?_; rintro e w3 ⟨rfl, hE3⟩; rw [HV.out]; have HE3 := hid hE3; clear hE3)
    refine EndK.out fun todo => ?_
    refine Wn.leaveK Try.func28 rfl ?_
    have hS3 := HS2.out.trans (Sup.of HE3.out)
    have := HE.out w3 D hS3 (HD.out.sup hS3) (DMore.refl _ _)
    unfold loosN at this
    rw [HV.out] at this
    exact this
  | true =>
  have HV := hid hv
  clear hv
  obtain ⟨n, hn⟩ : ∃ n, n = openN C := ⟨_, rfl⟩
  have HN := hid hn
  clear hn
  have arms : True := trivial
  by_cases hn0 : n = 0
  · have hn1 : ((n : Int) == 0) = true := by simp [hn0]
    have hn0 := hid hn0
    go_wp2_with (first
      | (go_at_call 32; refine (iClusterValid _ C _ (HH.out.sup HS2.out) hl hfl hid').mono ?_; rintro e w3 ⟨rfl, hE3⟩; rw [HV.out]; have HE3 := hid hE3; have hb0 := obj_cell (hE3.obj HB.out) (i := 0) rfl; have hb1 := obj_cell (hE3.obj HB.out) (i := 1) rfl; clear hE3)
      | (go_at_call 34; refine (iOpen _ C _ ((HH.out.sup HS2.out).ext HE3.out) hl).mono ?_; rw [← HN.out]; rintro e w4 ⟨rfl, hE4⟩; have HE4 := hid (HE3.out.trans hE4); clear hE4))
    refine EndK.out fun todo => ?_
    refine Wn.leaveK Try.func28 rfl ?_
    have hS4 := HS2.out.trans (Sup.of HE4.out)
    have := HE.out w4 D hS4 (HD.out.sup hS4) (DMore.refl _ _)
    rw [loos_none HV.out (by rw [← HN.out]; exact hn0.out)] at this
    exact this
  have hn1 : ((n : Int) == 0) = false := by simp; omega
  have hn0 := hid hn0
  go_wp2_with (first
    | (go_at_call 32; refine (iClusterValid _ C _ (HH.out.sup HS2.out) hl hfl hid').mono ?_; rintro e w3 ⟨rfl, hE3⟩; rw [HV.out]; have HE3 := hid hE3; have hb0 := obj_cell (hE3.obj HB.out) (i := 0) rfl; have hb1 := obj_cell (hE3.obj HB.out) (i := 1) rfl; clear hE3)
    | (go_at_call 34; refine (iOpen _ C _ ((HH.out.sup HS2.out).ext HE3.out) hl).mono ?_; rw [← HN.out]; rintro e w4 ⟨rfl, hE4⟩; have HE4 := hid (HE3.out.trans hE4); clear hE4))
  refine EndK.on ?_
  dsimp only
  have HS4 := hid (HS2.out.trans (Sup.of HE4.out))
  have HB4 := hid (HE4.out.obj HB.out)
  clear HB HS2 hb0 hb1
  refine Wn.silent rfl (fun u => stepG_seq) ?_
  refine Wn.silent rfl (fun u => stepG_region) ?_
  rw [show List.range uoO.size = [0, 1, 2] by kernel_rfl]
  simp only [uoO, opsOf, codeAt, bodyUo, Try.f28, Option.getD_some]
  refine Wn.opK rfl rfl rfl (fun w5 hS5 hz5 => ?_)
  have HB5 := hid (hS5.obj HB4.out)
  have HS5 := hid (HS4.out.trans hS5)
  have hb0 := obj_cell HB5.out (i := 0) rfl
  have hb1 := obj_cell HB5.out (i := 1) rfl
  clear hS5 hz5 HS4 HB4
  refine ⟨.value (.agg #[.slice Ar C.room.length cr, .slice Au C.units.length cu]), w5, ?_, fun v hv => ?_⟩
  · go_simp
  obtain rfl : v = .agg #[.slice Ar C.room.length cr, .slice Au C.units.length cu] := by
    rcases hv with h | ⟨h, _⟩
    · injection h with h; exact h.symm
    · cases h
  clear hv hb0 hb1
  simp only [Act.put, List.setIfInBounds_toArray, List.getElem_toArray, List.getElem_cons_zero, List.set_cons_succ, List.set_cons_zero]
  refine Wn.enter rfl rfl rfl Try.func52 (by kernel_rfl) (by kernel_rfl) ?_
  simp only [List.map_toArray, List.map_cons, List.map_nil, Act.eval, Array.getD_eq_getD_getElem?, List.getElem?_toArray, List.getElem?_cons_succ, List.getElem?_cons_zero, Option.getD_some]
  refine leftsWn (HH.out.sup HS5.out) HV.out (HD.out.sup HS5.out) ?_
  intro w6 D' v hS6 hD6 hM6 hR6
  have HS6 := hid (HS5.out.trans hS6)
  have HD6 := hid hD6
  have HM6 := hid (DMore.trans (DMore.refl w D) HS5.out hM6)
  have HR6 := hid hR6
  rw [finish_at rfl rfl]
  simp only [List.setIfInBounds_toArray, List.set_cons_succ, List.set_cons_zero]
  have HLL : Hid ((leftsL C).length = C.units.length) := hid (by unfold leftsL; rw [List.length_map])
  clear hS6 hD6 hM6 hR6 HS5 HB5
  refine Wn.listK 2 ⟨_, Try.func28⟩ (by kernel_rfl) (by kernel_rfl) (by kernel_rfl) (fun w7 hS7 hz7 => ?_)
  have HS7 := hid hS7
  clear hS7 hz7
  simp only [List.drop_succ_cons, List.drop_zero]
  go_wp2
  refine EndK.on ?_
  dsimp only
  refine Wn.codeK ⟨_, Try.func28⟩ (by kernel_rfl) (by kernel_rfl) (fun w8 hS8 hz8 => ?_)
  have HS8 := hid (HS6.out.trans (HS7.out.trans hS8))
  have HR8 := hid (HR6.out.sup (HS7.out.trans hS8))
  have HD8 := hid (HD6.out.sup (HS7.out.trans hS8))
  clear hS8 hz8 HS7 HS6 HR6 HD6
  simp only [uoR, bodyUo, codeAt, Try.f28, Option.getD_some]
  go_wp2_with (first
    | (go_at_call 54; refine (iMax _ (leftsL C) _ HR8.out (by rw [HLL.out]; have := (clusOk_len HV.out).1; omega)).mono ?_; rintro e w9 ⟨m, rfl, hm, nd, rfl⟩; have HM := hid hm; have HE9 : Hid (Ext w8 (w8.drewN nd)) := hid (Ext.drewN _ _); clear hm)
    | (go_at_call 53; refine (iIndexI _ (leftsL C) m _ (HR8.out.ext HE9.out)).mono ?_; rw [← loos_some HV.out (by rw [← HN.out]; exact hn0.out) HM.out]; rintro e w10 ⟨rfl, hE10⟩; have HE10 := hid (HE9.out.trans hE10); clear hE10))
  refine EndK.out fun todo => ?_
  refine Wn.leaveK Try.func28 rfl ?_
  exact HE.out _ D' (HS8.out.trans (Sup.of HE10.out)) (HD8.out.sup (Sup.of HE10.out)) HM6.out
end
end Go.Proofs.Ytcfpilkhjpegcaa
