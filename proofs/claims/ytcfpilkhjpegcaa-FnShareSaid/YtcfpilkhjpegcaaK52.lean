/- Tame texts, on: what is asked of the texts of a set of functions; a stack of frames in such texts; its step as one ask of the world. -/
import Derived.Test.YtcfpilkhjpegcaaK51
namespace Go.Proofs.Ytcfpilkhjpegcaa
open Go Go.Conc

/-- A set of functions; the temporaries of each that hold functions of the set. -/
structure Set' where
  F : FuncId → Bool
  D : FuncId → List Nat

/-- A function value is one of the set's. -/
def FnOk (S : Set') (v : Value) : Prop := ∀ fn first cap, v = .func fn first cap → ∃ m, fn = .func m ∧ S.F m = true ∧ S.D m = []

def safeArg (S : Set') (f : FuncId) : Operand → Bool
  | .tmp t => (S.D f).contains t
  | .func m => S.F m && (S.D m).isEmpty
  | .const v => (match v with | .func .. => false | _ => true)
  | .global _ => true
def okCall (S : Set') (f : FuncId) (c : Call) : Bool :=
  match c.callee with
  | .builtin b => plainB b
  | .value (.func g) => S.F g && (S.D g).all fun p => match c.args[p]? with | some x => safeArg S f x | none => true
  | .value (.tmp t) => (S.D f).contains t
  | _ => false
def okOper (P : Program) (S : Set') (f : FuncId) (o : Oper) : Bool :=
  (match o.dst with
   | none => true
   | some d => !(S.D f).contains d || (match o.op with | .move x | .assign x => safeArg S f x | _ => false)) &&
  (match o.op with | .call c => okCall S f c | op => plainOp P op)
def okC (P : Program) (S : Set') (f : FuncId) : List Nat → Code → Bool
  | _, .skip | _, .ret | _, .label _ | _, .refuse _ => true
  | bs, .seq a b | bs, .cond _ a b => okC P S f bs a && okC P S f bs b
  | bs, .block id c => okC P S f (id :: bs) c
  | bs, .loop c => okC P S f bs c
  | bs, .exit id => bs.contains id
  | _, .region _ ops _ => ops.all (okOper P S f)
  | _, _ => false
/-- The blocks that a stack of items stands in. -/
def blocksOfU : List Item → List Nat
  | [] => []
  | .inBlock id :: k => id :: blocksOfU k
  | _ :: k => blocksOfU k
def okItem (P : Program) (S : Set') (f : FuncId) (bs : List Nat) : Item → Bool
  | .code c | .inLoop c => okC P S f bs c
  | .inBlock _ => true
  | .inRegion ops is => is.all fun i => match ops[i]? with | some o => okOper P S f o | none => true
  | _ => false
def okItems (P : Program) (S : Set') (f : FuncId) : List Item → Bool
  | [] => true
  | x :: k => okItem P S f (blocksOfU k) x && okItems P S f k
def okFn (P : Program) (S : Set') (f : FuncId) : Bool :=
  match P.funcs[f]? with
  | some fn => !(fn.name == "runtime.NumGoroutine") && (match fn.body with | some c => okC P S f [] c | none => false)
  | none => false

/-- An activation of a function of the set. -/
structure FrR where
  fn : FuncId
  tmps : Array Value
  todo : List Item

def FrR.act (x : FrR) : Act := ⟨x.tmps, []⟩
def kk (k : List Item) : List FrR → List Item
  | [] => k
  | _ => []
def FrR.fr (k : List Item) (rest : List FrR) (x : FrR) : Frame := (base x.fn).at x.act (x.todo ++ kk k rest)
def tailF (k : List Item) : List FrR → List Frame
  | [] => []
  | y :: r => y.fr k r :: tailF k r
/-- The goroutine whose own frames these are; k stands behind the last one's items, cs beneath. -/
def lift (k : List Item) (cs : List Frame) : Bool → List FrR → Goroutine
  | _, [] => G default cs
  | false, x :: rest => G (x.fr k rest) (tailF k rest ++ cs)
  | true, x :: rest => G { x.fr k rest with mode := .returning } (tailF k rest ++ cs)

def FrR.put (x : FrR) (d : Option Tmp) (v : Value) (todo : List Item) : FrR := ⟨x.fn, (x.act.put d v).tmps, todo⟩
def FrR.enter (P : Program) (f : FuncId) (args : Array Value) : FrR :=
  ⟨f, args ++ Array.replicate (((P.funcs[f]?).map (·.ntmps)).getD 0 - args.size) undef, [.code (((P.funcs[f]?).bind (·.body)).getD (.refuse "unsupported: a function without a Go body is entered"))]⟩

/-- The topmost frame hands its results to its caller. -/
def ownRet (P : Program) (x : FrR) : List FrR → Sem (Bool × List FrR)
  | [] => stuck ""
  | y :: r =>
    match y.todo with
    | .inRegion ops (i :: is) :: k => do
      let v ← results ((P.funcs[x.fn]?).getD default) x.tmps
      pure (false, y.put ((ops[i]?).bind (·.dst)) v (.inRegion ops is :: k) :: r)
    | _ => stuck ""
/-- The topmost frame goes on. -/
def ownRun (P : Program) (x : FrR) (rest : List FrR) : Sem (Bool × List FrR) :=
    match x.todo with
    | [] | .code .ret :: _ => pure (true, x :: rest)
    | .code .skip :: k | .code (.label _) :: k | .inBlock _ :: k | .inRegion _ [] :: k => pure (false, { x with todo := k } :: rest)
    | .code (.seq a b) :: k => pure (false, { x with todo := .code a :: .code b :: k } :: rest)
    | .code (.cond c a b) :: k =>
      match x.act.eval c with
      | .bool t => pure (false, { x with todo := .code (if t then a else b) :: k } :: rest)
      | _ => stuck ""
    | .code (.block id c) :: k => pure (false, { x with todo := .code c :: .inBlock id :: k } :: rest)
    | .code (.loop c) :: k | .inLoop c :: k => pure (false, { x with todo := .code c :: .inLoop c :: k } :: rest)
    | .code (.exit id) :: k =>
      match exitTo id k with
      | some k' => pure (false, { x with todo := k' } :: rest)
      | none => stuck ""
    | .code (.region id ops draw) :: k =>
      if !draw then pure (false, { x with todo := .inRegion ops (List.range ops.size) :: k } :: rest)
      else do
        let t ← choose (.order x.fn id)
        pure (false, { x with todo := .inRegion ops (Region.schedule (P.follows .mixedOrders) ops t) :: k } :: rest)
    | .inRegion ops (i :: is) :: k =>
      match ops[i]? with
      | none => pure (false, { x with todo := .inRegion ops is :: k } :: rest)
      | some o =>
        if Region.wanted o (yielded ops x.tmps) then do
          match ← execOp x.act.eval o with
          | .value v => pure (false, x.put o.dst v (.inRegion ops is :: k) :: rest)
          | .skip => pure (false, x.put o.dst undef (.inRegion ops is :: k) :: rest)
          | .enter f args => pure (false, FrR.enter P f args :: x :: rest)
          | _ => stuck ""
        else pure (false, x.put o.dst undef (.inRegion ops is :: k) :: rest)
    | _ => stuck ""
/-- The step of a stack. -/
def own (P : Program) : Bool → List FrR → Sem (Bool × List FrR)
  | _, [] => stuck ""
  | true, x :: rest => ownRet P x rest
  | false, x :: rest => ownRun P x rest

/-- Where a piece of text is left: its last frame returns, or has nothing left to do. -/
def AtExit : Bool → List FrR → Prop
  | _, [] => True
  | r, [x] => r = true ∨ x.todo = []
  | _, _ => False

def isCallOp : Op → Bool
  | .call _ => true
  | _ => false
/-- A frame that waits for a callee. -/
def Waits (x : FrR) : Prop := ∃ ops i is k o, x.todo = .inRegion ops (i :: is) :: k ∧ ops[i]? = some o ∧ isCallOp o.op = true
structure FOk (P : Program) (S : Set') (x : FrR) : Prop where
  mem : ∃ fn, P.funcs[x.fn]? = some fn
  safe : ∀ t ∈ S.D x.fn, FnOk S (x.tmps.getD t undef)
  items : okItems P S x.fn x.todo = true
def StOk (P : Program) (S : Set') : List FrR → Prop
  | [] => False
  | x :: rest => FOk P S x ∧ ∀ y ∈ rest, FOk P S y ∧ Waits y

end Go.Proofs.Ytcfpilkhjpegcaa

/- Tame texts, on: the step of a stack of frames in such texts is tame, and leads to such a stack. -/
namespace Go.Proofs.Ytcfpilkhjpegcaa
open Go Go.Conc
section
variable {P : Program} {S : Set'}

theorem FnOk.undef : FnOk S Go.undef := fun fn first cap h => by cases h

theorem getD_append_rep (a : Array Value) (n t : Nat) (h : FnOk S (a.getD t undef)) : FnOk S ((a ++ Array.replicate n undef).getD t undef) := by
  rw [Array.getD_eq_getD_getElem?] at h ⊢
  rw [Array.getElem?_append]
  split
  · exact h
  · rw [Array.getElem?_replicate]
    split <;> exact FnOk.undef

theorem getD_set_neU (a : Array Value) {d t : Nat} (v : Value) (h : d ≠ t) : (a.setIfInBounds d v).getD t undef = a.getD t undef := by
  rw [Array.getD_eq_getD_getElem?, Array.getD_eq_getD_getElem?, Array.getElem?_setIfInBounds_ne h]

theorem FOk.put {x : FrR} (h : FOk P S x) {d : Option Tmp} {v : Value} {todo : List Item} (hv : ∀ t, d = some t → t ∈ S.D x.fn → FnOk S v) (hi : okItems P S x.fn todo = true) : FOk P S (x.put d v todo) := by
  refine ⟨h.mem, fun t ht => ?_, hi⟩
  cases d with
  | none => exact h.safe t ht
  | some d =>
    show FnOk S ((x.tmps.setIfInBounds d v).getD t undef)
    by_cases e : d = t
    · subst e
      rw [Array.getD_eq_getD_getElem?, Array.getElem?_setIfInBounds]
      simp only [if_true]
      split
      · exact hv d rfl ht
      · exact FnOk.undef
    · rw [getD_set_neU _ _ e]
      exact h.safe t ht

theorem FOk.todo {x : FrR} (h : FOk P S x) {todo : List Item} (hi : okItems P S x.fn todo = true) : FOk P S { x with todo := todo } := ⟨h.mem, h.safe, hi⟩

theorem okItems_cons {f : FuncId} {y : Item} {k : List Item} (h : okItems P S f (y :: k) = true) : okItem P S f (blocksOfU k) y = true ∧ okItems P S f k = true := by
  simpa [okItems] using h

theorem okItems_mk {f : FuncId} {y : Item} {k : List Item} (h : okItem P S f (blocksOfU k) y = true) (h' : okItems P S f k = true) : okItems P S f (y :: k) = true := by
  rw [okItems, h, h']; rfl

theorem okItems_exit {f : FuncId} {id : Nat} : ∀ {k k' : List Item}, okItems P S f k = true → exitTo id k = some k' → okItems P S f k' = true
  | [], _, _, h => by cases h
  | y :: k, k', hk, h => by
    have hk' := (okItems_cons hk).2
    unfold exitTo at h
    split at h
    · rename_i heq
      split at h
      · injection heq with h1 h2
        subst h2
        cases h
        exact hk'
      · injection heq with h1 h2
        subst h2
        exact okItems_exit hk' h
    · rename_i heq
      injection heq with h1 h2
      subst h2
      exact okItems_exit hk' h
    · rename_i heq; cases heq

theorem safeArg_ok {x : FrR} (h : FOk P S x) {y : Operand} (hs : safeArg S x.fn y = true) : FnOk S (x.act.eval y) := by
  cases y with
  | tmp t => exact h.safe t (by simpa [safeArg] using hs)
  | const v =>
    intro fn first cap hv
    change v = .func fn first cap at hv
    subst hv
    cases hs
  | global g => intro fn first cap hv; cases hv
  | func m =>
    intro fn first cap hv
    cases hv
    simp [safeArg] at hs
    exact ⟨m, rfl, hs⟩

/-- What an operation of such a text may end in. -/
def OpEnd (_P : Program) (S : Set') (x : FrR) (o : Oper) : Next → Prop
  | .value v => ∀ t, o.dst = some t → t ∈ S.D x.fn → FnOk S v
  | .skip => True
  | .enter g args => isCallOp o.op = true ∧ S.F g = true ∧ ∀ t ∈ S.D g, FnOk S (args.getD t undef)
  | _ => False

theorem okFn_parts {f : FuncId} (h : okFn P S f = true) : ∃ fn c, P.funcs[f]? = some fn ∧ fn.body = some c ∧ (fn.name == "runtime.NumGoroutine") = false ∧ okC P S f [] c = true := by
  unfold okFn at h
  cases hf : P.funcs[f]? with
  | none => rw [hf] at h; cases h
  | some fn =>
    rw [hf] at h
    cases hb : fn.body with
    | none => simp [hb] at h
    | some c =>
      simp [hb] at h
      exact ⟨fn, c, rfl, hb, by simpa using h.1, h.2⟩

theorem tm_callFunc {f : FuncId} (h : okFn P S f = true) (args : Array Value) {Q : Next → Prop} (hq : Q (.enter f args)) : Tame P Q (callFunc f args) := by
  obtain ⟨fn, c, hf, hb, hn, _⟩ := okFn_parts h
  unfold callFunc
  refine tm_bind_program ?_
  rw [hf]
  dsimp only
  rw [hn]
  have : fn.body.isNone = false := by rw [hb]; rfl
  rw [this]
  exact .pure hq

theorem tm_oper (hS : ∀ f, S.F f = true → okFn P S f = true) {x : FrR} (hx : FOk P S x) {o : Oper} (ho : okOper P S x.fn o = true) : Tame P (OpEnd P S x o) (execOp x.act.eval o) := by
  unfold okOper at ho
  rw [Bool.and_eq_true] at ho
  obtain ⟨hd, ho⟩ := ho
  have plainEnd : (∀ t, o.dst = some t → t ∉ S.D x.fn) → ∀ n, Next.plain n → OpEnd P S x o n := by
    intro hne n hn
    cases n <;> first | exact hn.elim | exact fun t h1 h2 => absurd h2 (hne t h1) | trivial
  cases hop : o.op with
  | call c =>
    rw [hop] at ho hd
    have hne : ∀ t, o.dst = some t → t ∉ S.D x.fn := by
      intro t ht hm
      rw [ht] at hd
      simp [hm] at hd
    obtain ⟨callee, as, ats⟩ := c
    unfold okCall at ho
    cases callee with
    | builtin b => exact (tm_builtin _ o b as ats hop ho).mono (plainEnd hne)
    | invoke r m => cases ho
    | value f =>
      cases f with
      | func g =>
        simp only [Bool.and_eq_true, List.all_eq_true] at ho
        unfold execOp
        rw [hop]
        show Tame P _ (callFunc g ((#[] ++ as.map x.act.eval) ++ #[]))
        refine tm_callFunc (hS g ho.1) _ ⟨by rw [hop]; rfl, ho.1, fun t ht => ?_⟩
        have := ho.2 t ht
        rw [Array.getD_eq_getD_getElem?]
        simp only [Array.empty_append, Array.append_empty, Array.getElem?_map]
        cases hy : as[t]? with
        | none => exact FnOk.undef
        | some y =>
          simp only [hy] at this
          exact safeArg_ok hx this
      | tmp t =>
        have hv := hx.safe t (by simpa using ho)
        unfold execOp
        rw [hop]
        show Tame P _ (do let d ← (do Deferred.ofValue (x.tmps.getD t undef) (as.map x.act.eval)); invoke d.target d.args)
        unfold Deferred.ofValue
        cases hval : x.tmps.getD t undef with
        | func fn first cap =>
          obtain ⟨m, rfl, hm, hD⟩ := hv fn first cap hval
          show Tame P _ (callFunc m ((first ++ as.map x.act.eval) ++ cap))
          refine tm_callFunc (hS m hm) _ ⟨by rw [hop]; rfl, hm, fun t ht => ?_⟩
          rw [hD] at ht
          cases ht
        | nilFunc => exact (tm_runtimePanic _ : Tame P _ (runtimePanic .nilDeref))
        | _ => exact .halt rfl
      | _ => cases ho
  | move y =>
    unfold execOp
    rw [hop]
    refine .pure fun t ht hm => ?_
    rw [hop, ht] at hd
    simp [hm] at hd
    exact safeArg_ok hx hd
  | assign y =>
    unfold execOp
    rw [hop]
    refine .pure fun t ht hm => ?_
    rw [hop, ht] at hd
    simp [hm] at hd
    exact safeArg_ok hx hd
  | _ =>
    refine (tm_execOp _ o (by rw [hop] at ho ⊢; exact ho)).mono (plainEnd fun t ht hm => ?_)
    rw [hop, ht] at hd
    simp [hm] at hd

theorem tm_results (fn : Func) (tmps : Array Value) : TameV P (results fn tmps) := by
  unfold results
  refine tm_bind (tm_mapM (fun r => ?_) _) fun vs => .pure trivial
  cases r with
  | tmp t => exact .pure trivial
  | cell a t => exact tm_bind (tm_asAddr _) fun _ => tm_loadVar _ _

theorem okOps_get {f : FuncId} {ops : Array Oper} (h : ops.all (okOper P S f) = true) {i : Nat} {o : Oper} (ho : ops[i]? = some o) : okOper P S f o = true := by
  obtain ⟨hlt, rfl⟩ := Array.getElem?_eq_some_iff.1 ho
  have := Array.all_eq_true.1 h
  exact this i hlt

theorem okIs_get {f : FuncId} {bs : List Nat} {ops : Array Oper} {i : Nat} {is : List Nat} (h : okItem P S f bs (.inRegion ops (i :: is)) = true) {o : Oper} (ho : ops[i]? = some o) : okOper P S f o = true := by
  simp only [okItem, List.all_cons, Bool.and_eq_true] at h
  have := h.1
  rw [ho] at this
  exact this
theorem okIs_tail {f : FuncId} {bs : List Nat} {ops : Array Oper} {i : Nat} {is : List Nat} (h : okItem P S f bs (.inRegion ops (i :: is)) = true) : okItem P S f bs (.inRegion ops is) = true := by
  simp only [okItem, List.all_cons, Bool.and_eq_true] at h ⊢
  exact h.2
theorem okIs_of {f : FuncId} {bs : List Nat} {ops : Array Oper} (h : ops.all (okOper P S f) = true) (is : List Nat) : okItem P S f bs (.inRegion ops is) = true := by
  simp only [okItem, List.all_eq_true]
  intro i _
  cases ho : ops[i]? with
  | none => rfl
  | some o => exact okOps_get h ho

theorem StOk.top {x : FrR} {rest : List FrR} (h : StOk P S (x :: rest)) {x' : FrR} (hx : FOk P S x') : StOk P S (x' :: rest) := ⟨hx, h.2⟩

/-- THE STEP IS TAME, AND LEADS TO SUCH A STACK. -/
theorem own_tame (hS : ∀ f, S.F f = true → okFn P S f = true) {ret : Bool} {L : List FrR} (h : StOk P S L) : Tame P (fun r => StOk P S r.2) (own P ret L) := by
  cases L with
  | nil => exact h.elim
  | cons x rest =>
    obtain ⟨hx, hr⟩ := h
    have hst : StOk P S (x :: rest) := ⟨hx, hr⟩
    cases ret with
    | true =>
      cases rest with
      | nil => exact .halt rfl
      | cons y r =>
        obtain ⟨hy, ops, i, is, k, o, ht, ho, hc⟩ := hr y (by simp)
        show Tame P _ (ownRet P x (y :: r))
        unfold ownRet
        dsimp only
        rw [ht]
        dsimp only
        refine tm_bind (tm_results _ _) fun v => .pure ?_
        have hit := okItems_cons (ht ▸ hy.items)
        refine ⟨hy.put (fun t hd hm => ?_) ?_, fun z hz => hr z (by simp [hz])⟩
        · rw [ho] at hd
          have hoo := okIs_get hit.1 ho
          unfold okOper at hoo
          rw [Bool.and_eq_true] at hoo
          simp only [Option.bind_some] at hd
          rw [hd] at hoo
          have h1 := hoo.1
          cases hop : o.op <;> rw [hop] at hc <;> first | cases hc | skip
          rw [hop] at h1
          simp [hm] at h1
        · show (okItem P S y.fn (blocksOfU k) (.inRegion ops is) && okItems P S y.fn k) = true
          rw [hit.2, okIs_tail hit.1]
          rfl
    | false =>
      show Tame P _ (ownRun P x rest)
      unfold ownRun
      split
      · exact .pure hst
      · exact .pure hst
      all_goals (first | exact tm_stuck _ | skip)
      all_goals (rename_i htodo; have hit := okItems_cons (htodo ▸ hx.items))
      · exact .pure (hst.top (hx.todo hit.2))
      · exact .pure (hst.top (hx.todo hit.2))
      · exact .pure (hst.top (hx.todo hit.2))
      · exact .pure (hst.top (hx.todo hit.2))
      · refine .pure (hst.top (hx.todo ?_))
        have h1 := hit.1
        simp only [okItem, okC, Bool.and_eq_true] at h1
        simp [okItems, okItem, blocksOfU, h1.1, h1.2, hit.2]
      · split
        · rename_i t _
          refine .pure (hst.top (hx.todo ?_))
          have h1 := hit.1
          simp only [okItem, okC, Bool.and_eq_true] at h1
          cases t <;> simp [okItems, okItem, h1.1, h1.2, hit.2]
        · exact .halt rfl
      · refine .pure (hst.top (hx.todo ?_))
        have h1 := hit.1
        simp only [okItem, okC] at h1
        simp [okItems, okItem, blocksOfU, h1, hit.2]
      · refine .pure (hst.top (hx.todo ?_))
        have h1 := hit.1
        simp only [okItem, okC] at h1
        simp [okItems, okItem, blocksOfU, h1, hit.2]
      · refine .pure (hst.top (hx.todo ?_))
        have h1 := hit.1
        simp only [okItem] at h1
        simp [okItems, okItem, blocksOfU, h1, hit.2]
      · split
        · rename_i k' hk'
          exact .pure (hst.top (hx.todo (okItems_exit hit.2 hk')))
        · exact .halt rfl
      · have h1 := hit.1
        simp only [okItem, okC] at h1
        split
        · exact .pure (hst.top (hx.todo (by rw [okItems, okIs_of h1, hit.2]; rfl)))
        · exact tm_bind (tm_choose _) fun t => .pure (hst.top (hx.todo (by rw [okItems, okIs_of h1, hit.2]; rfl)))
      · have h1 := hit.1
        have hnew := okItems_mk (okIs_tail h1) hit.2
        split
        · exact .pure (hst.top (hx.todo hnew))
        · rename_i o ho
          have hoo : okOper P S x.fn o = true := okIs_get h1 ho
          split
          · refine (tm_oper hS hx hoo).bind fun n hn => ?_
            cases n <;> first | exact hn.elim | skip
            · exact .pure (hst.top (hx.put hn hnew))
            · exact .pure (hst.top (hx.put (fun _ _ _ => FnOk.undef) hnew))
            · rename_i g args
              obtain ⟨hc, hg, hargs⟩ := hn
              obtain ⟨fn, c, hf, hb, _, hcode⟩ := okFn_parts (hS g hg)
              refine .pure ⟨⟨⟨fn, hf⟩, fun t ht => getD_append_rep _ _ _ (hargs t ht), ?_⟩, ?_⟩
              · show okItems P S g [.code (((P.funcs[g]?).bind (·.body)).getD _)] = true
                rw [hf]
                simp [hb, okItems, okItem, blocksOfU, hcode]
              · intro y hy
                rcases List.mem_cons.1 hy with rfl | hy
                · exact ⟨hx, _, _, _, _, o, htodo, ho, hc⟩
                · exact hr y hy
          · exact .pure (hst.top (hx.put (fun _ _ _ => FnOk.undef) hnew))
end
end Go.Proofs.Ytcfpilkhjpegcaa

/- Tame texts, on: the step of the stack is the goroutine's step. -/
namespace Go.Proofs.Ytcfpilkhjpegcaa
open Go Go.Conc

theorem runT_bind {P : Program} {α β : Type} (s : Sem α) (f : α → Sem β) : ∀ w es, (s.bind f).runT P w es = (match s.runT P w es with | (.ok a w', es') => (f a).runT P w' es' | (.halt h w', es') => (.halt h w', es')) := by
  induction s with
  | pure a => intro w es; rfl
  | load m a k ih => intro w es; simp only [Sem.bind, Sem.runT]; (repeat' split) <;> simp_all
  | store m a v k ih => intro w es; cases v <;> simp only [Sem.bind, Sem.runT] <;> (try ((repeat' split) <;> simp_all))
  | new o k ih => intro w es; exact ih _ _ _
  | shape r k ih => intro w es; exact ih _ _ _
  | freeze a n k ih => intro w es; exact ih _ _
  | frozen a k ih => intro w es; exact ih _ _ _
  | getObj r k ih => intro w es; simp only [Sem.bind, Sem.runT]; split <;> simp_all
  | setObj r o k ih => intro w es; simp only [Sem.bind, Sem.runT]; split <;> simp_all
  | choose q k ih => intro w es; simp only [Sem.bind, Sem.runT]; split <;> simp_all
  | sys c k ih => intro w es; exact ih _ _ _
  | program k ih => intro w es; exact ih _ _ _
  | mark m k ih => intro w es; exact ih _ _
  | halt h => intro w es; rfl

/-- No variable waits for its initialiser: an early step is refused. -/
def NoEarly (P : Program) : Prop := P.follows .staticDataAhead = true ∧ ∀ g, P.stepOf g = none

/-- Ended, or on the way out by a panic. -/
def Lost (k : List Item) (cs : List Frame) (x : FrR) (rest : List FrR) (s : GStep) : Prop :=
  (∃ o w es, s = .ended o w es) ∨ ∃ chain w es todo, s = .go (G { (base x.fn).at x.act todo with mode := .panicking chain } (tailF k rest ++ cs)) w es

section
variable {P : Program} {S : Set'}

theorem exitTo_append {id : Nat} {k2 : List Item} : ∀ {k k' : List Item}, exitTo id k = some k' → exitTo id (k ++ k2) = some (k' ++ k2)
  | [], _, h => by cases h
  | y :: k, k', h => by
    unfold exitTo at h
    rw [List.cons_append]
    unfold exitTo
    split at h
    · rename_i heq
      injection heq with h1 h2
      subst h1 h2
      dsimp only
      split at h
      · rename_i hid
        rw [if_pos hid]
        cases h
        rfl
      · rename_i hid
        rw [if_neg hid]
        exact exitTo_append h
    · rename_i hne heq
      injection heq with h1 h2
      subst h1 h2
      split
      · rename_i heq'
        injection heq' with h3 h4
        exact absurd h3 (hne _)
      · rename_i heq'
        injection heq' with h3 h4
        subst h4
        exact exitTo_append h
      · rename_i heq'; cases heq'
    · rename_i heq; cases heq

theorem exitTo_some {id : Nat} : ∀ {l : List Item}, (blocksOfU l).contains id = true → ∃ k', exitTo id l = some k'
  | [], h => by simp [blocksOfU] at h
  | z :: l, h => by
    cases z with
    | inBlock i =>
      by_cases e : i = id
      · exact ⟨l, by simp [exitTo, e]⟩
      · have h' : (blocksOfU l).contains id = true := by
          simp only [blocksOfU, List.contains_cons, Bool.or_eq_true, beq_iff_eq] at h
          exact h.resolve_left fun h => e h.symm
        obtain ⟨k', hk'⟩ := exitTo_some h'
        exact ⟨k', by simp [exitTo, e, hk']⟩
    | _ => exact exitTo_some (l := l) h

theorem lift_run (k : List Item) (cs : List Frame) (x : FrR) (rest : List FrR) : lift k cs false (x :: rest) = G ((base x.fn).at x.act (x.todo ++ kk k rest)) (tailF k rest ++ cs) := rfl
theorem lift_ret (k : List Item) (cs : List Frame) (x : FrR) (rest : List FrR) : lift k cs true (x :: rest) = G { (base x.fn).at x.act (x.todo ++ kk k rest) with mode := .returning } (tailF k rest ++ cs) := rfl
theorem fr_put (k : List Item) (rest : List FrR) (x : FrR) (d : Option Tmp) (v : Value) (todo : List Item) : (x.put d v todo).fr k rest = (base x.fn).at (x.act.put d v) (todo ++ kk k rest) := by
  cases d <;> rfl
theorem base_ne (f : FuncId) : (base f).kind ≠ .early := by intro h; cases h

/-- THE STEP, WHERE IT GOES THROUGH. -/
theorem own_step {main : Bool} {k : List Item} {cs : List Frame} (_hS : ∀ f, S.F f = true → okFn P S f = true) {ret : Bool} {L : List FrR} (h : StOk P S L) (hx : ¬ AtExit ret L ∨ (k = [] ∧ ret = false)) {w w' : World} {r : Bool × List FrR} {es : Array Event}
    (hr : (own P ret L).runT P w #[] = (.ok r w', es)) : ∃ fn, stepG P main (lift k cs ret L) w = .go (lift k cs r.1 r.2) w' (seen P fn es) := by
  cases L with
  | nil => exact h.elim
  | cons x rest =>
  obtain ⟨hf, hrest⟩ := h
  cases ret with
  | true =>
    cases rest with
    | nil => cases hr
    | cons y t =>
      obtain ⟨hy, ops, i, is, k', o, ht, ho, hc⟩ := hrest y (by simp)
      obtain ⟨fn, hfn⟩ := hf.mem
      have hr' : (ownRet P x (y :: t)).runT P w #[] = (.ok r w', es) := hr
      unfold ownRet at hr'
      dsimp only at hr'
      rw [ht, hfn] at hr'
      simp only [Option.getD_some] at hr'
      change (Sem.bind (results fn x.tmps) _).runT P w #[] = _ at hr'
      rw [runT_bind] at hr'
      refine ⟨x.fn, ?_⟩
      cases hrr : (results fn x.tmps).runT P w #[] with
      | mk rr es' =>
        rw [hrr] at hr'
        cases rr with
        | halt h w'' => cases hr'
        | ok v w'' =>
          change (Result.ok _ w'', es') = _ at hr'
          cases hr'
          have e1 : (y.fr k t).finish v = (y.put ((ops[i]?).bind (·.dst)) v (.inRegion ops is :: k')).fr k t := by
            rw [fr_put]
            show ((base y.fn).at y.act (y.todo ++ kk k t)).finish v = _
            rw [ht, List.cons_append, Frame.finish_at]
            rfl
          rw [lift_ret]
          show stepG P main (G { (base x.fn).at x.act (x.todo ++ []) with mode := .returning } (y.fr k t :: (tailF k t ++ cs))) w = .go (G ((y.put ((ops[i]?).bind (·.dst)) v (.inRegion ops is :: k')).fr k t) (tailF k t ++ cs)) w' (seen P x.fn es)
          rw [← e1]
          have h1 : (results fn x.tmps).run P w = .ok v w' := by rw [← Sem.runT_fst P _ w #[], hrr]
          have h2 : (results fn x.tmps).events P w #[] = es := by show ((results fn x.tmps).runT P w #[]).2 = _; rw [hrr]
          simp [G, stepG, unwind, doReturn, Frame.at, base, FrR.act, hfn, h1, h2, GStep.after]
  | false =>
    have hr' : (ownRun P x rest).runT P w #[] = (.ok r w', es) := hr
    have silent : ∀ r0 : Bool × List FrR, (Pure.pure r0 : Sem (Bool × List FrR)).runT P w #[] = (.ok r w', es) → r = r0 ∧ w' = w ∧ es = #[] := by
      intro r0 h0
      change (Result.ok r0 w, #[]) = _ at h0
      cases h0
      exact ⟨rfl, rfl, rfl⟩
    have fin : ∀ {s : GStep} {r0 : Bool × List FrR}, (Pure.pure r0 : Sem (Bool × List FrR)).runT P w #[] = (.ok r w', es) → s = .go (lift k cs r0.1 r0.2) w → ∃ fn, s = .go (lift k cs r.1 r.2) w' (seen P fn es) := by
      intro s r0 h0 hs
      obtain ⟨rfl, rfl, rfl⟩ := silent r0 h0
      exact ⟨0, by rw [hs, seen_none]⟩
    rw [lift_run]
    unfold ownRun at hr'
    split at hr'
    · rename_i ht
      have hkk : x.todo ++ kk k rest = [] := by
        rw [ht]
        cases rest with
        | nil =>
          rcases hx with hx | hx
          · exact absurd (show AtExit false [x] from .inr ht) hx
          · rw [hx.1]; rfl
        | cons _ _ => rfl
      refine fin hr' ?_
      rw [lift_ret, hkk, stepG_end]
    · rename_i ht
      refine fin hr' ?_
      rw [lift_ret, ht, List.cons_append, stepG_ret']
    · rename_i ht; refine fin hr' ?_; rw [ht, List.cons_append, stepG_skip]; rfl
    · rename_i ht; refine fin hr' ?_; rw [ht, List.cons_append, stepG_label]; rfl
    · rename_i ht; refine fin hr' ?_; rw [ht, List.cons_append, stepG_inBlock]; rfl
    · rename_i ht; refine fin hr' ?_; rw [ht, List.cons_append, stepG_region_end]; rfl
    · rename_i ht; refine fin hr' ?_; rw [ht, List.cons_append, stepG_seq]; rfl
    · rename_i ht
      split at hr'
      · rename_i hc
        refine fin hr' ?_
        rw [ht, List.cons_append, stepG_cond hc]
        rfl
      · cases hr'
    · rename_i ht; refine fin hr' ?_; rw [ht, List.cons_append, stepG_block]; rfl
    · rename_i ht; refine fin hr' ?_; rw [ht, List.cons_append, stepG_loop]; rfl
    · rename_i ht; refine fin hr' ?_; rw [ht, List.cons_append, stepG_inLoop]; rfl
    · rename_i ht
      split at hr'
      · rename_i hk'
        refine fin hr' ?_
        rw [ht, List.cons_append, stepG_exit (exitTo_append hk')]
        rfl
      · cases hr'
    · rename_i id ops draw k' ht
      split at hr'
      · rename_i hd
        obtain rfl : draw = false := by cases draw <;> simp_all
        refine fin hr' ?_
        rw [ht, List.cons_append, stepG_region]
        rfl
      · rename_i hd
        obtain rfl : draw = true := by cases draw <;> simp_all
        rw [ht, List.cons_append, stepG_region_draw]
        change (Sem.bind (choose _) _).runT P w #[] = _ at hr'
        rw [runT_bind] at hr'
        simp only [choose, Sem.runT, Question.forced, Bool.false_eq_true, if_false] at hr'
        change (Result.ok _ _, #[]) = _ at hr'
        cases hr'
        exact ⟨0, by rw [seen_none]; rfl⟩
    · rename_i ops i is k' ht
      split at hr'
      · rename_i ho
        refine fin hr' ?_
        rw [ht, List.cons_append]
        have hfin : ((base x.fn).at x.act (.inRegion ops (i :: is) :: (k' ++ kk k rest))).finish undef = (base x.fn).at x.act (.inRegion ops is :: (k' ++ kk k rest)) := by rw [Frame.finish_at, ho]; rfl
        show _ = GStep.go (G ((base x.fn).at x.act (.inRegion ops is :: (k' ++ kk k rest))) (tailF k rest ++ cs)) w
        rw [← hfin]
        simp [G, stepG, stepG.exec, Frame.at, ho]
      · rename_i o ho
        rw [ht, List.cons_append]
        split at hr'
        · rename_i hw
          have hw' : Region.wanted o (yielded ops x.act.tmps) = true := hw
          change (Sem.bind (execOp x.act.eval o) _).runT P w #[] = _ at hr'
          rw [runT_bind] at hr'
          refine ⟨x.fn, ?_⟩
          cases hrr : (execOp x.act.eval o).runT P w #[] with
          | mk rr es' =>
            rw [hrr] at hr'
            have hrun : (execOp x.act.eval o).run P w = rr := by rw [← Sem.runT_fst P _ w #[], hrr]
            have hev : listed P (base x.fn).fn x.act o w = seen P x.fn es' := by
              show seen P x.fn ((execOp x.act.eval o).runT P w #[]).2 = _
              rw [hrr]
            cases rr with
            | halt h w'' => cases hr'
            | ok n w'' =>
              cases n with
              | value v =>
                change (Result.ok _ w'', es') = _ at hr'
                cases hr'
                rw [stepG_value ho hw' (base_ne _) hrun, hev]
                show _ = GStep.go (G ((x.put o.dst v (.inRegion ops is :: k')).fr k rest) _) _ _
                rw [fr_put]
                rfl
              | skip =>
                change (Result.ok _ w'', es') = _ at hr'
                cases hr'
                rw [stepG_none ho hw' (base_ne _) hrun, hev]
                show _ = GStep.go (G ((x.put o.dst undef (.inRegion ops is :: k')).fr k rest) _) _ _
                rw [fr_put]
                rfl
              | enter f args =>
                change (Result.ok _ w'', es') = _ at hr'
                cases hr'
                rw [stepG_enter ho hw' (base_ne _) hrun, hev]
                show _ = GStep.go (G ((FrR.enter P f args).fr k (x :: rest)) (x.fr k rest :: (tailF k rest ++ cs))) _ _
                have e1 : (FrR.enter P f args).fr k (x :: rest) = Frame.enter P f args .normal := by
                  simp [FrR.fr, FrR.enter, FrR.act, kk, Frame.enter, Frame.at, base]
                have e2 : x.fr k rest = (base x.fn).at x.act (.inRegion ops (i :: is) :: (k' ++ kk k rest)) := by
                  show (base x.fn).at x.act (x.todo ++ kk k rest) = _
                  rw [ht]
                  rfl
                rw [e1, e2]
              | _ => cases hr'
        · rename_i hw
          have hw' : Region.wanted o (yielded ops x.act.tmps) = false := by
            show Region.wanted o (yielded ops x.tmps) = false
            simpa using hw
          refine fin hr' ?_
          rw [stepG_unwanted ho hw']
          show _ = GStep.go (G ((x.put o.dst undef (.inRegion ops is :: k')).fr k rest) _) _
          rw [fr_put]
          rfl
    · cases hr'

/-- THE STEP, WHERE IT HALTS: the machine ends, or the goroutine is on its way out by a panic. -/
theorem own_halt {main : Bool} {k : List Item} {cs : List Frame} (hE : NoEarly P) (hS : ∀ f, S.F f = true → okFn P S f = true) {ret : Bool} {x : FrR} {rest : List FrR} (h : StOk P S (x :: rest)) (hx : ret = true → rest ≠ []) {w w' : World} {hh : Halt}
    (hr : (own P ret (x :: rest)).run P w = .halt hh w') : Lost k cs x rest (stepG P main (lift k cs ret (x :: rest)) w) := by
  obtain ⟨hf, hrest⟩ := h
  obtain ⟨fn, hfn⟩ := hf.mem
  have ended : ∀ {s : GStep}, (∃ o w es, s = .ended o w es) → Lost k cs x rest s := fun h => .inl h
  cases ret with
  | true =>
    cases rest with
    | nil => exact absurd rfl (hx rfl)
    | cons y t =>
      obtain ⟨hy, ops, i, is, k', o, ht, ho, hc⟩ := hrest y (by simp)
      have hr' : (ownRet P x (y :: t)).run P w = .halt hh w' := hr
      unfold ownRet at hr'
      dsimp only at hr'
      rw [ht, hfn] at hr'
      simp only [Option.getD_some] at hr'
      change (Sem.bind (results fn x.tmps) _).run P w = _ at hr'
      rw [run_bind] at hr'
      cases hrr : (results fn x.tmps).run P w with
      | ok v w'' => rw [hrr] at hr'; cases hr'
      | halt e w'' =>
        refine ended ?_
        rw [lift_ret]
        show ∃ o w' es, stepG P main (G { (base x.fn).at x.act (x.todo ++ []) with mode := .returning } (y.fr k t :: (tailF k t ++ cs))) w = _
        cases e <;> simp [G, stepG, unwind, Frame.at, base, FrR.act, hfn, hrr, GStep.after]
  | false =>
    have hr' : (ownRun P x rest).run P w = .halt hh w' := hr
    rw [lift_run]
    unfold ownRun at hr'
    cases ht : x.todo with
    | nil => rw [ht] at hr'; cases hr'
    | cons z k' =>
    have hit := okItems_cons (ht ▸ hf.items)
    have h1 := hit.1
    rw [ht] at hr'
    cases z with
    | code c =>
      cases c with
      | skip => cases hr'
      | seq a b => cases hr'
      | block id c => cases hr'
      | loop c => cases hr'
      | label l => cases hr'
      | ret => cases hr'
      | rangeFunc f ps a b => cases h1
      | scope c => cases h1
      | goto l => cases h1
      | refuse why => exact ended (by rw [List.cons_append]; simp [G, stepG, stepG.exec, Frame.at])
      | cond c a b =>
        dsimp only at hr'
        split at hr'
        · cases hr'
        · rename_i hc
          refine ended ?_
          rw [List.cons_append]
          have hev : ∀ todo, ((base x.fn).at x.act todo).eval c = x.act.eval c := fun todo => Frame.eval_at _ _ _ _
          have := hev (.code (.cond c a b) :: (k' ++ kk k rest))
          simp only [G, stepG, stepG.exec]
          simp only [Frame.at] at this ⊢
          rw [this]
          split
          · rename_i b hb; exact absurd hb (hc b)
          · exact ⟨_, _, _, rfl⟩
      | exit id =>
        dsimp only at hr'
        split at hr'
        · cases hr'
        · rename_i hk'
          exfalso
          simp only [okItem, okC] at h1
          obtain ⟨k2, hk2⟩ := exitTo_some h1
          rw [hk2] at hk'
          cases hk'
      | region id ops draw =>
        dsimp only at hr'
        split at hr'
        · cases hr'
        · change (Sem.bind (choose _) _).run P w = _ at hr'
          rw [run_bind] at hr'
          simp only [choose, Sem.run, Question.forced, Bool.false_eq_true, if_false] at hr'
          cases hr'
    | inBlock id => cases hr'
    | inLoop c => cases hr'
    | inRegion ops is =>
      cases is with
      | nil => cases hr'
      | cons i is =>
        dsimp only at hr'
        split at hr'
        · cases hr'
        · rename_i o ho
          rw [List.cons_append]
          split at hr'
          · rename_i hw
            have hw' : Region.wanted o (yielded ops x.act.tmps) = true := hw
            have hoo : okOper P S x.fn o = true := okIs_get h1 ho
            have htm := tm_oper hS hf hoo
            change (Sem.bind (execOp x.act.eval o) _).run P w = _ at hr'
            rw [run_bind] at hr'
            rw [stepG_oper ho hw']
            cases hrr : (execOp x.act.eval o).run P w with
            | ok n w'' =>
              exfalso
              rw [hrr] at hr'
              have hn := (htm.tape hrr).1
              cases n <;> first | exact hn.elim | cases hr'
            | halt e w'' =>
              have ht' := (htm.halts hrr).1
              cases e <;> first | cases ht' | skip
              · right
                rename_i v
                refine ⟨[{ v, recovered := false }], w'', seen P x.fn ((execOp x.act.eval o).events P w #[]), .inRegion ops (i :: is) :: (k' ++ kk k rest), ?_⟩
                simp [stepG.apply, hrr, G, Frame.at, GStep.after, Frame.raise, base]
              · left
                rename_i u
                cases u with
                | initOrder g =>
                  simp [stepG.apply, hrr, GStep.after, early, hE.1, hE.2 g]
                | _ => simp [stepG.apply, hrr, GStep.after]
              · left
                simp [stepG.apply, hrr, GStep.after]
          · cases hr'
    | _ => cases h1
end
end Go.Proofs.Ytcfpilkhjpegcaa
