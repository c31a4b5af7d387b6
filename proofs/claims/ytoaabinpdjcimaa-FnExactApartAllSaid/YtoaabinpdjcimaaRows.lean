/-
  No cell of these rows narrows 'for every input' (looked for: loops, veiled, ifaces, maps, wideKeys, modest, calm, conditions, laid).
  DERIVED. THE GIVEN ROWS OF THIS SEAT. 7 by the template 'for every input the law returns true; each argument reads behind the call as it read before'; 0 by the template 'total and deterministic' (their statements: YtoaabinpdjcimaaTotals.lean).
  GIVEN WITH THE SEED: the statements are not yours to turn. If you find one false, say at which input.
  Laid BY PROGRAM, IN A SANDBOX (cutbox-rows.mjs): the forced cells as the released guide's own fill.sh prints them over the translation d94de93226d49c46… (all of the seat's roots in one cut). By AI agents, Wed Nov 11 2026. No macro, syntax, notation, axiom, sorry.
-/
import Derived.Test.YtoaabinpdjcimaaChecked
import GoSem.Claim
import GoSem.ClaimJoined
import GoSem.ClaimMapViews
import Derived.JoinedTies
import Derived.KernelRfl
namespace Go.Proofs.Ytoaabinpdjcimaa
/- THE CELL 'sum', in the pinned program and in every row, IS THE sha256 OF THE DUMP (.gsa) THAT YtoaabinpdjcimaaProg.lean LOADS. Nothing in Lean hashes anything: it is a label: what it is worth is what the hold of that sum in a sandbox is worth. -/
noncomputable def Try.pinned : Pinned := { name := "ytoaabinpdjcimaa", sum := "d94de93226d49c46c6170a953bd0e5843fac5017cfd2ab21bd2b80635b40b6fb", checked := Try.checked }
namespace Rows
def none {H : Type} : Left H := { results := [], args := [] }

/-- 'laws.FnApartAllFirst': WHATEVER THE INPUT: true; the input reads as it did. -/
def fnApartAllFirstSpec : ChangeSpec := { name := "fnApartAllFirst", fn := fun _ => fun
  | [d] => { results := [.lit (.bool true)], args := [d] }
  | _ => none }
def fnApartAllFirstRow : OpenClaim := { program := "ytoaabinpdjcimaa", sum := "d94de93226d49c46c6170a953bd0e5843fac5017cfd2ab21bd2b80635b40b6fb", func := "loop.example/vectorpacker/laws.FnApartAllFirst", spec := "fnApartAllFirst", unfollowed := true, recurses := true, apart := false }
def FnApartAllFirstSaid : Prop := fnApartAllFirstRow.holds Try.pinned (OpenSpec.ofChange fnApartAllFirstSpec)

/-- ITS FALSE NEIGHBOUR: 'it returns false'. Refute it at one input. -/
def fnApartAllFirstWrong : ChangeSpec := { name := "fnApartAllFirst", fn := fun _ => fun
  | [d] => { results := [.lit (.bool false)], args := [d] }
  | _ => none }
def FnApartAllFirstWrongFalsely : Prop := fnApartAllFirstRow.holds Try.pinned (OpenSpec.ofChange fnApartAllFirstWrong)

/-- 'laws.FnApartNone': WHATEVER THE INPUT: true; the input reads as it did. -/
def fnApartNoneSpec : ChangeSpec := { name := "fnApartNone", fn := fun _ => fun
  | [d] => { results := [.lit (.bool true)], args := [d] }
  | _ => none }
def fnApartNoneRow : OpenClaim := { program := "ytoaabinpdjcimaa", sum := "d94de93226d49c46c6170a953bd0e5843fac5017cfd2ab21bd2b80635b40b6fb", func := "loop.example/vectorpacker/laws.FnApartNone", spec := "fnApartNone", unfollowed := true, recurses := true, apart := false }
def FnApartNoneSaid : Prop := fnApartNoneRow.holds Try.pinned (OpenSpec.ofChange fnApartNoneSpec)

/-- ITS FALSE NEIGHBOUR: 'it returns false'. Refute it at one input. -/
def fnApartNoneWrong : ChangeSpec := { name := "fnApartNone", fn := fun _ => fun
  | [d] => { results := [.lit (.bool false)], args := [d] }
  | _ => none }
def FnApartNoneWrongFalsely : Prop := fnApartNoneRow.holds Try.pinned (OpenSpec.ofChange fnApartNoneWrong)

/-- 'laws.FnExactApartAt': WHATEVER THE INPUT: true; the input reads as it did. -/
def fnExactApartAtSpec : ChangeSpec := { name := "fnExactApartAt", fn := fun _ => fun
  | [d1, d2, d3, d4] => { results := [.lit (.bool true)], args := [d1, d2, d3, d4] }
  | _ => none }
def fnExactApartAtRow : OpenClaim := { program := "ytoaabinpdjcimaa", sum := "d94de93226d49c46c6170a953bd0e5843fac5017cfd2ab21bd2b80635b40b6fb", func := "loop.example/vectorpacker/laws.FnExactApartAt", spec := "fnExactApartAt", unfollowed := true, recurses := true, apart := false }
def FnExactApartAtSaid : Prop := fnExactApartAtRow.holds Try.pinned (OpenSpec.ofChange fnExactApartAtSpec)

/-- ITS FALSE NEIGHBOUR: 'it returns false'. Refute it at one input. -/
def fnExactApartAtWrong : ChangeSpec := { name := "fnExactApartAt", fn := fun _ => fun
  | [d1, d2, d3, d4] => { results := [.lit (.bool false)], args := [d1, d2, d3, d4] }
  | _ => none }
def FnExactApartAtWrongFalsely : Prop := fnExactApartAtRow.holds Try.pinned (OpenSpec.ofChange fnExactApartAtWrong)

/-- 'laws.FnApartAt': WHATEVER THE INPUT: true; the input reads as it did. -/
def fnApartAtSpec : ChangeSpec := { name := "fnApartAt", fn := fun _ => fun
  | [d] => { results := [.lit (.bool true)], args := [d] }
  | _ => none }
def fnApartAtRow : OpenClaim := { program := "ytoaabinpdjcimaa", sum := "d94de93226d49c46c6170a953bd0e5843fac5017cfd2ab21bd2b80635b40b6fb", func := "loop.example/vectorpacker/laws.FnApartAt", spec := "fnApartAt", unfollowed := true, recurses := true, apart := false }
def FnApartAtSaid : Prop := fnApartAtRow.holds Try.pinned (OpenSpec.ofChange fnApartAtSpec)

/-- ITS FALSE NEIGHBOUR: 'it returns false'. Refute it at one input. -/
def fnApartAtWrong : ChangeSpec := { name := "fnApartAt", fn := fun _ => fun
  | [d] => { results := [.lit (.bool false)], args := [d] }
  | _ => none }
def FnApartAtWrongFalsely : Prop := fnApartAtRow.holds Try.pinned (OpenSpec.ofChange fnApartAtWrong)

/-- 'laws.FnApartAllStep': WHATEVER THE INPUT: true; the input reads as it did. -/
def fnApartAllStepSpec : ChangeSpec := { name := "fnApartAllStep", fn := fun _ => fun
  | [d] => { results := [.lit (.bool true)], args := [d] }
  | _ => none }
def fnApartAllStepRow : OpenClaim := { program := "ytoaabinpdjcimaa", sum := "d94de93226d49c46c6170a953bd0e5843fac5017cfd2ab21bd2b80635b40b6fb", func := "loop.example/vectorpacker/laws.FnApartAllStep", spec := "fnApartAllStep", unfollowed := true, recurses := true, apart := false }
def FnApartAllStepSaid : Prop := fnApartAllStepRow.holds Try.pinned (OpenSpec.ofChange fnApartAllStepSpec)

/-- ITS FALSE NEIGHBOUR: 'it returns false'. Refute it at one input. -/
def fnApartAllStepWrong : ChangeSpec := { name := "fnApartAllStep", fn := fun _ => fun
  | [d] => { results := [.lit (.bool false)], args := [d] }
  | _ => none }
def FnApartAllStepWrongFalsely : Prop := fnApartAllStepRow.holds Try.pinned (OpenSpec.ofChange fnApartAllStepWrong)

/-- 'laws.FnExactApartAll': WHATEVER THE INPUT: true; the input reads as it did. -/
def fnExactApartAllSpec : ChangeSpec := { name := "fnExactApartAll", fn := fun _ => fun
  | [d1, d2, d3] => { results := [.lit (.bool true)], args := [d1, d2, d3] }
  | _ => none }
def fnExactApartAllRow : OpenClaim := { program := "ytoaabinpdjcimaa", sum := "d94de93226d49c46c6170a953bd0e5843fac5017cfd2ab21bd2b80635b40b6fb", func := "loop.example/vectorpacker/laws.FnExactApartAll", spec := "fnExactApartAll", unfollowed := true, recurses := true, apart := false }
def FnExactApartAllSaid : Prop := fnExactApartAllRow.holds Try.pinned (OpenSpec.ofChange fnExactApartAllSpec)

/-- ITS FALSE NEIGHBOUR: 'it returns false'. Refute it at one input. -/
def fnExactApartAllWrong : ChangeSpec := { name := "fnExactApartAll", fn := fun _ => fun
  | [d1, d2, d3] => { results := [.lit (.bool false)], args := [d1, d2, d3] }
  | _ => none }
def FnExactApartAllWrongFalsely : Prop := fnExactApartAllRow.holds Try.pinned (OpenSpec.ofChange fnExactApartAllWrong)

/-- 'laws.FnApartAll': WHATEVER THE INPUT: true; the input reads as it did. -/
def fnApartAllSpec : ChangeSpec := { name := "fnApartAll", fn := fun _ => fun
  | [d] => { results := [.lit (.bool true)], args := [d] }
  | _ => none }
def fnApartAllRow : OpenClaim := { program := "ytoaabinpdjcimaa", sum := "d94de93226d49c46c6170a953bd0e5843fac5017cfd2ab21bd2b80635b40b6fb", func := "loop.example/vectorpacker/laws.FnApartAll", spec := "fnApartAll", unfollowed := true, recurses := true, apart := false }
def FnApartAllSaid : Prop := fnApartAllRow.holds Try.pinned (OpenSpec.ofChange fnApartAllSpec)

/-- ITS FALSE NEIGHBOUR: 'it returns false'. Refute it at one input. -/
def fnApartAllWrong : ChangeSpec := { name := "fnApartAll", fn := fun _ => fun
  | [d] => { results := [.lit (.bool false)], args := [d] }
  | _ => none }
def FnApartAllWrongFalsely : Prop := fnApartAllRow.holds Try.pinned (OpenSpec.ofChange fnApartAllWrong)

/- THE SECOND FORM. 'bulk': how many values and letters a reading holds, each counted each time it is reached (what is shared counts as often as it is met; a slice's spare places count too). A statement '..UptoSaid' is the law's where the arguments, and the package variables that the reading takes, are together of bulk at most 1048576: NARROWER than '..Said'. Prove '..Said' where nothing that the law and all that it calls make is longer than what came in: it says more and counts as full. Else prove '..UptoSaid'. A law counts once. -/
mutual
def uptoBulk {H : Type} : DataW H → Nat
  | .lit (.string bytes) => bytes.length + 1
  | .lit _ => 1
  | .nil => 1
  | .ptr d => uptoBulk d + 1
  | .slice elems spare => uptoBulkAll elems + uptoBulkAll spare + 1
  | .agg parts => uptoBulkAll parts + 1
  | .iface _ d => uptoBulk d + 1
  | .map entries => uptoBulkEntries entries + 1
  | .held _ => 1
def uptoBulkAll {H : Type} : List (DataW H) → Nat
  | [] => 0
  | d :: r => uptoBulk d + uptoBulkAll r
def uptoBulkEntries {H : Type} : List (Lit × DataW H) → Nat
  | [] => 0
  | x :: r => uptoBulkEntry x + uptoBulkEntries r
def uptoBulkEntry {H : Type} : Lit × DataW H → Nat
  | (.string bytes, d) => bytes.length + uptoBulk d + 1
  | (_, d) => uptoBulk d + 1
 end
def uptoSmall : (H : Type) → List (DataW H) → Bool := fun _ ds => decide (uptoBulkAll ds ≤ 1048576)
def OpenSpec.upto (s : _root_.Go.ChangeSpec) : _root_.Go.OpenSpec := { _root_.Go.OpenSpec.ofChange s with cond := some uptoSmall }

/-- 'laws.FnApartAllFirst', WHERE WHAT IT READS IS OF BULK AT MOST 1048576: true; the input reads as it did. -/
def fnApartAllFirstUptoRow : OpenClaim := { program := "ytoaabinpdjcimaa", sum := "d94de93226d49c46c6170a953bd0e5843fac5017cfd2ab21bd2b80635b40b6fb", func := "loop.example/vectorpacker/laws.FnApartAllFirst", spec := "fnApartAllFirst", unfollowed := true, recurses := true, apart := false, narrowed := true }
def FnApartAllFirstUptoSaid : Prop := fnApartAllFirstUptoRow.holds Try.pinned (OpenSpec.upto fnApartAllFirstSpec)

/-- 'laws.FnApartNone', WHERE WHAT IT READS IS OF BULK AT MOST 1048576: true; the input reads as it did. -/
def fnApartNoneUptoRow : OpenClaim := { program := "ytoaabinpdjcimaa", sum := "d94de93226d49c46c6170a953bd0e5843fac5017cfd2ab21bd2b80635b40b6fb", func := "loop.example/vectorpacker/laws.FnApartNone", spec := "fnApartNone", unfollowed := true, recurses := true, apart := false, narrowed := true }
def FnApartNoneUptoSaid : Prop := fnApartNoneUptoRow.holds Try.pinned (OpenSpec.upto fnApartNoneSpec)

/-- 'laws.FnExactApartAt', WHERE WHAT IT READS IS OF BULK AT MOST 1048576: true; the input reads as it did. -/
def fnExactApartAtUptoRow : OpenClaim := { program := "ytoaabinpdjcimaa", sum := "d94de93226d49c46c6170a953bd0e5843fac5017cfd2ab21bd2b80635b40b6fb", func := "loop.example/vectorpacker/laws.FnExactApartAt", spec := "fnExactApartAt", unfollowed := true, recurses := true, apart := false, narrowed := true }
def FnExactApartAtUptoSaid : Prop := fnExactApartAtUptoRow.holds Try.pinned (OpenSpec.upto fnExactApartAtSpec)

/-- 'laws.FnApartAt', WHERE WHAT IT READS IS OF BULK AT MOST 1048576: true; the input reads as it did. -/
def fnApartAtUptoRow : OpenClaim := { program := "ytoaabinpdjcimaa", sum := "d94de93226d49c46c6170a953bd0e5843fac5017cfd2ab21bd2b80635b40b6fb", func := "loop.example/vectorpacker/laws.FnApartAt", spec := "fnApartAt", unfollowed := true, recurses := true, apart := false, narrowed := true }
def FnApartAtUptoSaid : Prop := fnApartAtUptoRow.holds Try.pinned (OpenSpec.upto fnApartAtSpec)

/-- 'laws.FnApartAllStep', WHERE WHAT IT READS IS OF BULK AT MOST 1048576: true; the input reads as it did. -/
def fnApartAllStepUptoRow : OpenClaim := { program := "ytoaabinpdjcimaa", sum := "d94de93226d49c46c6170a953bd0e5843fac5017cfd2ab21bd2b80635b40b6fb", func := "loop.example/vectorpacker/laws.FnApartAllStep", spec := "fnApartAllStep", unfollowed := true, recurses := true, apart := false, narrowed := true }
def FnApartAllStepUptoSaid : Prop := fnApartAllStepUptoRow.holds Try.pinned (OpenSpec.upto fnApartAllStepSpec)

/-- 'laws.FnExactApartAll', WHERE WHAT IT READS IS OF BULK AT MOST 1048576: true; the input reads as it did. -/
def fnExactApartAllUptoRow : OpenClaim := { program := "ytoaabinpdjcimaa", sum := "d94de93226d49c46c6170a953bd0e5843fac5017cfd2ab21bd2b80635b40b6fb", func := "loop.example/vectorpacker/laws.FnExactApartAll", spec := "fnExactApartAll", unfollowed := true, recurses := true, apart := false, narrowed := true }
def FnExactApartAllUptoSaid : Prop := fnExactApartAllUptoRow.holds Try.pinned (OpenSpec.upto fnExactApartAllSpec)

/-- 'laws.FnApartAll', WHERE WHAT IT READS IS OF BULK AT MOST 1048576: true; the input reads as it did. -/
def fnApartAllUptoRow : OpenClaim := { program := "ytoaabinpdjcimaa", sum := "d94de93226d49c46c6170a953bd0e5843fac5017cfd2ab21bd2b80635b40b6fb", func := "loop.example/vectorpacker/laws.FnApartAll", spec := "fnApartAll", unfollowed := true, recurses := true, apart := false, narrowed := true }
def FnApartAllUptoSaid : Prop := fnApartAllUptoRow.holds Try.pinned (OpenSpec.upto fnApartAllSpec)

end Rows
end Go.Proofs.Ytoaabinpdjcimaa
