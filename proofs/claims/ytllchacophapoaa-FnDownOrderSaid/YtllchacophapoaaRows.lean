/-
  No cell of these rows narrows 'for every input' (looked for: loops, veiled, ifaces, maps, wideKeys, modest, calm, conditions, laid).
  DERIVED. THE GIVEN ROWS OF THIS SEAT. 6 by the template 'for every input the law returns true; each argument reads behind the call as it read before'; 0 by the template 'total and deterministic' (their statements: YtllchacophapoaaTotals.lean).
  GIVEN WITH THE SEED: the statements are not yours to turn. If you find one false, say at which input.
  Laid BY PROGRAM, IN A SANDBOX (cutbox-rows.mjs): the forced cells as the released guide's own fill.sh prints them over the translation d3de22e9baa90633… (all of the seat's roots in one cut). By AI agents, Wed Nov 11 2026. No macro, syntax, notation, axiom, sorry.
-/
import Derived.Test.YtllchacophapoaaChecked
import GoSem.Claim
import GoSem.ClaimJoined
import GoSem.ClaimMapViews
import Derived.JoinedTies
import Derived.KernelRfl
namespace Go.Proofs.Ytllchacophapoaa
/- THE CELL 'sum', in the pinned program and in every row, IS THE sha256 OF THE DUMP (.gsa) THAT YtllchacophapoaaProg.lean LOADS. Nothing in Lean hashes anything: it is a label: what it is worth is what the hold of that sum in a sandbox is worth. -/
noncomputable def Try.pinned : Pinned := { name := "ytllchacophapoaa", sum := "d3de22e9baa9063311fac8f8648064e6a17e278afcbd62e66608949c6fbaed31", checked := Try.checked }
namespace Rows
def none {H : Type} : Left H := { results := [], args := [] }

/-- 'laws.FnExactDownAll': WHATEVER THE INPUT: true; the input reads as it did. -/
def fnExactDownAllSpec : ChangeSpec := { name := "fnExactDownAll", fn := fun _ => fun
  | [d1, d2] => { results := [.lit (.bool true)], args := [d1, d2] }
  | _ => none }
def fnExactDownAllRow : OpenClaim := { program := "ytllchacophapoaa", sum := "d3de22e9baa9063311fac8f8648064e6a17e278afcbd62e66608949c6fbaed31", func := "loop.example/vectorpacker/laws.FnExactDownAll", spec := "fnExactDownAll", unfollowed := true, recurses := true, apart := false }
def FnExactDownAllSaid : Prop := fnExactDownAllRow.holds Try.pinned (OpenSpec.ofChange fnExactDownAllSpec)

/-- ITS FALSE NEIGHBOUR: 'it returns false'. Refute it at one input. -/
def fnExactDownAllWrong : ChangeSpec := { name := "fnExactDownAll", fn := fun _ => fun
  | [d1, d2] => { results := [.lit (.bool false)], args := [d1, d2] }
  | _ => none }
def FnExactDownAllWrongFalsely : Prop := fnExactDownAllRow.holds Try.pinned (OpenSpec.ofChange fnExactDownAllWrong)

/-- 'laws.FnDownOrder': WHATEVER THE INPUT: true; the input reads as it did. -/
def fnDownOrderSpec : ChangeSpec := { name := "fnDownOrder", fn := fun _ => fun
  | [d] => { results := [.lit (.bool true)], args := [d] }
  | _ => none }
def fnDownOrderRow : OpenClaim := { program := "ytllchacophapoaa", sum := "d3de22e9baa9063311fac8f8648064e6a17e278afcbd62e66608949c6fbaed31", func := "loop.example/vectorpacker/laws.FnDownOrder", spec := "fnDownOrder", unfollowed := true, recurses := true, apart := false }
def FnDownOrderSaid : Prop := fnDownOrderRow.holds Try.pinned (OpenSpec.ofChange fnDownOrderSpec)

/-- ITS FALSE NEIGHBOUR: 'it returns false'. Refute it at one input. -/
def fnDownOrderWrong : ChangeSpec := { name := "fnDownOrder", fn := fun _ => fun
  | [d] => { results := [.lit (.bool false)], args := [d] }
  | _ => none }
def FnDownOrderWrongFalsely : Prop := fnDownOrderRow.holds Try.pinned (OpenSpec.ofChange fnDownOrderWrong)

/-- 'laws.FnDownSame': WHATEVER THE INPUT: true; the input reads as it did. -/
def fnDownSameSpec : ChangeSpec := { name := "fnDownSame", fn := fun _ => fun
  | [d] => { results := [.lit (.bool true)], args := [d] }
  | _ => none }
def fnDownSameRow : OpenClaim := { program := "ytllchacophapoaa", sum := "d3de22e9baa9063311fac8f8648064e6a17e278afcbd62e66608949c6fbaed31", func := "loop.example/vectorpacker/laws.FnDownSame", spec := "fnDownSame", unfollowed := true, recurses := true, apart := false }
def FnDownSameSaid : Prop := fnDownSameRow.holds Try.pinned (OpenSpec.ofChange fnDownSameSpec)

/-- ITS FALSE NEIGHBOUR: 'it returns false'. Refute it at one input. -/
def fnDownSameWrong : ChangeSpec := { name := "fnDownSame", fn := fun _ => fun
  | [d] => { results := [.lit (.bool false)], args := [d] }
  | _ => none }
def FnDownSameWrongFalsely : Prop := fnDownSameRow.holds Try.pinned (OpenSpec.ofChange fnDownSameWrong)

/-- 'laws.FnExactDownBest': WHATEVER THE INPUT: true; the input reads as it did. -/
def fnExactDownBestSpec : ChangeSpec := { name := "fnExactDownBest", fn := fun _ => fun
  | [d1, d2] => { results := [.lit (.bool true)], args := [d1, d2] }
  | _ => none }
def fnExactDownBestRow : OpenClaim := { program := "ytllchacophapoaa", sum := "d3de22e9baa9063311fac8f8648064e6a17e278afcbd62e66608949c6fbaed31", func := "loop.example/vectorpacker/laws.FnExactDownBest", spec := "fnExactDownBest", unfollowed := true, recurses := true, apart := false }
def FnExactDownBestSaid : Prop := fnExactDownBestRow.holds Try.pinned (OpenSpec.ofChange fnExactDownBestSpec)

/-- ITS FALSE NEIGHBOUR: 'it returns false'. Refute it at one input. -/
def fnExactDownBestWrong : ChangeSpec := { name := "fnExactDownBest", fn := fun _ => fun
  | [d1, d2] => { results := [.lit (.bool false)], args := [d1, d2] }
  | _ => none }
def FnExactDownBestWrongFalsely : Prop := fnExactDownBestRow.holds Try.pinned (OpenSpec.ofChange fnExactDownBestWrong)

/-- 'laws.FnDownBest': WHATEVER THE INPUT: true; the input reads as it did. -/
def fnDownBestSpec : ChangeSpec := { name := "fnDownBest", fn := fun _ => fun
  | [d] => { results := [.lit (.bool true)], args := [d] }
  | _ => none }
def fnDownBestRow : OpenClaim := { program := "ytllchacophapoaa", sum := "d3de22e9baa9063311fac8f8648064e6a17e278afcbd62e66608949c6fbaed31", func := "loop.example/vectorpacker/laws.FnDownBest", spec := "fnDownBest", unfollowed := true, recurses := true, apart := false }
def FnDownBestSaid : Prop := fnDownBestRow.holds Try.pinned (OpenSpec.ofChange fnDownBestSpec)

/-- ITS FALSE NEIGHBOUR: 'it returns false'. Refute it at one input. -/
def fnDownBestWrong : ChangeSpec := { name := "fnDownBest", fn := fun _ => fun
  | [d] => { results := [.lit (.bool false)], args := [d] }
  | _ => none }
def FnDownBestWrongFalsely : Prop := fnDownBestRow.holds Try.pinned (OpenSpec.ofChange fnDownBestWrong)

/-- 'laws.FnExactFewestAll': WHATEVER THE INPUT: true; the input reads as it did. -/
def fnExactFewestAllSpec : ChangeSpec := { name := "fnExactFewestAll", fn := fun _ => fun
  | [d1, d2] => { results := [.lit (.bool true)], args := [d1, d2] }
  | _ => none }
def fnExactFewestAllRow : OpenClaim := { program := "ytllchacophapoaa", sum := "d3de22e9baa9063311fac8f8648064e6a17e278afcbd62e66608949c6fbaed31", func := "loop.example/vectorpacker/laws.FnExactFewestAll", spec := "fnExactFewestAll", unfollowed := true, recurses := true, apart := false }
def FnExactFewestAllSaid : Prop := fnExactFewestAllRow.holds Try.pinned (OpenSpec.ofChange fnExactFewestAllSpec)

/-- ITS FALSE NEIGHBOUR: 'it returns false'. Refute it at one input. -/
def fnExactFewestAllWrong : ChangeSpec := { name := "fnExactFewestAll", fn := fun _ => fun
  | [d1, d2] => { results := [.lit (.bool false)], args := [d1, d2] }
  | _ => none }
def FnExactFewestAllWrongFalsely : Prop := fnExactFewestAllRow.holds Try.pinned (OpenSpec.ofChange fnExactFewestAllWrong)

/- THE SECOND FORM. 'bulk': how many values and letters a reading holds, each counted each time it is reached (what is shared counts as often as it is met; a slice's spare places count too). A statement '..UptoSaid' is the law's where the arguments, and the package variables that the reading takes, are together of bulk at most 1048576: NARROWER than '..Said'. Prove '..Said' where nothing that the law and all that it calls make is longer than what came in: it says more and counts as full. Else prove '..UptoSaid'. A law counts once. -/
mutual
def uptoBulk {H : Type} : DataW H → Nat
  | .lit (.string bytes) => bytes.length + 1
  | .lit _ => 1
  | .nil => 1
  | .ptr d => uptoBulk d + 1
  | .slice elems spare => uptoBulkAll elems + uptoBulkAll spare + 1
  | .agg parts => uptoBulkAll parts + 1
  | .iface _ d => uptoBulk d + 1
  | .map entries => uptoBulkEntries entries + 1
  | .held _ => 1
def uptoBulkAll {H : Type} : List (DataW H) → Nat
  | [] => 0
  | d :: r => uptoBulk d + uptoBulkAll r
def uptoBulkEntries {H : Type} : List (Lit × DataW H) → Nat
  | [] => 0
  | x :: r => uptoBulkEntry x + uptoBulkEntries r
def uptoBulkEntry {H : Type} : Lit × DataW H → Nat
  | (.string bytes, d) => bytes.length + uptoBulk d + 1
  | (_, d) => uptoBulk d + 1
 end
def uptoSmall : (H : Type) → List (DataW H) → Bool := fun _ ds => decide (uptoBulkAll ds ≤ 1048576)
def OpenSpec.upto (s : _root_.Go.ChangeSpec) : _root_.Go.OpenSpec := { _root_.Go.OpenSpec.ofChange s with cond := some uptoSmall }

/-- 'laws.FnExactDownAll', WHERE WHAT IT READS IS OF BULK AT MOST 1048576: true; the input reads as it did. -/
def fnExactDownAllUptoRow : OpenClaim := { program := "ytllchacophapoaa", sum := "d3de22e9baa9063311fac8f8648064e6a17e278afcbd62e66608949c6fbaed31", func := "loop.example/vectorpacker/laws.FnExactDownAll", spec := "fnExactDownAll", unfollowed := true, recurses := true, apart := false, narrowed := true }
def FnExactDownAllUptoSaid : Prop := fnExactDownAllUptoRow.holds Try.pinned (OpenSpec.upto fnExactDownAllSpec)

/-- 'laws.FnDownOrder', WHERE WHAT IT READS IS OF BULK AT MOST 1048576: true; the input reads as it did. -/
def fnDownOrderUptoRow : OpenClaim := { program := "ytllchacophapoaa", sum := "d3de22e9baa9063311fac8f8648064e6a17e278afcbd62e66608949c6fbaed31", func := "loop.example/vectorpacker/laws.FnDownOrder", spec := "fnDownOrder", unfollowed := true, recurses := true, apart := false, narrowed := true }
def FnDownOrderUptoSaid : Prop := fnDownOrderUptoRow.holds Try.pinned (OpenSpec.upto fnDownOrderSpec)

/-- 'laws.FnDownSame', WHERE WHAT IT READS IS OF BULK AT MOST 1048576: true; the input reads as it did. -/
def fnDownSameUptoRow : OpenClaim := { program := "ytllchacophapoaa", sum := "d3de22e9baa9063311fac8f8648064e6a17e278afcbd62e66608949c6fbaed31", func := "loop.example/vectorpacker/laws.FnDownSame", spec := "fnDownSame", unfollowed := true, recurses := true, apart := false, narrowed := true }
def FnDownSameUptoSaid : Prop := fnDownSameUptoRow.holds Try.pinned (OpenSpec.upto fnDownSameSpec)

/-- 'laws.FnExactDownBest', WHERE WHAT IT READS IS OF BULK AT MOST 1048576: true; the input reads as it did. -/
def fnExactDownBestUptoRow : OpenClaim := { program := "ytllchacophapoaa", sum := "d3de22e9baa9063311fac8f8648064e6a17e278afcbd62e66608949c6fbaed31", func := "loop.example/vectorpacker/laws.FnExactDownBest", spec := "fnExactDownBest", unfollowed := true, recurses := true, apart := false, narrowed := true }
def FnExactDownBestUptoSaid : Prop := fnExactDownBestUptoRow.holds Try.pinned (OpenSpec.upto fnExactDownBestSpec)

/-- 'laws.FnDownBest', WHERE WHAT IT READS IS OF BULK AT MOST 1048576: true; the input reads as it did. -/
def fnDownBestUptoRow : OpenClaim := { program := "ytllchacophapoaa", sum := "d3de22e9baa9063311fac8f8648064e6a17e278afcbd62e66608949c6fbaed31", func := "loop.example/vectorpacker/laws.FnDownBest", spec := "fnDownBest", unfollowed := true, recurses := true, apart := false, narrowed := true }
def FnDownBestUptoSaid : Prop := fnDownBestUptoRow.holds Try.pinned (OpenSpec.upto fnDownBestSpec)

/-- 'laws.FnExactFewestAll', WHERE WHAT IT READS IS OF BULK AT MOST 1048576: true; the input reads as it did. -/
def fnExactFewestAllUptoRow : OpenClaim := { program := "ytllchacophapoaa", sum := "d3de22e9baa9063311fac8f8648064e6a17e278afcbd62e66608949c6fbaed31", func := "loop.example/vectorpacker/laws.FnExactFewestAll", spec := "fnExactFewestAll", unfollowed := true, recurses := true, apart := false, narrowed := true }
def FnExactFewestAllUptoSaid : Prop := fnExactFewestAllUptoRow.holds Try.pinned (OpenSpec.upto fnExactFewestAllSpec)

end Rows
end Go.Proofs.Ytllchacophapoaa
