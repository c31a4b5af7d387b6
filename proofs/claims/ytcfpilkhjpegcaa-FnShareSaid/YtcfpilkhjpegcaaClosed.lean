/- Closed facts of the whole translation, each by itself. -/
import Derived.Test.YtcfpilkhjpegcaaRows
import Derived.Test.YtcfpilkhjpegcaaChecked
import Derived.ProofKit
namespace Go.Proofs.Ytcfpilkhjpegcaa
open Go.ChangeShapes Go.WideShapes Go.ChangeAt Go.RowKit
set_option maxRecDepth 100000
theorem clo_laid : laidOutB Try.pinned.checked.prog = true := by kernel_rfl
theorem clo_rowed : mapsRowed Try.pinned.checked.prog = true := by kernel_rfl
theorem clo_stops : (Try.pinned.checked.prog.stops == []) = true := by kernel_rfl
theorem clo_knobs : (Try.pinned.checked.prog.stopKnobs == []) = true := by kernel_rfl
theorem clo_heard : Try.pinned.checked.prog.stopsHeard = true := by kernel_rfl
theorem clo_enter : Try.pinned.checked.prog.mayEnter = true := by kernel_rfl
/-- the closed facts of a row, each by itself -/
theorem closed_of {P : Program} {f : FuncId} {fn : Func} {s : ChangeSpec} {c : OpenClaim} (h1 : c.wf (OpenSpec.ofChange s) = true) (h2 : laidOutB P = true) (h3 : mapsRowed P = true) (h4 : fn.params.all (P.readableRec ·) = true) (h5 : namedTie P c.named s.vars = true) (h6 : (c.stops == []) = true) (h7 : (P.stops == []) = true) (h8 : (c.knobs == []) = true) (h9 : (P.stopKnobs == []) = true)
    (h10 : (c.inPlace == P.inPlace f) = true) (h11 : (c.unfollowed == P.unfollowed f) = true) (h12 : (c.recurses == P.recurses f) = true) (h13 : (c.named == P.varsNamed f) = true) (h25 : P.stopsHeard = true) (h26 : P.mayEnter = true)
    (h14 : ((c.maps == (fn.params.toList ++ s.plain.varTypes P).any (P.mapsRec ·)) && (c.ifaces == (fn.params.toList ++ s.plain.varTypes P).any (P.ifacesRec ·)) && (c.mapsOut == P.mapsAmong fn.resultTypes.toList)) = true)
    (h17 : ((c.loops == (fn.params.toList ++ s.plain.varTypes P).any (P.loopsFrom ·)) && (c.wideKeys == (fn.params.toList ++ s.plain.varTypes P ++ fn.resultTypes.toList).any (P.wideKeysFrom ·))) = true)
    (h19 : (s.vars.all (P.varReadable ·) && fn.resultTypes.all (fun t => P.readableRec t && decide (t < P.types.size)) && (c.ifacesOut == fn.resultTypes.toList.any (P.ifacesRec ·)) && (c.loopsOut == fn.resultTypes.toList.any (P.loopsFrom ·)) && (c.plainKeys == P.plainKeys) && c.shortTexts.isNone) = true)
    (h27 : ((c.lifted == P.liftsFinal) && (P.make == some c.make) && (c.kinds == (if c.domain.isEmpty then [] else fn.params.toList.map fun t => match P.underlying t with | some (.int k) => some k | _ => none)) && (c.pinned == c.pinnedBy)) = true)
    (h31 : ((c.veiled == (fn.params.toList ++ s.plain.varTypes P ++ fn.resultTypes.toList).any (P.veiledRec ·)) && c.veiledFits P fn.params.toList (fn.params.toList ++ s.plain.varTypes P ++ fn.resultTypes.toList)) = true) : joinedFacts P f fn s c = true := by
  simp only [Bool.and_eq_true] at h14 h17 h19 h27 h31
  obtain ⟨⟨a1, a2⟩, a3⟩ := h14
  obtain ⟨b1, b2⟩ := h17
  obtain ⟨⟨⟨⟨⟨c1, c2⟩, c3⟩, c4⟩, c5⟩, c6⟩ := h19
  obtain ⟨⟨⟨d1, d2⟩, d3⟩, d4⟩ := h27
  obtain ⟨e1, e2⟩ := h31
  simp only [joinedFacts, Bool.and_eq_true]
  exact ⟨⟨⟨⟨⟨⟨⟨⟨⟨⟨⟨⟨⟨⟨⟨⟨⟨⟨⟨⟨⟨⟨⟨⟨⟨⟨⟨⟨⟨⟨⟨h1, h2⟩, h3⟩, h4⟩, h5⟩, h6⟩, h7⟩, h8⟩, h9⟩, h10⟩, h11⟩, h12⟩, h13⟩, a1⟩, a2⟩, a3⟩, b1⟩, b2⟩, c1⟩, c2⟩, c3⟩, c4⟩, c5⟩, c6⟩, h25⟩, h26⟩, d1⟩, d2⟩, d3⟩, d4⟩, e1⟩, e2⟩
end Go.Proofs.Ytcfpilkhjpegcaa
