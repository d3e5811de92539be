/- Closed facts of the row of FnLedgers. -/
import Derived.Test.YtkbdneigeghbaaaDoorRows
import Derived.Test.YtkbdneigeghbaaaDoorCards
import Derived.Test.YtkbdneigeghbaaaDoorTie
import Derived.Test.YtkbdneigeghbaaaDoorChecked
import Derived.ProofKit
import Derived.OpenShut
import Derived.LaidMore
import Derived.Lay
import Derived.SevenTiedAt
import Derived.Stop.Joined
namespace Go.Proofs.YtkbdneigeghbaaaDoor
open Go Go.RowKit
set_option linter.unusedVariables false
theorem Tryd.own : ownKnob Tryd.prog.godebug = none := by kernel_rfl
theorem Tryd.laidOut : laidOutB Tryd.prog = true := by kernel_rfl
theorem x2_ : mapsRowed Tryd.prog = true := by kernel_rfl
theorem x6_ : (Tryd.prog.stops == []) = true := by kernel_rfl
theorem x8_ : (Tryd.prog.stopKnobs == []) = true := by kernel_rfl
theorem x24_ : Tryd.prog.stopsHeard = true := by kernel_rfl
theorem x25_ : Tryd.prog.mayEnter = true := by kernel_rfl
theorem main_ : Tryd.prog.mainIs = some (Rows.fnLedgersCard.stood.harness.1, Rows.fnLedgersCard.stood.harness.2.toList) := by kernel_rfl
theorem looks_ : false = Tryd.prog.looks [] := by kernel_rfl
theorem and_f {a b : Bool} (h : a = true) (k : b = true) : (a && b) = true := by rw [h, k]; rfl
theorem q0_ : (Rows.fnLedgersRow.wf (OpenSpec.ofChange Rows.fnLedgersSpec)) = true := by kernel_rfl
theorem q1_ : (laidOutB Tryd.prog) = true := Tryd.laidOut
theorem q2_ : (mapsRowed Tryd.prog) = true := x2_
theorem q3_ : (Tryd.f3.params.all (Tryd.prog.readableRec ·)) = true := by kernel_rfl
theorem q4_ : (namedTie Tryd.prog Rows.fnLedgersRow.named Rows.fnLedgersSpec.vars) = true := by kernel_rfl
theorem q5_ : ((Rows.fnLedgersRow.stops == [])) = true := by kernel_rfl
theorem q6_ : ((Tryd.prog.stops == [])) = true := x6_
theorem q7_ : ((Rows.fnLedgersRow.knobs == [])) = true := by kernel_rfl
theorem q8_ : ((Tryd.prog.stopKnobs == [])) = true := x8_
theorem q9_ : ((Rows.fnLedgersRow.inPlace == Tryd.prog.inPlace 3)) = true := by kernel_rfl
theorem q10_ : ((Rows.fnLedgersRow.unfollowed == Tryd.prog.unfollowed 3)) = true := by kernel_rfl
theorem q11_ : ((Rows.fnLedgersRow.recurses == Tryd.prog.recurses 3)) = true := by kernel_rfl
theorem q12_ : ((Rows.fnLedgersRow.named == Tryd.prog.varsNamed 3)) = true := by kernel_rfl
theorem q13_ : ((Rows.fnLedgersRow.maps == (Tryd.f3.params.toList ++ Rows.fnLedgersSpec.plain.varTypes Tryd.prog).any (Tryd.prog.mapsRec ·))) = true := by kernel_rfl
theorem q14_ : ((Rows.fnLedgersRow.ifaces == (Tryd.f3.params.toList ++ Rows.fnLedgersSpec.plain.varTypes Tryd.prog).any (Tryd.prog.ifacesRec ·))) = true := by kernel_rfl
theorem q15_ : ((Rows.fnLedgersRow.mapsOut == Tryd.prog.mapsAmong Tryd.f3.resultTypes.toList)) = true := by kernel_rfl
theorem q16_ : ((Rows.fnLedgersRow.loops == (Tryd.f3.params.toList ++ Rows.fnLedgersSpec.plain.varTypes Tryd.prog).any (Tryd.prog.loopsFrom ·))) = true := by kernel_rfl
theorem q17_ : ((Rows.fnLedgersRow.wideKeys == (Tryd.f3.params.toList ++ Rows.fnLedgersSpec.plain.varTypes Tryd.prog ++ Tryd.f3.resultTypes.toList).any (Tryd.prog.wideKeysFrom ·))) = true := by kernel_rfl
theorem q18_ : (Rows.fnLedgersSpec.vars.all (Tryd.prog.varReadable ·)) = true := by kernel_rfl
theorem q19_ : (Tryd.f3.resultTypes.all (fun t => Tryd.prog.readableRec t && decide (t < Tryd.prog.types.size))) = true := by kernel_rfl
theorem q20_ : ((Rows.fnLedgersRow.ifacesOut == Tryd.f3.resultTypes.toList.any (Tryd.prog.ifacesRec ·))) = true := by kernel_rfl
theorem q21_ : ((Rows.fnLedgersRow.loopsOut == Tryd.f3.resultTypes.toList.any (Tryd.prog.loopsFrom ·))) = true := by kernel_rfl
theorem q22_ : ((Rows.fnLedgersRow.plainKeys == Tryd.prog.plainKeys)) = true := by kernel_rfl
theorem q23_ : (Rows.fnLedgersRow.shortTexts.isNone) = true := by kernel_rfl
theorem q24_ : (Tryd.prog.stopsHeard) = true := x24_
theorem q25_ : (Tryd.prog.mayEnter) = true := x25_
theorem q26_ : ((Rows.fnLedgersRow.lifted == Tryd.prog.liftsFinal)) = true := by kernel_rfl
theorem q27_ : ((Tryd.prog.make == some Rows.fnLedgersRow.make)) = true := by kernel_rfl
theorem q28_ : ((Rows.fnLedgersRow.kinds == (if Rows.fnLedgersRow.domain.isEmpty then [] else Tryd.f3.params.toList.map fun t => match Tryd.prog.underlying t with | some (.int k) => some k | _ => none))) = true := by kernel_rfl
theorem q29_ : ((Rows.fnLedgersRow.pinned == Rows.fnLedgersRow.pinnedBy)) = true := by kernel_rfl
theorem q30_ : ((Rows.fnLedgersRow.veiled == (Tryd.f3.params.toList ++ Rows.fnLedgersSpec.plain.varTypes Tryd.prog ++ Tryd.f3.resultTypes.toList).any (Tryd.prog.veiledRec ·))) = true := by kernel_rfl
theorem q31_ : (Rows.fnLedgersRow.veiledFits Tryd.prog Tryd.f3.params.toList (Tryd.f3.params.toList ++ Rows.fnLedgersSpec.plain.varTypes Tryd.prog ++ Tryd.f3.resultTypes.toList)) = true := by kernel_rfl
set_option maxRecDepth 100000 in
theorem closed_ : joinedFacts Tryd.prog 3 Tryd.f3 Rows.fnLedgersSpec Rows.fnLedgersRow = true := (and_f (and_f (and_f (and_f (and_f (and_f (and_f (and_f (and_f (and_f (and_f (and_f (and_f (and_f (and_f (and_f (and_f (and_f (and_f (and_f (and_f (and_f (and_f (and_f (and_f (and_f (and_f (and_f (and_f (and_f (and_f q0_ q1_) q2_) q3_) q4_) q5_) q6_) q7_) q8_) q9_) q10_) q11_) q12_) q13_) q14_) q15_) q16_) q17_) q18_) q19_) q20_) q21_) q22_) q23_) q24_) q25_) q26_) q27_) q28_) q29_) q30_) q31_)
theorem named_ : Tryd.prog.funcNamed "loop.example/g00369/laws.FnLedgers" = some 3 := by kernel_rfl
theorem inst_ : Tryd.f3.isInstance Tryd.prog Rows.fnLedgersRow.origin Rows.fnLedgersRow.targs := of_decide_eq_true (by kernel_rfl)
theorem wrap_ : Tryd.f3.isWrapper Tryd.prog Rows.fnLedgersRow.wrapper Rows.fnLedgersRow.mainSum := by unfold Func.isWrapper; first | (rw [if_pos (by decide +kernel)]; kernel_rfl) | (rw [if_neg (by decide +kernel)]; exact ⟨rfl, rfl⟩)
theorem byText_ : Rows.fnLedgersRow.wfByText (OpenSpec.ofChange Rows.fnLedgersSpec) = true := by kernel_rfl
theorem goes_ : false = Rows.fnLedgersRow.goesBy Tryd.prog := by kernel_rfl
theorem stand_ : (Tryd.f3.params.toList.all fun u => !Tryd.prog.wantsStandIn u) = true := by kernel_rfl
end Go.Proofs.YtkbdneigeghbaaaDoor
