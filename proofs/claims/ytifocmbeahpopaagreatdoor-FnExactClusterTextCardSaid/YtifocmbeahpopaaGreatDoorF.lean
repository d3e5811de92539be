/- Closed facts of the row of FnExactClusterText. -/
import Derived.Test.YtifocmbeahpopaaGreatDoorRows
import Derived.Test.YtifocmbeahpopaaGreatDoorCards
import Derived.Test.YtifocmbeahpopaaGreatDoorTie
import Derived.Test.YtifocmbeahpopaaGreatDoorX
import Derived.ProofKit
import Derived.OpenShut
import Derived.LaidMore
import Derived.Lay
import Derived.SevenTiedAt
import Derived.Stop.Joined
namespace Go.Proofs.YtifocmbeahpopaaGreatDoor
open Go Go.RowKit
set_option linter.unusedVariables false
theorem Tryz.own : ownKnob Tryz.prog.godebug = none := by kernel_rfl
theorem Tryz.laidOut : laidOutB Tryz.prog = true := by kernel_rfl
theorem x2_ : mapsRowed Tryz.prog = true := by kernel_rfl
theorem x6_ : (Tryz.prog.stops == []) = true := by kernel_rfl
theorem x8_ : (Tryz.prog.stopKnobs == []) = true := by kernel_rfl
theorem x24_ : Tryz.prog.stopsHeard = true := by kernel_rfl
theorem x25_ : Tryz.prog.mayEnter = true := by kernel_rfl
theorem main_ : Tryz.prog.mainIs = some (Rows.fnExactClusterTextCard.stood.harness.1, Rows.fnExactClusterTextCard.stood.harness.2.toList) := by kernel_rfl
theorem looks_ : false = Tryz.prog.looks [] := by kernel_rfl
theorem and_f {a b : Bool} (h : a = true) (k : b = true) : (a && b) = true := by rw [h, k]; rfl
theorem q0_ : (Rows.fnExactClusterTextRow.wf (OpenSpec.ofChange Rows.fnExactClusterTextSpec)) = true := by kernel_rfl
theorem q1_ : (laidOutB Tryz.prog) = true := Tryz.laidOut
theorem q2_ : (mapsRowed Tryz.prog) = true := x2_
theorem q3_ : (Tryz.f3.params.all (Tryz.prog.readableRec ·)) = true := by kernel_rfl
theorem q4_ : (namedTie Tryz.prog Rows.fnExactClusterTextRow.named Rows.fnExactClusterTextSpec.vars) = true := by kernel_rfl
theorem q5_ : ((Rows.fnExactClusterTextRow.stops == [])) = true := by kernel_rfl
theorem q6_ : ((Tryz.prog.stops == [])) = true := x6_
theorem q7_ : ((Rows.fnExactClusterTextRow.knobs == [])) = true := by kernel_rfl
theorem q8_ : ((Tryz.prog.stopKnobs == [])) = true := x8_
theorem q9_ : ((Rows.fnExactClusterTextRow.inPlace == Tryz.prog.inPlace 3)) = true := by kernel_rfl
theorem q10_ : ((Rows.fnExactClusterTextRow.unfollowed == Tryz.prog.unfollowed 3)) = true := by kernel_rfl
theorem q11_ : ((Rows.fnExactClusterTextRow.recurses == Tryz.prog.recurses 3)) = true := by kernel_rfl
theorem q12_ : ((Rows.fnExactClusterTextRow.named == Tryz.prog.varsNamed 3)) = true := by kernel_rfl
theorem q13_ : ((Rows.fnExactClusterTextRow.maps == (Tryz.f3.params.toList ++ Rows.fnExactClusterTextSpec.plain.varTypes Tryz.prog).any (Tryz.prog.mapsRec ·))) = true := by kernel_rfl
theorem q14_ : ((Rows.fnExactClusterTextRow.ifaces == (Tryz.f3.params.toList ++ Rows.fnExactClusterTextSpec.plain.varTypes Tryz.prog).any (Tryz.prog.ifacesRec ·))) = true := by kernel_rfl
theorem q15_ : ((Rows.fnExactClusterTextRow.mapsOut == Tryz.prog.mapsAmong Tryz.f3.resultTypes.toList)) = true := by kernel_rfl
theorem q16_ : ((Rows.fnExactClusterTextRow.loops == (Tryz.f3.params.toList ++ Rows.fnExactClusterTextSpec.plain.varTypes Tryz.prog).any (Tryz.prog.loopsFrom ·))) = true := by kernel_rfl
theorem q17_ : ((Rows.fnExactClusterTextRow.wideKeys == (Tryz.f3.params.toList ++ Rows.fnExactClusterTextSpec.plain.varTypes Tryz.prog ++ Tryz.f3.resultTypes.toList).any (Tryz.prog.wideKeysFrom ·))) = true := by kernel_rfl
theorem q18_ : (Rows.fnExactClusterTextSpec.vars.all (Tryz.prog.varReadable ·)) = true := by kernel_rfl
theorem q19_ : (Tryz.f3.resultTypes.all (fun t => Tryz.prog.readableRec t && decide (t < Tryz.prog.types.size))) = true := by kernel_rfl
theorem q20_ : ((Rows.fnExactClusterTextRow.ifacesOut == Tryz.f3.resultTypes.toList.any (Tryz.prog.ifacesRec ·))) = true := by kernel_rfl
theorem q21_ : ((Rows.fnExactClusterTextRow.loopsOut == Tryz.f3.resultTypes.toList.any (Tryz.prog.loopsFrom ·))) = true := by kernel_rfl
theorem q22_ : ((Rows.fnExactClusterTextRow.plainKeys == Tryz.prog.plainKeys)) = true := by kernel_rfl
theorem q23_ : (Rows.fnExactClusterTextRow.shortTexts.isNone) = true := by kernel_rfl
theorem q24_ : (Tryz.prog.stopsHeard) = true := x24_
theorem q25_ : (Tryz.prog.mayEnter) = true := x25_
theorem q26_ : ((Rows.fnExactClusterTextRow.lifted == Tryz.prog.liftsFinal)) = true := by kernel_rfl
theorem q27_ : ((Tryz.prog.make == some Rows.fnExactClusterTextRow.make)) = true := by kernel_rfl
theorem q28_ : ((Rows.fnExactClusterTextRow.kinds == (if Rows.fnExactClusterTextRow.domain.isEmpty then [] else Tryz.f3.params.toList.map fun t => match Tryz.prog.underlying t with | some (.int k) => some k | _ => none))) = true := by kernel_rfl
theorem q29_ : ((Rows.fnExactClusterTextRow.pinned == Rows.fnExactClusterTextRow.pinnedBy)) = true := by kernel_rfl
theorem q30_ : ((Rows.fnExactClusterTextRow.veiled == (Tryz.f3.params.toList ++ Rows.fnExactClusterTextSpec.plain.varTypes Tryz.prog ++ Tryz.f3.resultTypes.toList).any (Tryz.prog.veiledRec ·))) = true := by kernel_rfl
theorem q31_ : (Rows.fnExactClusterTextRow.veiledFits Tryz.prog Tryz.f3.params.toList (Tryz.f3.params.toList ++ Rows.fnExactClusterTextSpec.plain.varTypes Tryz.prog ++ Tryz.f3.resultTypes.toList)) = true := by kernel_rfl
set_option maxRecDepth 100000 in
theorem closed_ : joinedFacts Tryz.prog 3 Tryz.f3 Rows.fnExactClusterTextSpec Rows.fnExactClusterTextRow = true := (and_f (and_f (and_f (and_f (and_f (and_f (and_f (and_f (and_f (and_f (and_f (and_f (and_f (and_f (and_f (and_f (and_f (and_f (and_f (and_f (and_f (and_f (and_f (and_f (and_f (and_f (and_f (and_f (and_f (and_f (and_f q0_ q1_) q2_) q3_) q4_) q5_) q6_) q7_) q8_) q9_) q10_) q11_) q12_) q13_) q14_) q15_) q16_) q17_) q18_) q19_) q20_) q21_) q22_) q23_) q24_) q25_) q26_) q27_) q28_) q29_) q30_) q31_)
theorem named_ : Tryz.prog.funcNamed "loop.example/g00369/laws.FnExactClusterText" = some 3 := by kernel_rfl
theorem inst_ : Tryz.f3.isInstance Tryz.prog Rows.fnExactClusterTextRow.origin Rows.fnExactClusterTextRow.targs := of_decide_eq_true (by kernel_rfl)
theorem wrap_ : Tryz.f3.isWrapper Tryz.prog Rows.fnExactClusterTextRow.wrapper Rows.fnExactClusterTextRow.mainSum := by unfold Func.isWrapper; first | (rw [if_pos (by decide +kernel)]; kernel_rfl) | (rw [if_neg (by decide +kernel)]; exact ⟨rfl, rfl⟩)
theorem byText_ : Rows.fnExactClusterTextRow.wfByText (OpenSpec.ofChange Rows.fnExactClusterTextSpec) = true := by kernel_rfl
theorem goes_ : false = Rows.fnExactClusterTextRow.goesBy Tryz.prog := by kernel_rfl
theorem stand_ : (Tryz.f3.params.toList.all fun u => !Tryz.prog.wantsStandIn u) = true := by kernel_rfl
end Go.Proofs.YtifocmbeahpopaaGreatDoor
