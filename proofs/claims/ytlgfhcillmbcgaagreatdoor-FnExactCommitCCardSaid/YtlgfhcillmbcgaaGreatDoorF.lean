/- Closed facts of the row of FnExactCommitC. -/
import Derived.Test.YtlgfhcillmbcgaaGreatDoorRows
import Derived.Test.YtlgfhcillmbcgaaGreatDoorCards
import Derived.Test.YtlgfhcillmbcgaaGreatDoorTie
import Derived.Test.YtlgfhcillmbcgaaGreatDoorX
import Derived.ProofKit
import Derived.OpenShut
import Derived.LaidMore
import Derived.Lay
import Derived.SevenTiedAt
import Derived.Stop.Joined
namespace Go.Proofs.YtlgfhcillmbcgaaGreatDoor
open Go Go.RowKit
set_option linter.unusedVariables false
theorem Tryz.own : ownKnob Tryz.prog.godebug = none := by kernel_rfl
theorem Tryz.laidOut : laidOutB Tryz.prog = true := by kernel_rfl
theorem x2_ : mapsRowed Tryz.prog = true := by kernel_rfl
theorem x6_ : (Tryz.prog.stops == []) = true := by kernel_rfl
theorem x8_ : (Tryz.prog.stopKnobs == []) = true := by kernel_rfl
theorem x24_ : Tryz.prog.stopsHeard = true := by kernel_rfl
theorem x25_ : Tryz.prog.mayEnter = true := by kernel_rfl
theorem main_ : Tryz.prog.mainIs = some (Rows.fnExactCommitCCard.stood.harness.1, Rows.fnExactCommitCCard.stood.harness.2.toList) := by kernel_rfl
theorem looks_ : false = Tryz.prog.looks [] := by kernel_rfl
theorem and_f {a b : Bool} (h : a = true) (k : b = true) : (a && b) = true := by rw [h, k]; rfl
theorem q0_ : (Rows.fnExactCommitCRow.wf (OpenSpec.ofChange Rows.fnExactCommitCSpec)) = true := by kernel_rfl
theorem q1_ : (laidOutB Tryz.prog) = true := Tryz.laidOut
theorem q2_ : (mapsRowed Tryz.prog) = true := x2_
theorem q3_ : (Tryz.f9.params.all (Tryz.prog.readableRec ·)) = true := by kernel_rfl
theorem q4_ : (namedTie Tryz.prog Rows.fnExactCommitCRow.named Rows.fnExactCommitCSpec.vars) = true := by kernel_rfl
theorem q5_ : ((Rows.fnExactCommitCRow.stops == [])) = true := by kernel_rfl
theorem q6_ : ((Tryz.prog.stops == [])) = true := x6_
theorem q7_ : ((Rows.fnExactCommitCRow.knobs == [])) = true := by kernel_rfl
theorem q8_ : ((Tryz.prog.stopKnobs == [])) = true := x8_
theorem q9_ : ((Rows.fnExactCommitCRow.inPlace == Tryz.prog.inPlace 9)) = true := by kernel_rfl
theorem q10_ : ((Rows.fnExactCommitCRow.unfollowed == Tryz.prog.unfollowed 9)) = true := by kernel_rfl
theorem q11_ : ((Rows.fnExactCommitCRow.recurses == Tryz.prog.recurses 9)) = true := by kernel_rfl
theorem q12_ : ((Rows.fnExactCommitCRow.named == Tryz.prog.varsNamed 9)) = true := by kernel_rfl
theorem q13_ : ((Rows.fnExactCommitCRow.maps == (Tryz.f9.params.toList ++ Rows.fnExactCommitCSpec.plain.varTypes Tryz.prog).any (Tryz.prog.mapsRec ·))) = true := by kernel_rfl
theorem q14_ : ((Rows.fnExactCommitCRow.ifaces == (Tryz.f9.params.toList ++ Rows.fnExactCommitCSpec.plain.varTypes Tryz.prog).any (Tryz.prog.ifacesRec ·))) = true := by kernel_rfl
theorem q15_ : ((Rows.fnExactCommitCRow.mapsOut == Tryz.prog.mapsAmong Tryz.f9.resultTypes.toList)) = true := by kernel_rfl
theorem q16_ : ((Rows.fnExactCommitCRow.loops == (Tryz.f9.params.toList ++ Rows.fnExactCommitCSpec.plain.varTypes Tryz.prog).any (Tryz.prog.loopsFrom ·))) = true := by kernel_rfl
theorem q17_ : ((Rows.fnExactCommitCRow.wideKeys == (Tryz.f9.params.toList ++ Rows.fnExactCommitCSpec.plain.varTypes Tryz.prog ++ Tryz.f9.resultTypes.toList).any (Tryz.prog.wideKeysFrom ·))) = true := by kernel_rfl
theorem q18_ : (Rows.fnExactCommitCSpec.vars.all (Tryz.prog.varReadable ·)) = true := by kernel_rfl
theorem q19_ : (Tryz.f9.resultTypes.all (fun t => Tryz.prog.readableRec t && decide (t < Tryz.prog.types.size))) = true := by kernel_rfl
theorem q20_ : ((Rows.fnExactCommitCRow.ifacesOut == Tryz.f9.resultTypes.toList.any (Tryz.prog.ifacesRec ·))) = true := by kernel_rfl
theorem q21_ : ((Rows.fnExactCommitCRow.loopsOut == Tryz.f9.resultTypes.toList.any (Tryz.prog.loopsFrom ·))) = true := by kernel_rfl
theorem q22_ : ((Rows.fnExactCommitCRow.plainKeys == Tryz.prog.plainKeys)) = true := by kernel_rfl
theorem q23_ : (Rows.fnExactCommitCRow.shortTexts.isNone) = true := by kernel_rfl
theorem q24_ : (Tryz.prog.stopsHeard) = true := x24_
theorem q25_ : (Tryz.prog.mayEnter) = true := x25_
theorem q26_ : ((Rows.fnExactCommitCRow.lifted == Tryz.prog.liftsFinal)) = true := by kernel_rfl
theorem q27_ : ((Tryz.prog.make == some Rows.fnExactCommitCRow.make)) = true := by kernel_rfl
theorem q28_ : ((Rows.fnExactCommitCRow.kinds == (if Rows.fnExactCommitCRow.domain.isEmpty then [] else Tryz.f9.params.toList.map fun t => match Tryz.prog.underlying t with | some (.int k) => some k | _ => none))) = true := by kernel_rfl
theorem q29_ : ((Rows.fnExactCommitCRow.pinned == Rows.fnExactCommitCRow.pinnedBy)) = true := by kernel_rfl
theorem q30_ : ((Rows.fnExactCommitCRow.veiled == (Tryz.f9.params.toList ++ Rows.fnExactCommitCSpec.plain.varTypes Tryz.prog ++ Tryz.f9.resultTypes.toList).any (Tryz.prog.veiledRec ·))) = true := by kernel_rfl
theorem q31_ : (Rows.fnExactCommitCRow.veiledFits Tryz.prog Tryz.f9.params.toList (Tryz.f9.params.toList ++ Rows.fnExactCommitCSpec.plain.varTypes Tryz.prog ++ Tryz.f9.resultTypes.toList)) = true := by kernel_rfl
set_option maxRecDepth 100000 in
theorem closed_ : joinedFacts Tryz.prog 9 Tryz.f9 Rows.fnExactCommitCSpec Rows.fnExactCommitCRow = true := (and_f (and_f (and_f (and_f (and_f (and_f (and_f (and_f (and_f (and_f (and_f (and_f (and_f (and_f (and_f (and_f (and_f (and_f (and_f (and_f (and_f (and_f (and_f (and_f (and_f (and_f (and_f (and_f (and_f (and_f (and_f q0_ q1_) q2_) q3_) q4_) q5_) q6_) q7_) q8_) q9_) q10_) q11_) q12_) q13_) q14_) q15_) q16_) q17_) q18_) q19_) q20_) q21_) q22_) q23_) q24_) q25_) q26_) q27_) q28_) q29_) q30_) q31_)
theorem named_ : Tryz.prog.funcNamed "loop.example/g00369/laws.FnExactCommitC" = some 9 := by kernel_rfl
theorem inst_ : Tryz.f9.isInstance Tryz.prog Rows.fnExactCommitCRow.origin Rows.fnExactCommitCRow.targs := of_decide_eq_true (by kernel_rfl)
theorem wrap_ : Tryz.f9.isWrapper Tryz.prog Rows.fnExactCommitCRow.wrapper Rows.fnExactCommitCRow.mainSum := by unfold Func.isWrapper; first | (rw [if_pos (by decide +kernel)]; kernel_rfl) | (rw [if_neg (by decide +kernel)]; exact ⟨rfl, rfl⟩)
theorem byText_ : Rows.fnExactCommitCRow.wfByText (OpenSpec.ofChange Rows.fnExactCommitCSpec) = true := by kernel_rfl
theorem goes_ : false = Rows.fnExactCommitCRow.goesBy Tryz.prog := by kernel_rfl
theorem stand_ : (Tryz.f9.params.toList.all fun u => !Tryz.prog.wantsStandIn u) = true := by kernel_rfl
end Go.Proofs.YtlgfhcillmbcgaaGreatDoor
