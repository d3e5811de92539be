/- Closed facts of the row of FnExactHonestRight. -/
import Derived.Test.YtgjplfeejfeioaaGreatDoorRows
import Derived.Test.YtgjplfeejfeioaaGreatDoorCards
import Derived.Test.YtgjplfeejfeioaaGreatDoorTie
import Derived.Test.YtgjplfeejfeioaaGreatDoorX
import Derived.ProofKit
import Derived.OpenShut
import Derived.LaidMore
import Derived.Lay
import Derived.SevenTiedAt
import Derived.Stop.Joined
namespace Go.Proofs.YtgjplfeejfeioaaGreatDoor
open Go Go.RowKit
set_option linter.unusedVariables false
theorem q0_ : (Rows.fnExactHonestRightRow.wf (OpenSpec.ofChange Rows.fnExactHonestRightSpec)) = true := by kernel_rfl
theorem q1_ : (laidOutB Tryz.prog) = true := Tryz.laidOut
theorem q2_ : (mapsRowed Tryz.prog) = true := x2_
theorem q3_ : (Tryz.f6.params.all (Tryz.prog.readableRec ·)) = true := by kernel_rfl
theorem q4_ : (namedTie Tryz.prog Rows.fnExactHonestRightRow.named Rows.fnExactHonestRightSpec.vars) = true := by kernel_rfl
theorem q5_ : ((Rows.fnExactHonestRightRow.stops == [])) = true := by kernel_rfl
theorem q6_ : ((Tryz.prog.stops == [])) = true := x6_
theorem q7_ : ((Rows.fnExactHonestRightRow.knobs == [])) = true := by kernel_rfl
theorem q8_ : ((Tryz.prog.stopKnobs == [])) = true := x8_
theorem q9_ : ((Rows.fnExactHonestRightRow.inPlace == Tryz.prog.inPlace 6)) = true := by kernel_rfl
theorem q10_ : ((Rows.fnExactHonestRightRow.unfollowed == Tryz.prog.unfollowed 6)) = true := by kernel_rfl
theorem q11_ : ((Rows.fnExactHonestRightRow.recurses == Tryz.prog.recurses 6)) = true := by kernel_rfl
theorem q12_ : ((Rows.fnExactHonestRightRow.named == Tryz.prog.varsNamed 6)) = true := by kernel_rfl
theorem q13_ : ((Rows.fnExactHonestRightRow.maps == (Tryz.f6.params.toList ++ Rows.fnExactHonestRightSpec.plain.varTypes Tryz.prog).any (Tryz.prog.mapsRec ·))) = true := by kernel_rfl
theorem q14_ : ((Rows.fnExactHonestRightRow.ifaces == (Tryz.f6.params.toList ++ Rows.fnExactHonestRightSpec.plain.varTypes Tryz.prog).any (Tryz.prog.ifacesRec ·))) = true := by kernel_rfl
theorem q15_ : ((Rows.fnExactHonestRightRow.mapsOut == Tryz.prog.mapsAmong Tryz.f6.resultTypes.toList)) = true := by kernel_rfl
theorem q16_ : ((Rows.fnExactHonestRightRow.loops == (Tryz.f6.params.toList ++ Rows.fnExactHonestRightSpec.plain.varTypes Tryz.prog).any (Tryz.prog.loopsFrom ·))) = true := by kernel_rfl
theorem q17_ : ((Rows.fnExactHonestRightRow.wideKeys == (Tryz.f6.params.toList ++ Rows.fnExactHonestRightSpec.plain.varTypes Tryz.prog ++ Tryz.f6.resultTypes.toList).any (Tryz.prog.wideKeysFrom ·))) = true := by kernel_rfl
theorem q18_ : (Rows.fnExactHonestRightSpec.vars.all (Tryz.prog.varReadable ·)) = true := by kernel_rfl
theorem q19_ : (Tryz.f6.resultTypes.all (fun t => Tryz.prog.readableRec t && decide (t < Tryz.prog.types.size))) = true := by kernel_rfl
theorem q20_ : ((Rows.fnExactHonestRightRow.ifacesOut == Tryz.f6.resultTypes.toList.any (Tryz.prog.ifacesRec ·))) = true := by kernel_rfl
theorem q21_ : ((Rows.fnExactHonestRightRow.loopsOut == Tryz.f6.resultTypes.toList.any (Tryz.prog.loopsFrom ·))) = true := by kernel_rfl
theorem q22_ : ((Rows.fnExactHonestRightRow.plainKeys == Tryz.prog.plainKeys)) = true := by kernel_rfl
theorem q23_ : (Rows.fnExactHonestRightRow.shortTexts.isNone) = true := by kernel_rfl
theorem q24_ : (Tryz.prog.stopsHeard) = true := x24_
theorem q25_ : (Tryz.prog.mayEnter) = true := x25_
theorem q26_ : ((Rows.fnExactHonestRightRow.lifted == Tryz.prog.liftsFinal)) = true := by kernel_rfl
theorem q27_ : ((Tryz.prog.make == some Rows.fnExactHonestRightRow.make)) = true := by kernel_rfl
theorem q28_ : ((Rows.fnExactHonestRightRow.kinds == (if Rows.fnExactHonestRightRow.domain.isEmpty then [] else Tryz.f6.params.toList.map fun t => match Tryz.prog.underlying t with | some (.int k) => some k | _ => none))) = true := by kernel_rfl
theorem q29_ : ((Rows.fnExactHonestRightRow.pinned == Rows.fnExactHonestRightRow.pinnedBy)) = true := by kernel_rfl
theorem q30_ : ((Rows.fnExactHonestRightRow.veiled == (Tryz.f6.params.toList ++ Rows.fnExactHonestRightSpec.plain.varTypes Tryz.prog ++ Tryz.f6.resultTypes.toList).any (Tryz.prog.veiledRec ·))) = true := by kernel_rfl
theorem q31_ : (Rows.fnExactHonestRightRow.veiledFits Tryz.prog Tryz.f6.params.toList (Tryz.f6.params.toList ++ Rows.fnExactHonestRightSpec.plain.varTypes Tryz.prog ++ Tryz.f6.resultTypes.toList)) = true := by kernel_rfl
set_option maxRecDepth 100000 in
theorem closed_ : joinedFacts Tryz.prog 6 Tryz.f6 Rows.fnExactHonestRightSpec Rows.fnExactHonestRightRow = true := (and_f (and_f (and_f (and_f (and_f (and_f (and_f (and_f (and_f (and_f (and_f (and_f (and_f (and_f (and_f (and_f (and_f (and_f (and_f (and_f (and_f (and_f (and_f (and_f (and_f (and_f (and_f (and_f (and_f (and_f (and_f q0_ q1_) q2_) q3_) q4_) q5_) q6_) q7_) q8_) q9_) q10_) q11_) q12_) q13_) q14_) q15_) q16_) q17_) q18_) q19_) q20_) q21_) q22_) q23_) q24_) q25_) q26_) q27_) q28_) q29_) q30_) q31_)
theorem named_ : Tryz.prog.funcNamed "loop.example/g00369/laws.FnExactHonestRight" = some 6 := by kernel_rfl
theorem inst_ : Tryz.f6.isInstance Tryz.prog Rows.fnExactHonestRightRow.origin Rows.fnExactHonestRightRow.targs := of_decide_eq_true (by kernel_rfl)
theorem wrap_ : Tryz.f6.isWrapper Tryz.prog Rows.fnExactHonestRightRow.wrapper Rows.fnExactHonestRightRow.mainSum := by unfold Func.isWrapper; first | (rw [if_pos (by decide +kernel)]; kernel_rfl) | (rw [if_neg (by decide +kernel)]; exact ⟨rfl, rfl⟩)
theorem byText_ : Rows.fnExactHonestRightRow.wfByText (OpenSpec.ofChange Rows.fnExactHonestRightSpec) = true := by kernel_rfl
theorem goes_ : false = Rows.fnExactHonestRightRow.goesBy Tryz.prog := by kernel_rfl
theorem stand_ : (Tryz.f6.params.toList.all fun u => !Tryz.prog.wantsStandIn u) = true := by kernel_rfl
end Go.Proofs.YtgjplfeejfeioaaGreatDoor
