/- Closed facts of the row of FnExactLagC. -/
import Derived.Test.YtgjplfeejfeioaaGreatDoorRows
import Derived.Test.YtgjplfeejfeioaaGreatDoorCards
import Derived.Test.YtgjplfeejfeioaaGreatDoorTie
import Derived.Test.YtgjplfeejfeioaaGreatDoorX
import Derived.ProofKit
import Derived.OpenShut
import Derived.LaidMore
import Derived.Lay
import Derived.SevenTiedAt
import Derived.Stop.Joined
namespace Go.Proofs.YtgjplfeejfeioaaGreatDoor
open Go Go.RowKit
set_option linter.unusedVariables false
theorem q0_ : (Rows.fnExactLagCRow.wf (OpenSpec.ofChange Rows.fnExactLagCSpec)) = true := by kernel_rfl
theorem q1_ : (laidOutB Tryz.prog) = true := Tryz.laidOut
theorem q2_ : (mapsRowed Tryz.prog) = true := x2_
theorem q3_ : (Tryz.f7.params.all (Tryz.prog.readableRec ·)) = true := by kernel_rfl
theorem q4_ : (namedTie Tryz.prog Rows.fnExactLagCRow.named Rows.fnExactLagCSpec.vars) = true := by kernel_rfl
theorem q5_ : ((Rows.fnExactLagCRow.stops == [])) = true := by kernel_rfl
theorem q6_ : ((Tryz.prog.stops == [])) = true := x6_
theorem q7_ : ((Rows.fnExactLagCRow.knobs == [])) = true := by kernel_rfl
theorem q8_ : ((Tryz.prog.stopKnobs == [])) = true := x8_
theorem q9_ : ((Rows.fnExactLagCRow.inPlace == Tryz.prog.inPlace 7)) = true := by kernel_rfl
theorem q10_ : ((Rows.fnExactLagCRow.unfollowed == Tryz.prog.unfollowed 7)) = true := by kernel_rfl
theorem q11_ : ((Rows.fnExactLagCRow.recurses == Tryz.prog.recurses 7)) = true := by kernel_rfl
theorem q12_ : ((Rows.fnExactLagCRow.named == Tryz.prog.varsNamed 7)) = true := by kernel_rfl
theorem q13_ : ((Rows.fnExactLagCRow.maps == (Tryz.f7.params.toList ++ Rows.fnExactLagCSpec.plain.varTypes Tryz.prog).any (Tryz.prog.mapsRec ·))) = true := by kernel_rfl
theorem q14_ : ((Rows.fnExactLagCRow.ifaces == (Tryz.f7.params.toList ++ Rows.fnExactLagCSpec.plain.varTypes Tryz.prog).any (Tryz.prog.ifacesRec ·))) = true := by kernel_rfl
theorem q15_ : ((Rows.fnExactLagCRow.mapsOut == Tryz.prog.mapsAmong Tryz.f7.resultTypes.toList)) = true := by kernel_rfl
theorem q16_ : ((Rows.fnExactLagCRow.loops == (Tryz.f7.params.toList ++ Rows.fnExactLagCSpec.plain.varTypes Tryz.prog).any (Tryz.prog.loopsFrom ·))) = true := by kernel_rfl
theorem q17_ : ((Rows.fnExactLagCRow.wideKeys == (Tryz.f7.params.toList ++ Rows.fnExactLagCSpec.plain.varTypes Tryz.prog ++ Tryz.f7.resultTypes.toList).any (Tryz.prog.wideKeysFrom ·))) = true := by kernel_rfl
theorem q18_ : (Rows.fnExactLagCSpec.vars.all (Tryz.prog.varReadable ·)) = true := by kernel_rfl
theorem q19_ : (Tryz.f7.resultTypes.all (fun t => Tryz.prog.readableRec t && decide (t < Tryz.prog.types.size))) = true := by kernel_rfl
theorem q20_ : ((Rows.fnExactLagCRow.ifacesOut == Tryz.f7.resultTypes.toList.any (Tryz.prog.ifacesRec ·))) = true := by kernel_rfl
theorem q21_ : ((Rows.fnExactLagCRow.loopsOut == Tryz.f7.resultTypes.toList.any (Tryz.prog.loopsFrom ·))) = true := by kernel_rfl
theorem q22_ : ((Rows.fnExactLagCRow.plainKeys == Tryz.prog.plainKeys)) = true := by kernel_rfl
theorem q23_ : (Rows.fnExactLagCRow.shortTexts.isNone) = true := by kernel_rfl
theorem q24_ : (Tryz.prog.stopsHeard) = true := x24_
theorem q25_ : (Tryz.prog.mayEnter) = true := x25_
theorem q26_ : ((Rows.fnExactLagCRow.lifted == Tryz.prog.liftsFinal)) = true := by kernel_rfl
theorem q27_ : ((Tryz.prog.make == some Rows.fnExactLagCRow.make)) = true := by kernel_rfl
theorem q28_ : ((Rows.fnExactLagCRow.kinds == (if Rows.fnExactLagCRow.domain.isEmpty then [] else Tryz.f7.params.toList.map fun t => match Tryz.prog.underlying t with | some (.int k) => some k | _ => none))) = true := by kernel_rfl
theorem q29_ : ((Rows.fnExactLagCRow.pinned == Rows.fnExactLagCRow.pinnedBy)) = true := by kernel_rfl
theorem q30_ : ((Rows.fnExactLagCRow.veiled == (Tryz.f7.params.toList ++ Rows.fnExactLagCSpec.plain.varTypes Tryz.prog ++ Tryz.f7.resultTypes.toList).any (Tryz.prog.veiledRec ·))) = true := by kernel_rfl
theorem q31_ : (Rows.fnExactLagCRow.veiledFits Tryz.prog Tryz.f7.params.toList (Tryz.f7.params.toList ++ Rows.fnExactLagCSpec.plain.varTypes Tryz.prog ++ Tryz.f7.resultTypes.toList)) = true := by kernel_rfl
set_option maxRecDepth 100000 in
theorem closed_ : joinedFacts Tryz.prog 7 Tryz.f7 Rows.fnExactLagCSpec Rows.fnExactLagCRow = true := (and_f (and_f (and_f (and_f (and_f (and_f (and_f (and_f (and_f (and_f (and_f (and_f (and_f (and_f (and_f (and_f (and_f (and_f (and_f (and_f (and_f (and_f (and_f (and_f (and_f (and_f (and_f (and_f (and_f (and_f (and_f q0_ q1_) q2_) q3_) q4_) q5_) q6_) q7_) q8_) q9_) q10_) q11_) q12_) q13_) q14_) q15_) q16_) q17_) q18_) q19_) q20_) q21_) q22_) q23_) q24_) q25_) q26_) q27_) q28_) q29_) q30_) q31_)
theorem named_ : Tryz.prog.funcNamed "loop.example/g00369/laws.FnExactLagC" = some 7 := by kernel_rfl
theorem inst_ : Tryz.f7.isInstance Tryz.prog Rows.fnExactLagCRow.origin Rows.fnExactLagCRow.targs := of_decide_eq_true (by kernel_rfl)
theorem wrap_ : Tryz.f7.isWrapper Tryz.prog Rows.fnExactLagCRow.wrapper Rows.fnExactLagCRow.mainSum := by unfold Func.isWrapper; first | (rw [if_pos (by decide +kernel)]; kernel_rfl) | (rw [if_neg (by decide +kernel)]; exact ⟨rfl, rfl⟩)
theorem byText_ : Rows.fnExactLagCRow.wfByText (OpenSpec.ofChange Rows.fnExactLagCSpec) = true := by kernel_rfl
theorem goes_ : false = Rows.fnExactLagCRow.goesBy Tryz.prog := by kernel_rfl
theorem stand_ : (Tryz.f7.params.toList.all fun u => !Tryz.prog.wantsStandIn u) = true := by kernel_rfl
end Go.Proofs.YtgjplfeejfeioaaGreatDoor
