/- Closed facts of the row of FnExactClusterFault. -/
import Derived.Test.YtgjplfeejfeioaaGreatDoorRows
import Derived.Test.YtgjplfeejfeioaaGreatDoorCards
import Derived.Test.YtgjplfeejfeioaaGreatDoorTie
import Derived.Test.YtgjplfeejfeioaaGreatDoorX
import Derived.ProofKit
import Derived.OpenShut
import Derived.LaidMore
import Derived.Lay
import Derived.SevenTiedAt
import Derived.Stop.Joined
namespace Go.Proofs.YtgjplfeejfeioaaGreatDoor
open Go Go.RowKit
set_option linter.unusedVariables false
theorem q0_ : (Rows.fnExactClusterFaultRow.wf (OpenSpec.ofChange Rows.fnExactClusterFaultSpec)) = true := by kernel_rfl
theorem q1_ : (laidOutB Tryz.prog) = true := Tryz.laidOut
theorem q2_ : (mapsRowed Tryz.prog) = true := x2_
theorem q3_ : (Tryz.f3.params.all (Tryz.prog.readableRec ·)) = true := by kernel_rfl
theorem q4_ : (namedTie Tryz.prog Rows.fnExactClusterFaultRow.named Rows.fnExactClusterFaultSpec.vars) = true := by kernel_rfl
theorem q5_ : ((Rows.fnExactClusterFaultRow.stops == [])) = true := by kernel_rfl
theorem q6_ : ((Tryz.prog.stops == [])) = true := x6_
theorem q7_ : ((Rows.fnExactClusterFaultRow.knobs == [])) = true := by kernel_rfl
theorem q8_ : ((Tryz.prog.stopKnobs == [])) = true := x8_
theorem q9_ : ((Rows.fnExactClusterFaultRow.inPlace == Tryz.prog.inPlace 3)) = true := by kernel_rfl
theorem q10_ : ((Rows.fnExactClusterFaultRow.unfollowed == Tryz.prog.unfollowed 3)) = true := by kernel_rfl
theorem q11_ : ((Rows.fnExactClusterFaultRow.recurses == Tryz.prog.recurses 3)) = true := by kernel_rfl
theorem q12_ : ((Rows.fnExactClusterFaultRow.named == Tryz.prog.varsNamed 3)) = true := by kernel_rfl
theorem q13_ : ((Rows.fnExactClusterFaultRow.maps == (Tryz.f3.params.toList ++ Rows.fnExactClusterFaultSpec.plain.varTypes Tryz.prog).any (Tryz.prog.mapsRec ·))) = true := by kernel_rfl
theorem q14_ : ((Rows.fnExactClusterFaultRow.ifaces == (Tryz.f3.params.toList ++ Rows.fnExactClusterFaultSpec.plain.varTypes Tryz.prog).any (Tryz.prog.ifacesRec ·))) = true := by kernel_rfl
theorem q15_ : ((Rows.fnExactClusterFaultRow.mapsOut == Tryz.prog.mapsAmong Tryz.f3.resultTypes.toList)) = true := by kernel_rfl
theorem q16_ : ((Rows.fnExactClusterFaultRow.loops == (Tryz.f3.params.toList ++ Rows.fnExactClusterFaultSpec.plain.varTypes Tryz.prog).any (Tryz.prog.loopsFrom ·))) = true := by kernel_rfl
theorem q17_ : ((Rows.fnExactClusterFaultRow.wideKeys == (Tryz.f3.params.toList ++ Rows.fnExactClusterFaultSpec.plain.varTypes Tryz.prog ++ Tryz.f3.resultTypes.toList).any (Tryz.prog.wideKeysFrom ·))) = true := by kernel_rfl
theorem q18_ : (Rows.fnExactClusterFaultSpec.vars.all (Tryz.prog.varReadable ·)) = true := by kernel_rfl
theorem q19_ : (Tryz.f3.resultTypes.all (fun t => Tryz.prog.readableRec t && decide (t < Tryz.prog.types.size))) = true := by kernel_rfl
theorem q20_ : ((Rows.fnExactClusterFaultRow.ifacesOut == Tryz.f3.resultTypes.toList.any (Tryz.prog.ifacesRec ·))) = true := by kernel_rfl
theorem q21_ : ((Rows.fnExactClusterFaultRow.loopsOut == Tryz.f3.resultTypes.toList.any (Tryz.prog.loopsFrom ·))) = true := by kernel_rfl
theorem q22_ : ((Rows.fnExactClusterFaultRow.plainKeys == Tryz.prog.plainKeys)) = true := by kernel_rfl
theorem q23_ : (Rows.fnExactClusterFaultRow.shortTexts.isNone) = true := by kernel_rfl
theorem q24_ : (Tryz.prog.stopsHeard) = true := x24_
theorem q25_ : (Tryz.prog.mayEnter) = true := x25_
theorem q26_ : ((Rows.fnExactClusterFaultRow.lifted == Tryz.prog.liftsFinal)) = true := by kernel_rfl
theorem q27_ : ((Tryz.prog.make == some Rows.fnExactClusterFaultRow.make)) = true := by kernel_rfl
theorem q28_ : ((Rows.fnExactClusterFaultRow.kinds == (if Rows.fnExactClusterFaultRow.domain.isEmpty then [] else Tryz.f3.params.toList.map fun t => match Tryz.prog.underlying t with | some (.int k) => some k | _ => none))) = true := by kernel_rfl
theorem q29_ : ((Rows.fnExactClusterFaultRow.pinned == Rows.fnExactClusterFaultRow.pinnedBy)) = true := by kernel_rfl
theorem q30_ : ((Rows.fnExactClusterFaultRow.veiled == (Tryz.f3.params.toList ++ Rows.fnExactClusterFaultSpec.plain.varTypes Tryz.prog ++ Tryz.f3.resultTypes.toList).any (Tryz.prog.veiledRec ·))) = true := by kernel_rfl
theorem q31_ : (Rows.fnExactClusterFaultRow.veiledFits Tryz.prog Tryz.f3.params.toList (Tryz.f3.params.toList ++ Rows.fnExactClusterFaultSpec.plain.varTypes Tryz.prog ++ Tryz.f3.resultTypes.toList)) = true := by kernel_rfl
set_option maxRecDepth 100000 in
theorem closed_ : joinedFacts Tryz.prog 3 Tryz.f3 Rows.fnExactClusterFaultSpec Rows.fnExactClusterFaultRow = true := (and_f (and_f (and_f (and_f (and_f (and_f (and_f (and_f (and_f (and_f (and_f (and_f (and_f (and_f (and_f (and_f (and_f (and_f (and_f (and_f (and_f (and_f (and_f (and_f (and_f (and_f (and_f (and_f (and_f (and_f (and_f q0_ q1_) q2_) q3_) q4_) q5_) q6_) q7_) q8_) q9_) q10_) q11_) q12_) q13_) q14_) q15_) q16_) q17_) q18_) q19_) q20_) q21_) q22_) q23_) q24_) q25_) q26_) q27_) q28_) q29_) q30_) q31_)
theorem named_ : Tryz.prog.funcNamed "loop.example/g00369/laws.FnExactClusterFault" = some 3 := by kernel_rfl
theorem inst_ : Tryz.f3.isInstance Tryz.prog Rows.fnExactClusterFaultRow.origin Rows.fnExactClusterFaultRow.targs := of_decide_eq_true (by kernel_rfl)
theorem wrap_ : Tryz.f3.isWrapper Tryz.prog Rows.fnExactClusterFaultRow.wrapper Rows.fnExactClusterFaultRow.mainSum := by unfold Func.isWrapper; first | (rw [if_pos (by decide +kernel)]; kernel_rfl) | (rw [if_neg (by decide +kernel)]; exact ⟨rfl, rfl⟩)
theorem byText_ : Rows.fnExactClusterFaultRow.wfByText (OpenSpec.ofChange Rows.fnExactClusterFaultSpec) = true := by kernel_rfl
theorem goes_ : false = Rows.fnExactClusterFaultRow.goesBy Tryz.prog := by kernel_rfl
theorem stand_ : (Tryz.f3.params.toList.all fun u => !Tryz.prog.wantsStandIn u) = true := by kernel_rfl
end Go.Proofs.YtgjplfeejfeioaaGreatDoor
