/- Closed facts of the row of FnAlike. -/
import Derived.Test.YthbiabieiopobaaGreatDoorRows
import Derived.Test.YthbiabieiopobaaGreatDoorCards
import Derived.Test.YthbiabieiopobaaGreatDoorTie
import Derived.Test.YthbiabieiopobaaGreatDoorX
import Derived.ProofKit
import Derived.OpenShut
import Derived.LaidMore
import Derived.Lay
import Derived.SevenTiedAt
import Derived.Stop.Joined
namespace Go.Proofs.YthbiabieiopobaaGreatDoor
open Go Go.RowKit
set_option linter.unusedVariables false
theorem Tryz.own : ownKnob Tryz.prog.godebug = none := by kernel_rfl
theorem Tryz.laidOut : laidOutB Tryz.prog = true := by kernel_rfl
theorem x2_ : mapsRowed Tryz.prog = true := by kernel_rfl
theorem x6_ : (Tryz.prog.stops == []) = true := by kernel_rfl
theorem x8_ : (Tryz.prog.stopKnobs == []) = true := by kernel_rfl
theorem x24_ : Tryz.prog.stopsHeard = true := by kernel_rfl
theorem x25_ : Tryz.prog.mayEnter = true := by kernel_rfl
theorem jW : Tryz.prog.mainIs = some (Rows.fnAlikeCard.stood.harness.1, Rows.fnAlikeCard.stood.harness.2.toList) := by kernel_rfl
theorem eI : false = Tryz.prog.looks [] := by kernel_rfl
theorem C9 {a b : Bool} (h : a = true) (k : b = true) : (a && b) = true := by rw [h, k]; rfl
theorem q0_ : (Rows.fnAlikeRow.wf (OpenSpec.ofChange Rows.fnAlikeSpec)) = true := by kernel_rfl
theorem q1_ : (laidOutB Tryz.prog) = true := Tryz.laidOut
theorem q2_ : (mapsRowed Tryz.prog) = true := x2_
theorem q3_ : (Tryz.f3.params.all (Tryz.prog.readableRec ·)) = true := by kernel_rfl
theorem q4_ : (namedTie Tryz.prog Rows.fnAlikeRow.named Rows.fnAlikeSpec.vars) = true := by kernel_rfl
theorem q5_ : ((Rows.fnAlikeRow.stops == [])) = true := by kernel_rfl
theorem q6_ : ((Tryz.prog.stops == [])) = true := x6_
theorem q7_ : ((Rows.fnAlikeRow.knobs == [])) = true := by kernel_rfl
theorem q8_ : ((Tryz.prog.stopKnobs == [])) = true := x8_
theorem q9_ : ((Rows.fnAlikeRow.inPlace == Tryz.prog.inPlace 3)) = true := by kernel_rfl
theorem q10_ : ((Rows.fnAlikeRow.unfollowed == Tryz.prog.unfollowed 3)) = true := by kernel_rfl
theorem q11_ : ((Rows.fnAlikeRow.recurses == Tryz.prog.recurses 3)) = true := by kernel_rfl
theorem q12_ : ((Rows.fnAlikeRow.named == Tryz.prog.varsNamed 3)) = true := by kernel_rfl
theorem q13_ : ((Rows.fnAlikeRow.maps == (Tryz.f3.params.toList ++ Rows.fnAlikeSpec.plain.varTypes Tryz.prog).any (Tryz.prog.mapsRec ·))) = true := by kernel_rfl
theorem q14_ : ((Rows.fnAlikeRow.ifaces == (Tryz.f3.params.toList ++ Rows.fnAlikeSpec.plain.varTypes Tryz.prog).any (Tryz.prog.ifacesRec ·))) = true := by kernel_rfl
theorem q15_ : ((Rows.fnAlikeRow.mapsOut == Tryz.prog.mapsAmong Tryz.f3.resultTypes.toList)) = true := by kernel_rfl
theorem q16_ : ((Rows.fnAlikeRow.loops == (Tryz.f3.params.toList ++ Rows.fnAlikeSpec.plain.varTypes Tryz.prog).any (Tryz.prog.loopsFrom ·))) = true := by kernel_rfl
theorem q17_ : ((Rows.fnAlikeRow.wideKeys == (Tryz.f3.params.toList ++ Rows.fnAlikeSpec.plain.varTypes Tryz.prog ++ Tryz.f3.resultTypes.toList).any (Tryz.prog.wideKeysFrom ·))) = true := by kernel_rfl
theorem q18_ : (Rows.fnAlikeSpec.vars.all (Tryz.prog.varReadable ·)) = true := by kernel_rfl
theorem q19_ : (Tryz.f3.resultTypes.all (fun t => Tryz.prog.readableRec t && decide (t < Tryz.prog.types.size))) = true := by kernel_rfl
theorem q20_ : ((Rows.fnAlikeRow.ifacesOut == Tryz.f3.resultTypes.toList.any (Tryz.prog.ifacesRec ·))) = true := by kernel_rfl
theorem q21_ : ((Rows.fnAlikeRow.loopsOut == Tryz.f3.resultTypes.toList.any (Tryz.prog.loopsFrom ·))) = true := by kernel_rfl
theorem q22_ : ((Rows.fnAlikeRow.plainKeys == Tryz.prog.plainKeys)) = true := by kernel_rfl
theorem q23_ : (Rows.fnAlikeRow.shortTexts.isNone) = true := by kernel_rfl
theorem q24_ : (Tryz.prog.stopsHeard) = true := x24_
theorem q25_ : (Tryz.prog.mayEnter) = true := x25_
theorem q26_ : ((Rows.fnAlikeRow.lifted == Tryz.prog.liftsFinal)) = true := by kernel_rfl
theorem q27_ : ((Tryz.prog.make == some Rows.fnAlikeRow.make)) = true := by kernel_rfl
theorem q28_ : ((Rows.fnAlikeRow.kinds == (if Rows.fnAlikeRow.domain.isEmpty then [] else Tryz.f3.params.toList.map fun t => match Tryz.prog.underlying t with | some (.int k) => some k | _ => none))) = true := by kernel_rfl
theorem q29_ : ((Rows.fnAlikeRow.pinned == Rows.fnAlikeRow.pinnedBy)) = true := by kernel_rfl
theorem q30_ : ((Rows.fnAlikeRow.veiled == (Tryz.f3.params.toList ++ Rows.fnAlikeSpec.plain.varTypes Tryz.prog ++ Tryz.f3.resultTypes.toList).any (Tryz.prog.veiledRec ·))) = true := by kernel_rfl
theorem q31_ : (Rows.fnAlikeRow.veiledFits Tryz.prog Tryz.f3.params.toList (Tryz.f3.params.toList ++ Rows.fnAlikeSpec.plain.varTypes Tryz.prog ++ Tryz.f3.resultTypes.toList)) = true := by kernel_rfl
set_option maxRecDepth 100000 in
theorem YY : joinedFacts Tryz.prog 3 Tryz.f3 Rows.fnAlikeSpec Rows.fnAlikeRow = true := (C9 (C9 (C9 (C9 (C9 (C9 (C9 (C9 (C9 (C9 (C9 (C9 (C9 (C9 (C9 (C9 (C9 (C9 (C9 (C9 (C9 (C9 (C9 (C9 (C9 (C9 (C9 (C9 (C9 (C9 (C9 q0_ q1_) q2_) q3_) q4_) q5_) q6_) q7_) q8_) q9_) q10_) q11_) q12_) q13_) q14_) q15_) q16_) q17_) q18_) q19_) q20_) q21_) q22_) q23_) q24_) q25_) q26_) q27_) q28_) q29_) q30_) q31_)
theorem VJ : Tryz.prog.funcNamed "loop.example/g00369/laws.FnAlike" = some 3 := by kernel_rfl
theorem j8 : Tryz.f3.isInstance Tryz.prog Rows.fnAlikeRow.origin Rows.fnAlikeRow.targs := of_decide_eq_true (by kernel_rfl)
theorem f9 : Tryz.f3.isWrapper Tryz.prog Rows.fnAlikeRow.wrapper Rows.fnAlikeRow.mainSum := by unfold Func.isWrapper; first | (rw [if_pos (by decide +kernel)]; kernel_rfl) | (rw [if_neg (by decide +kernel)]; exact ⟨rfl, rfl⟩)
theorem Zd : Rows.fnAlikeRow.wfByText (OpenSpec.ofChange Rows.fnAlikeSpec) = true := by kernel_rfl
theorem kA : false = Rows.fnAlikeRow.goesBy Tryz.prog := by kernel_rfl
theorem cD : (Tryz.f3.params.toList.all fun u => !Tryz.prog.wantsStandIn u) = true := by kernel_rfl
end Go.Proofs.YthbiabieiopobaaGreatDoor
