/- Closed facts of the row of FnSafe. -/
import Derived.Test.YtjlecnhninhmnaaGreatDoorRows
import Derived.Test.YtjlecnhninhmnaaGreatDoorCards
import Derived.Test.YtjlecnhninhmnaaGreatDoorTie
import Derived.Test.YtjlecnhninhmnaaGreatDoorX
import Derived.ProofKit
import Derived.OpenShut
import Derived.LaidMore
import Derived.Lay
import Derived.SevenTiedAt
import Derived.Stop.Joined
namespace Go.Proofs.YtjlecnhninhmnaaGreatDoor
open Go Go.RowKit
set_option linter.unusedVariables false
theorem Tryz.own : ownKnob Tryz.prog.godebug = none := by kernel_rfl
theorem Tryz.laidOut : laidOutB Tryz.prog = true := by kernel_rfl
theorem x2_ : mapsRowed Tryz.prog = true := by kernel_rfl
theorem x6_ : (Tryz.prog.stops == []) = true := by kernel_rfl
theorem x8_ : (Tryz.prog.stopKnobs == []) = true := by kernel_rfl
theorem x24_ : Tryz.prog.stopsHeard = true := by kernel_rfl
theorem x25_ : Tryz.prog.mayEnter = true := by kernel_rfl
theorem jY : Tryz.prog.mainIs = some (Rows.fnSafeCard.stood.harness.1, Rows.fnSafeCard.stood.harness.2.toList) := by kernel_rfl
theorem eW : false = Tryz.prog.looks [] := by kernel_rfl
theorem Ci {a b : Bool} (h : a = true) (k : b = true) : (a && b) = true := by rw [h, k]; rfl
theorem q0_ : (Rows.fnSafeRow.wf (OpenSpec.ofChange Rows.fnSafeSpec)) = true := by kernel_rfl
theorem q1_ : (laidOutB Tryz.prog) = true := Tryz.laidOut
theorem q2_ : (mapsRowed Tryz.prog) = true := x2_
theorem q3_ : (Tryz.f4.params.all (Tryz.prog.readableRec ·)) = true := by kernel_rfl
theorem q4_ : (namedTie Tryz.prog Rows.fnSafeRow.named Rows.fnSafeSpec.vars) = true := by kernel_rfl
theorem q5_ : ((Rows.fnSafeRow.stops == [])) = true := by kernel_rfl
theorem q6_ : ((Tryz.prog.stops == [])) = true := x6_
theorem q7_ : ((Rows.fnSafeRow.knobs == [])) = true := by kernel_rfl
theorem q8_ : ((Tryz.prog.stopKnobs == [])) = true := x8_
theorem q9_ : ((Rows.fnSafeRow.inPlace == Tryz.prog.inPlace 4)) = true := by kernel_rfl
theorem q10_ : ((Rows.fnSafeRow.unfollowed == Tryz.prog.unfollowed 4)) = true := by kernel_rfl
theorem q11_ : ((Rows.fnSafeRow.recurses == Tryz.prog.recurses 4)) = true := by kernel_rfl
theorem q12_ : ((Rows.fnSafeRow.named == Tryz.prog.varsNamed 4)) = true := by kernel_rfl
theorem q13_ : ((Rows.fnSafeRow.maps == (Tryz.f4.params.toList ++ Rows.fnSafeSpec.plain.varTypes Tryz.prog).any (Tryz.prog.mapsRec ·))) = true := by kernel_rfl
theorem q14_ : ((Rows.fnSafeRow.ifaces == (Tryz.f4.params.toList ++ Rows.fnSafeSpec.plain.varTypes Tryz.prog).any (Tryz.prog.ifacesRec ·))) = true := by kernel_rfl
theorem q15_ : ((Rows.fnSafeRow.mapsOut == Tryz.prog.mapsAmong Tryz.f4.resultTypes.toList)) = true := by kernel_rfl
theorem q16_ : ((Rows.fnSafeRow.loops == (Tryz.f4.params.toList ++ Rows.fnSafeSpec.plain.varTypes Tryz.prog).any (Tryz.prog.loopsFrom ·))) = true := by kernel_rfl
theorem q17_ : ((Rows.fnSafeRow.wideKeys == (Tryz.f4.params.toList ++ Rows.fnSafeSpec.plain.varTypes Tryz.prog ++ Tryz.f4.resultTypes.toList).any (Tryz.prog.wideKeysFrom ·))) = true := by kernel_rfl
theorem q18_ : (Rows.fnSafeSpec.vars.all (Tryz.prog.varReadable ·)) = true := by kernel_rfl
theorem q19_ : (Tryz.f4.resultTypes.all (fun t => Tryz.prog.readableRec t && decide (t < Tryz.prog.types.size))) = true := by kernel_rfl
theorem q20_ : ((Rows.fnSafeRow.ifacesOut == Tryz.f4.resultTypes.toList.any (Tryz.prog.ifacesRec ·))) = true := by kernel_rfl
theorem q21_ : ((Rows.fnSafeRow.loopsOut == Tryz.f4.resultTypes.toList.any (Tryz.prog.loopsFrom ·))) = true := by kernel_rfl
theorem q22_ : ((Rows.fnSafeRow.plainKeys == Tryz.prog.plainKeys)) = true := by kernel_rfl
theorem q23_ : (Rows.fnSafeRow.shortTexts.isNone) = true := by kernel_rfl
theorem q24_ : (Tryz.prog.stopsHeard) = true := x24_
theorem q25_ : (Tryz.prog.mayEnter) = true := x25_
theorem q26_ : ((Rows.fnSafeRow.lifted == Tryz.prog.liftsFinal)) = true := by kernel_rfl
theorem q27_ : ((Tryz.prog.make == some Rows.fnSafeRow.make)) = true := by kernel_rfl
theorem q28_ : ((Rows.fnSafeRow.kinds == (if Rows.fnSafeRow.domain.isEmpty then [] else Tryz.f4.params.toList.map fun t => match Tryz.prog.underlying t with | some (.int k) => some k | _ => none))) = true := by kernel_rfl
theorem q29_ : ((Rows.fnSafeRow.pinned == Rows.fnSafeRow.pinnedBy)) = true := by kernel_rfl
theorem q30_ : ((Rows.fnSafeRow.veiled == (Tryz.f4.params.toList ++ Rows.fnSafeSpec.plain.varTypes Tryz.prog ++ Tryz.f4.resultTypes.toList).any (Tryz.prog.veiledRec ·))) = true := by kernel_rfl
theorem q31_ : (Rows.fnSafeRow.veiledFits Tryz.prog Tryz.f4.params.toList (Tryz.f4.params.toList ++ Rows.fnSafeSpec.plain.varTypes Tryz.prog ++ Tryz.f4.resultTypes.toList)) = true := by kernel_rfl
set_option maxRecDepth 100000 in
theorem ZG : joinedFacts Tryz.prog 4 Tryz.f4 Rows.fnSafeSpec Rows.fnSafeRow = true := (Ci (Ci (Ci (Ci (Ci (Ci (Ci (Ci (Ci (Ci (Ci (Ci (Ci (Ci (Ci (Ci (Ci (Ci (Ci (Ci (Ci (Ci (Ci (Ci (Ci (Ci (Ci (Ci (Ci (Ci (Ci q0_ q1_) q2_) q3_) q4_) q5_) q6_) q7_) q8_) q9_) q10_) q11_) q12_) q13_) q14_) q15_) q16_) q17_) q18_) q19_) q20_) q21_) q22_) q23_) q24_) q25_) q26_) q27_) q28_) q29_) q30_) q31_)
theorem W8 : Tryz.prog.funcNamed "loop.example/g00369/laws.FnSafe" = some 4 := by kernel_rfl
theorem j9 : Tryz.f4.isInstance Tryz.prog Rows.fnSafeRow.origin Rows.fnSafeRow.targs := of_decide_eq_true (by kernel_rfl)
theorem gQ : Tryz.f4.isWrapper Tryz.prog Rows.fnSafeRow.wrapper Rows.fnSafeRow.mainSum := by unfold Func.isWrapper; first | (rw [if_pos (by decide +kernel)]; kernel_rfl) | (rw [if_neg (by decide +kernel)]; exact ⟨rfl, rfl⟩)
theorem ZL : Rows.fnSafeRow.wfByText (OpenSpec.ofChange Rows.fnSafeSpec) = true := by kernel_rfl
theorem lN : false = Rows.fnSafeRow.goesBy Tryz.prog := by kernel_rfl
theorem dL : (Tryz.f4.params.toList.all fun u => !Tryz.prog.wantsStandIn u) = true := by kernel_rfl
end Go.Proofs.YtjlecnhninhmnaaGreatDoor
