/- Closed facts of the row of FnHonest. -/
import Derived.Test.YtjlecnhninhmnaaGreatDoorRows
import Derived.Test.YtjlecnhninhmnaaGreatDoorCards
import Derived.Test.YtjlecnhninhmnaaGreatDoorTie
import Derived.Test.YtjlecnhninhmnaaGreatDoorX
import Derived.ProofKit
import Derived.OpenShut
import Derived.LaidMore
import Derived.Lay
import Derived.SevenTiedAt
import Derived.Stop.Joined
namespace Go.Proofs.YtjlecnhninhmnaaGreatDoor
open Go Go.RowKit
set_option linter.unusedVariables false
theorem Tryz.own : ownKnob Tryz.prog.godebug = none := by kernel_rfl
theorem Tryz.laidOut : laidOutB Tryz.prog = true := by kernel_rfl
theorem x2_ : mapsRowed Tryz.prog = true := by kernel_rfl
theorem x6_ : (Tryz.prog.stops == []) = true := by kernel_rfl
theorem x8_ : (Tryz.prog.stopKnobs == []) = true := by kernel_rfl
theorem x24_ : Tryz.prog.stopsHeard = true := by kernel_rfl
theorem x25_ : Tryz.prog.mayEnter = true := by kernel_rfl
theorem jG : Tryz.prog.mainIs = some (Rows.fnHonestCard.stood.harness.1, Rows.fnHonestCard.stood.harness.2.toList) := by kernel_rfl
theorem eG : false = Tryz.prog.looks [] := by kernel_rfl
theorem Cj {a b : Bool} (h : a = true) (k : b = true) : (a && b) = true := by rw [h, k]; rfl
theorem q0_ : (Rows.fnHonestRow.wf (OpenSpec.ofChange Rows.fnHonestSpec)) = true := by kernel_rfl
theorem q1_ : (laidOutB Tryz.prog) = true := Tryz.laidOut
theorem q2_ : (mapsRowed Tryz.prog) = true := x2_
theorem q3_ : (Tryz.f3.params.all (Tryz.prog.readableRec ·)) = true := by kernel_rfl
theorem q4_ : (namedTie Tryz.prog Rows.fnHonestRow.named Rows.fnHonestSpec.vars) = true := by kernel_rfl
theorem q5_ : ((Rows.fnHonestRow.stops == [])) = true := by kernel_rfl
theorem q6_ : ((Tryz.prog.stops == [])) = true := x6_
theorem q7_ : ((Rows.fnHonestRow.knobs == [])) = true := by kernel_rfl
theorem q8_ : ((Tryz.prog.stopKnobs == [])) = true := x8_
theorem q9_ : ((Rows.fnHonestRow.inPlace == Tryz.prog.inPlace 3)) = true := by kernel_rfl
theorem q10_ : ((Rows.fnHonestRow.unfollowed == Tryz.prog.unfollowed 3)) = true := by kernel_rfl
theorem q11_ : ((Rows.fnHonestRow.recurses == Tryz.prog.recurses 3)) = true := by kernel_rfl
theorem q12_ : ((Rows.fnHonestRow.named == Tryz.prog.varsNamed 3)) = true := by kernel_rfl
theorem q13_ : ((Rows.fnHonestRow.maps == (Tryz.f3.params.toList ++ Rows.fnHonestSpec.plain.varTypes Tryz.prog).any (Tryz.prog.mapsRec ·))) = true := by kernel_rfl
theorem q14_ : ((Rows.fnHonestRow.ifaces == (Tryz.f3.params.toList ++ Rows.fnHonestSpec.plain.varTypes Tryz.prog).any (Tryz.prog.ifacesRec ·))) = true := by kernel_rfl
theorem q15_ : ((Rows.fnHonestRow.mapsOut == Tryz.prog.mapsAmong Tryz.f3.resultTypes.toList)) = true := by kernel_rfl
theorem q16_ : ((Rows.fnHonestRow.loops == (Tryz.f3.params.toList ++ Rows.fnHonestSpec.plain.varTypes Tryz.prog).any (Tryz.prog.loopsFrom ·))) = true := by kernel_rfl
theorem q17_ : ((Rows.fnHonestRow.wideKeys == (Tryz.f3.params.toList ++ Rows.fnHonestSpec.plain.varTypes Tryz.prog ++ Tryz.f3.resultTypes.toList).any (Tryz.prog.wideKeysFrom ·))) = true := by kernel_rfl
theorem q18_ : (Rows.fnHonestSpec.vars.all (Tryz.prog.varReadable ·)) = true := by kernel_rfl
theorem q19_ : (Tryz.f3.resultTypes.all (fun t => Tryz.prog.readableRec t && decide (t < Tryz.prog.types.size))) = true := by kernel_rfl
theorem q20_ : ((Rows.fnHonestRow.ifacesOut == Tryz.f3.resultTypes.toList.any (Tryz.prog.ifacesRec ·))) = true := by kernel_rfl
theorem q21_ : ((Rows.fnHonestRow.loopsOut == Tryz.f3.resultTypes.toList.any (Tryz.prog.loopsFrom ·))) = true := by kernel_rfl
theorem q22_ : ((Rows.fnHonestRow.plainKeys == Tryz.prog.plainKeys)) = true := by kernel_rfl
theorem q23_ : (Rows.fnHonestRow.shortTexts.isNone) = true := by kernel_rfl
theorem q24_ : (Tryz.prog.stopsHeard) = true := x24_
theorem q25_ : (Tryz.prog.mayEnter) = true := x25_
theorem q26_ : ((Rows.fnHonestRow.lifted == Tryz.prog.liftsFinal)) = true := by kernel_rfl
theorem q27_ : ((Tryz.prog.make == some Rows.fnHonestRow.make)) = true := by kernel_rfl
theorem q28_ : ((Rows.fnHonestRow.kinds == (if Rows.fnHonestRow.domain.isEmpty then [] else Tryz.f3.params.toList.map fun t => match Tryz.prog.underlying t with | some (.int k) => some k | _ => none))) = true := by kernel_rfl
theorem q29_ : ((Rows.fnHonestRow.pinned == Rows.fnHonestRow.pinnedBy)) = true := by kernel_rfl
theorem q30_ : ((Rows.fnHonestRow.veiled == (Tryz.f3.params.toList ++ Rows.fnHonestSpec.plain.varTypes Tryz.prog ++ Tryz.f3.resultTypes.toList).any (Tryz.prog.veiledRec ·))) = true := by kernel_rfl
theorem q31_ : (Rows.fnHonestRow.veiledFits Tryz.prog Tryz.f3.params.toList (Tryz.f3.params.toList ++ Rows.fnHonestSpec.plain.varTypes Tryz.prog ++ Tryz.f3.resultTypes.toList)) = true := by kernel_rfl
set_option maxRecDepth 100000 in
theorem Zz : joinedFacts Tryz.prog 3 Tryz.f3 Rows.fnHonestSpec Rows.fnHonestRow = true := (Cj (Cj (Cj (Cj (Cj (Cj (Cj (Cj (Cj (Cj (Cj (Cj (Cj (Cj (Cj (Cj (Cj (Cj (Cj (Cj (Cj (Cj (Cj (Cj (Cj (Cj (Cj (Cj (Cj (Cj (Cj q0_ q1_) q2_) q3_) q4_) q5_) q6_) q7_) q8_) q9_) q10_) q11_) q12_) q13_) q14_) q15_) q16_) q17_) q18_) q19_) q20_) q21_) q22_) q23_) q24_) q25_) q26_) q27_) q28_) q29_) q30_) q31_)
theorem Wn : Tryz.prog.funcNamed "loop.example/g00369/laws.FnHonest" = some 3 := by kernel_rfl
theorem jM : Tryz.f3.isInstance Tryz.prog Rows.fnHonestRow.origin Rows.fnHonestRow.targs := of_decide_eq_true (by kernel_rfl)
theorem fX : Tryz.f3.isWrapper Tryz.prog Rows.fnHonestRow.wrapper Rows.fnHonestRow.mainSum := by unfold Func.isWrapper; first | (rw [if_pos (by decide +kernel)]; kernel_rfl) | (rw [if_neg (by decide +kernel)]; exact ⟨rfl, rfl⟩)
theorem Z6 : Rows.fnHonestRow.wfByText (OpenSpec.ofChange Rows.fnHonestSpec) = true := by kernel_rfl
theorem kX : false = Rows.fnHonestRow.goesBy Tryz.prog := by kernel_rfl
theorem cY : (Tryz.f3.params.toList.all fun u => !Tryz.prog.wantsStandIn u) = true := by kernel_rfl
end Go.Proofs.YtjlecnhninhmnaaGreatDoor
