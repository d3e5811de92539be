/- What the library's Count and Index answer; facts of the program alone. -/
import Derived.Test.YtgjplfeejfeioaaGreatDoorChecked
import Derived.Test.YtgjplfeejfeioaaGreatDoorRows
import Derived.Test.YtgjplfeejfeioaaGreatDoorCards
import Derived.Lib.Strings
import Derived.Lib.Slices
import Derived.Lib.Walk
import Derived.Lib.Bytealg
import Derived.ProofKit
import Derived.OpenShut
import Derived.LaidMore
import Derived.Lay
import Derived.SevenTiedAt
import Derived.Stop.Joined
namespace Go.Proofs.YtgjplfeejfeioaaGreatDoor
set_option maxHeartbeats 2000000 in
set_option maxRecDepth 100000 in
theorem cntOne (s : ByteArray) (c : UInt8) (w : World) :
  Calls Tryz.prog 235 #[.string s, .string ⟨#[c]⟩] w fun e w' => e = .returned (.int .i64 (Lib.countByte s.data.toList c)) ∧ w' = w := by
 go_enter Tryz.func235, Tryz.ntmps235
 go_wp2
 rw [run_callFunc_extern Tryz.func263 (by kernel_rfl) (by kernel_rfl) (by kernel_rfl) (e := Extern.BytealgCount.count) (by kernel_rfl), Lib.run_countString]
 simp only [Result.andThen]
 rw [Oper.upon_value]
 go_wp2
 go_ret
 exact ⟨rfl, rfl⟩
set_option maxHeartbeats 2000000 in
set_option maxRecDepth 100000 in
theorem idxByte (s : ByteArray) (c : UInt8) (w : World) :
  Calls Tryz.prog 279 #[.string s, .int .u8 c.toNat] w fun e w' => e = .returned (.int .i64 (Lib.indexByte s.data.toList c)) ∧ w' = w := by
 go_enter Tryz.func279, Tryz.ntmps279
 go_wp2
 rw [run_callFunc_extern Tryz.func289 (by kernel_rfl) (by kernel_rfl) (by kernel_rfl) (e := Extern.BytealgIndexByte.indexByte) (by kernel_rfl), Lib.run_indexByteString]
 simp only [Result.andThen]
 rw [Oper.upon_value]
 go_wp2
 go_ret
 exact ⟨rfl, rfl⟩
set_option maxHeartbeats 2000000 in
set_option maxRecDepth 100000 in
theorem idxLite (s : ByteArray) (c : UInt8) (w : World) :
  Calls Tryz.prog 261 #[.string s, .string ⟨#[c]⟩] w fun e w' => e = .returned (.int .i64 (Lib.indexByte s.data.toList c)) ∧ w' = w := by
 go_enter Tryz.func261, Tryz.ntmps261
 go_wp2_with (go_at_call 279; refine (idxByte _ _ _).mono ?_; rintro e w' ⟨rfl, rfl⟩)
 ·have h : ([c] == s.toList) = true := by assumption
  go_ret
  refine ⟨?_, rfl⟩
  have e : s.data.toList = [c] := by rw [← Lib.toList_data]; exact (beq_iff_eq.1 h).symm
  rw [e]
  simp [Lib.indexByte]
 ·go_ret
  exact ⟨rfl, rfl⟩
set_option maxHeartbeats 2000000 in
theorem idxOne (s : ByteArray) (c : UInt8) (w : World) :
  Calls Tryz.prog 234 #[.string s, .string ⟨#[c]⟩] w fun e w' => e = .returned (.int .i64 (Lib.indexByte s.data.toList c)) ∧ w' = w := by
 go_enter Tryz.func234, Tryz.ntmps234
 go_wp2_with (go_at_call 261; refine (idxLite _ _ _).mono ?_; rintro e w' ⟨rfl, rfl⟩)
 go_ret
 exact ⟨rfl, rfl⟩
open Go Go.RowKit
set_option linter.unusedVariables false
theorem Tryz.own : ownKnob Tryz.prog.godebug = none := by kernel_rfl
theorem Tryz.laidOut : laidOutB Tryz.prog = true := by kernel_rfl
theorem x2_ : mapsRowed Tryz.prog = true := by kernel_rfl
theorem x6_ : (Tryz.prog.stops == []) = true := by kernel_rfl
theorem x8_ : (Tryz.prog.stopKnobs == []) = true := by kernel_rfl
theorem x24_ : Tryz.prog.stopsHeard = true := by kernel_rfl
theorem x25_ : Tryz.prog.mayEnter = true := by kernel_rfl
theorem main_ : Tryz.prog.mainIs = some (Rows.fnExactClusterFaultCard.stood.harness.1, Rows.fnExactClusterFaultCard.stood.harness.2.toList) := by kernel_rfl
theorem looks_ : false = Tryz.prog.looks [] := by kernel_rfl
theorem and_f {a b : Bool} (h : a = true) (k : b = true) : (a && b) = true := by rw [h, k]; rfl
end Go.Proofs.YtgjplfeejfeioaaGreatDoor
