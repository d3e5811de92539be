/- FnExactNewCluster answers true at every input and leaves its arguments as they were. Conditions: none beyond the row's. -/
import Derived.Test.YtodfmofjncmdfaaLaw
import Derived.Test.YtodfmofjncmdfaaRows
import Derived.Test.YtodfmofjncmdfaaChecked
import Derived.Test.YtodfmofjncmdfaaRf22
namespace Go.Proofs.Ytodfmofjncmdfaa
open Go Go.Rf Go.ChangeShapes Go.WideShapes Go.ChangeAt Go.RowKit
set_option linter.unusedVariables false
theorem Try.own : ownKnob Try.prog.godebug = none := by kernel_rfl
theorem Try.laidOut : laidOutB Try.prog = true := by kernel_rfl
theorem namesOk : NamesOk Try.prog := by
 have h : (Try.prog.funcs.all fun fn => !(fn.name == "runtime.NumGoroutine")) = true := by kernel_rfl
 intro g fn hg
 have := Array.all_eq_true_iff_forall_mem.1 h fn (Array.mem_of_getElem? hg)
 simpa using this
theorem extOk (N g0 : Nat) (G : World → Prop) : ExtOk (cfg N) g0 G := fun f e h => by cases h
theorem uI : Try.prog.underlying 2 = some (.int .i64) := by kernel_rfl
theorem uLI : Try.prog.underlying 24 = some (.slice 2) := by kernel_rfl
set_option maxRecDepth 100000 in
theorem wtInts {n : Nat} {avs : List AV} (h : WT Try.prog (n + 2) 24 avs) : ∃ xs : List Int, avs = [.rsl false false (xs.map (Enc.cs false))] ∧ xs.length ≤ maxLen := by
 obtain ⟨es, rfl, hl, hes⟩ := WT_slice uLI h
 obtain ⟨xs, rfl⟩ := list_enc (enc := fun x : Int => Enc.cs false x) es fun x hx => by
  obtain ⟨z, rfl, _⟩ := WT_int uI (hes x hx)
  exact ⟨z, rfl⟩
 exact ⟨xs, rfl, by simpa using hl⟩
set_option maxRecDepth 100000 in
theorem wpInt {n : Nat} {a : AV} (h : WP Try.prog (n + 1) 2 a) : ∃ z, a = .int .i64 z := by
 unfold WP at h; rw [uI] at h
 obtain ⟨z, hz, _⟩ := WT_int uI h
 injection hz with hz
 exact ⟨z, hz⟩
set_option maxRecDepth 100000 in
theorem wpints {n : Nat} {a : AV} (h : WP Try.prog (n + 2) 24 a) : ∃ xs : List Int, a = .rsl false false (xs.map (Enc.cs false)) ∧ xs.length ≤ maxLen := by
 unfold WP at h; rw [uLI] at h
 obtain ⟨xs, hx, hp⟩ := wtInts h
 injection hx with hx
 exact ⟨xs, hx, hp⟩
set_option maxRecDepth 100000 in
theorem lifted (os : Os) (started : os.Started) (H : Type) (enc : TypeId × Value → H) :
  ReturnsInHanded {} Try.checked os 4 .any (Rows.fnExactNewClusterSpec.pre6 enc Try.prog Try.f4 Rows.fnExactNewClusterRow.domain false) (Rows.fnExactNewClusterSpec.post enc Try.prog Try.f4 false true false false) := by
 refine returnsInHanded_of_change (C := Try.checked) Try.own started (by kernel_rfl) Try.func4
  (ChangeSpec.witness6 (enc := enc) (C := Try.checked) false ⟨#[], #[.int .i64 0, .slice none 0 0], []⟩ 8 (by kernel_rfl) (by kernel_rfl) (by kernel_rfl) (by kernel_rfl)) ?_
 intro W base args ds gs before hval hW _ _
 refine law_contract (C := cfg NN) (n := 8) (bt := 4) (by kernel_rfl) namesOk Try.laidOut (fun t ht => ?_) (fun t ht => ?_) (by kernel_rfl) (by kernel_rfl) rfl (fun gs' hg hl => ?_) hval hW (extOk _ _ _) (fun as_ has => ?_)
 ·have h : (Try.f4.params.toList.all fun t => Try.prog.readableRec t && decide (t < Try.prog.types.size)) = true := by kernel_rfl
  have := List.all_eq_true.1 h t ht
  rw [Bool.and_eq_true, decide_eq_true_eq] at this
  exact this
 ·have h : (Try.f4.params.toList.all fun t => okT Try.prog 8 t) = true := by kernel_rfl
  exact List.all_eq_true.1 h t ht
 ·subst hg
  match ds, hl with
  | [d0, d1], _ => rfl
 ·have hp : Try.f4.params.toList = [2, 24] := rfl
  rw [hp] at has
  obtain ⟨a0, r0, rfl, h0, a1, r1, rfl, h1, rfl⟩ := has
  obtain ⟨x0, rfl⟩ := wpInt (n := 7) h0
  obtain ⟨x1, rfl, g1⟩ := wpints (n := 6) h1
  obtain ⟨⟨v, S1⟩, hS, hv⟩ := w4 (d := 400) (by decide) x0 false x1 true (newCluster_law x0 x1)
  have hv := fzr_bool hv
  subst hv
  unfold R at hS
  exact ⟨400, S1, hS⟩
theorem fnExactNewCluster_holds : Rows.FnExactNewClusterSaid :=
 OpenClaim.holds_of_wide 4 Try.f4 rfl rfl rfl rfl rfl rfl rfl ⟨rfl, rfl, rfl, rfl, rfl⟩ rfl rfl rfl rfl rfl (by kernel_rfl) Try.func4 (by kernel_rfl)
  (of_decide_eq_true (by kernel_rfl)) (by unfold Func.isWrapper; first | (rw [if_pos (by decide +kernel)]; kernel_rfl) | (rw [if_neg (by decide +kernel)]; exact ⟨rfl, rfl⟩))
  (fun os started H enc _ => lifted os started H enc)
end Go.Proofs.Ytodfmofjncmdfaa
