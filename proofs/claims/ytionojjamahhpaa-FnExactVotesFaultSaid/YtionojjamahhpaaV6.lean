/- FnExactVotesFault answers true at every input and leaves its arguments as they were. Conditions: none beyond the row's. -/
import Derived.Test.YtionojjamahhpaaRows
import Derived.Test.YtionojjamahhpaaV6a
namespace Go.Proofs.Ytionojjamahhpaa
open Go Go.Rf Go.ChangeShapes Go.WideShapes Go.ChangeAt Go.RowKit

theorem Try.own : ownKnob Try.prog.godebug = none := by kernel_rfl
theorem Try.laidOut : laidOutB Try.prog = true := by kernel_rfl
theorem namesOk : NamesOk Try.prog := by
  have h : (Try.prog.funcs.all fun fn => !(fn.name == "runtime.NumGoroutine")) = true := by kernel_rfl
  intro g fn hg
  have := Array.all_eq_true_iff_forall_mem.1 h fn (Array.mem_of_getElem? hg)
  simpa using this
theorem extOk (N g0 : Nat) (G : World → Prop) : ExtOk (cfg N) g0 G := fun f e h => by cases h
set_option maxRecDepth 100000 in
theorem votesFault_lifted (os : Os) (started : os.Started) (H : Type) (enc : TypeId × Value → H) :
    ReturnsInHanded {} Try.checked os 3 .any (Rows.fnExactVotesFaultSpec.pre6 enc Try.prog Try.f3 Rows.fnExactVotesFaultRow.domain false) (Rows.fnExactVotesFaultSpec.post enc Try.prog Try.f3 false true false false) := by
  refine returnsInHanded_of_change (C := Try.checked) Try.own started (by kernel_rfl) Try.func3
    (ChangeSpec.witness6 (enc := enc) (C := Try.checked) false ⟨#[], #[.int .i64 0, .slice none 0 0], []⟩ 8 (by kernel_rfl) (by kernel_rfl) (by kernel_rfl) (by kernel_rfl)) ?_
  intro W base args ds gs before hval hW _ _
  refine law_contract (C := cfg (maxLen + 1)) (n := 6) (bt := 4) (by kernel_rfl) namesOk Try.laidOut (fun t ht => ?_) (fun t ht => ?_) (by kernel_rfl) (by kernel_rfl) rfl (fun gs' hg hl => ?_) hval hW (extOk _ _ _) (fun as_ has => ?_)
  · have h : (Try.f3.params.toList.all fun t => Try.prog.readableRec t && decide (t < Try.prog.types.size)) = true := by kernel_rfl
    have := List.all_eq_true.1 h t ht
    rw [Bool.and_eq_true, decide_eq_true_eq] at this
    exact this
  · have h : (Try.f3.params.toList.all fun t => okT Try.prog 6 t) = true := by kernel_rfl
    exact List.all_eq_true.1 h t ht
  · subst hg
    match ds, hl with
    | [d1, d2], _ => rfl
  · have hp : Try.f3.params.toList = [2, 22] := rfl
    rw [hp] at has
    obtain ⟨a, r, rfl, h1, b, r', rfl, h2, rfl⟩ := has
    have h1' : WT Try.prog 6 2 [a] := by
      have h1 : WP Try.prog 6 2 a := h1
      unfold WP at h1; rw [u2] at h1; exact h1
    have h2' : WT Try.prog 6 22 [b] := by
      have h2 : WP Try.prog 6 22 b := h2
      unfold WP at h2; rw [u22] at h2; exact h2
    obtain ⟨z, hz, _⟩ := WT_int u2 h1'
    obtain ⟨xs, hxs, hl⟩ := wtVotes h2'
    injection hz with hz
    injection hxs with hxs
    subst hz; subst hxs
    obtain ⟨S1, hS⟩ := r3 (N := maxLen + 1) (d := 8) (Nat.le_refl _) z false false xs (by simp [maxLen]) hl
    unfold R at hS
    exact ⟨8, S1, hS⟩

theorem votesFault_holds : Rows.FnExactVotesFaultSaid :=
  OpenClaim.holds_of_wide 3 Try.f3 rfl rfl rfl rfl rfl rfl rfl ⟨rfl, rfl, rfl, rfl, rfl⟩ rfl rfl rfl rfl rfl (by kernel_rfl) Try.func3 (by kernel_rfl)
    (of_decide_eq_true (by kernel_rfl)) (by unfold Func.isWrapper; first | (rw [if_pos (by decide +kernel)]; kernel_rfl) | (rw [if_neg (by decide +kernel)]; exact ⟨rfl, rfl⟩))
    (fun os started H enc _ => votesFault_lifted os started H enc)
end Go.Proofs.Ytionojjamahhpaa
