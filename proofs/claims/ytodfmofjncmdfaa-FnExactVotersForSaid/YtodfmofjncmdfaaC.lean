/- FnExactVotersFor answers true at every input and leaves its arguments as they were. Conditions: none beyond the row's. -/
import Derived.Test.YtodfmofjncmdfaaLaw
import Derived.Test.YtodfmofjncmdfaaRows
import Derived.Test.YtodfmofjncmdfaaChecked
import Derived.Test.YtodfmofjncmdfaaRf22
namespace Go.Proofs.Ytodfmofjncmdfaa
open Go Go.Rf Go.ChangeShapes Go.WideShapes Go.ChangeAt Go.RowKit
theorem Try.own : ownKnob Try.prog.godebug = none := by kernel_rfl
theorem Try.laidOut : laidOutB Try.prog = true := by kernel_rfl
theorem namesOk : NamesOk Try.prog := by
 have h : (Try.prog.funcs.all fun fn => !(fn.name == "runtime.NumGoroutine")) = true := by kernel_rfl
 intro g fn hg
 have := Array.all_eq_true_iff_forall_mem.1 h fn (Array.mem_of_getElem? hg)
 simpa using this
theorem extOk (N g0 : Nat) (G : World → Prop) : ExtOk (cfg N) g0 G := fun f e h => by cases h
theorem u2 : Try.prog.underlying 2 = some (.int .i64) := by kernel_rfl
theorem u9 : Try.prog.underlying 9 = some .string := by kernel_rfl
theorem u22 : Try.prog.underlying 58 = some (.slice 99) := by kernel_rfl
theorem u71 : structT Try.prog 60 = some [2, 2, 9] := by kernel_rfl
theorem u83 : structT Try.prog 99 = some [2, 60] := by kernel_rfl
theorem WP_struct {P : Program} {n : Nat} {t : TypeId} {ts : List TypeId} {a : AV} (hs : structT P t = some ts) (h : WP P n t a) : ∃ cs, a = .agg cs ∧ WT P n t cs := by
 unfold structT at hs
 unfold WP at h
 split at hs <;> try (cases hs; done)
 rename_i fs hu
 rw [hu] at h
 exact h
theorem str_enc (s : ByteArray) : ∃ l : Str, AV.str s = encS l := ⟨s.data.toList, by cases s; simp [encS]⟩
set_option maxRecDepth 100000 in
theorem wtReply {n : Nat} {avs : List AV} (h : WT Try.prog (n + 2) 60 avs) : ∃ x : TReply, avs = Enc.cs false x := by
 obtain ⟨x1, r1, rfl, h1, x2, r2, rfl, h2, x3, r3, rfl, h3, rfl⟩ := WT_struct u71 h
 obtain ⟨a, rfl, _⟩ := WT_int u2 h1
 obtain ⟨b, rfl, _⟩ := WT_int u2 h2
 obtain ⟨s, rfl, _⟩ := WT_string u9 h3
 obtain ⟨l, hl⟩ := str_enc s
 rw [hl]
 exact ⟨⟨a, b, l⟩, rfl⟩
set_option maxRecDepth 100000 in
theorem wtVote {n : Nat} {avs : List AV} (h : WT Try.prog (n + 3) 99 avs) : ∃ x : TVote, avs = Enc.cs false x := by
 obtain ⟨x1, r1, rfl, h1, x2, r2, rfl, h2, rfl⟩ := WT_struct u83 h
 obtain ⟨v, rfl, _⟩ := WT_int u2 h1
 obtain ⟨r, rfl⟩ := wtReply h2
 exact ⟨⟨v, r⟩, rfl⟩
set_option maxRecDepth 100000 in
theorem wtVotes {n : Nat} {avs : List AV} (h : WT Try.prog (n + 4) 58 avs) : ∃ xs : List TVote, avs = [.rsl false false (xs.map (Enc.cs false))] ∧ xs.length ≤ maxLen := by
 obtain ⟨es, rfl, hl, hes⟩ := WT_slice u22 h
 obtain ⟨xs, rfl⟩ := list_enc (enc := fun x : TVote => Enc.cs false x) es fun x hx => wtVote (hes x hx)
 exact ⟨xs, rfl, by simpa using hl⟩
set_option maxRecDepth 100000 in
theorem votersFor_lifted (os : Os) (started : os.Started) (H : Type) (enc : TypeId × Value → H) :
  ReturnsInHanded {} Try.checked os 5 .any (Rows.fnExactVotersForSpec.pre6 enc Try.prog Try.f5 Rows.fnExactVotersForRow.domain false) (Rows.fnExactVotersForSpec.post enc Try.prog Try.f5 false true false false) := by
 refine returnsInHanded_of_change (C := Try.checked) Try.own started (by kernel_rfl) Try.func5
  (ChangeSpec.witness6 (enc := enc) (C := Try.checked) false ⟨#[], #[.int .i64 0, .slice none 0 0, .agg #[.int .i64 0, .int .i64 0, .string ⟨#[]⟩]], []⟩ 8 (by kernel_rfl) (by kernel_rfl) (by kernel_rfl) (by kernel_rfl)) ?_
 intro W base args ds gs before hval hW _ _
 refine law_contract (C := cfg NN) (n := 6) (bt := 4) (by kernel_rfl) namesOk Try.laidOut (fun t ht => ?_) (fun t ht => ?_) (by kernel_rfl) (by kernel_rfl) rfl (fun gs' hg hl => ?_) hval hW (extOk _ _ _) (fun as_ has => ?_)
 ·have h : (Try.f5.params.toList.all fun t => Try.prog.readableRec t && decide (t < Try.prog.types.size)) = true := by kernel_rfl
  have := List.all_eq_true.1 h t ht
  rw [Bool.and_eq_true, decide_eq_true_eq] at this
  exact this
 ·have h : (Try.f5.params.toList.all fun t => okT Try.prog 6 t) = true := by kernel_rfl
  exact List.all_eq_true.1 h t ht
 ·subst hg
  match ds, hl with
  | [d1, d2, d3], _ => rfl
 ·have hp : Try.f5.params.toList = [2, 58, 60] := rfl
  rw [hp] at has
  obtain ⟨a, r, rfl, h1, b, r', rfl, h2, c, r'', rfl, h3, rfl⟩ := has
  have h1' : WT Try.prog 6 2 [a] := by
   have h1 : WP Try.prog 6 2 a := h1
   unfold WP at h1; rw [u2] at h1; exact h1
  have h2' : WT Try.prog 6 58 [b] := by
   have h2 : WP Try.prog 6 58 b := h2
   unfold WP at h2; rw [u22] at h2; exact h2
  obtain ⟨z, hz, _⟩ := WT_int u2 h1'
  obtain ⟨xs, hxs, hl⟩ := wtVotes h2'
  injection hz with hz
  injection hxs with hxs
  subst hz; subst hxs
  obtain ⟨cs3, rfl, h3'⟩ := WP_struct u71 h3
  obtain ⟨q, rfl⟩ := wtReply (n := 4) h3'
  obtain ⟨⟨v, S1⟩, hS, hv⟩ := w5 (d := 200) (by decide) z false xs false q true (votersFor_law z xs q (by unfold maxLen at hl; omega))
  have hv := fzr_bool hv
  subst hv
  unfold R at hS
  exact ⟨200, S1, hS⟩
theorem votersFor_holds : Rows.FnExactVotersForSaid :=
 OpenClaim.holds_of_wide 5 Try.f5 rfl rfl rfl rfl rfl rfl rfl ⟨rfl, rfl, rfl, rfl, rfl⟩ rfl rfl rfl rfl rfl (by kernel_rfl) Try.func5 (by kernel_rfl)
  (of_decide_eq_true (by kernel_rfl)) (by unfold Func.isWrapper; first | (rw [if_pos (by decide +kernel)]; kernel_rfl) | (rw [if_neg (by decide +kernel)]; exact ⟨rfl, rfl⟩))
  (fun os started H enc _ => votersFor_lifted os started H enc)
end Go.Proofs.Ytodfmofjncmdfaa
