/- FnMays answers true at every input and leaves its arguments as they were. Conditions: none beyond the row's. -/
import Derived.Test.YtgjljhchmokhfaaGreatLaw
import Derived.Test.YtgjljhchmokhfaaGreatF
import Derived.Test.YtgjljhchmokhfaaGreatRf22
import Derived.Test.YtgjljhchmokhfaaGreatRh6
import Derived.Test.YtgjljhchmokhfaaGreatPick
import Derived.Test.YtgjljhchmokhfaaGreatRows
import Derived.Test.YtgjljhchmokhfaaGreatChecked
import Derived.ProofKit
import Derived.OpenShut
import Derived.LaidMore
import Derived.Lay
import Derived.SevenTiedAt
import Derived.Stop.Joined
namespace Go.Proofs.YtgjljhchmokhfaaGreat
open Go Go.Rf Go.ChangeShapes Go.WideShapes Go.ChangeAt Go.RowKit
set_option linter.unusedVariables false
theorem TN : BS Tryz.prog := by
 have h : (Tryz.prog.funcs.all fun fn => !(fn.name == "runtime.NumGoroutine")) = true := by kernel_rfl
 intro g fn hg
 have := Array.all_eq_true_iff_forall_mem.1 h fn (Array.mem_of_getElem? hg)
 simpa using this
theorem Xj {W : World} (N : Nat) : Oa (cfg N) W.heap.size (GW W) := fun f e h => by
 have h : (if f = 59 then some FW else none) = some e := h
 by_cases q : f = 59
 ·subst q
  rw [if_pos rfl] at h
  injection h with h
  subst h
  exact fun args S v S1 he X m A w cargs hr ha _ => QG _ args S v S1 he X m A w cargs hr ha
 ·rw [if_neg q] at h
  cases h
theorem uI : Tryz.prog.underlying 2 = some (.int .i64) := by kernel_rfl
theorem uU : Tryz.prog.underlying 5 = some (.int .u8) := by kernel_rfl
theorem uLU : Tryz.prog.underlying 22 = some (.slice 5) := by kernel_rfl
theorem JR {α : Type} {enc : α → List AV} {p : α → Prop} : ∀ (es : List (List AV)), (∀ x ∈ es, ∃ a, x = enc a ∧ p a) → ∃ xs : List α, es = xs.map enc ∧ ∀ a ∈ xs, p a
 | [], _ => ⟨[], rfl, by simp⟩
 | e :: es, h => by
  obtain ⟨a, ha, hp⟩ := h e (by simp)
  obtain ⟨xs, hxs, hq⟩ := JR es fun x hx => h x (by simp [hx])
  exact ⟨a :: xs, by simp [ha, hxs], fun b hb => by
   rcases List.mem_cons.1 hb with rfl | hb
   ·exact hp
   ·exact hq b hb⟩
set_option maxRecDepth 100000 in
theorem Ti {n : Nat} {avs : List AV} (h : WT Tryz.prog (n + 2) 22 avs) : ∃ xs : List U8, avs = [.rsl false false (xs.map (Enc.cs false))] ∧ xs.length ≤ maxLen ∧ ∀ x ∈ xs, 0 ≤ x.v ∧ x.v ≤ 255 := by
 obtain ⟨es, rfl, hl, hes⟩ := SU uLU h
 obtain ⟨xs, rfl, hp⟩ := JR (enc := fun x : U8 => Enc.cs false x) (p := fun x => 0 ≤ x.v ∧ x.v ≤ 255) es fun x hx => by
  obtain ⟨z, rfl, hz⟩ := W1 uU (hes x hx)
  have hz : (decide ((0 : Int) ≤ z) && decide (z ≤ 255)) = true := hz
  rw [Bool.and_eq_true, decide_eq_true_eq, decide_eq_true_eq] at hz
  exact ⟨⟨z⟩, rfl, hz⟩
 exact ⟨xs, rfl, by simpa using hl, hp⟩
set_option maxRecDepth 100000 in
theorem Tn {n : Nat} {a : AV} (h : WP Tryz.prog (n + 2) 22 a) : ∃ xs : List U8, a = .rsl false false (xs.map (Enc.cs false)) ∧ xs.length ≤ maxLen ∧ ∀ x ∈ xs, 0 ≤ x.v ∧ x.v ≤ 255 := by
 unfold WP at h; rw [uLU] at h
 obtain ⟨xs, hx, hp⟩ := Ti h
 injection hx with hx
 exact ⟨xs, hx, hp⟩
set_option maxRecDepth 100000 in
theorem lifted (os : Os) (started : os.Started) (H : Type) (enc : TypeId × Value → H) :
  ReturnsInHanded {} Tryz.checked os 3 .any (Rows.fnMaysSpec.pre6 enc Tryz.prog Tryz.f3 Rows.fnMaysRow.domain false) (Rows.fnMaysSpec.post enc Tryz.prog Tryz.f3 false true false false) := by
 refine returnsInHanded_of_change (C := Tryz.checked) Tryz.own started (by kernel_rfl) Tryz.func3
  (ChangeSpec.witness6 (enc := enc) (C := Tryz.checked) false ⟨#[], #[.slice none 0 0], []⟩ 8 (by kernel_rfl) (by kernel_rfl) (by kernel_rfl) (by kernel_rfl)) ?_
 intro W base args ds gs before hval hW _ _
 refine KJ (C := cfg NN) (n := 8) (bt := 4) (by kernel_rfl) TN Tryz.laidOut (fun t ht => ?_) (fun t ht => ?_) (by kernel_rfl) (by kernel_rfl) rfl (fun gs' hg hl => ?_) hval hW (Xj _) (fun as_ has => ?_)
 ·have h : (Tryz.f3.params.toList.all fun t => Tryz.prog.readableRec t && decide (t < Tryz.prog.types.size)) = true := by kernel_rfl
  have := List.all_eq_true.1 h t ht
  rw [Bool.and_eq_true, decide_eq_true_eq] at this
  exact this
 ·have h : (Tryz.f3.params.toList.all fun t => okT Tryz.prog 8 t) = true := by kernel_rfl
  exact List.all_eq_true.1 h t ht
 ·subst hg
  match ds, hl with
  | [d0], _ => rfl
 ·have hp : Tryz.f3.params.toList = [22] := rfl
  rw [hp] at has
  obtain ⟨a0, r0, rfl, h0, rfl⟩ := has
  obtain ⟨x0, rfl, g0⟩ := Tn (n := 6) h0
  obtain ⟨⟨v, S1⟩, hS, hv⟩ := w3 (d := 600) (by decide) false x0 true (TO x0 g0.2)
  have hv := RA hv
  subst hv
  unfold R at hS
  exact ⟨600, S1, hS⟩
theorem fnMays_holds : Rows.FnMaysSaid :=
 OpenClaim.holds_of_wide 3 Tryz.f3 rfl rfl rfl rfl rfl rfl rfl ⟨rfl, rfl, rfl, rfl, rfl⟩ rfl rfl rfl rfl rfl VW Tryz.func3 Uk Xg W9
  (fun os started H enc _ => lifted os started H enc)
end Go.Proofs.YtgjljhchmokhfaaGreat
