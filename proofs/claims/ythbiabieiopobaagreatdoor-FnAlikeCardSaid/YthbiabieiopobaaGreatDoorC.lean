/- FnAlike answers true at every input and leaves its arguments as they were (a card: the tables that its row lists are tied to the program's text). Conditions: none beyond the row's. -/
import Derived.Test.YthbiabieiopobaaGreatDoorLaw2
import Derived.Test.YthbiabieiopobaaGreatDoorF
import Derived.Test.YthbiabieiopobaaGreatDoorS
import Derived.Test.YthbiabieiopobaaGreatDoorRf22
import Derived.Test.YthbiabieiopobaaGreatDoorRh6
import Derived.Test.YthbiabieiopobaaGreatDoorPick
import Derived.Test.YthbiabieiopobaaGreatDoorRows
import Derived.Test.YthbiabieiopobaaGreatDoorCards
import Derived.Test.YthbiabieiopobaaGreatDoorTie
import Derived.Test.YthbiabieiopobaaGreatDoorChecked
import Derived.ProofKit
import Derived.OpenShut
import Derived.LaidMore
import Derived.Lay
import Derived.SevenTiedAt
import Derived.Stop.Joined
namespace Go.Proofs.YthbiabieiopobaaGreatDoor
open Go Go.Rf Go.ChangeShapes Go.WideShapes Go.ChangeAt Go.RowKit
set_option linter.unusedVariables false
theorem Yq : Di Tryz.prog := by
 have h : (Tryz.prog.funcs.all fun fn => !(fn.name == "runtime.NumGoroutine")) = true := by kernel_rfl
 intro g fn hg
 have := Array.all_eq_true_iff_forall_mem.1 h fn (Array.mem_of_getElem? hg)
 simpa using this
theorem kC {W : World} (N : Nat) : Sv (cfg N) W.heap.size (GW W) := fun f e h => by
 have h : (if f = 99 then some GQ else if f = 142 then some (Ji Qi) else if f = 143 then some (Ji Qh) else if f = 225 then some IP else none) = some e := h
 by_cases q : f = 99
 ·subst q
  rw [if_pos rfl] at h
  injection h with h
  subst h
  exact fun args S v S1 he X m A w cargs hr ha _ => V8 _ args S v S1 he X m A w cargs hr ha
 ·rw [if_neg q] at h
  by_cases q : f = 142
  ·subst q
   rw [if_pos rfl] at h
   injection h with h
   subst h
   exact WL fun s c w => eK s c w
  ·rw [if_neg q] at h
   by_cases q : f = 143
   ·subst q
    rw [if_pos rfl] at h
    injection h with h
    subst h
    exact WL fun s c w => eT s c w
   ·rw [if_neg q] at h
    by_cases q : f = 225
    ·subst q
     rw [if_pos rfl] at h
     injection h with h
     subst h
     exact YK fun s t w => Tryz.strings_Compare s t w
    ·rw [if_neg q] at h
     cases h
theorem uI : Tryz.prog.underlying 2 = some (.int .i64) := by kernel_rfl
theorem uU : Tryz.prog.underlying 5 = some (.int .u8) := by kernel_rfl
theorem uLU : Tryz.prog.underlying 22 = some (.slice 5) := by kernel_rfl
theorem M6 {α : Type} {enc : α → List AV} {p : α → Prop} : ∀ (es : List (List AV)), (∀ x ∈ es, ∃ a, x = enc a ∧ p a) → ∃ xs : List α, es = xs.map enc ∧ ∀ a ∈ xs, p a
 | [], _ => ⟨[], rfl, by simp⟩
 | e :: es, h => by
  obtain ⟨a, ha, hp⟩ := h e (by simp)
  obtain ⟨xs, hxs, hq⟩ := M6 es fun x hx => h x (by simp [hx])
  exact ⟨a :: xs, by simp [ha, hxs], fun b hb => by
   rcases List.mem_cons.1 hb with rfl | hb
   ·exact hp
   ·exact hq b hb⟩
set_option maxRecDepth 100000 in
theorem XF {n : Nat} {avs : List AV} (h : WT Tryz.prog (n + 2) 22 avs) : ∃ xs : List U8, avs = [.rsl false false (xs.map (Enc.cs false))] ∧ xs.length ≤ maxLen ∧ ∀ x ∈ xs, 0 ≤ x.v ∧ x.v ≤ 255 := by
 obtain ⟨es, rfl, hl, hes⟩ := X8 uLU h
 obtain ⟨xs, rfl, hp⟩ := M6 (enc := fun x : U8 => Enc.cs false x) (p := fun x => 0 ≤ x.v ∧ x.v ≤ 255) es fun x hx => by
  obtain ⟨z, rfl, hz⟩ := fW uU (hes x hx)
  have hz : (decide ((0 : Int) ≤ z) && decide (z ≤ 255)) = true := hz
  rw [Bool.and_eq_true, decide_eq_true_eq, decide_eq_true_eq] at hz
  exact ⟨⟨z⟩, rfl, hz⟩
 exact ⟨xs, rfl, by simpa using hl, hp⟩
set_option maxRecDepth 100000 in
theorem XG {n : Nat} {a : AV} (h : WP Tryz.prog (n + 2) 22 a) : ∃ xs : List U8, a = .rsl false false (xs.map (Enc.cs false)) ∧ xs.length ≤ maxLen ∧ ∀ x ∈ xs, 0 ≤ x.v ∧ x.v ≤ 255 := by
 unfold WP at h; rw [uLU] at h
 obtain ⟨xs, hx, hp⟩ := XF h
 injection hx with hx
 exact ⟨xs, hx, hp⟩
set_option maxRecDepth 100000 in
theorem lifted (os : Os) (started : os.Started) (H : Type) (enc : TypeId × Value → H) :
  ReturnsInHanded {} Tryz.checked os 3 .any (fun w args => (Rows.fnAlikeSpec.pre enc Tryz.prog Tryz.f3 Rows.fnAlikeRow.domain false w args ∧ laidMetH Tryz.prog Rows.fnAlikeRow.laid w) ∧ sizedMet enc Tryz.prog Tryz.f3 (OpenSpec.ofChange Rows.fnAlikeSpec) false w args)
   (Rows.fnAlikeSpec.post enc Tryz.prog Tryz.f3 false true false false) := by
 refine returnsInHanded_of_change_and (C := Tryz.checked) (X := fun w _ => laidMetH Tryz.prog Rows.fnAlikeRow.laid w) (fun _ _ _ hh h => h.of_heap hh) Tryz.own started (by kernel_rfl) Tryz.func3
  (ChangeSpec.witness_shaped (enc := enc) (C := Tryz.checked) (os := os) (X := fun w _ => laidMetH Tryz.prog Rows.fnAlikeRow.laid w) false (World.laidAll Tryz.prog os Rows.fnAlikeRow.laid) #[.slice none 0 0] 8 (World.laidAll_os _ _ _)
   (World.shaped_of_ZipB (by kernel_rfl) (by kernel_rfl)) (by kernel_rfl) (by kernel_rfl) (by kernel_rfl)
   (by rw [MakeChecks.laidMetH_plain _ _ _ (by kernel_rfl)]; exact laidMet_laidAll _ (by kernel_rfl) (by kernel_rfl))) ?_
 intro W base args ds gs before hval hW y1 y2 y3 y4
 refine Nu (C := cfg NN) (n := 8) (bt := 4) (by kernel_rfl) Yq Tryz.laidOut (fun t ht => ?_) (fun t ht => ?_) (by kernel_rfl) (by kernel_rfl) rfl (fun gs' hg hl => ?_) hval hW (kC _) (fun as_ has => ?_)
 ·have h : (Tryz.f3.params.toList.all fun t => Tryz.prog.readableRec t && decide (t < Tryz.prog.types.size)) = true := by kernel_rfl
  have := List.all_eq_true.1 h t ht
  rw [Bool.and_eq_true, decide_eq_true_eq] at this
  exact this
 ·have h : (Tryz.f3.params.toList.all fun t => okT Tryz.prog 8 t) = true := by kernel_rfl
  exact List.all_eq_true.1 h t ht
 ·subst hg
  match ds, hl with
  | [d0], _ => rfl
 ·have hp : Tryz.f3.params.toList = [22] := rfl
  rw [hp] at has
  obtain ⟨a0, r0, rfl, h0, rfl⟩ := has
  obtain ⟨x0, rfl, g0⟩ := XG (n := 6) h0
  obtain ⟨⟨v, S1⟩, hS, hv⟩ := w3 (d := 600) (by decide) false x0 true (Zk x0 g0.2)
  have hv := WF hv
  subst hv
  unfold R at hS
  exact ⟨600, S1, hS⟩
theorem said : Rows.FnAlikeSaid :=
 OpenClaim.holds_of_wide 3 Tryz.f3 rfl rfl rfl rfl rfl rfl rfl ⟨rfl, rfl, rfl, rfl, rfl⟩ rfl rfl rfl rfl rfl VJ Tryz.func3 YY j8 f9
  (fun os started H enc _ => lifted os started H enc)
theorem fnAlike_card : Rows.FnAlikeCardSaid :=
 Claim7.holds_tied_plain_at .later [] _ _ _ _ said (fun _ h => by cases h) Zd (fun _ h => by cases h) fnAlike_row_tie rfl ⟨rfl, rfl⟩ jW rfl
  (fun f fn hf hfn => by
   obtain rfl : f = 3 := Option.some.inj (VJ.symm.trans hf) |>.symm
   obtain rfl : fn = Tryz.f3 := (Option.some.inj (Tryz.func3.symm.trans hfn)).symm
   exact ⟨eI, fun j t ht => by
    have ht : Tryz.f3.params[j]? = some t := ht
    have hm : t ∈ Tryz.f3.params.toList := by simpa using Array.mem_of_getElem? ht
    exact (show Tryz.prog.wantsStandIn t = false by simpa using List.all_eq_true.1 cD t hm)⟩)
  kA
end Go.Proofs.YthbiabieiopobaaGreatDoor
