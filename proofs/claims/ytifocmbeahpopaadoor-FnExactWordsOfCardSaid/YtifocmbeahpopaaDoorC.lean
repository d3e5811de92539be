/- FnExactWordsOf answers true at every input and leaves its arguments as they were (a card: the tables that its row lists are tied to the program's text). Conditions: none beyond the row's. -/
import Derived.Test.YtifocmbeahpopaaDoorLaw
import Derived.Test.YtifocmbeahpopaaDoorF
import Derived.Test.YtifocmbeahpopaaDoorRf22
import Derived.Test.YtifocmbeahpopaaDoorRh6
import Derived.Test.YtifocmbeahpopaaDoorRows
import Derived.Test.YtifocmbeahpopaaDoorCards
import Derived.Test.YtifocmbeahpopaaDoorTie
import Derived.ProofKit
import Derived.OpenShut
import Derived.LaidMore
import Derived.Lay
import Derived.SevenTiedAt
import Derived.Stop.Joined
namespace Go.Proofs.YtifocmbeahpopaaDoor
open Go Go.Rf Go.ChangeShapes Go.WideShapes Go.ChangeAt Go.RowKit
set_option linter.unusedVariables false
theorem namesOk : NamesOk Tryd.prog := by
 have h : (Tryd.prog.funcs.all fun fn => !(fn.name == "runtime.NumGoroutine")) = true := by kernel_rfl
 intro g fn hg
 have := Array.all_eq_true_iff_forall_mem.1 h fn (Array.mem_of_getElem? hg)
 simpa using this
theorem extOk {W : World} (N : Nat) : ExtOk (cfg N) W.heap.size (GW W) := fun f e h => by
 have h : (if f = 22 then some (extSB ext22) else if f = 23 then some (extSB ext23) else none) = some e := h
 by_cases q : f = 22
 ·subst q
  rw [if_pos rfl] at h
  injection h with h
  subst h
  exact ext_sb fun s c w => cntOne s c w
 ·rw [if_neg q] at h
  by_cases q : f = 23
  ·subst q
   rw [if_pos rfl] at h
   injection h with h
   subst h
   exact ext_sb fun s c w => idxOne s c w
  ·rw [if_neg q] at h
   cases h
theorem uI : Tryd.prog.underlying 2 = some (.int .i64) := by kernel_rfl
theorem uS : Tryd.prog.underlying 9 = some .string := by kernel_rfl
theorem str_encl (s : ByteArray) : ∃ l : Str, AV.str s = encS l ∧ l.length = s.size := ⟨s.data.toList, by cases s; simp [encS], by rw [Array.length_toList]; rfl⟩
set_option maxRecDepth 100000 in
theorem wpStr {n : Nat} {a : AV} (h : WP Tryd.prog (n + 1) 9 a) : ∃ x : Str, a = encS x ∧ x.length ≤ maxLen := by
 unfold WP at h; rw [uS] at h
 obtain ⟨s, hx, hs⟩ := WT_string uS h
 injection hx with hx
 obtain ⟨l, hl, hll⟩ := str_encl s
 exact ⟨l, hx.trans hl, by rw [hll]; exact hs⟩
set_option maxRecDepth 100000 in
theorem lifted (os : Os) (started : os.Started) (H : Type) (enc : TypeId × Value → H) :
  ReturnsInHanded {} Tryd.checked os 3 .any (fun w args => (Rows.fnExactWordsOfSpec.pre enc Tryd.prog Tryd.f3 Rows.fnExactWordsOfRow.domain false w args ∧ laidMetH Tryd.prog Rows.fnExactWordsOfRow.laid w) ∧ sizedMet enc Tryd.prog Tryd.f3 (OpenSpec.ofChange Rows.fnExactWordsOfSpec) false w args)
   (Rows.fnExactWordsOfSpec.post enc Tryd.prog Tryd.f3 false true false false) := by
 refine returnsInHanded_of_change_and (C := Tryd.checked) (X := fun w _ => laidMetH Tryd.prog Rows.fnExactWordsOfRow.laid w) (fun _ _ _ hh h => h.of_heap hh) Tryd.own started (by kernel_rfl) Tryd.func3
  (ChangeSpec.witness_shaped (enc := enc) (C := Tryd.checked) (os := os) (X := fun w _ => laidMetH Tryd.prog Rows.fnExactWordsOfRow.laid w) false (World.laidAll Tryd.prog os Rows.fnExactWordsOfRow.laid) #[.string ⟨#[]⟩] 8 (World.laidAll_os _ _ _)
   (World.shaped_of_ZipB (by kernel_rfl) (by kernel_rfl)) (by kernel_rfl) (by kernel_rfl) (by kernel_rfl)
   (by rw [MakeChecks.laidMetH_plain _ _ _ (by kernel_rfl)]; exact laidMet_laidAll _ (by kernel_rfl) (by kernel_rfl))) ?_
 intro W base args ds gs before hval hW y1 y2 y3 y4
 refine law_contract (C := cfg NN) (n := 8) (bt := 4) (by kernel_rfl) namesOk Tryd.laidOut (fun t ht => ?_) (fun t ht => ?_) (by kernel_rfl) (by kernel_rfl) rfl (fun gs' hg hl => ?_) hval hW (extOk _) (fun as_ has => ?_)
 ·have h : (Tryd.f3.params.toList.all fun t => Tryd.prog.readableRec t && decide (t < Tryd.prog.types.size)) = true := by kernel_rfl
  have := List.all_eq_true.1 h t ht
  rw [Bool.and_eq_true, decide_eq_true_eq] at this
  exact this
 ·have h : (Tryd.f3.params.toList.all fun t => okT Tryd.prog 8 t) = true := by kernel_rfl
  exact List.all_eq_true.1 h t ht
 ·subst hg
  match ds, hl with
  | [d0], _ => rfl
 ·have hp : Tryd.f3.params.toList = [9] := rfl
  rw [hp] at has
  obtain ⟨a0, r0, rfl, h0, rfl⟩ := has
  obtain ⟨x0, rfl, g0⟩ := wpStr (n := 7) h0
  obtain ⟨⟨v, S1⟩, hS, hv⟩ := w3 (d := 400) (by decide) x0 true (wrd_law x0)
  have hv := fzr_bool hv
  subst hv
  unfold R at hS
  exact ⟨400, S1, hS⟩
theorem said : Rows.FnExactWordsOfSaid :=
 OpenClaim.holds_of_wide 3 Tryd.f3 rfl rfl rfl rfl rfl rfl rfl ⟨rfl, rfl, rfl, rfl, rfl⟩ rfl rfl rfl rfl rfl named_ Tryd.func3 closed_ inst_ wrap_
  (fun os started H enc _ => lifted os started H enc)
theorem fnExactWordsOf_card : Rows.FnExactWordsOfCardSaid :=
 Claim7.holds_tied_plain_at .later [] _ _ _ _ said (fun _ h => by cases h) byText_ (fun _ h => by cases h) fnExactWordsOf_row_tie rfl ⟨rfl, rfl⟩ main_ rfl
  (fun f fn hf hfn => by
   obtain rfl : f = 3 := Option.some.inj (named_.symm.trans hf) |>.symm
   obtain rfl : fn = Tryd.f3 := (Option.some.inj (Tryd.func3.symm.trans hfn)).symm
   exact ⟨looks_, fun j t ht => by
    have ht : Tryd.f3.params[j]? = some t := ht
    have hm : t ∈ Tryd.f3.params.toList := by simpa using Array.mem_of_getElem? ht
    exact (show Tryd.prog.wantsStandIn t = false by simpa using List.all_eq_true.1 stand_ t hm)⟩)
  goes_
end Go.Proofs.YtifocmbeahpopaaDoor
