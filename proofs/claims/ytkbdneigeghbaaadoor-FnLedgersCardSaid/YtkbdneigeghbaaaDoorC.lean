/- FnLedgers answers true at every input and leaves its arguments as they were (a card: the tables that its row lists are tied to the program's text). Conditions: none beyond the row's. -/
import Derived.Test.YtkbdneigeghbaaaDoorLaw
import Derived.Test.YtkbdneigeghbaaaDoorF
import Derived.Test.YtkbdneigeghbaaaDoorS
import Derived.Test.YtkbdneigeghbaaaDoorRf22
import Derived.Test.YtkbdneigeghbaaaDoorRh6
import Derived.Test.YtkbdneigeghbaaaDoorRh11
import Derived.Test.YtkbdneigeghbaaaDoorRows
import Derived.Test.YtkbdneigeghbaaaDoorCards
import Derived.Test.YtkbdneigeghbaaaDoorTie
import Derived.Test.YtkbdneigeghbaaaDoorChecked
import Derived.Lib.AppendIntMem
import Derived.Lib.LaidTab
import Derived.ProofKit
import Derived.OpenShut
import Derived.LaidMore
import Derived.Lay
import Derived.SevenTiedAt
import Derived.Stop.Joined
namespace Go.Proofs.YtkbdneigeghbaaaDoor
open Go Go.Rf Go.ChangeShapes Go.WideShapes Go.ChangeAt Go.RowKit
set_option linter.unusedVariables false
theorem namesOk : NamesOk Tryd.prog := by
 have h : (Tryd.prog.funcs.all fun fn => !(fn.name == "runtime.NumGoroutine")) = true := by kernel_rfl
 intro g fn hg
 have := Array.all_eq_true_iff_forall_mem.1 h fn (Array.mem_of_getElem? hg)
 simpa using this
theorem below_gd (w : World) (k : Nat) (os : Array Obj) : Below w.heap.size w (Sort.grow (w.drewN k) os) := ⟨rfl, rfl, rfl, by simp [Sort.grow], fun i hi => by simp [Sort.grow, Array.getElem?_append_left hi]⟩
theorem extOk {W : World} (hT : Lib.TabIs Tryd.prog W "internal/strconv.uint64pow10" .u64 Lib.pow10Tab) (N : Nat) : ExtOk (cfg N) W.heap.size (GW W) := fun f e h => by
 have h : (if f = 31 then some extJ else if f = 73 then some extFI else none) = some e := h
 by_cases q : f = 31
 ·subst q
  rw [if_pos rfl] at h
  injection h with h
  subst h
  exact ext_j (fun bk o c xs sep w h1 h2 h3 h4 h5 => Tryd.strings_Join bk o c xs sep w h1 h2 h3 h4 h5) (fun a c sep w => (Tryd.strings_Join_none a c sep w).mono fun e w' h => ⟨h.1, h.2 ▸ Below.refl _ _⟩)
 ·rw [if_neg q] at h
  by_cases q : f = 73
  ·subst q
   rw [if_pos rfl] at h
   injection h with h
   subst h
   exact ext_fi fun n h0 h1 w hG => (Tryd.strconv_FormatInt_10 n h0 h1 w (Lib.tabBelow_of_tabIs hT w hG)).mono fun e w' h => by
     obtain ⟨h1, k, os, rfl⟩ := h
     exact ⟨h1, below_gd w k os⟩
  ·rw [if_neg q] at h
   cases h
theorem laid_tail {P : Program} {a : String × DataW Unit} {l : List (String × DataW Unit)} {w : World} (h : laidMet P (a :: l) w) : laidMet P l w := by
 obtain ⟨n, d⟩ := a
 obtain ⟨ps, ⟨g, t, cs, fuel, p, q, h1, h2, h3, h4, h5, rfl⟩, hn, hc⟩ := h
 exact ⟨q, h5, (List.nodup_append.1 hn).2.1, fun b off hm => hc b off (List.mem_append_right _ hm)⟩
set_option maxRecDepth 100000 in
theorem tab_ {W : World} (h : laidMetH Tryd.prog Rows.fnLedgersRow.laid W) : Lib.TabIs Tryd.prog W "internal/strconv.uint64pow10" .u64 Lib.pow10Tab := by
 rw [MakeChecks.laidMetH_plain _ _ _ (by kernel_rfl)] at h
 exact Lib.tabIs_of_head (g := 1) (t := 113) (e := 106) (n := 20) (by kernel_rfl) (by kernel_rfl) (by kernel_rfl) (by kernel_rfl) (by kernel_rfl) (by kernel_rfl) (laid_tail (laid_tail h))
theorem uI : Tryd.prog.underlying 2 = some (.int .i64) := by kernel_rfl
theorem uU : Tryd.prog.underlying 5 = some (.int .u8) := by kernel_rfl
theorem uLU : Tryd.prog.underlying 22 = some (.slice 5) := by kernel_rfl
theorem list_encp {α : Type} {enc : α → List AV} {p : α → Prop} : ∀ (es : List (List AV)), (∀ x ∈ es, ∃ a, x = enc a ∧ p a) → ∃ xs : List α, es = xs.map enc ∧ ∀ a ∈ xs, p a
 | [], _ => ⟨[], rfl, by simp⟩
 | e :: es, h => by
  obtain ⟨a, ha, hp⟩ := h e (by simp)
  obtain ⟨xs, hxs, hq⟩ := list_encp es fun x hx => h x (by simp [hx])
  exact ⟨a :: xs, by simp [ha, hxs], fun b hb => by
   rcases List.mem_cons.1 hb with rfl | hb
   ·exact hp
   ·exact hq b hb⟩
set_option maxRecDepth 100000 in
theorem wtBytes {n : Nat} {avs : List AV} (h : WT Tryd.prog (n + 2) 22 avs) : ∃ xs : List U8, avs = [.rsl false false (xs.map (Enc.cs false))] ∧ xs.length ≤ maxLen ∧ ∀ x ∈ xs, 0 ≤ x.v ∧ x.v ≤ 255 := by
 obtain ⟨es, rfl, hl, hes⟩ := WT_slice uLU h
 obtain ⟨xs, rfl, hp⟩ := list_encp (enc := fun x : U8 => Enc.cs false x) (p := fun x => 0 ≤ x.v ∧ x.v ≤ 255) es fun x hx => by
  obtain ⟨z, rfl, hz⟩ := WT_int uU (hes x hx)
  have hz : (decide ((0 : Int) ≤ z) && decide (z ≤ 255)) = true := hz
  rw [Bool.and_eq_true, decide_eq_true_eq, decide_eq_true_eq] at hz
  exact ⟨⟨z⟩, rfl, hz⟩
 exact ⟨xs, rfl, by simpa using hl, hp⟩
set_option maxRecDepth 100000 in
theorem wpbytes {n : Nat} {a : AV} (h : WP Tryd.prog (n + 2) 22 a) : ∃ xs : List U8, a = .rsl false false (xs.map (Enc.cs false)) ∧ xs.length ≤ maxLen ∧ ∀ x ∈ xs, 0 ≤ x.v ∧ x.v ≤ 255 := by
 unfold WP at h; rw [uLU] at h
 obtain ⟨xs, hx, hp⟩ := wtBytes h
 injection hx with hx
 exact ⟨xs, hx, hp⟩
set_option maxRecDepth 100000 in
theorem lifted (os : Os) (started : os.Started) (H : Type) (enc : TypeId × Value → H) :
  ReturnsInHanded {} Tryd.checked os 3 .any (fun w args => (Rows.fnLedgersSpec.pre enc Tryd.prog Tryd.f3 Rows.fnLedgersRow.domain false w args ∧ laidMetH Tryd.prog Rows.fnLedgersRow.laid w) ∧ sizedMet enc Tryd.prog Tryd.f3 (OpenSpec.ofChange Rows.fnLedgersSpec) false w args)
   (Rows.fnLedgersSpec.post enc Tryd.prog Tryd.f3 false true false false) := by
 refine returnsInHanded_of_change_and (C := Tryd.checked) (X := fun w _ => laidMetH Tryd.prog Rows.fnLedgersRow.laid w) (fun _ _ _ hh h => h.of_heap hh) Tryd.own started (by kernel_rfl) Tryd.func3
  (ChangeSpec.witness_shaped (enc := enc) (C := Tryd.checked) (os := os) (X := fun w _ => laidMetH Tryd.prog Rows.fnLedgersRow.laid w) false (World.laidAll Tryd.prog os Rows.fnLedgersRow.laid) #[.slice none 0 0] 8 (World.laidAll_os _ _ _)
   (World.shaped_of_ZipB (by kernel_rfl) (by kernel_rfl)) (by kernel_rfl) (by kernel_rfl) (by kernel_rfl)
   (by rw [MakeChecks.laidMetH_plain _ _ _ (by kernel_rfl)]; exact laidMet_laidAll _ (by kernel_rfl) (by kernel_rfl))) ?_
 intro W base args ds gs before hval hW y1 y2 y3 y4
 refine law_contract (C := cfg NN) (n := 8) (bt := 4) (by kernel_rfl) namesOk Tryd.laidOut (fun t ht => ?_) (fun t ht => ?_) (by kernel_rfl) (by kernel_rfl) rfl (fun gs' hg hl => ?_) hval hW (extOk (tab_ y3) _) (fun as_ has => ?_)
 ·have h : (Tryd.f3.params.toList.all fun t => Tryd.prog.readableRec t && decide (t < Tryd.prog.types.size)) = true := by kernel_rfl
  have := List.all_eq_true.1 h t ht
  rw [Bool.and_eq_true, decide_eq_true_eq] at this
  exact this
 ·have h : (Tryd.f3.params.toList.all fun t => okT Tryd.prog 8 t) = true := by kernel_rfl
  exact List.all_eq_true.1 h t ht
 ·subst hg
  match ds, hl with
  | [d0], _ => rfl
 ·have hp : Tryd.f3.params.toList = [22] := rfl
  rw [hp] at has
  obtain ⟨a0, r0, rfl, h0, rfl⟩ := has
  obtain ⟨x0, rfl, g0⟩ := wpbytes (n := 6) h0
  obtain ⟨⟨v, S1⟩, hS, hv⟩ := w3 (d := 400) (by decide) false x0 true (led_law x0 g0.2)
  have hv := fzr_bool hv
  subst hv
  unfold R at hS
  exact ⟨400, S1, hS⟩
theorem said : Rows.FnLedgersSaid :=
 OpenClaim.holds_of_wide 3 Tryd.f3 rfl rfl rfl rfl rfl rfl rfl ⟨rfl, rfl, rfl, rfl, rfl⟩ rfl rfl rfl rfl rfl named_ Tryd.func3 closed_ inst_ wrap_
  (fun os started H enc _ => lifted os started H enc)
theorem fnLedgers_card : Rows.FnLedgersCardSaid :=
 Claim7.holds_tied_plain_at .later [] _ _ _ _ said (fun _ h => by cases h) byText_ (fun _ h => by cases h) fnLedgers_row_tie rfl ⟨rfl, rfl⟩ main_ rfl
  (fun f fn hf hfn => by
   obtain rfl : f = 3 := Option.some.inj (named_.symm.trans hf) |>.symm
   obtain rfl : fn = Tryd.f3 := (Option.some.inj (Tryd.func3.symm.trans hfn)).symm
   exact ⟨looks_, fun j t ht => by
    have ht : Tryd.f3.params[j]? = some t := ht
    have hm : t ∈ Tryd.f3.params.toList := by simpa using Array.mem_of_getElem? ht
    exact (show Tryd.prog.wantsStandIn t = false by simpa using List.all_eq_true.1 stand_ t hm)⟩)
  goes_
end Go.Proofs.YtkbdneigeghbaaaDoor
