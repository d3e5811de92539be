/- FnExactNewC answers true at every input and leaves its arguments as they were (a card: the tables that its row lists are tied to the program's text). Conditions: none beyond the row's. -/
import Derived.Test.YtmjibndicekcaaaGreatDoorLaw
import Derived.Test.YtmjibndicekcaaaGreatDoorF
import Derived.Test.YtmjibndicekcaaaGreatDoorRf22
import Derived.Test.YtmjibndicekcaaaGreatDoorRh6
import Derived.Test.YtmjibndicekcaaaGreatDoorRows
import Derived.Test.YtmjibndicekcaaaGreatDoorCards
import Derived.Test.YtmjibndicekcaaaGreatDoorTie
import Derived.ProofKit
import Derived.OpenShut
import Derived.LaidMore
import Derived.Lay
import Derived.SevenTiedAt
import Derived.Stop.Joined
namespace Go.Proofs.YtmjibndicekcaaaGreatDoor
open Go Go.Rf Go.ChangeShapes Go.WideShapes Go.ChangeAt Go.RowKit
set_option linter.unusedVariables false
theorem namesOk : NamesOk Tryz.prog := by
 have h : (Tryz.prog.funcs.all fun fn => !(fn.name == "runtime.NumGoroutine")) = true := by kernel_rfl
 intro g fn hg
 have := Array.all_eq_true_iff_forall_mem.1 h fn (Array.mem_of_getElem? hg)
 simpa using this
theorem extOk {W : World} (N : Nat) : ExtOk (cfg N) W.heap.size (GW W) := fun f e h => by
 have h : (if f = 189 then some (extSB ext189) else if f = 190 then some (extSB ext190) else none) = some e := h
 by_cases q : f = 189
 ·subst q
  rw [if_pos rfl] at h
  injection h with h
  subst h
  exact ext_sb fun s c w => idxOne s c w
 ·rw [if_neg q] at h
  by_cases q : f = 190
  ·subst q
   rw [if_pos rfl] at h
   injection h with h
   subst h
   exact ext_sb fun s c w => cntOne s c w
  ·rw [if_neg q] at h
   cases h
theorem uI : Tryz.prog.underlying 2 = some (.int .i64) := by kernel_rfl
theorem uS : Tryz.prog.underlying 9 = some .string := by kernel_rfl
theorem str_encl (s : ByteArray) : ∃ l : Str, AV.str s = encS l ∧ l.length = s.size := ⟨s.data.toList, by cases s; simp [encS], by rw [Array.length_toList]; rfl⟩
theorem uLI : Tryz.prog.underlying 22 = some (.slice 2) := by kernel_rfl
set_option maxRecDepth 100000 in
theorem wtInts {n : Nat} {avs : List AV} (h : WT Tryz.prog (n + 2) 22 avs) : ∃ xs : List Int, avs = [.rsl false false (xs.map (Enc.cs false))] ∧ xs.length ≤ maxLen := by
 obtain ⟨es, rfl, hl, hes⟩ := WT_slice uLI h
 obtain ⟨xs, rfl⟩ := list_enc (enc := fun x : Int => Enc.cs false x) es fun x hx => by
  obtain ⟨z, rfl, _⟩ := WT_int uI (hes x hx)
  exact ⟨z, rfl⟩
 exact ⟨xs, rfl, by simpa using hl⟩
theorem uLC : Tryz.prog.underlying 76 = some (.slice 150) := by kernel_rfl
theorem uLM : Tryz.prog.underlying 24 = some (.slice 78) := by kernel_rfl
theorem sC : structT Tryz.prog 150 = some [2, 2, 2] := by kernel_rfl
theorem sM : structT Tryz.prog 78 = some [2, 2, 2, 2, 2, 76, 22] := by kernel_rfl
theorem list_encp {α : Type} {enc : α → List AV} {p : α → Prop} : ∀ (es : List (List AV)), (∀ x ∈ es, ∃ a, x = enc a ∧ p a) → ∃ xs : List α, es = xs.map enc ∧ ∀ a ∈ xs, p a
 | [], _ => ⟨[], rfl, by simp⟩
 | e :: es, h => by
  obtain ⟨a, ha, hp⟩ := h e (by simp)
  obtain ⟨xs, hxs, hq⟩ := list_encp es fun x hx => h x (by simp [hx])
  exact ⟨a :: xs, by simp [ha, hxs], fun b hb => by
   rcases List.mem_cons.1 hb with rfl | hb
   ·exact hp
   ·exact hq b hb⟩
set_option maxRecDepth 100000 in
theorem wtCert {n : Nat} {avs : List AV} (h : WT Tryz.prog (n + 2) 150 avs) : ∃ x : TCert, avs = Enc.cs false x := by
 obtain ⟨x1, r1, rfl, h1, x2, r2, rfl, h2, x3, r3, rfl, h3, rfl⟩ := WT_struct sC h
 obtain ⟨a, rfl, _⟩ := WT_int uI h1
 obtain ⟨b, rfl, _⟩ := WT_int uI h2
 obtain ⟨c, rfl, _⟩ := WT_int uI h3
 exact ⟨⟨a, b, c⟩, rfl⟩
set_option maxRecDepth 100000 in
theorem wtCerts {n : Nat} {avs : List AV} (h : WT Tryz.prog (n + 3) 76 avs) : ∃ xs : List TCert, avs = [.rsl false false (xs.map (Enc.cs false))] ∧ xs.length ≤ maxLen := by
 obtain ⟨es, rfl, hl, hes⟩ := WT_slice uLC h
 obtain ⟨xs, rfl⟩ := list_enc (enc := fun x : TCert => Enc.cs false x) es fun x hx => wtCert (hes x hx)
 exact ⟨xs, rfl, by simpa using hl⟩
set_option maxRecDepth 100000 in
theorem wtMsg {n : Nat} {avs : List AV} (h : WT Tryz.prog (n + 4) 78 avs) : ∃ x : TMsg, avs = Enc.cs false x ∧ okMsg x := by
 obtain ⟨x1, r1, rfl, h1, x2, r2, rfl, h2, x3, r3, rfl, h3, x4, r4, rfl, h4, x5, r5, rfl, h5, x6, r6, rfl, h6, x7, r7, rfl, h7, rfl⟩ := WT_struct sM h
 obtain ⟨a1, rfl, _⟩ := WT_int uI h1
 obtain ⟨a2, rfl, _⟩ := WT_int uI h2
 obtain ⟨a3, rfl, _⟩ := WT_int uI h3
 obtain ⟨a4, rfl, _⟩ := WT_int uI h4
 obtain ⟨a5, rfl, _⟩ := WT_int uI h5
 obtain ⟨a6, rfl, l6⟩ := wtCerts h6
 obtain ⟨a7, rfl, l7⟩ := wtInts h7
 exact ⟨⟨a1, a2, a3, a4, a5, a6, a7⟩, rfl, l6, l7⟩
set_option maxRecDepth 100000 in
theorem wtMsgs {n : Nat} {avs : List AV} (h : WT Tryz.prog (n + 5) 24 avs) : ∃ xs : List TMsg, avs = [.rsl false false (xs.map (Enc.cs false))] ∧ xs.length ≤ maxLen ∧ ∀ x ∈ xs, okMsg x := by
 obtain ⟨es, rfl, hl, hes⟩ := WT_slice uLM h
 obtain ⟨xs, rfl, hp⟩ := list_encp (enc := fun x : TMsg => Enc.cs false x) es fun x hx => wtMsg (hes x hx)
 exact ⟨xs, rfl, by simpa using hl, hp⟩
theorem uB : Tryz.prog.underlying 4 = some .bool := by kernel_rfl
theorem uLO : Tryz.prog.underlying 80 = some (.slice 138) := by kernel_rfl
theorem sO : structT Tryz.prog 138 = some [2, 9, 2, 2, 4, 4] := by kernel_rfl
theorem sR : structT Tryz.prog 82 = some [2, 2, 2, 80] := by kernel_rfl
set_option maxRecDepth 100000 in
theorem wtOp {n : Nat} {avs : List AV} (h : WT Tryz.prog (n + 2) 138 avs) : ∃ x : TOp, avs = Enc.cs false x ∧ x.Path.length ≤ maxLen := by
 obtain ⟨x1, r1, rfl, h1, x2, r2, rfl, h2, x3, r3, rfl, h3, x4, r4, rfl, h4, x5, r5, rfl, h5, x6, r6, rfl, h6, rfl⟩ := WT_struct sO h
 obtain ⟨a1, rfl, _⟩ := WT_int uI h1
 obtain ⟨s, rfl, hs⟩ := WT_string uS h2
 obtain ⟨a3, rfl, _⟩ := WT_int uI h3
 obtain ⟨a4, rfl, _⟩ := WT_int uI h4
 obtain ⟨a5, rfl⟩ := WT_bool uB h5
 obtain ⟨a6, rfl⟩ := WT_bool uB h6
 obtain ⟨l, hl, hll⟩ := str_encl s
 rw [hl]
 exact ⟨⟨a1, l, a3, a4, a5, a6⟩, rfl, by show l.length ≤ maxLen; rw [hll]; exact hs⟩
set_option maxRecDepth 100000 in
theorem wtOps {n : Nat} {avs : List AV} (h : WT Tryz.prog (n + 3) 80 avs) : ∃ xs : List TOp, avs = [.rsl false false (xs.map (Enc.cs false))] ∧ xs.length ≤ maxLen ∧ ∀ x ∈ xs, x.Path.length ≤ maxLen := by
 obtain ⟨es, rfl, hl, hes⟩ := WT_slice uLO h
 obtain ⟨xs, rfl, hp⟩ := list_encp (enc := fun x : TOp => Enc.cs false x) es fun x hx => wtOp (hes x hx)
 exact ⟨xs, rfl, by simpa using hl, hp⟩
set_option maxRecDepth 100000 in
theorem wtReq {n : Nat} {avs : List AV} (h : WT Tryz.prog (n + 4) 82 avs) : ∃ x : TRequest, avs = Enc.cs false x ∧ okReq x := by
 obtain ⟨x1, r1, rfl, h1, x2, r2, rfl, h2, x3, r3, rfl, h3, x4, r4, rfl, h4, rfl⟩ := WT_struct sR h
 obtain ⟨a1, rfl, _⟩ := WT_int uI h1
 obtain ⟨a2, rfl, _⟩ := WT_int uI h2
 obtain ⟨a3, rfl, _⟩ := WT_int uI h3
 obtain ⟨a4, rfl, l4⟩ := wtOps h4
 exact ⟨⟨a1, a2, a3, a4⟩, rfl, l4⟩
theorem uLP : Tryz.prog.underlying 23 = some (.slice 95) := by kernel_rfl
theorem uLR : Tryz.prog.underlying 25 = some (.slice 82) := by kernel_rfl
theorem sP : structT Tryz.prog 95 = some [2, 2, 2, 2] := by kernel_rfl
theorem sK : structT Tryz.prog 27 = some [2, 22, 23, 24, 25] := by kernel_rfl
set_option maxRecDepth 100000 in
theorem wtRep {n : Nat} {avs : List AV} (h : WT Tryz.prog (n + 2) 95 avs) : ∃ x : TReplica, avs = Enc.cs false x := by
 obtain ⟨x1, r1, rfl, h1, x2, r2, rfl, h2, x3, r3, rfl, h3, x4, r4, rfl, h4, rfl⟩ := WT_struct sP h
 obtain ⟨a1, rfl, _⟩ := WT_int uI h1
 obtain ⟨a2, rfl, _⟩ := WT_int uI h2
 obtain ⟨a3, rfl, _⟩ := WT_int uI h3
 obtain ⟨a4, rfl, _⟩ := WT_int uI h4
 exact ⟨⟨a1, a2, a3, a4⟩, rfl⟩
set_option maxRecDepth 100000 in
theorem wtReps {n : Nat} {avs : List AV} (h : WT Tryz.prog (n + 3) 23 avs) : ∃ xs : List TReplica, avs = [.rsl false false (xs.map (Enc.cs false))] ∧ xs.length ≤ maxLen := by
 obtain ⟨es, rfl, hl, hes⟩ := WT_slice uLP h
 obtain ⟨xs, rfl⟩ := list_enc (enc := fun x : TReplica => Enc.cs false x) es fun x hx => wtRep (hes x hx)
 exact ⟨xs, rfl, by simpa using hl⟩
set_option maxRecDepth 100000 in
theorem wtReqs {n : Nat} {avs : List AV} (h : WT Tryz.prog (n + 5) 25 avs) : ∃ xs : List TRequest, avs = [.rsl false false (xs.map (Enc.cs false))] ∧ xs.length ≤ maxLen ∧ ∀ x ∈ xs, okReq x := by
 obtain ⟨es, rfl, hl, hes⟩ := WT_slice uLR h
 obtain ⟨xs, rfl, hp⟩ := list_encp (enc := fun x : TRequest => Enc.cs false x) es fun x hx => wtReq (hes x hx)
 exact ⟨xs, rfl, by simpa using hl, hp⟩
set_option maxRecDepth 100000 in
theorem wtClu {n : Nat} {avs : List AV} (h : WT Tryz.prog (n + 6) 27 avs) : ∃ x : TCluster, avs = Enc.cs false x ∧ okClu x := by
 obtain ⟨x1, r1, rfl, h1, x2, r2, rfl, h2, x3, r3, rfl, h3, x4, r4, rfl, h4, x5, r5, rfl, h5, rfl⟩ := WT_struct sK h
 obtain ⟨a1, rfl, _⟩ := WT_int uI h1
 obtain ⟨a2, rfl, l2⟩ := wtInts h2
 obtain ⟨a3, rfl, l3⟩ := wtReps h3
 obtain ⟨a4, rfl, l4⟩ := wtMsgs h4
 obtain ⟨a5, rfl, l5⟩ := wtReqs h5
 exact ⟨⟨a1, a2, a3, a4, a5⟩, rfl, l2, l3, l4, l5⟩
theorem WP_struct {P : Program} {n : Nat} {t : TypeId} {ts : List TypeId} {a : AV} (hs : structT P t = some ts) (h : WP P n t a) : ∃ cs, a = .agg cs ∧ WT P n t cs := by
 unfold structT at hs
 unfold WP at h
 split at hs <;> try (cases hs; done)
 rename_i fs hu
 rw [hu] at h
 exact h
set_option maxRecDepth 100000 in
theorem wpInt {n : Nat} {a : AV} (h : WP Tryz.prog (n + 1) 2 a) : ∃ z, a = .int .i64 z := by
 unfold WP at h; rw [uI] at h
 obtain ⟨z, hz, _⟩ := WT_int uI h
 injection hz with hz
 exact ⟨z, hz⟩
set_option maxRecDepth 100000 in
theorem lifted (os : Os) (started : os.Started) (H : Type) (enc : TypeId × Value → H) :
  ReturnsInHanded {} Tryz.checked os 3 .any (fun w args => (Rows.fnExactNewCSpec.pre enc Tryz.prog Tryz.f3 Rows.fnExactNewCRow.domain false w args ∧ laidMetH Tryz.prog Rows.fnExactNewCRow.laid w) ∧ sizedMet enc Tryz.prog Tryz.f3 (OpenSpec.ofChange Rows.fnExactNewCSpec) false w args)
   (Rows.fnExactNewCSpec.post enc Tryz.prog Tryz.f3 false true false false) := by
 refine returnsInHanded_of_change_and (C := Tryz.checked) (X := fun w _ => laidMetH Tryz.prog Rows.fnExactNewCRow.laid w) (fun _ _ _ hh h => h.of_heap hh) Tryz.own started (by kernel_rfl) Tryz.func3
  (ChangeSpec.witness_shaped (enc := enc) (C := Tryz.checked) (os := os) (X := fun w _ => laidMetH Tryz.prog Rows.fnExactNewCRow.laid w) false (World.laidAll Tryz.prog os Rows.fnExactNewCRow.laid) #[.agg #[.int .i64 0, .slice none 0 0, .slice none 0 0, .slice none 0 0, .slice none 0 0], .int .i64 0] 8 (World.laidAll_os _ _ _)
   (World.shaped_of_ZipB (by kernel_rfl) (by kernel_rfl)) (by kernel_rfl) (by kernel_rfl) (by kernel_rfl)
   (by rw [MakeChecks.laidMetH_plain _ _ _ (by kernel_rfl)]; exact laidMet_laidAll _ (by kernel_rfl) (by kernel_rfl))) ?_
 intro W base args ds gs before hval hW y1 y2 y3 y4
 refine law_contract (C := cfg NN) (n := 8) (bt := 4) (by kernel_rfl) namesOk Tryz.laidOut (fun t ht => ?_) (fun t ht => ?_) (by kernel_rfl) (by kernel_rfl) rfl (fun gs' hg hl => ?_) hval hW (extOk _) (fun as_ has => ?_)
 ·have h : (Tryz.f3.params.toList.all fun t => Tryz.prog.readableRec t && decide (t < Tryz.prog.types.size)) = true := by kernel_rfl
  have := List.all_eq_true.1 h t ht
  rw [Bool.and_eq_true, decide_eq_true_eq] at this
  exact this
 ·have h : (Tryz.f3.params.toList.all fun t => okT Tryz.prog 8 t) = true := by kernel_rfl
  exact List.all_eq_true.1 h t ht
 ·subst hg
  match ds, hl with
  | [d0, d1], _ => rfl
 ·have hp : Tryz.f3.params.toList = [27, 2] := rfl
  rw [hp] at has
  obtain ⟨a0, r0, rfl, h0, a1, r1, rfl, h1, rfl⟩ := has
  obtain ⟨cs0, rfl, h0'⟩ := WP_struct sK h0
  obtain ⟨x0, rfl, g0⟩ := wtClu (n := 2) h0'
  obtain ⟨x1, rfl⟩ := wpInt (n := 7) h1
  obtain ⟨⟨v, S1⟩, hS, hv⟩ := w3 (d := 600) (by decide) false x0 x1 true (nwc_law x0 x1 g0)
  have hv := fzr_bool hv
  subst hv
  unfold R at hS
  exact ⟨600, S1, hS⟩
theorem said : Rows.FnExactNewCSaid :=
 OpenClaim.holds_of_wide 3 Tryz.f3 rfl rfl rfl rfl rfl rfl rfl ⟨rfl, rfl, rfl, rfl, rfl⟩ rfl rfl rfl rfl rfl named_ Tryz.func3 closed_ inst_ wrap_
  (fun os started H enc _ => lifted os started H enc)
theorem fnExactNewC_card : Rows.FnExactNewCCardSaid :=
 Claim7.holds_tied_plain_at .later [] _ _ _ _ said (fun _ h => by cases h) byText_ (fun _ h => by cases h) fnExactNewC_row_tie rfl ⟨rfl, rfl⟩ main_ rfl
  (fun f fn hf hfn => by
   obtain rfl : f = 3 := Option.some.inj (named_.symm.trans hf) |>.symm
   obtain rfl : fn = Tryz.f3 := (Option.some.inj (Tryz.func3.symm.trans hfn)).symm
   exact ⟨looks_, fun j t ht => by
    have ht : Tryz.f3.params[j]? = some t := ht
    have hm : t ∈ Tryz.f3.params.toList := by simpa using Array.mem_of_getElem? ht
    exact (show Tryz.prog.wantsStandIn t = false by simpa using List.all_eq_true.1 stand_ t hm)⟩)
  goes_
end Go.Proofs.YtmjibndicekcaaaGreatDoor
