/- FnExactPrepareC answers true at every input and leaves its arguments as they were (a card: the tables that its row lists are tied to the program's text). Conditions: none beyond the row's. -/
import Derived.Test.YtdlleiaejipncaaGreatDoorLaw
import Derived.Test.YtdlleiaejipncaaGreatDoorF
import Derived.Test.YtdlleiaejipncaaGreatDoorRf22
import Derived.Test.YtdlleiaejipncaaGreatDoorRh6
import Derived.Test.YtdlleiaejipncaaGreatDoorPick
import Derived.Test.YtdlleiaejipncaaGreatDoorRows
import Derived.Test.YtdlleiaejipncaaGreatDoorCards
import Derived.Test.YtdlleiaejipncaaGreatDoorTie
import Derived.ProofKit
import Derived.OpenShut
import Derived.LaidMore
import Derived.Lay
import Derived.SevenTiedAt
import Derived.Stop.Joined
namespace Go.Proofs.YtdlleiaejipncaaGreatDoor
open Go Go.Rf Go.ChangeShapes Go.WideShapes Go.ChangeAt Go.RowKit
set_option linter.unusedVariables false
theorem XN : Cp Tryz.prog := by
 have h : (Tryz.prog.funcs.all fun fn => !(fn.name == "runtime.NumGoroutine")) = true := by kernel_rfl
 intro g fn hg
 have := Array.all_eq_true_iff_forall_mem.1 h fn (Array.mem_of_getElem? hg)
 simpa using this
theorem kA {W : World} (N : Nat) : PL (cfg N) W.heap.size (GW W) := fun f e h => by
 have h : (if f = 123 then some G1 else if f = 201 then some (ID Ov) else if f = 202 then some (ID Ou) else none) = some e := h
 by_cases q : f = 123
 ·subst q
  rw [if_pos rfl] at h
  injection h with h
  subst h
  exact fun args S v S1 he X m A w cargs hr ha _ => UB _ args S v S1 he X m A w cargs hr ha
 ·rw [if_neg q] at h
  by_cases q : f = 201
  ·subst q
   rw [if_pos rfl] at h
   injection h with h
   subst h
   exact W5 fun s c w => cH s c w
  ·rw [if_neg q] at h
   by_cases q : f = 202
   ·subst q
    rw [if_pos rfl] at h
    injection h with h
    subst h
    exact W5 fun s c w => cX s c w
   ·rw [if_neg q] at h
    cases h
theorem uI : Tryz.prog.underlying 2 = some (.int .i64) := by kernel_rfl
theorem uS : Tryz.prog.underlying 9 = some .string := by kernel_rfl
theorem SA (s : ByteArray) : ∃ l : Str, AV.str s = Bo l ∧ l.length = s.size := ⟨s.data.toList, by cases s; simp [Bo], by rw [Array.length_toList]; rfl⟩
theorem uLI : Tryz.prog.underlying 22 = some (.slice 2) := by kernel_rfl
set_option maxRecDepth 100000 in
theorem RS {n : Nat} {avs : List AV} (h : WT Tryz.prog (n + 2) 22 avs) : ∃ xs : List Int, avs = [.rsl false false (xs.map (Enc.cs false))] ∧ xs.length ≤ maxLen := by
 obtain ⟨es, rfl, hl, hes⟩ := EY uLI h
 obtain ⟨xs, rfl⟩ := HL (enc := fun x : Int => Enc.cs false x) es fun x hx => by
  obtain ⟨z, rfl, _⟩ := BW uI (hes x hx)
  exact ⟨z, rfl⟩
 exact ⟨xs, rfl, by simpa using hl⟩
theorem uLC : Tryz.prog.underlying 75 = some (.slice 145) := by kernel_rfl
theorem uLM : Tryz.prog.underlying 24 = some (.slice 77) := by kernel_rfl
theorem sC : D8 Tryz.prog 145 = some [2, 2, 2] := by kernel_rfl
theorem sM : D8 Tryz.prog 77 = some [2, 2, 2, 2, 2, 75, 22] := by kernel_rfl
theorem Gy {α : Type} {enc : α → List AV} {p : α → Prop} : ∀ (es : List (List AV)), (∀ x ∈ es, ∃ a, x = enc a ∧ p a) → ∃ xs : List α, es = xs.map enc ∧ ∀ a ∈ xs, p a
 | [], _ => ⟨[], rfl, by simp⟩
 | e :: es, h => by
  obtain ⟨a, ha, hp⟩ := h e (by simp)
  obtain ⟨xs, hxs, hq⟩ := Gy es fun x hx => h x (by simp [hx])
  exact ⟨a :: xs, by simp [ha, hxs], fun b hb => by
   rcases List.mem_cons.1 hb with rfl | hb
   ·exact hp
   ·exact hq b hb⟩
set_option maxRecDepth 100000 in
theorem aG {n : Nat} {avs : List AV} (h : WT Tryz.prog (n + 2) 145 avs) : ∃ x : Ax, avs = Enc.cs false x := by
 obtain ⟨x1, r1, rfl, h1, x2, r2, rfl, h2, x3, r3, rfl, h3, rfl⟩ := Ed sC h
 obtain ⟨a, rfl, _⟩ := BW uI h1
 obtain ⟨b, rfl, _⟩ := BW uI h2
 obtain ⟨c, rfl, _⟩ := BW uI h3
 exact ⟨⟨a, b, c⟩, rfl⟩
set_option maxRecDepth 100000 in
theorem Xs {n : Nat} {avs : List AV} (h : WT Tryz.prog (n + 3) 75 avs) : ∃ xs : List Ax, avs = [.rsl false false (xs.map (Enc.cs false))] ∧ xs.length ≤ maxLen := by
 obtain ⟨es, rfl, hl, hes⟩ := EY uLC h
 obtain ⟨xs, rfl⟩ := HL (enc := fun x : Ax => Enc.cs false x) es fun x hx => aG (hes x hx)
 exact ⟨xs, rfl, by simpa using hl⟩
set_option maxRecDepth 100000 in
theorem dX {n : Nat} {avs : List AV} (h : WT Tryz.prog (n + 4) 77 avs) : ∃ x : Ah, avs = Enc.cs false x ∧ M5 x := by
 obtain ⟨x1, r1, rfl, h1, x2, r2, rfl, h2, x3, r3, rfl, h3, x4, r4, rfl, h4, x5, r5, rfl, h5, x6, r6, rfl, h6, x7, r7, rfl, h7, rfl⟩ := Ed sM h
 obtain ⟨a1, rfl, _⟩ := BW uI h1
 obtain ⟨a2, rfl, _⟩ := BW uI h2
 obtain ⟨a3, rfl, _⟩ := BW uI h3
 obtain ⟨a4, rfl, _⟩ := BW uI h4
 obtain ⟨a5, rfl, _⟩ := BW uI h5
 obtain ⟨a6, rfl, l6⟩ := Xs h6
 obtain ⟨a7, rfl, l7⟩ := RS h7
 exact ⟨⟨a1, a2, a3, a4, a5, a6, a7⟩, rfl, l6, l7⟩
set_option maxRecDepth 100000 in
theorem aF {n : Nat} {avs : List AV} (h : WT Tryz.prog (n + 5) 24 avs) : ∃ xs : List Ah, avs = [.rsl false false (xs.map (Enc.cs false))] ∧ xs.length ≤ maxLen ∧ ∀ x ∈ xs, M5 x := by
 obtain ⟨es, rfl, hl, hes⟩ := EY uLM h
 obtain ⟨xs, rfl, hp⟩ := Gy (enc := fun x : Ah => Enc.cs false x) es fun x hx => dX (hes x hx)
 exact ⟨xs, rfl, by simpa using hl, hp⟩
theorem uB : Tryz.prog.underlying 4 = some .bool := by kernel_rfl
theorem uLO : Tryz.prog.underlying 79 = some (.slice 134) := by kernel_rfl
theorem sO : D8 Tryz.prog 134 = some [2, 9, 2, 2, 4, 4] := by kernel_rfl
theorem sR : D8 Tryz.prog 81 = some [2, 2, 2, 79] := by kernel_rfl
set_option maxRecDepth 100000 in
theorem wtOp {n : Nat} {avs : List AV} (h : WT Tryz.prog (n + 2) 134 avs) : ∃ x : TOp, avs = Enc.cs false x ∧ x.Path.length ≤ maxLen := by
 obtain ⟨x1, r1, rfl, h1, x2, r2, rfl, h2, x3, r3, rfl, h3, x4, r4, rfl, h4, x5, r5, rfl, h5, x6, r6, rfl, h6, rfl⟩ := Ed sO h
 obtain ⟨a1, rfl, _⟩ := BW uI h1
 obtain ⟨s, rfl, hs⟩ := RL uS h2
 obtain ⟨a3, rfl, _⟩ := BW uI h3
 obtain ⟨a4, rfl, _⟩ := BW uI h4
 obtain ⟨a5, rfl⟩ := PH uB h5
 obtain ⟨a6, rfl⟩ := PH uB h6
 obtain ⟨l, hl, hll⟩ := SA s
 rw [hl]
 exact ⟨⟨a1, l, a3, a4, a5, a6⟩, rfl, by show l.length ≤ maxLen; rw [hll]; exact hs⟩
set_option maxRecDepth 100000 in
theorem dW {n : Nat} {avs : List AV} (h : WT Tryz.prog (n + 3) 79 avs) : ∃ xs : List TOp, avs = [.rsl false false (xs.map (Enc.cs false))] ∧ xs.length ≤ maxLen ∧ ∀ x ∈ xs, x.Path.length ≤ maxLen := by
 obtain ⟨es, rfl, hl, hes⟩ := EY uLO h
 obtain ⟨xs, rfl, hp⟩ := Gy (enc := fun x : TOp => Enc.cs false x) es fun x hx => wtOp (hes x hx)
 exact ⟨xs, rfl, by simpa using hl, hp⟩
set_option maxRecDepth 100000 in
theorem dU {n : Nat} {avs : List AV} (h : WT Tryz.prog (n + 4) 81 avs) : ∃ x : Af, avs = Enc.cs false x ∧ M4 x := by
 obtain ⟨x1, r1, rfl, h1, x2, r2, rfl, h2, x3, r3, rfl, h3, x4, r4, rfl, h4, rfl⟩ := Ed sR h
 obtain ⟨a1, rfl, _⟩ := BW uI h1
 obtain ⟨a2, rfl, _⟩ := BW uI h2
 obtain ⟨a3, rfl, _⟩ := BW uI h3
 obtain ⟨a4, rfl, l4⟩ := dW h4
 exact ⟨⟨a1, a2, a3, a4⟩, rfl, l4⟩
theorem uLP : Tryz.prog.underlying 23 = some (.slice 91) := by kernel_rfl
theorem uLR : Tryz.prog.underlying 25 = some (.slice 81) := by kernel_rfl
theorem sP : D8 Tryz.prog 91 = some [2, 2, 2, 2] := by kernel_rfl
theorem sK : D8 Tryz.prog 27 = some [2, 22, 23, 24, 25] := by kernel_rfl
set_option maxRecDepth 100000 in
theorem dV {n : Nat} {avs : List AV} (h : WT Tryz.prog (n + 2) 91 avs) : ∃ x : Ak, avs = Enc.cs false x := by
 obtain ⟨x1, r1, rfl, h1, x2, r2, rfl, h2, x3, r3, rfl, h3, x4, r4, rfl, h4, rfl⟩ := Ed sP h
 obtain ⟨a1, rfl, _⟩ := BW uI h1
 obtain ⟨a2, rfl, _⟩ := BW uI h2
 obtain ⟨a3, rfl, _⟩ := BW uI h3
 obtain ⟨a4, rfl, _⟩ := BW uI h4
 exact ⟨⟨a1, a2, a3, a4⟩, rfl⟩
set_option maxRecDepth 100000 in
theorem aE {n : Nat} {avs : List AV} (h : WT Tryz.prog (n + 3) 23 avs) : ∃ xs : List Ak, avs = [.rsl false false (xs.map (Enc.cs false))] ∧ xs.length ≤ maxLen := by
 obtain ⟨es, rfl, hl, hes⟩ := EY uLP h
 obtain ⟨xs, rfl⟩ := HL (enc := fun x : Ak => Enc.cs false x) es fun x hx => dV (hes x hx)
 exact ⟨xs, rfl, by simpa using hl⟩
set_option maxRecDepth 100000 in
theorem aD {n : Nat} {avs : List AV} (h : WT Tryz.prog (n + 5) 25 avs) : ∃ xs : List Af, avs = [.rsl false false (xs.map (Enc.cs false))] ∧ xs.length ≤ maxLen ∧ ∀ x ∈ xs, M4 x := by
 obtain ⟨es, rfl, hl, hes⟩ := EY uLR h
 obtain ⟨xs, rfl, hp⟩ := Gy (enc := fun x : Af => Enc.cs false x) es fun x hx => dU (hes x hx)
 exact ⟨xs, rfl, by simpa using hl, hp⟩
set_option maxRecDepth 100000 in
theorem dY {n : Nat} {avs : List AV} (h : WT Tryz.prog (n + 6) 27 avs) : ∃ x : Ae, avs = Enc.cs false x ∧ ON x := by
 obtain ⟨x1, r1, rfl, h1, x2, r2, rfl, h2, x3, r3, rfl, h3, x4, r4, rfl, h4, x5, r5, rfl, h5, rfl⟩ := Ed sK h
 obtain ⟨a1, rfl, _⟩ := BW uI h1
 obtain ⟨a2, rfl, l2⟩ := RS h2
 obtain ⟨a3, rfl, l3⟩ := aE h3
 obtain ⟨a4, rfl, l4⟩ := aF h4
 obtain ⟨a5, rfl, l5⟩ := aD h5
 exact ⟨⟨a1, a2, a3, a4, a5⟩, rfl, l2, l3, l4, l5⟩
theorem RN {P : Program} {n : Nat} {t : TypeId} {ts : List TypeId} {a : AV} (hs : D8 P t = some ts) (h : WP P n t a) : ∃ cs, a = .agg cs ∧ WT P n t cs := by
 unfold D8 at hs
 unfold WP at h
 split at hs <;> try (cases hs; done)
 rename_i fs hu
 rw [hu] at h
 exact h
set_option maxRecDepth 100000 in
theorem YJ {n : Nat} {a : AV} (h : WP Tryz.prog (n + 1) 2 a) : ∃ z, a = .int .i64 z := by
 unfold WP at h; rw [uI] at h
 obtain ⟨z, hz, _⟩ := BW uI h
 injection hz with hz
 exact ⟨z, hz⟩
set_option maxRecDepth 100000 in
theorem lifted (os : Os) (started : os.Started) (H : Type) (enc : TypeId × Value → H) :
  ReturnsInHanded {} Tryz.checked os 3 .any (fun w args => (Rows.fnExactPrepareCSpec.pre enc Tryz.prog Tryz.f3 Rows.fnExactPrepareCRow.domain false w args ∧ laidMetH Tryz.prog Rows.fnExactPrepareCRow.laid w) ∧ sizedMet enc Tryz.prog Tryz.f3 (OpenSpec.ofChange Rows.fnExactPrepareCSpec) false w args)
   (Rows.fnExactPrepareCSpec.post enc Tryz.prog Tryz.f3 false true false false) := by
 refine returnsInHanded_of_change_and (C := Tryz.checked) (X := fun w _ => laidMetH Tryz.prog Rows.fnExactPrepareCRow.laid w) (fun _ _ _ hh h => h.of_heap hh) Tryz.own started (by kernel_rfl) Tryz.func3
  (ChangeSpec.witness_shaped (enc := enc) (C := Tryz.checked) (os := os) (X := fun w _ => laidMetH Tryz.prog Rows.fnExactPrepareCRow.laid w) false (World.laidAll Tryz.prog os Rows.fnExactPrepareCRow.laid) #[.agg #[.int .i64 0, .slice none 0 0, .slice none 0 0, .slice none 0 0, .slice none 0 0], .int .i64 0, .int .i64 0] 8 (World.laidAll_os _ _ _)
   (World.shaped_of_ZipB (by kernel_rfl) (by kernel_rfl)) (by kernel_rfl) (by kernel_rfl) (by kernel_rfl)
   (by rw [MakeChecks.laidMetH_plain _ _ _ (by kernel_rfl)]; exact laidMet_laidAll _ (by kernel_rfl) (by kernel_rfl))) ?_
 intro W base args ds gs before hval hW y1 y2 y3 y4
 refine L1 (C := cfg NN) (n := 8) (bt := 4) (by kernel_rfl) XN Tryz.laidOut (fun t ht => ?_) (fun t ht => ?_) (by kernel_rfl) (by kernel_rfl) rfl (fun gs' hg hl => ?_) hval hW (kA _) (fun as_ has => ?_)
 ·have h : (Tryz.f3.params.toList.all fun t => Tryz.prog.readableRec t && decide (t < Tryz.prog.types.size)) = true := by kernel_rfl
  have := List.all_eq_true.1 h t ht
  rw [Bool.and_eq_true, decide_eq_true_eq] at this
  exact this
 ·have h : (Tryz.f3.params.toList.all fun t => okT Tryz.prog 8 t) = true := by kernel_rfl
  exact List.all_eq_true.1 h t ht
 ·subst hg
  match ds, hl with
  | [d0, d1, d2], _ => rfl
 ·have hp : Tryz.f3.params.toList = [27, 2, 2] := rfl
  rw [hp] at has
  obtain ⟨a0, r0, rfl, h0, a1, r1, rfl, h1, a2, r2, rfl, h2, rfl⟩ := has
  obtain ⟨cs0, rfl, h0'⟩ := RN sK h0
  obtain ⟨x0, rfl, g0⟩ := dY (n := 2) h0'
  obtain ⟨x1, rfl⟩ := YJ (n := 7) h1
  obtain ⟨x2, rfl⟩ := YJ (n := 7) h2
  obtain ⟨⟨v, S1⟩, hS, hv⟩ := w3 (d := 600) (by decide) false x0 x1 x2 true (XF x0 x1 x2 g0)
  have hv := Wt hv
  subst hv
  unfold R at hS
  exact ⟨600, S1, hS⟩
theorem said : Rows.FnExactPrepareCSaid :=
 OpenClaim.holds_of_wide 3 Tryz.f3 rfl rfl rfl rfl rfl rfl rfl ⟨rfl, rfl, rfl, rfl, rfl⟩ rfl rfl rfl rfl rfl UN Tryz.func3 Y0 hZ dZ
  (fun os started H enc _ => lifted os started H enc)
theorem fnExactPrepareC_card : Rows.FnExactPrepareCCardSaid :=
 Claim7.holds_tied_plain_at .later [] _ _ _ _ said (fun _ h => by cases h) Y3 (fun _ h => by cases h) fnExactPrepareC_row_tie rfl ⟨rfl, rfl⟩ gX rfl
  (fun f fn hf hfn => by
   obtain rfl : f = 3 := Option.some.inj (UN.symm.trans hf) |>.symm
   obtain rfl : fn = Tryz.f3 := (Option.some.inj (Tryz.func3.symm.trans hfn)).symm
   exact ⟨cG, fun j t ht => by
    have ht : Tryz.f3.params[j]? = some t := ht
    have hm : t ∈ Tryz.f3.params.toList := by simpa using Array.mem_of_getElem? ht
    exact (show Tryz.prog.wantsStandIn t = false by simpa using List.all_eq_true.1 aT t hm)⟩)
  jY
end Go.Proofs.YtdlleiaejipncaaGreatDoor
