/- How many. -/
import Derived.Test.YtodfmofjncmdfaaW1
import Derived.Test.YtodfmofjncmdfaaRh3
namespace Go.Proofs.Ytodfmofjncmdfaa
open Go Go.Rf
theorem NN_eq : NN = 9223372036854775808 := by unfold NN maxLen; rfl
open Go Go.Rf
set_option linter.unusedVariables false
set_option linter.unusedSimpArgs false
theorem NN_20 : 1048576 < NN := by rw [NN_eq]; omega
def hInt (x k k' : Int) : Prop := x = k ∧ k' = k + 1
theorem hInt_m : ∀ x k k', hInt x k k' → k ≤ k' := fun x k k' h => by obtain ⟨_, rfl⟩ := h; omega
abbrev few {α : Type} (good : α → Prop) (xs : List α) : Prop := xs.length ≤ 1048576 ∧ ∀ x ∈ xs, good x
theorem mkInt : Mks m24 (MKL hInt) (few fun _ => True) (1048576 * 1) :=
 gMk (F := ms24_0) (good := fun _ => True) (by omega) NN_20 (fun k i a x _ hx hi h0 hb hk hB => by
  have hB : k + 1 ≤ 1152921504606846976 := hB
  refine ⟨k + 1, k, ?_, ⟨rfl, rfl⟩, by omega, by omega⟩
  unfold ms24_0
  simp (disch := omega) only [hi, decide_true, cond_true, hx, Option.bind_some, letO_eq, wiK]) (fun k i a h => by
  unfold ms24_0
  simp only [h, decide_false, cond_false])
theorem hdInt : Hds m71 (MKL hInt) :=
 gHd (F := ms71_0) hInt_m NN_20 (fun xs k r i k' x hx hi h0 hb hk hB h => by
  obtain ⟨rfl, rfl⟩ := h
  have hB : x + 1 ≤ 1152921504606846976 := hB
  refine ⟨r, ?_⟩
  unfold ms71_0
  simp (disch := omega) only [hi, decide_true, cond_true, hx, Option.bind_some, bne_self_eq_false, cond_false, wiK]) (fun xs k r i h => by
  unfold ms71_0
  simp only [h, decide_false, cond_false])
open Go Go.Rf
set_option linter.unusedVariables false
set_option linter.unusedSimpArgs false
theorem mkText_loop : ∀ (j : Nat) (k : Int) (s : Str) (N : Nat), k < 10 ^ j → j < N → s.length + j ≤ 1000 → ∃ z s', loopO ms70_0 N (k, s) = some (.exit 0 (z, s')) ∧ s'.length ≤ s.length + j
 | 0, k, s, N, hk, hN, hs => by
  obtain ⟨N, rfl⟩ : ∃ n, N = n + 1 := ⟨N - 1, by omega⟩
  have h : ¬ k > 0 := by simp at hk; omega
  refine ⟨k, s, ?_, by omega⟩
  simp only [loopO]
  unfold ms70_0
  simp only [h, decide_false, cond_false, Option.bind_some]
 | j + 1, k, s, N, hk, hN, hs => by
  obtain ⟨N, rfl⟩ : ∃ n, N = n + 1 := ⟨N - 1, by omega⟩
  by_cases h : k > 0
  ·have e1 : Int.tdiv k 10 = k / 10 := Int.tdiv_eq_ediv_of_nonneg (by omega)
   have e2 : (10 : Int) ^ (j + 1) = 10 ^ j * 10 := Int.pow_succ ..
   have e3 : wi .i64 (Int.tdiv k 10) < 10 ^ j := by
    rw [e1]
    have : k / 10 < 10 ^ j := by omega
    by_cases hb : k ≤ 9223372036854775807
    ·rw [wi64 (by omega) (by omega)]; exact this
    ·refine Int.lt_of_le_of_lt ?_ this
     show IntKind.i64.wrap (k / 10) ≤ k / 10
     rw [IntKind.wrap_i64]; omega
   obtain ⟨z, s', q1, q2⟩ := mkText_loop j (wi .i64 (Int.tdiv k 10)) (([UInt8.ofNat (Int.toNat (wi .u8 (wi .i64 (48 + (Int.tmod k 10)))))] : Str) ++ s) N e3 (by omega) (by simp; omega)
   refine ⟨z, s', ?_, by simp at q2; omega⟩
   simp only [loopO]
   rw [show ms70_0 (k, s) = some (LO.norm (wi .i64 (Int.tdiv k 10), ([UInt8.ofNat (Int.toNat (wi .u8 (wi .i64 (48 + (Int.tmod k 10)))))] : Str) ++ s)) from by
    unfold ms70_0
    simp only [h, decide_true, cond_true]
    unfold catO
    rw [if_pos (by simp; omega)]; rfl]
   exact q1
  ·refine ⟨k, s, ?_, by omega⟩
   simp only [loopO]
   unfold ms70_0
   simp only [h, decide_false, cond_false, Option.bind_some]
theorem mkText (k : Int) (hk : k ≤ mB) : ∃ s, m70 k = some s := by
 unfold m70
 by_cases h : k ≤ 0
 ·simp only [h, decide_true, cond_true]; exact ⟨_, rfl⟩
 ·simp only [h, decide_false, cond_false]
  have hk : k ≤ 1152921504606846976 := hk
  obtain ⟨z, s', q1, q2⟩ := mkText_loop 30 k [] NN (by simp; omega) (by rw [NN_eq]; omega) (by simp)
  rw [q1, Option.bind_some]
  simp only [contO, if_true]
  unfold catO
  rw [if_pos (by simp at q2 ⊢; omega)]
  exact ⟨_, rfl⟩
open Go Go.Rf
set_option linter.unusedVariables false
set_option linter.unusedSimpArgs false
def hCert (x : TCert) (k k' : Int) : Prop := x = ⟨k, k + 1, k + 1 + 1⟩ ∧ k' = k + 1 + 1 + 1
theorem hCert_m : ∀ x k k', hCert x k k' → k ≤ k' := fun x k k' h => by obtain ⟨_, rfl⟩ := h; omega
theorem mkCerts : Mks m50 (MKL hCert) (few fun _ => True) (1048576 * 3) :=
 gMk (F := ms50_0) (good := fun _ => True) (by omega) NN_20 (fun k i a x _ hx hi h0 hb hk hB => by
  have hB : k + 3 ≤ 1152921504606846976 := hB
  refine ⟨k + 1 + 1 + 1, ⟨k, k + 1, k + 1 + 1⟩, ?_, ⟨rfl, rfl⟩, by omega, by omega⟩
  unfold ms50_0
  simp (disch := omega) only [hi, decide_true, cond_true, hx, Option.bind_some, letO_eq, wiK, getI_set hx, getI_set (getI_set hx _), List.set_set]) (fun k i a h => by
  unfold ms50_0
  simp only [h, decide_false, cond_false])
theorem hdCerts : Hds m97 (MKL hCert) :=
 gHd (F := ms97_0) hCert_m NN_20 (fun xs k r i k' x hx hi h0 hb hk hB h => by
  obtain ⟨rfl, rfl⟩ := h
  have hB : k + 1 + 1 + 1 ≤ 1152921504606846976 := hB
  refine ⟨r, ?_⟩
  unfold ms97_0
  simp (disch := omega) only [hi, decide_true, cond_true, hx, Option.bind_some, bne_self_eq_false, cond_false, wiK]) (fun xs k r i h => by
  unfold ms97_0
  simp only [h, decide_false, cond_false])
def hRep (x : TReplica) (k k' : Int) : Prop := x = ⟨k, k + 1, k + 1 + 1, k + 1 + 1 + 1⟩ ∧ k' = k + 1 + 1 + 1 + 1
theorem hRep_m : ∀ x k k', hRep x k k' → k ≤ k' := fun x k k' h => by obtain ⟨_, rfl⟩ := h; omega
theorem mkReps : Mks m103 (MKL hRep) (few fun _ => True) (1048576 * 4) :=
 gMk (F := ms103_0) (good := fun _ => True) (by omega) NN_20 (fun k i a x _ hx hi h0 hb hk hB => by
  have hB : k + 4 ≤ 1152921504606846976 := hB
  refine ⟨k + 1 + 1 + 1 + 1, ⟨k, k + 1, k + 1 + 1, k + 1 + 1 + 1⟩, ?_, ⟨rfl, rfl⟩, by omega, by omega⟩
  unfold ms103_0
  simp (disch := omega) only [hi, decide_true, cond_true, hx, Option.bind_some, letO_eq, wiK, getI_set hx, getI_set (getI_set hx _), getI_set (getI_set (getI_set hx _) _), List.set_set]) (fun k i a h => by
  unfold ms103_0
  simp only [h, decide_false, cond_false])
theorem hdReps : Hds m105 (MKL hRep) :=
 gHd (F := ms105_0) hRep_m NN_20 (fun xs k r i k' x hx hi h0 hb hk hB h => by
  obtain ⟨rfl, rfl⟩ := h
  have hB : k + 1 + 1 + 1 + 1 ≤ 1152921504606846976 := hB
  refine ⟨r, ?_⟩
  unfold ms105_0
  simp (disch := omega) only [hi, decide_true, cond_true, hx, Option.bind_some, bne_self_eq_false, cond_false, wiK]) (fun xs k r i h => by
  unfold ms105_0
  simp only [h, decide_false, cond_false])
def hOp (x : TOp) (k k' : Int) : Prop := ∃ s, m70 (k + 1) = some s ∧ x = ⟨k, s, k + 1 + 1, k + 1 + 1 + 1, Int.tmod (k + 1 + 1 + 1 + 1) 3 == 0, Int.tmod (k + 1 + 1 + 1 + 1 + 1) 3 == 0⟩ ∧ k' = k + 1 + 1 + 1 + 1 + 1 + 1
theorem hOp_m : ∀ x k k', hOp x k k' → k ≤ k' := fun x k k' h => by obtain ⟨_, _, _, rfl⟩ := h; omega
theorem mkOps : Mks m125 (MKL hOp) (few fun _ => True) (1048576 * 6) :=
 gMk (F := ms125_0) (good := fun _ => True) (by omega) NN_20 (fun k i a x _ hx hi h0 hb hk hB => by
  have hB : k + 6 ≤ 1152921504606846976 := hB
  obtain ⟨t, ht⟩ := mkText (k + 1) (show _ ≤ (1152921504606846976 : Int) by omega)
  refine ⟨k + 1 + 1 + 1 + 1 + 1 + 1, ⟨k, t, k + 1 + 1, k + 1 + 1 + 1, Int.tmod (k + 1 + 1 + 1 + 1) 3 == 0, Int.tmod (k + 1 + 1 + 1 + 1 + 1) 3 == 0⟩, ?_, ⟨t, ht, rfl, rfl⟩, by omega, by omega⟩
  unfold ms125_0
  simp (disch := omega) only [hi, decide_true, cond_true, hx, Option.bind_some, letO_eq, wiK, ht, getI_set hx, getI_set (getI_set hx _), getI_set (getI_set (getI_set hx _) _), getI_set (getI_set (getI_set (getI_set hx _) _) _), getI_set (getI_set (getI_set (getI_set (getI_set hx _) _) _) _), List.set_set]) (fun k i a h => by
  unfold ms125_0
  simp only [h, decide_false, cond_false])
theorem hdOps : Hds m126 (MKL hOp) :=
 gHd (F := ms126_0) hOp_m NN_20 (fun xs k r i k' x hx hi h0 hb hk hB h => by
  obtain ⟨s, ht, rfl, rfl⟩ := h
  have hB : k + 1 + 1 + 1 + 1 + 1 + 1 ≤ 1152921504606846976 := hB
  refine ⟨r, ?_⟩
  unfold ms126_0
  simp (disch := omega) only [hi, decide_true, cond_true, hx, Option.bind_some, bne_self_eq_false, cond_false, wiK, ht, beq_self_eq_true, Bool.not_true]) (fun xs k r i h => by
  unfold ms126_0
  simp only [h, decide_false, cond_false])
def hMsg (x : TMsg) (k k' : Int) : Prop := x.Kind = k ∧ x.View = k + 1 ∧ x.From = k + 1 + 1 ∧ x.Slot = k + 1 + 1 + 1 ∧ x.Value = k + 1 + 1 + 1 + 1 ∧ ∃ j, MKL hCert x.Certs (k + 1 + 1 + 1 + 1 + 1) j ∧ MKL hInt x.Refs j k'
theorem hMsg_m : ∀ x k k', hMsg x k k' → k ≤ k' := fun x k k' h => by
 obtain ⟨_, _, _, _, _, j, h1, h2⟩ := h
 have := MKL.mono hCert_m _ _ _ h1
 have := MKL.mono hInt_m _ _ _ h2
 omega
abbrev gMsg (m : TMsg) : Prop := m.Certs.length ≤ 1048576 ∧ m.Refs.length ≤ 1048576
theorem mkMsgs : Mks m15 (MKL hMsg) (few gMsg) (1048576 * 4194309) :=
 gMk (F := ms15_0) (good := gMsg) (by omega) NN_20 (fun k i a x hg hx hi h0 hb hk hB => by
  have hB : k + 4194309 ≤ 1152921504606846976 := hB
  obtain ⟨j, cs, q1, q2, q3, q4⟩ := mkCerts x.Certs (k + 1 + 1 + 1 + 1 + 1) ⟨hg.1, fun _ _ => trivial⟩ (by omega) (show _ ≤ (1152921504606846976 : Int) by omega)
  obtain ⟨k', rs, p1, p2, p3, p4⟩ := mkInt x.Refs j ⟨hg.2, fun _ _ => trivial⟩ (by omega) (show _ ≤ (1152921504606846976 : Int) by omega)
  refine ⟨k', ⟨k, k + 1, k + 1 + 1, k + 1 + 1 + 1, k + 1 + 1 + 1 + 1, cs, rs⟩, ?_, ⟨rfl, rfl, rfl, rfl, rfl, j, q2, p2⟩, by omega, by omega⟩
  unfold ms15_0
  simp (disch := omega) only [hi, decide_true, cond_true, hx, Option.bind_some, letO_eq, wiK, q1, p1, getI_set hx, getI_set (getI_set hx _), getI_set (getI_set (getI_set hx _) _), getI_set (getI_set (getI_set (getI_set hx _) _) _), getI_set (getI_set (getI_set (getI_set (getI_set hx _) _) _) _), getI_set (getI_set (getI_set (getI_set (getI_set (getI_set hx _) _) _) _) _), List.set_set]) (fun k i a h => by
  unfold ms15_0
  simp only [h, decide_false, cond_false])
theorem hdMsgs : Hds m51 (MKL hMsg) :=
 gHd (F := ms51_0) hMsg_m NN_20 (fun xs k r i k' x hx hi h0 hb hk hB h => by
  have hB : k' ≤ 1152921504606846976 := hB
  obtain ⟨g1, g2, g3, g4, g5, j, q1, q2⟩ := h
  have m1 := MKL.mono hCert_m _ _ _ q1
  have m2 := MKL.mono hInt_m _ _ _ q2
  have e1 := hdCerts _ _ _ q1 (by omega) (show _ ≤ (1152921504606846976 : Int) by omega)
  have e2 := hdInt _ _ _ q2 (by omega) (show _ ≤ (1152921504606846976 : Int) by omega)
  have n1 : ¬ j < 0 := by omega
  have n2 : ¬ k' < 0 := by omega
  refine ⟨r, ?_⟩
  unfold ms51_0
  simp (disch := omega) only [hi, decide_true, cond_true, hx, Option.bind_some, g1, g2, g3, g4, g5, bne_self_eq_false, cond_false, wiK, e1, e2, n1, n2, decide_false]) (fun xs k r i h => by
  unfold ms51_0
  simp only [h, decide_false, cond_false])
def hReq (x : TRequest) (k k' : Int) : Prop := x.Client = k ∧ x.Number = k + 1 ∧ x.Time = k + 1 + 1 ∧ MKL hOp x.Ops (k + 1 + 1 + 1) k'
theorem hReq_m : ∀ x k k', hReq x k k' → k ≤ k' := fun x k k' h => by
 obtain ⟨_, _, _, h1⟩ := h
 have := MKL.mono hOp_m _ _ _ h1
 omega
abbrev gReq (m : TRequest) : Prop := m.Ops.length ≤ 1048576
theorem mkReqs : Mks m104 (MKL hReq) (few gReq) (1048576 * 6291459) :=
 gMk (F := ms104_0) (good := gReq) (by omega) NN_20 (fun k i a x hg hx hi h0 hb hk hB => by
  have hB : k + 6291459 ≤ 1152921504606846976 := hB
  obtain ⟨j, cs, q1, q2, q3, q4⟩ := mkOps x.Ops (k + 1 + 1 + 1) ⟨hg, fun _ _ => trivial⟩ (by omega) (show _ ≤ (1152921504606846976 : Int) by omega)
  refine ⟨j, ⟨k, k + 1, k + 1 + 1, cs⟩, ?_, ⟨rfl, rfl, rfl, q2⟩, by omega, by omega⟩
  unfold ms104_0
  simp (disch := omega) only [hi, decide_true, cond_true, hx, Option.bind_some, letO_eq, wiK, q1, getI_set hx, getI_set (getI_set hx _), getI_set (getI_set (getI_set hx _) _), List.set_set]) (fun k i a h => by
  unfold ms104_0
  simp only [h, decide_false, cond_false])
theorem hdReqs : Hds m106 (MKL hReq) :=
 gHd (F := ms106_0) hReq_m NN_20 (fun xs k r i k' x hx hi h0 hb hk hB h => by
  have hB : k' ≤ 1152921504606846976 := hB
  obtain ⟨g1, g2, g3, q1⟩ := h
  have m1 := MKL.mono hOp_m _ _ _ q1
  have e1 := hdOps _ _ _ q1 (by omega) (show _ ≤ (1152921504606846976 : Int) by omega)
  have n1 : ¬ k' < 0 := by omega
  refine ⟨r, ?_⟩
  unfold ms106_0
  simp (disch := omega) only [hi, decide_true, cond_true, hx, Option.bind_some, g1, g2, g3, bne_self_eq_false, cond_false, wiK, e1, n1, decide_false]) (fun xs k r i h => by
  unfold ms106_0
  simp only [h, decide_false, cond_false])
structure GClu (c : TCluster) : Prop where
 bad : c.Bad.length ≤ 1048576
 rep : c.Replicas.length ≤ 1048576
 led : c.Ledger.length ≤ 1048576
 msg : ∀ m ∈ c.Ledger, gMsg m
 req : c.Requests.length ≤ 1048576
 ops : ∀ r ∈ c.Requests, gReq r
def hClu (c : TCluster) (k k' : Int) : Prop := ∃ j1 j2 j3, MKL hInt c.Bad k j1 ∧ MKL hRep c.Replicas j1 j2 ∧ MKL hMsg c.Ledger j2 j3 ∧ MKL hReq c.Requests j3 k'
theorem mkClu : Mks m61 hClu GClu 1125899906842624 := fun c k g hk hB => by
 have hB : k + 1125899906842624 ≤ 1152921504606846976 := hB
 obtain ⟨j1, y1, q1, p1, a1, b1⟩ := mkInt c.Bad k ⟨g.bad, fun _ _ => trivial⟩ hk (show _ ≤ (1152921504606846976 : Int) by omega)
 obtain ⟨j2, y2, q2, p2, a2, b2⟩ := mkReps c.Replicas j1 ⟨g.rep, fun _ _ => trivial⟩ (by omega) (show _ ≤ (1152921504606846976 : Int) by omega)
 obtain ⟨j3, y3, q3, p3, a3, b3⟩ := mkMsgs c.Ledger j2 ⟨g.led, g.msg⟩ (by omega) (show _ ≤ (1152921504606846976 : Int) by omega)
 obtain ⟨j4, y4, q4, p4, a4, b4⟩ := mkReqs c.Requests j3 ⟨g.req, g.ops⟩ (by omega) (show _ ≤ (1152921504606846976 : Int) by omega)
 refine ⟨j4, ⟨c.F, y1, y2, y3, y4⟩, ?_, ⟨j1, j2, j3, p1, p2, p3, p4⟩, by omega, by omega⟩
 unfold m61
 simp only [q1, q2, q3, q4, Option.bind_some, letO_eq]
theorem hdClu : Hds m62 hClu := fun c k k' ⟨j1, j2, j3, p1, p2, p3, p4⟩ hk hB => by
 have hB : k' ≤ 1152921504606846976 := hB
 have m1 := MKL.mono hInt_m _ _ _ p1
 have m2 := MKL.mono hRep_m _ _ _ p2
 have m3 := MKL.mono hMsg_m _ _ _ p3
 have m4 := MKL.mono hReq_m _ _ _ p4
 have n1 : ¬ j1 < 0 := by omega
 have n2 : ¬ j2 < 0 := by omega
 have n3 : ¬ j3 < 0 := by omega
 have n4 : ¬ k' < 0 := by omega
 unfold m62
 rw [hdInt _ _ _ p1 hk (show _ ≤ (1152921504606846976 : Int) by omega)]
 simp only [Option.bind_some, n1, decide_false, cond_false]
 rw [hdReps _ _ _ p2 (by omega) (show _ ≤ (1152921504606846976 : Int) by omega)]
 simp only [Option.bind_some, n2, decide_false, cond_false]
 rw [hdMsgs _ _ _ p3 (by omega) (show _ ≤ (1152921504606846976 : Int) by omega)]
 simp only [Option.bind_some, n3, decide_false, cond_false]
 rw [hdReqs _ _ _ p4 (by omega) (show _ ≤ (1152921504606846976 : Int) by omega)]
 simp only [Option.bind_some, n4, decide_false, cond_false]
open Go Go.Rf
set_option linter.unusedVariables false
set_option linter.unusedSimpArgs false
theorem mkCluR (x : TClusterResult) (g : GClu x.Cluster) : ∃ k' x', m25 x 1 = some (k', x') ∧ m26 x' 1 = some k' ∧ 0 ≤ k' := by
 obtain ⟨k', y, h1, h2, h3, h4⟩ := mkClu x.Cluster 1 g (by omega) (by decide)
 refine ⟨k', { x with Cluster := y }, ?_, ?_, by omega⟩
 ·unfold m25
  rw [h1]; rfl
 ·unfold m26
  rw [hdClu y 1 k' h2 (by omega) (show k' ≤ (1152921504606846976 : Int) by omega)]
  have : ¬ k' < 0 := by omega
  simp only [Option.bind_some, this, decide_false, cond_false]
end Go.Proofs.Ytodfmofjncmdfaa
