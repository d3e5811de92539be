/- FnExactNewCluster, the plain law. -/
import Derived.Test.YtodfmofjncmdfaaMks
namespace Go.Proofs.Ytodfmofjncmdfaa
open Go Go.Rf
set_option linter.unusedVariables false
set_option linter.unusedSimpArgs false
theorem NN_l {n : Nat} (h : n ≤ 1048576) : n < NN := by rw [NN_eq]; omega
theorem big_l {n : Nat} (h : n ≤ 1048576) : n ≤ big := by unfold big; omega
theorem toI_ok (xs : List Int) (h : xs.length ≤ 1048576) : m20 xs = some xs := gT_ok (t := fun x => x) (z := 0) (by_ := 8) (fun _ => rfl) (NN_l h) h (by omega)
theorem eqI_ok (xs : List Int) (h : xs.length ≤ 1048576) : m23 xs xs = some true := gE_self (ne := fun a b => a != b) (fun a => by simp) (NN_l h) (big_l h)
theorem eqReps_ok (xs : List TReplica) (h : xs.length ≤ 1048576) : m101 xs xs = some true := gE_self (ne := fun a b => !(m123 a b)) (fun a => by simp [m123]) (NN_l h) (big_l h)
def inR (n lo hi : Int) : Bool := decide (lo ≤ n ∧ n ≤ hi)
theorem in1 (n lo hi : Int) : m74 n lo hi = inR n lo hi := by
 unfold m74 inR
 by_cases h : n ≥ lo
 ·simp [h]
 ·simp [h]
theorem in2 (n lo hi : Int) : m84 n lo hi = inR n lo hi := in1 n lo hi
def manyI (f : Int) : Int := wi .i64 ((wi .i64 (3 * f)) + 1)
theorem many_in (f : Int) : m89 f = manyI f := rfl
theorem repl_in (f k : Int) : m86 f k = inR k 1 (manyI f) := in1 _ _ _
theorem id_in (f k : Int) : m75 f k = inR k 1 (manyI f) := in1 _ _ _
def dropS (xs : List Int) (i : Nat) : Bool := decide (0 < i) && decide (A xs i ≤ A xs (i - 1))
theorem wi_pred {i : Nat} (h0 : 0 < i) (h : i ≤ big) : wi .i64 ((i : Int) - 1) = ((i - 1 : Nat) : Int) := by
 unfold big at h
 rw [wi64 (by omega) (by omega)]; omega
def upto (n : Nat) : List Int := (List.range n).map fun (j : Nat) => ((j : Int) + 1)
theorem upto_succ (n : Nat) : upto (n + 1) = upto n ++ [(n : Int) + 1] := by simp [upto, List.range_succ]
theorem appI {L : List Int} {k : Int} (h : L.length ≤ 1000) : appO 8 L [k] = some (L ++ [k]) := by
 unfold appO
 rw [if_pos (by simp; omega)]
theorem many_val {f : Int} (h : 1 ≤ f ∧ f ≤ 2) : manyI f = 3 * f + 1 := by
 unfold manyI
 rw [wi64 (x := 3 * f) (by omega) (by omega), wi64 (by omega) (by omega)]
theorem upto_filter_len {f : Int} (hf : 1 ≤ f ∧ f ≤ 2) {p : Int → Bool} {i : Nat} (hi : i ≤ 7) : ((upto i).filter p).length ≤ 1000 := Nat.le_trans (List.length_filter_le _ _) (by simp [upto]; omega)
theorem wi_next {i : Nat} (h : i ≤ 1048576) : wi .i64 ((i : Int) + 1 + 1) = ((i + 1 : Nat) : Int) + 1 := by rw [wi64 (by omega) (by omega)]; omega
def badAt (f : Int) (bs : List Int) (i : Nat) : Bool := !inR (A bs i) 1 (manyI f) || dropS bs i
def badCode (f : Int) (bs : List Int) : Int := orF (fstN (badAt f bs) bs.length) (fun i => bif !inR (A bs i) 1 (manyI f) then 3 else 1) 0
theorem badAt_get {f : Int} {bs : List Int} {i : Nat} (h : i < bs.length) : badAt f bs i = (!inR bs[i] 1 (manyI f) || (decide (0 < i) && decide (bs[i] ≤ bs[i - 1]))) := by
 unfold badAt dropS
 rw [A_get h, A_get (show i - 1 < bs.length by omega)]
theorem bad_impl (f : Int) (bs : List Int) (h : bs.length ≤ 1048576) : m99 f bs = some (badCode f bs) := by
 unfold m99 badCode
 rw [loop_first (f := ms99_0 f bs) (s0 := (0, 0)) (fun i => (0, (i : Int))) bs.length (badAt f bs) (fun i => .ret (bif !inR (A bs i) 1 (manyI f) then 3 else 1, (i : Int))) (.exit 0 (0, (bs.length : Int))) (fun i hi _ hp => ?_) (fun i hi _ hp => ?_) (fun _ => ?_) (NN_l h) rfl]
 ·cases fstN (badAt f bs) bs.length <;> rfl
 ·have hc' : (i : Int) < (bs.length : Int) := by omega
  have hb : i ≤ big := Nat.le_trans (Nat.le_of_lt hi) (big_l h)
  rw [badAt_get hi, Bool.or_eq_false_iff] at hp
  unfold ms99_0
  simp only [hc', decide_true, cond_true, getN hi, Option.bind_some, repl_in, hp.1, cond_false]
  by_cases h0 : 0 < i
  ·have h0' : (i : Int) > 0 := by omega
   have hp2 := hp.2
   rw [decide_eq_true h0, Bool.true_and] at hp2
   simp only [h0', decide_true, cond_true, wi_pred h0 hb, getN (show i - 1 < bs.length by omega), Option.bind_some, hp2, cond_false, contO, wi1 hb]
  ·have h0' : ¬ (i : Int) > 0 := by omega
   simp only [h0', decide_false, cond_false, Option.bind_some, contO, wi1 hb]
 ·have hc' : (i : Int) < (bs.length : Int) := by omega
  have hb : i ≤ big := Nat.le_trans (Nat.le_of_lt hi) (big_l h)
  rw [badAt_get hi] at hp
  unfold ms99_0
  simp only [hc', decide_true, cond_true, getN hi, Option.bind_some, repl_in, A_get hi]
  cases hr : !inR bs[i] 1 (manyI f)
  ·rw [hr, Bool.false_or, Bool.and_eq_true] at hp
   have h0 : 0 < i := of_decide_eq_true hp.1
   have h0' : (i : Int) > 0 := by omega
   simp only [cond_false, h0', decide_true, cond_true, wi_pred h0 hb, getN (show i - 1 < bs.length by omega), Option.bind_some, hp.2, contO]
   exact ⟨trivial, rfl⟩
  ·exact ⟨rfl, rfl⟩
 ·unfold ms99_0
  simp only [Int.lt_irrefl, decide_false, cond_false]
  exact ⟨trivial, rfl⟩
theorem bad_step (f : Int) (bs : List Int) : ms54_0 f bs = ms99_0 f bs := by
 funext s
 unfold ms54_0 ms99_0
 cases hg : getI bs s.2 with
 | none => rfl
 | some x =>
  simp only [Option.bind_some, id_in, repl_in]
theorem bad_spec (f : Int) (bs : List Int) (h : bs.length ≤ 1048576) : m54 f bs = some (bif decide ((bs.length : Int) > f) then 2 else badCode f bs) := by
 unfold m54
 cases decide ((bs.length : Int) > f)
 rotate_left
 ·rfl
 simp only [cond_false]
 rw [bad_step]
 exact bad_impl f bs h
def okId (bs : List Int) (id : Int) : Bool := !decide (id ∈ bs)
def othersL (f : Int) (bs : List Int) : List Int := (upto (3 * f + 1).toNat).filter (okId bs)
theorem others_impl {f : Int} (hf : 1 ≤ f ∧ f ≤ 2) (bs : List Int) (h : bs.length ≤ 1048576) : m59 f bs = some (othersL f bs) := by
 have hm := many_val hf
 unfold m59
 rw [loop_all (f := ms59_0 f bs) (s0 := (1, [])) (fun i => ((i : Int) + 1, (upto i).filter (okId bs))) (3 * f + 1).toNat (.exit 0 (((3 * f + 1).toNat : Int) + 1, othersL f bs)) (fun i hi => ?_) ?_ rfl (NN_l (by omega)) rfl]
 ·rfl
 ·unfold ms59_0
  have hc : ¬ (((3 * f + 1).toNat : Int) + 1 ≤ manyI f) := by omega
  have hc' : decide ((((3 * f + 1).toNat : Int) + 1) ≤ m89 f) = false := decide_eq_false hc
  dsimp only
  rw [hc', cond_false]
  rfl
 ·unfold ms59_0
  have hc : (i : Int) + 1 ≤ manyI f := by omega
  have hc' : decide ((i : Int) + 1 ≤ m89 f) = true := decide_eq_true hc
  dsimp only
  rw [hc', cond_true, show m100 bs ((i : Int) + 1) = some (decide ((i : Int) + 1 ∈ bs)) from gCo_ok (NN_l h) (big_l h), Option.bind_some, upto_succ, List.filter_append]
  have e : wi .i64 ((i : Int) + 1 + 1) = ((i + 1 : Nat) : Int) + 1 := wi_next (by omega)
  cases hs : okId bs ((i : Int) + 1)
  ·have hs' : (!decide ((i : Int) + 1 ∈ bs)) = false := hs
   simp only [hs', cond_false, Option.bind_some, contO, e]
   simp [hs]
  ·have hs' : (!decide ((i : Int) + 1 ∈ bs)) = true := hs
   simp only [hs', cond_true, appI (upto_filter_len hf (p := okId bs) (i := i) (by omega)), Option.bind_some, contO, e]
   simp [hs]
theorem is_spec (bs : List Int) (v : Int) (h : bs.length ≤ 1048576) : m98 bs v = some (!okId bs v) := by
 unfold m98
 rw [loop_first (f := ms98_0 bs v) (s0 := (false, 0)) (fun i => (false, (i : Int))) bs.length (pAt (fun x => x == v) bs) (fun i => .ret (true, (i : Int))) (.exit 0 (false, (bs.length : Int))) (fun i hi _ hp => ?_) (fun i hi _ hp => ?_) (fun _ => ?_) (NN_l h) rfl]
 ·have e : (!okId bs v) = bs.any fun x => x == v := by
   unfold okId
   rw [Bool.not_not, Bool.eq_iff_iff]
   simp
  rw [e, ← fst_any]
  cases fstN (pAt (fun x => x == v) bs) bs.length <;> rfl
 ·rw [pAt_get hi] at hp
  have hc' : (i : Int) < (bs.length : Int) := by omega
  unfold ms98_0
  simp only [hc', decide_true, cond_true, getN hi, Option.bind_some, hp, cond_false, wi1 (show i ≤ 1099511627776 by omega)]
 ·rw [pAt_get hi] at hp
  have hc' : (i : Int) < (bs.length : Int) := by omega
  unfold ms98_0
  simp only [hc', decide_true, cond_true, getN hi, Option.bind_some, hp]
  exact ⟨trivial, rfl⟩
 ·unfold ms98_0
  simp only [Int.lt_irrefl, decide_false, cond_false]
  exact ⟨trivial, rfl⟩
theorem l8F_ok (f : Int) : m52 f = inR f 1 2 := in1 _ _ _
theorem isF_ok (f : Int) : m56 f = inR f 1 2 := in1 _ _ _
def mkRep (id : Int) : TReplica := ⟨id, 0, -1, 0⟩
theorem appR {L : List TReplica} {k : TReplica} (h : L.length ≤ 1000) : appO 32 L [k] = some (L ++ [k]) := by
 unfold appO
 rw [if_pos (by simp; omega)]
theorem reps_impl (ids : List Int) (h : ids.length ≤ 1000) : loopO (ms21_0 ids) NN (0, []) = some (.exit 0 ((ids.length : Int), ids.map mkRep)) := by
 refine loop_all (f := ms21_0 ids) (s0 := (0, [])) (fun i => ((i : Int), (ids.take i).map mkRep)) ids.length _ (fun i hi => ?_) ?_ rfl (NN_l (by omega)) rfl
 ·have hc' : (i : Int) < (ids.length : Int) := by omega
  unfold ms21_0
  simp only [hc', decide_true, cond_true, getN hi, Option.bind_some]
  rw [appR (by simp; omega), wi1 (by omega), Option.bind_some, List.take_succ_eq_append_getElem hi, List.map_append]
  rfl
 ·unfold ms21_0
  simp only [Int.lt_irrefl, decide_false, cond_false, List.take_length]
theorem reps_spec {f : Int} (hf : 1 ≤ f ∧ f ≤ 2) (bs : List Int) (h : bs.length ≤ 1048576) : loopO (ms55_0 f bs) NN (1, []) = some (.exit 0 (((3 * f + 1).toNat : Int) + 1, (othersL f bs).map mkRep)) := by
 have hm := many_val hf
 refine loop_all (f := ms55_0 f bs) (s0 := (1, [])) (fun i => ((i : Int) + 1, ((upto i).filter (okId bs)).map mkRep)) (3 * f + 1).toNat _ (fun i hi => ?_) ?_ rfl (NN_l (by omega)) rfl
 ·have hc : (i : Int) + 1 ≤ manyI f := by omega
  unfold ms55_0
  dsimp only
  rw [show (decide ((i : Int) + 1 ≤ wi .i64 ((wi .i64 (3 * f)) + 1))) = true from decide_eq_true hc, cond_true, is_spec bs _ h, Option.bind_some, upto_succ, List.filter_append, Bool.not_not]
  have e : wi .i64 ((i : Int) + 1 + 1) = ((i + 1 : Nat) : Int) + 1 := wi_next (by omega)
  cases hs : okId bs ((i : Int) + 1)
  ·simp only [cond_false, Option.bind_some, contO, e]
   simp [hs]
  ·simp only [cond_true, appR (show (((upto i).filter (okId bs)).map mkRep).length ≤ 1000 by rw [List.length_map]; exact upto_filter_len hf (by omega)), Option.bind_some, contO, e]
   simp [hs, mkRep]
 ·unfold ms55_0
  dsimp only
  rw [show (decide (((3 * f + 1).toNat : Int) + 1 ≤ wi .i64 ((wi .i64 (3 * f)) + 1))) = false from decide_eq_false (by have : manyI f = wi .i64 ((wi .i64 (3 * f)) + 1) := rfl; omega), cond_false]
  rfl
theorem new_eq (f : Int) (bs : List Int) (h : bs.length ≤ 1048576) : ∃ c, m19 f bs = some c ∧ m21 f bs = some c ∧ c.Cluster.Bad.length ≤ 1048576 ∧ c.Cluster.Replicas.length ≤ 1048576 ∧ c.Cluster.Ledger = [] ∧ c.Cluster.Requests = [] := by
 unfold m19 m21
 rw [l8F_ok, isF_ok]
 cases hF : inR f 1 2
 ·exact ⟨_, rfl, rfl, by simp [m53], by simp [m53], rfl, rfl⟩
 have hf : 1 ≤ f ∧ f ≤ 2 := by unfold inR at hF; simpa using hF
 simp only [Bool.not_true, cond_false]
 have e1 : m57 f bs = some (bif decide ((bs.length : Int) > f) then 2 else badCode f bs) := by
  unfold m57
  rw [bad_impl f bs h]
  cases decide ((bs.length : Int) > f) <;> rfl
 rw [bad_spec f bs h, e1]
 simp only [Option.bind_some]
 generalize (bif decide ((bs.length : Int) > f) then (2 : Int) else badCode f bs) = y
 cases hy : y != 0
 rotate_left
 ·exact ⟨_, rfl, rfl, by simp [m53], by simp [m53], rfl, rfl⟩
 simp only [cond_false]
 have hap : appO 8 ([] : List Int) bs = some bs := by
  unfold appO
  rw [if_pos (by simp; omega)]; rfl
 have hol : (othersL f bs).length ≤ 1000 := upto_filter_len hf (by omega)
 have e2 : m55 f bs = some (⟨f, bs, (othersL f bs).map mkRep, [], []⟩ : TCluster) := by
  unfold m55
  rw [hap, Option.bind_some, reps_spec hf bs h]; rfl
 have e3 : m58 bs = some bs := hap
 rw [e2, e3, others_impl hf bs h]
 simp only [Option.bind_some]
 rw [reps_impl _ hol]
 exact ⟨_, rfl, rfl, h, by simp only [List.length_map]; omega, rfl, rfl⟩
theorem eqMsgs_nil : m13 [] [] = some true := by
 unfold m13
 obtain ⟨n, hn⟩ : ∃ n, NN = n + 1 := ⟨NN - 1, by have := NN_l (n := 0) (by omega); omega⟩
 rw [hn]
 rfl
theorem eqReqs_nil : m102 [] [] = some true := by
 unfold m102
 obtain ⟨n, hn⟩ : ∃ n, NN = n + 1 := ⟨NN - 1, by have := NN_l (n := 0) (by omega); omega⟩
 rw [hn]
 rfl
theorem newCluster_law (f : Int) (bs : List Int) : m4 f bs = some true := by
 unfold m4
 by_cases hl : (bs.length : Int) > 1048576
 ·simp only [hl, decide_true, cond_true]
 simp only [hl, decide_false, cond_false]
 have h : bs.length ≤ 1048576 := by omega
 obtain ⟨w, e1, e2, g1, g2, g3, g4⟩ := new_eq f bs h
 have eqC : m22 w w = some true := by
  unfold m22 m60
  rw [eqI_ok _ g1, eqReps_ok _ g2, g3, g4, eqMsgs_nil, eqReqs_nil]
  simp
 obtain ⟨k, bs', q1, _, q3, _⟩ := mkInt bs 1 ⟨h, fun _ _ => trivial⟩ (by omega) (by decide)
 obtain ⟨k2, w', p1, p2, p3⟩ := mkCluR w ⟨g1, g2, by rw [g3]; simp, by rw [g3]; simp, by rw [g4]; simp, by rw [g4]; simp⟩
 have hk : ¬ k < 0 := by omega
 have hk2 : ¬ k2 < 0 := by omega
 simp only [toI_ok bs h, eqI_ok bs h, e1, e2, eqC, q1, p1, p2, hk, hk2, Option.bind_some, Bool.not_true, cond_false, decide_false, contO, bne_self_eq_false]
end Go.Proofs.Ytodfmofjncmdfaa
