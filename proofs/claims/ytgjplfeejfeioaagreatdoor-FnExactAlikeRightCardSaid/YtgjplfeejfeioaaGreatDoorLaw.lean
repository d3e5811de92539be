/- The law of AlikeRight. -/
import Derived.Test.YtgjplfeejfeioaaGreatDoorClu
namespace Go.Proofs.YtgjplfeejfeioaaGreatDoor
open Go Go.Rf
set_option linter.unusedVariables false
set_option linter.unusedSimpArgs false
theorem rep_done {f : Int} {xs : List TMsg} {r : TReplica} (h : repCode f xs r = 0) : (0 ≤ r.Done ∧ r.Done ≤ 30) ∧ (r.Done ≤ ((logL f xs).length : Int)) := by
 unfold repCode at h
 cases h1 : repBad f r
 rotate_left
 ·rw [h1] at h; cases h
 cases h2 : startBad f xs r
 rotate_left
 ·rw [h1, h2] at h; cases h
 cases h3 : decide (r.Done > ((logL f xs).length : Int))
 rotate_left
 ·rw [h1, h2, h3] at h; cases h
 unfold repBad at h1
 simp only [Bool.or_eq_false_iff, Bool.not_eq_false', inR_t] at h1
 rw [decide_eq_false_iff_not] at h3
 exact ⟨h1.2.2, by omega⟩
theorem vals_ok (c : TCluster) (H : LedOk c.F c.Ledger) (i : Nat) (hi : i < c.Replicas.length) (hr : repCode c.F c.Ledger c.Replicas[i] = 0) : m78 c (i : Int) = some ((logL c.F c.Ledger).take c.Replicas[i].Done.toNat) := by
 obtain ⟨h1, h2⟩ := rep_done hr
 unfold m78
 rw [log_spec H, obs, getN hi, obs]
 have e : m146 c.Replicas[i].Done ((logL c.F c.Ledger).length : Int) = (c.Replicas[i].Done.toNat : Int) := by
  unfold m146
  by_cases h : c.Replicas[i].Done < ((logL c.F c.Ledger).length : Int)
  ·simp only [h, decide_true, cond_true]; omega
  ·simp only [h, decide_false, cond_false]; omega
 rw [e, sub_take (by omega)]
 rfl
theorem begins_t (L : List Int) (a b : Nat) (hb : b ≤ a) (ha : a ≤ L.length) (hl : L.length ≤ 1000) : m79 (L.take a) (L.take b) = some true := by
 unfold m79
 have h1 : ¬ (((L.take b).length : Int) > ((L.take a).length : Int)) := by simp; omega
 simp only [h1, decide_false, cond_false]
 rw [loop_all (f := ms79_0 (L.take a) (L.take b)) (s0 := (false, 0)) (fun i => (false, (i : Int))) (L.take b).length (.exit 0 (false, ((L.take b).length : Int))) (fun i hi => ?_) ?_ rfl (NN_l (by simp; omega)) rfl]
 ·rfl
 ·unfold ms79_0
  simp only [Int.lt_irrefl, decide_false, cond_false]
 ·have hc' : (i : Int) < ((L.take b).length : Int) := by omega
  have hi' := hi
  rw [List.length_take] at hi'
  have hia : i < (L.take a).length := by rw [List.length_take]; omega
  have e : ((L.take a)[i] != (L.take b)[i]) = false := by simp
  unfold ms79_0
  simp only [hc', decide_true, cond_true, getN hi, getN hia, obs, e, cond_false, wi1 (show i ≤ 1099511627776 by omega)]
theorem begins_b (L : List Int) (a b : Nat) (ha : a ≤ L.length) (hb : b ≤ L.length) (hl : L.length ≤ 1000) : ∃ y, m79 (L.take a) (L.take b) = some y ∧ (y = false → a < b) := by
 by_cases h : b ≤ a
 ·exact ⟨true, begins_t L a b h ha hl, fun h => by cases h⟩
 ·refine ⟨false, ?_, fun _ => by omega⟩
  unfold m79
  have h1 : ((L.take b).length : Int) > ((L.take a).length : Int) := by simp; omega
  simp only [h1, decide_true, cond_true]
theorem alike_eq (c : TCluster) (g : GoodClu c) : ∃ y, m22 c = some y ∧ m23 c = some y := by
 obtain ⟨y, h1, h2, h3⟩ := clu_eq2 c g
 unfold m22 m23
 rw [h1, h2]
 simp only [obs]
 by_cases hy : y = 0
 rotate_left
 ·have e : (y != 0) = true := by simpa using hy
  have e2 : (y == 0) = false := by simpa using hy
  rw [e, e2]; exact ⟨_, rfl, rfl⟩
 have O := h3 hy
 have H := O.led
 have hlog := log_len c.F c.Ledger
 have e : (y != 0) = false := by simpa using hy
 have e2 : (y == 0) = true := by simpa using hy
 rw [e, e2]
 simp only [cond_false]
 refine ⟨true, ?_, rfl⟩
 rw [loop_all (f := ms22_1 c) (s0 := (false, 0)) (fun i => (false, (i : Int))) c.Replicas.length (.exit 0 (false, (c.Replicas.length : Int))) (fun i hi => ?_) ?_ rfl (NN_l g.rep) rfl]
 ·rfl
 ·unfold ms22_1
  simp only [Int.lt_irrefl, decide_false, cond_false]
 ·have hc' : (i : Int) < (c.Replicas.length : Int) := by omega
  have hri := O.reps _ (List.getElem_mem hi)
  have hdi := rep_done hri
  have inner : loopO (ms22_0 c (false, (i : Int))) NN (false, 0) = some (.exit 2 (false, (i : Int))) := by
   refine loop_all (f := ms22_0 c (false, (i : Int))) (s0 := (false, 0)) (fun j => (false, (j : Int))) i (.exit 2 (false, (i : Int))) (fun j hj => ?_) ?_ rfl (NN_l (by have := g.rep; omega)) rfl
   ·have hj' : (j : Int) < (i : Int) := by omega
    have hjl : j < c.Replicas.length := by omega
    have hrj := O.reps _ (List.getElem_mem hjl)
    have hdj := rep_done hrj
    unfold ms22_0
    simp only [hj', decide_true, cond_true, vals_ok c H i hi hri, vals_ok c H j hjl hrj, obs]
    obtain ⟨y4, k1, k2⟩ := begins_b (logL c.F c.Ledger) c.Replicas[i].Done.toNat c.Replicas[j].Done.toNat (by omega) (by omega) (by omega)
    rw [k1, obs]
    cases y4
    ·have := k2 rfl
     rw [begins_t (logL c.F c.Ledger) c.Replicas[j].Done.toNat c.Replicas[i].Done.toNat (by omega) (by omega) (by omega)]
     simp only [Bool.not_false, Bool.not_true, cond_true, cond_false, obs, contO, wi1 (show j ≤ 1099511627776 by have := g.rep; omega)]
    ·simp only [Bool.not_true, cond_false, obs, contO, wi1 (show j ≤ 1099511627776 by have := g.rep; omega)]
   ·unfold ms22_0
    simp only [Int.lt_irrefl, decide_false, cond_false]
  unfold ms22_1
  simp only [hc', decide_true, cond_true, inner, obs, contO, if_true, wi1 (show i ≤ 1099511627776 by have := g.rep; omega)]
theorem alike_law (c : TCluster) (h : okClu c) : m5 c = some true := by
 unfold m5
 obtain ⟨y, h1, h2⟩ := szClu_ok c h
 rw [h1, obs]
 by_cases hy : y < 0
 ·simp only [hy, decide_true, cond_true]
 have g := h2 (by omega)
 obtain ⟨z, k1, k2⟩ := alike_eq c g
 simp only [hy, decide_false, cond_false, toClu_ok c g, obs, k1, k2, eqClu_ok c g]
 cases z <;> rfl
end Go.Proofs.YtgjplfeejfeioaaGreatDoor
