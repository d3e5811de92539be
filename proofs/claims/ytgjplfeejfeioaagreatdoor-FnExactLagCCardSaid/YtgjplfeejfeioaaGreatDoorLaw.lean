/- Clusters: one replica. -/
import Derived.Test.YtgjplfeejfeioaaGreatDoorClu
namespace Go.Proofs.YtgjplfeejfeioaaGreatDoor
open Go Go.Rf
set_option linter.unusedVariables false
set_option linter.unusedSimpArgs false
def repI (c : TCluster) (id : Int) : Option Nat := fstN (pAt (fun r => r.Id == id) c.Replicas) c.Replicas.length
theorem replica_ok (c : TCluster) (id : Int) (h : c.Replicas.length ≤ 1048576) : (repI c id = none ∧ m82 c id = some none) ∨ ∃ (i : Nat) (hi : i < c.Replicas.length), repI c id = some i ∧ m82 c id = some (some c.Replicas[i]) := by
 unfold m82
 rw [show m148 c.Replicas (fun x0_ => some (m149 x0_ id)) = some (ixI (repI c id)) from gIF_ok (NN_l h) (big_l h) (fun x _ => rfl), obs]
 cases e : repI c id with
 | none => exact .inl ⟨rfl, rfl⟩
 | some i =>
  have hi := (fst_some_iff.1 e).1
  refine .inr ⟨i, hi, rfl, ?_⟩
  have h1 : ¬ (ixI (some i) < 0) := by simp [ixI]
  simp only [h1, decide_false, cond_false]
  rw [show ixI (some i) = (i : Int) from rfl, getN hi]; rfl
theorem rep_isNone {c : TCluster} (O : CluOk c) {id : Int} (h : 1 ≤ id ∧ id ≤ 3 * c.F + 1) : (repI c id).isNone = !okId c.Bad id := by
 unfold repI
 rw [fst_any']
 congr 1
 have hf := O.led.f12
 have e : (c.Replicas.any fun r => r.Id == id) = decide (id ∈ c.Replicas.map (·.Id)) := by
  rw [Bool.eq_iff_iff]; simp
 rw [e, O.ids]
 unfold othersL
 rw [Bool.eq_iff_iff, decide_eq_true_eq, List.mem_filter, upto_mem]
 constructor
 ·exact fun h => h.2
 ·exact fun h' => ⟨by omega, h'⟩
open Go Go.Rf
set_option linter.unusedVariables false
set_option linter.unusedSimpArgs false
theorem at12_ok (c : TCluster) (id : Int) (h : c.Replicas.length ≤ 1048576) : m155 c id = some (ixI (repI c id)) := gIF_ok (f := fun r : TReplica => some (r.Id == id)) (NN_l h) (big_l h) (fun _ _ => rfl)
theorem lag_eq (c : TCluster) (id : Int) (g : GoodClu c) : ∃ y, m26 c id = some y ∧ m27 c id = some y := by
 obtain ⟨y, h1, h2, h3⟩ := clu_eq2 c g
 unfold m26 m27 m87 m89
 rw [h1, h2]
 simp only [obs]
 by_cases hy : y = 0
 rotate_left
 ·have e : (y != 0) = true := by simpa using hy
  simp only [e, cond_true, obs]
  exact ⟨_, rfl, rfl⟩
 have H := (h3 hy).led
 have e : (y != 0) = false := by simpa using hy
 simp only [e, cond_false, at12_ok c id g.rep, obs]
 rcases replica_ok c id g.rep with ⟨r1, r2⟩ | ⟨k, hk, r1, r2⟩
 ·rw [r1, r2]; exact ⟨_, rfl, rfl⟩
 ·rw [r1, r2]
  have h1 : ¬ (ixI (some k) < 0) := by simp [ixI]
  have e0 : ((0 : Int) != 0) = false := rfl
  simp only [h1, decide_false, cond_false, obs, optO, e0, log_spec H, log_impl H]
  rw [show ixI (some k) = (k : Int) from rfl, getN hk]
  exact ⟨_, rfl, rfl⟩
theorem eqInt_self (x : TIntResult) : m28 x x = true := by simp [m28]
theorem lag_law (c : TCluster) (id : Int) (h : okClu c) : m7 c id = some true := by
 unfold m7
 obtain ⟨y, h1, h2⟩ := szClu_ok c h
 rw [h1, obs]
 by_cases hy : y < 0
 ·simp only [hy, decide_true, cond_true]
 have g := h2 (by omega)
 obtain ⟨z, k1, k2⟩ := lag_eq c id g
 simp only [hy, decide_false, cond_false, toClu_ok c g, obs, k1, k2, eqClu_ok c g, eqInt_self]
 rfl
end Go.Proofs.YtgjplfeejfeioaaGreatDoor
