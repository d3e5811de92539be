/- The law of SafeRight. -/
import Derived.Test.YtgjplfeejfeioaaGreatDoorClu
namespace Go.Proofs.YtgjplfeejfeioaaGreatDoor
open Go Go.Rf
set_option linter.unusedVariables false
set_option linter.unusedSimpArgs false
theorem safe_eq (c : TCluster) (g : GoodClu c) : ∃ y, m20 c = some y ∧ m21 c = some y := by
 obtain ⟨y, h1, h2, h3⟩ := clu_eq2 c g
 unfold m20 m21
 rw [h1, h2]
 simp only [obs]
 by_cases hy : y = 0
 rotate_left
 ·have e : (y != 0) = true := by simpa using hy
  rw [e]; exact ⟨_, rfl, rfl⟩
 have H := (h3 hy).led
 have e : (y != 0) = false := by simpa using hy
 rw [e]
 simp only [cond_false]
 have hst : ms21_0 c = ms20_0 c := by
  funext s
  unfold ms21_0 ms20_0
  rw [dec_impl H, dec_spec H]
 rw [hst, loop_first (f := ms20_0 c) (s0 := (false, 1)) (fun i => (false, (i : Int) + 1)) 30 (fun i => decide (((valuesL c.F c.Ledger ((i : Int) + 1)).length : Int) > 1)) (fun i => .ret (false, (i : Int) + 1)) (.exit 0 (false, 31)) (fun i hi _ hp => ?_) (fun i hi _ hp => ?_) (fun _ => ?_) (NN_l (by omega)) rfl]
 ·cases fstN (fun i => decide (((valuesL c.F c.Ledger ((i : Int) + 1)).length : Int) > 1)) 30 <;> exact ⟨_, rfl, rfl⟩
 ·have hc : (i : Int) + 1 ≤ 30 := by omega
  unfold ms20_0
  simp only [hc, decide_true, cond_true, dec_spec H, obs, hp, cond_false, wi_next (show i ≤ 1048576 by omega)]
 ·have hc : (i : Int) + 1 ≤ 30 := by omega
  unfold ms20_0
  simp only [hc, decide_true, cond_true, dec_spec H, obs, hp]
  exact ⟨trivial, rfl⟩
 ·exact ⟨rfl, rfl⟩
theorem safe_law (c : TCluster) (h : okClu c) : m4 c = some true := by
 unfold m4
 obtain ⟨y, h1, h2⟩ := szClu_ok c h
 rw [h1, obs]
 by_cases hy : y < 0
 ·simp only [hy, decide_true, cond_true]
 have g := h2 (by omega)
 obtain ⟨z, k1, k2⟩ := safe_eq c g
 simp only [hy, decide_false, cond_false, toClu_ok c g, obs, k1, k2, eqClu_ok c g]
 cases z <;> rfl
end Go.Proofs.YtgjplfeejfeioaaGreatDoor
