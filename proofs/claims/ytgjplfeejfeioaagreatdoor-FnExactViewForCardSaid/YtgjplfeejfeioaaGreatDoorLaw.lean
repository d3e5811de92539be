/- Clusters: one replica. -/
import Derived.Test.YtgjplfeejfeioaaGreatDoorClu
namespace Go.Proofs.YtgjplfeejfeioaaGreatDoor
open Go Go.Rf
set_option linter.unusedVariables false
set_option linter.unusedSimpArgs false
def repI (c : TCluster) (id : Int) : Option Nat := fstN (pAt (fun r => r.Id == id) c.Replicas) c.Replicas.length
theorem replica_ok (c : TCluster) (id : Int) (h : c.Replicas.length ≤ 1048576) : (repI c id = none ∧ m82 c id = some none) ∨ ∃ (i : Nat) (hi : i < c.Replicas.length), repI c id = some i ∧ m82 c id = some (some c.Replicas[i]) := by
 unfold m82
 rw [show m148 c.Replicas (fun x0_ => some (m149 x0_ id)) = some (ixI (repI c id)) from gIF_ok (NN_l h) (big_l h) (fun x _ => rfl), obs]
 cases e : repI c id with
 | none => exact .inl ⟨rfl, rfl⟩
 | some i =>
  have hi := (fst_some_iff.1 e).1
  refine .inr ⟨i, hi, rfl, ?_⟩
  have h1 : ¬ (ixI (some i) < 0) := by simp [ixI]
  simp only [h1, decide_false, cond_false]
  rw [show ixI (some i) = (i : Int) from rfl, getN hi]; rfl
theorem rep_isNone {c : TCluster} (O : CluOk c) {id : Int} (h : 1 ≤ id ∧ id ≤ 3 * c.F + 1) : (repI c id).isNone = !okId c.Bad id := by
 unfold repI
 rw [fst_any']
 congr 1
 have hf := O.led.f12
 have e : (c.Replicas.any fun r => r.Id == id) = decide (id ∈ c.Replicas.map (·.Id)) := by
  rw [Bool.eq_iff_iff]; simp
 rw [e, O.ids]
 unfold othersL
 rw [Bool.eq_iff_iff, decide_eq_true_eq, List.mem_filter, upto_mem]
 constructor
 ·exact fun h => h.2
 ·exact fun h' => ⟨by omega, h'⟩
open Go Go.Rf
set_option linter.unusedVariables false
set_option linter.unusedSimpArgs false
theorem rep_view {f : Int} {xs : List TMsg} {r : TReplica} (h : repCode f xs r = 0) : 0 ≤ r.View ∧ r.View ≤ 20 := by
 unfold repCode at h
 cases h1 : repBad f r
 rotate_left
 ·rw [h1] at h; cases h
 unfold repBad at h1
 simp only [Bool.or_eq_false_iff, Bool.not_eq_false', inR_t] at h1
 exact h1.2.1
def topL (l : List TReplica) : Int := l.foldl (fun t r => maxI t r.View) 0
theorem max_eq (a b : Int) : m156 a b = maxI a b := by
 unfold m156 maxI
 by_cases h : b > a
 ·have h2 : ¬ a > b := by omega
  simp only [h, h2, decide_false, cond_false, if_true]
 ·rw [if_neg h]
  by_cases h2 : a > b
  ·simp only [h2, decide_true, cond_true]
  ·simp only [h2, decide_false, cond_false]; omega
theorem top_in (l : List TReplica) (h : ∀ r ∈ l, 0 ≤ r.View ∧ r.View ≤ 20) : ∀ t : Int, 0 ≤ t ∧ t ≤ 20 → 0 ≤ l.foldl (fun t r => maxI t r.View) t ∧ l.foldl (fun t r => maxI t r.View) t ≤ 20 := by
 induction l with
 | nil => intro t ht; exact ht
 | cons r l ih =>
  intro t ht
  refine ih (fun q hq => h q (by simp [hq])) _ ?_
  have := h r (by simp)
  show 0 ≤ (if r.View > t then r.View else t) ∧ (if r.View > t then r.View else t) ≤ 20
  split <;> omega
theorem top_step {l : List TReplica} {i : Nat} (h : i < l.length) : topL (l.take (i + 1)) = maxI (topL (l.take i)) l[i].View := by
 unfold topL
 rw [take_snoc' h, List.foldl_append]; rfl
theorem prim_in {f : Int} (hf : 1 ≤ f ∧ f ≤ 2) {v : Int} (hv : 0 ≤ v) : 1 ≤ primI f v ∧ primI f v ≤ 3 * f + 1 := by
 have hm := many_val hf
 unfold primI
 rw [hm]
 have h1 := Int.tmod_nonneg (3 * f + 1) hv
 have h2 := Int.tmod_lt_of_pos v (show 0 < 3 * f + 1 by omega)
 rw [wi64 (by omega) (by omega)]
 omega
theorem view_eq (c : TCluster) (g : GoodClu c) : ∃ y, m29 c = some y ∧ m30 c = some y := by
 obtain ⟨y, h1, h2, h3⟩ := clu_eq2 c g
 unfold m29 m30
 rw [h1, h2]
 simp only [obs]
 by_cases hy : y = 0
 rotate_left
 ·have e : (y != 0) = true := by simpa using hy
  rw [e]; exact ⟨_, rfl, rfl⟩
 have O := h3 hy
 have hf := O.led.f12
 have e : (y != 0) = false := by simpa using hy
 rw [e]
 simp only [cond_false]
 have htop := top_in c.Replicas (fun r hr => rep_view (O.reps r hr)) 0 ⟨by omega, by omega⟩
 have htop : 0 ≤ topL c.Replicas ∧ topL c.Replicas ≤ 20 := htop
 unfold m90 m91
 have l1 : loopO (ms90_0 c) NN (0, 0) = some (.exit 0 (topL c.Replicas, (c.Replicas.length : Int))) := by
  rw [loop_all (f := ms90_0 c) (s0 := (0, 0)) (fun i => (topL (c.Replicas.take i), (i : Int))) c.Replicas.length (.exit 0 (topL (c.Replicas.take c.Replicas.length), (c.Replicas.length : Int))) (fun i hi => ?_) ?_ rfl (NN_l g.rep) rfl]
  ·rw [List.take_length]
  ·unfold ms90_0
   simp only [Int.lt_irrefl, decide_false, cond_false]
  ·have hc' : (i : Int) < (c.Replicas.length : Int) := by omega
   unfold ms90_0
   simp only [hc', decide_true, cond_true, getN hi, obs, max_eq, top_step hi, wi1 (show i ≤ 1099511627776 by have := g.rep; omega)]
 have l2 : loopO (ms91_0 c) NN (0, 0) = some (.exit 0 (topL c.Replicas, (c.Replicas.length : Int))) := by
  rw [loop_all (f := ms91_0 c) (s0 := (0, 0)) (fun i => (topL (c.Replicas.take i), (i : Int))) c.Replicas.length (.exit 0 (topL (c.Replicas.take c.Replicas.length), (c.Replicas.length : Int))) (fun i hi => ?_) ?_ rfl (NN_l g.rep) rfl]
  ·rw [List.take_length]
  ·unfold ms91_0
   simp only [Int.lt_irrefl, decide_false, cond_false]
  ·have hc' : (i : Int) < (c.Replicas.length : Int) := by omega
   unfold ms91_0
   simp only [hc', decide_true, cond_true, getN hi, obs, top_step hi, wi1 (show i ≤ 1099511627776 by have := g.rep; omega)]
 rw [l1, l2]
 obtain ⟨t, ht⟩ : ∃ t : Nat, topL c.Replicas = t := ⟨(topL c.Replicas).toNat, by omega⟩
 have e1 : wi .i64 (topL c.Replicas + 1) = (t : Int) + 1 := by rw [wi64 (by omega) (by omega)]; omega
 simp only [obs, contO, if_true, e1]
 have nx : ∀ i : Nat, i < 20 - t → wi .i64 ((t : Int) + 1 + (i : Int) + 1) = (t : Int) + 1 + ((i + 1 : Nat) : Int) := fun i hi => by rw [wi64 (by omega) (by omega)]; omega
 have k1 := loop_first (f := ms90_1 c) (N := NN) (s0 := (0, (t : Int) + 1)) (fun i => (0, (t : Int) + 1 + (i : Int))) (20 - t) (fun i => okId c.Bad (primI c.F ((t : Int) + 1 + (i : Int)))) (fun i => .ret ((t : Int) + 1 + (i : Int), (t : Int) + 1 + (i : Int))) (.exit 2 (0, (t : Int) + 1 + ((20 - t : Nat) : Int))) (fun i hi _ hp => by
   have hc : (t : Int) + 1 + (i : Int) ≤ 20 := by omega
   unfold ms90_1
   simp only [hc, decide_true, cond_true, prim_spec hf, obs, is_spec _ _ g.bad, hp, Bool.not_false, Bool.not_true, cond_false, nx i hi]) (fun i hi _ hp => by
   have hc : (t : Int) + 1 + (i : Int) ≤ 20 := by omega
   unfold ms90_1
   simp only [hc, decide_true, cond_true, prim_spec hf, obs, is_spec _ _ g.bad, hp, Bool.not_false, Bool.not_true]
   exact ⟨trivial, rfl⟩) (fun _ => by
   have hc : ¬ ((t : Int) + 1 + ((20 - t : Nat) : Int) ≤ 20) := by omega
   unfold ms90_1
   simp only [hc, decide_false, cond_false]
   exact ⟨trivial, rfl⟩) (NN_l (by omega)) (by simp)
 have k2 := loop_first (f := ms91_1 c) (N := NN) (s0 := (0, false, (t : Int) + 1)) (fun i => (0, false, (t : Int) + 1 + (i : Int))) (20 - t) (fun i => okId c.Bad (primI c.F ((t : Int) + 1 + (i : Int)))) (fun i => .ret ((t : Int) + 1 + (i : Int), true, (t : Int) + 1 + (i : Int))) (.exit 2 (0, false, (t : Int) + 1 + ((20 - t : Nat) : Int))) (fun i hi _ hp => by
   have hc : (t : Int) + 1 + (i : Int) ≤ 20 := by omega
   have hn := rep_isNone O (prim_in hf (v := (t : Int) + 1 + (i : Int)) (by omega))
   unfold ms91_1
   simp only [hc, decide_true, cond_true, prim_impl hf, obs]
   rcases replica_ok c (primI c.F ((t : Int) + 1 + (i : Int))) g.rep with ⟨r1, r2⟩ | ⟨k, hk, r1, r2⟩
   ·rw [r2]
    simp only [obs, optO, nx i hi]
   ·rw [r1, hp] at hn; cases hn) (fun i hi _ hp => by
   have hc : (t : Int) + 1 + (i : Int) ≤ 20 := by omega
   have hn := rep_isNone O (prim_in hf (v := (t : Int) + 1 + (i : Int)) (by omega))
   unfold ms91_1
   simp only [hc, decide_true, cond_true, prim_impl hf, obs]
   rcases replica_ok c (primI c.F ((t : Int) + 1 + (i : Int))) g.rep with ⟨r1, r2⟩ | ⟨k, hk, r1, r2⟩
   ·rw [r1, hp] at hn; cases hn
   ·rw [r2]
    exact ⟨rfl, rfl⟩) (fun _ => by
   have hc : ¬ ((t : Int) + 1 + ((20 - t : Nat) : Int) ≤ 20) := by omega
   unfold ms91_1
   simp only [hc, decide_false, cond_false]
   exact ⟨trivial, rfl⟩) (NN_l (by omega)) (by simp)
 rw [k1, k2]
 cases fstN (fun i => okId c.Bad (primI c.F ((t : Int) + 1 + (i : Int)))) (20 - t) with
 | none => exact ⟨_, rfl, rfl⟩
 | some i =>
  simp only [orF, obs, contO]
  have hn : ¬ ((t : Int) + 1 + (i : Int) < 0) := by omega
  simp only [hn, decide_false, cond_false, Bool.not_true]
  exact ⟨_, rfl, rfl⟩
theorem eqInt_self (x : TIntResult) : m28 x x = true := by simp [m28]
theorem view_law (c : TCluster) (h : okClu c) : m8 c = some true := by
 unfold m8
 obtain ⟨y, h1, h2⟩ := szClu_ok c h
 rw [h1, obs]
 by_cases hy : y < 0
 ·simp only [hy, decide_true, cond_true]
 have g := h2 (by omega)
 obtain ⟨z, k1, k2⟩ := view_eq c g
 simp only [hy, decide_false, cond_false, toClu_ok c g, obs, k1, k2, eqClu_ok c g, eqInt_self]
 rfl
end Go.Proofs.YtgjplfeejfeioaaGreatDoor
