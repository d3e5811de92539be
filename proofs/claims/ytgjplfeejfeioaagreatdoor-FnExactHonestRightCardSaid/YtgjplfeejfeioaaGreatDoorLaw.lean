/- Clusters: one replica. -/
import Derived.Test.YtgjplfeejfeioaaGreatDoorClu
namespace Go.Proofs.YtgjplfeejfeioaaGreatDoor
open Go Go.Rf
set_option linter.unusedVariables false
set_option linter.unusedSimpArgs false
def repI (c : TCluster) (id : Int) : Option Nat := fstN (pAt (fun r => r.Id == id) c.Replicas) c.Replicas.length
theorem replica_ok (c : TCluster) (id : Int) (h : c.Replicas.length ≤ 1048576) : (repI c id = none ∧ m82 c id = some none) ∨ ∃ (i : Nat) (hi : i < c.Replicas.length), repI c id = some i ∧ m82 c id = some (some c.Replicas[i]) := by
 unfold m82
 rw [show m148 c.Replicas (fun x0_ => some (m149 x0_ id)) = some (ixI (repI c id)) from gIF_ok (NN_l h) (big_l h) (fun x _ => rfl), obs]
 cases e : repI c id with
 | none => exact .inl ⟨rfl, rfl⟩
 | some i =>
  have hi := (fst_some_iff.1 e).1
  refine .inr ⟨i, hi, rfl, ?_⟩
  have h1 : ¬ (ixI (some i) < 0) := by simp [ixI]
  simp only [h1, decide_false, cond_false]
  rw [show ixI (some i) = (i : Int) from rfl, getN hi]; rfl
theorem rep_isNone {c : TCluster} (O : CluOk c) {id : Int} (h : 1 ≤ id ∧ id ≤ 3 * c.F + 1) : (repI c id).isNone = !okId c.Bad id := by
 unfold repI
 rw [fst_any']
 congr 1
 have hf := O.led.f12
 have e : (c.Replicas.any fun r => r.Id == id) = decide (id ∈ c.Replicas.map (·.Id)) := by
  rw [Bool.eq_iff_iff]; simp
 rw [e, O.ids]
 unfold othersL
 rw [Bool.eq_iff_iff, decide_eq_true_eq, List.mem_filter, upto_mem]
 constructor
 ·exact fun h => h.2
 ·exact fun h' => ⟨by omega, h'⟩
open Go Go.Rf
set_option linter.unusedVariables false
set_option linter.unusedSimpArgs false
def sameS (x y : TMsg) : Bool := (y.Kind == x.Kind) && ((y.From == x.From) && ((y.View == x.View) && (y.Slot == x.Slot)))
def honX (c : TCluster) (i : Nat) (x : TMsg) : Bool := okId c.Bad x.From && (((x.Kind == 4) && !changeB c.F c.Ledger (i : Int)) || (inR x.Kind 1 3 && (c.Ledger.take i).any (sameS x)))
def honBad (c : TCluster) (i : Nat) : Bool := (c.Ledger[i]?).any (honX c i)
theorem honBad_get {c : TCluster} {i : Nat} (h : i < c.Ledger.length) : honBad c i = honX c i c.Ledger[i] := by
 unfold honBad; rw [List.getElem?_eq_getElem h]; rfl
theorem tr_same4 (a b c d : Bool) : (bif a then
   bif b then
   bif c then
    some (LO.norm d)
   else
    some (LO.norm false)
   else
   some (LO.norm false)
  else
   some (LO.norm false)) = some (LO.norm (a && (b && (c && d)))) := by
 cases a <;> cases b <;> cases c <;> rfl
theorem hon_inner (c : TCluster) (x : TMsg) (i : Nat) (hi : i ≤ c.Ledger.length) (hl : c.Ledger.length ≤ 1048576) (hk : 1 ≤ x.Kind) : ∃ j, loopO (ms24_0 c (false, (i : Int)) x) NN (false, 0) = some (bif (inR x.Kind 1 3 && (c.Ledger.take i).any (sameS x)) then .ret (false, j) else .exit 2 (false, j)) := by
 have e3 : decide (x.Kind ≤ 3) = inR x.Kind 1 3 := by
  unfold inR
  exact decide_eq_decide.2 ⟨fun h => ⟨hk, h⟩, fun h => h.2⟩
 cases hs : inR x.Kind 1 3
 ·refine ⟨0, loop_stop (by have := NN_l (n := 0) (by omega); omega) ?_ rfl⟩
  unfold ms24_0
  rw [e3, hs]
  cases decide ((0 : Int) < (i : Int)) <;> rfl
 ·rw [Bool.true_and]
  have hle : (c.Ledger.take i).length = i := by rw [List.length_take]; omega
  rw [loop_first (f := ms24_0 c (false, (i : Int)) x) (s0 := (false, 0)) (fun j => (false, (j : Int))) (c.Ledger.take i).length (pAt (sameS x) (c.Ledger.take i)) (fun j => .ret (false, (j : Int))) (.exit 2 (false, ((c.Ledger.take i).length : Int))) (fun j hj _ hp => ?_) (fun j hj _ hp => ?_) (fun _ => ?_) (NN_l (by omega)) rfl]
  ·rw [← fst_any]
   cases fstN (pAt (sameS x) (c.Ledger.take i)) (c.Ledger.take i).length <;> exact ⟨_, rfl⟩
  ·rw [pAt_get hj, List.getElem_take] at hp
   have hc' : (j : Int) < (i : Int) := by omega
   unfold ms24_0
   unfold sameS at hp
   simp only [e3, hs, hc', decide_true, cond_true, obs, contO, getN (show j < c.Ledger.length by omega), tr_same4, hp, cond_false, wi1 (show j ≤ 1099511627776 by omega)]
  ·rw [pAt_get hj, List.getElem_take] at hp
   have hc' : (j : Int) < (i : Int) := by omega
   unfold ms24_0
   unfold sameS at hp
   simp only [e3, hs, hc', decide_true, cond_true, obs, contO, getN (show j < c.Ledger.length by omega), tr_same4, hp]
   exact ⟨trivial, rfl⟩
  ·have hc' : ¬ (((c.Ledger.take i).length : Int) < (i : Int)) := by omega
   unfold ms24_0
   simp only [hc', decide_false, cond_false, obs, contO]
   exact ⟨trivial, rfl⟩
theorem hon_spec (c : TCluster) (g : GoodClu c) (O : CluOk c) : loopO (ms24_1 c) NN (false, 0) = some (orF (fstN (honBad c) c.Ledger.length) (fun i => .ret (false, (i : Int))) (.exit 0 (false, (c.Ledger.length : Int)))) := by
 have H := O.led
 refine loop_first (f := ms24_1 c) (s0 := (false, 0)) (fun i => (false, (i : Int))) c.Ledger.length (honBad c) (fun i => .ret (false, (i : Int))) (.exit 0 (false, (c.Ledger.length : Int))) (fun i hi _ hp => ?_) (fun i hi _ hp => ?_) (fun _ => ?_) (NN_l g.led) rfl
 ·rw [honBad_get hi] at hp
  have hk := (H.msg _ (List.getElem_mem hi)).kind
  have hc' : (i : Int) < (c.Ledger.length : Int) := by omega
  obtain ⟨j, hj⟩ := hon_inner c c.Ledger[i] i (Nat.le_of_lt hi) g.led hk.1
  unfold ms24_1
  unfold honX at hp
  simp only [hc', decide_true, cond_true, getN hi, obs, is_spec _ _ g.bad, change_spec H]
  cases ho : okId c.Bad c.Ledger[i].From
  ·simp only [Bool.not_false, cond_true, obs, contO, wi1 (show i ≤ 1099511627776 by have := g.led; omega)]
  ·rw [ho, Bool.true_and, Bool.or_eq_false_iff] at hp
   rw [hp.2] at hj
   simp only [Bool.not_true, cond_false]
   cases h4 : c.Ledger[i].Kind == 4
   ·simp only [cond_false, obs, contO, hj, if_true, wi1 (show i ≤ 1099511627776 by have := g.led; omega)]
   ·rw [h4, Bool.true_and] at hp
    simp only [cond_true, hp.1, cond_false, obs, contO, hj, if_true, wi1 (show i ≤ 1099511627776 by have := g.led; omega)]
 ·rw [honBad_get hi] at hp
  have hk := (H.msg _ (List.getElem_mem hi)).kind
  have hc' : (i : Int) < (c.Ledger.length : Int) := by omega
  obtain ⟨j, hj⟩ := hon_inner c c.Ledger[i] i (Nat.le_of_lt hi) g.led hk.1
  unfold ms24_1
  unfold honX at hp
  rw [Bool.and_eq_true] at hp
  simp only [hc', decide_true, cond_true, getN hi, obs, is_spec _ _ g.bad, change_spec H, hp.1, Bool.not_true, cond_false]
  have hp2 := hp.2
  cases h4 : c.Ledger[i].Kind == 4
  ·rw [h4, Bool.false_and, Bool.false_or] at hp2
   rw [hp2] at hj
   simp only [cond_false, obs, contO, hj, cond_true]
   exact ⟨trivial, rfl⟩
  ·cases h5 : changeB c.F c.Ledger (i : Int)
   ·exact ⟨rfl, rfl⟩
   ·rw [h4, h5, Bool.not_true, Bool.and_false, Bool.false_or] at hp2
    rw [hp2] at hj
    simp only [cond_true, Bool.not_true, cond_false, obs, contO, hj]
    exact ⟨trivial, rfl⟩
 ·unfold ms24_1
  simp only [Int.lt_irrefl, decide_false, cond_false]
  exact ⟨trivial, rfl⟩
theorem hon_impl (c : TCluster) (g : GoodClu c) (O : CluOk c) : loopO (ms25_0 c) NN (false, 0) = some (orF (fstN (honBad c) c.Ledger.length) (fun i => .ret (false, (i : Int))) (.exit 0 (false, (c.Ledger.length : Int)))) := by
 have H := O.led
 have hm := many_val H.f12
 refine loop_first (f := ms25_0 c) (s0 := (false, 0)) (fun i => (false, (i : Int))) c.Ledger.length (honBad c) (fun i => .ret (false, (i : Int))) (.exit 0 (false, (c.Ledger.length : Int))) (fun i hi _ hp => ?_) (fun i hi _ hp => ?_) (fun _ => ?_) (NN_l g.led) rfl
 ·rw [honBad_get hi] at hp
  have hfr := (H.msg _ (List.getElem_mem hi)).frm
  rw [hm] at hfr
  have hn := rep_isNone O hfr
  have hc' : (i : Int) < (c.Ledger.length : Int) := by omega
  have e3 : m85 (c.Ledger.take i) (fun x0_ => m86 x0_ c.Ledger[i]) = some ((c.Ledger.take i).any (sameS c.Ledger[i])) := gCF_ok (NN_l (by rw [List.length_take]; have := g.led; omega)) (big_l (by rw [List.length_take]; have := g.led; omega)) (fun x _ => by
   unfold m86
   rw [tr_same4]; rfl)
  unfold ms25_0
  unfold honX at hp
  simp only [hc', decide_true, cond_true, getN hi, obs, change_impl H, slotted_in, sub_take (Nat.le_of_lt hi), e3]
  rcases replica_ok c c.Ledger[i].From g.rep with ⟨r1, r2⟩ | ⟨k, hk, r1, r2⟩
  ·rw [r2]
   simp only [obs, optO, contO, wi1 (show i ≤ 1099511627776 by have := g.led; omega)]
  ·rw [r2]
   rw [r1] at hn
   have ho : okId c.Bad c.Ledger[i].From = true := by
    cases h : okId c.Bad c.Ledger[i].From
    ·rw [h] at hn; cases hn
    ·rfl
   rw [ho, Bool.true_and, Bool.or_eq_false_iff] at hp
   simp only [obs, optO]
   have tail : (bif inR c.Ledger[i].Kind 1 3 then
    bif (c.Ledger.take i).any (sameS c.Ledger[i]) then
     some (LO.ret false)
    else
     some (LO.norm false)
   else
    some (LO.norm false)) = (some (LO.norm false) : Option (LO Bool)) := by
    have hp2 := hp.2
    cases h1 : inR c.Ledger[i].Kind 1 3
    ·rfl
    ·rw [h1, Bool.true_and] at hp2
     rw [hp2]; rfl
   cases h4 : c.Ledger[i].Kind == 4
   ·simp only [cond_false, obs, contO, tail, wi1 (show i ≤ 1099511627776 by have := g.led; omega)]
   ·rw [h4, Bool.true_and] at hp
    simp only [cond_true, hp.1, cond_false, obs, contO, tail, wi1 (show i ≤ 1099511627776 by have := g.led; omega)]
 ·rw [honBad_get hi] at hp
  have hfr := (H.msg _ (List.getElem_mem hi)).frm
  rw [hm] at hfr
  have hn := rep_isNone O hfr
  have hc' : (i : Int) < (c.Ledger.length : Int) := by omega
  have e3 : m85 (c.Ledger.take i) (fun x0_ => m86 x0_ c.Ledger[i]) = some ((c.Ledger.take i).any (sameS c.Ledger[i])) := gCF_ok (NN_l (by rw [List.length_take]; have := g.led; omega)) (big_l (by rw [List.length_take]; have := g.led; omega)) (fun x _ => by
   unfold m86
   rw [tr_same4]; rfl)
  unfold ms25_0
  unfold honX at hp
  rw [Bool.and_eq_true] at hp
  simp only [hc', decide_true, cond_true, getN hi, obs, change_impl H, slotted_in, sub_take (Nat.le_of_lt hi), e3]
  rcases replica_ok c c.Ledger[i].From g.rep with ⟨r1, r2⟩ | ⟨k, hk, r1, r2⟩
  ·rw [r1, hp.1] at hn; cases hn
  ·rw [r2]
   simp only [obs, optO]
   have hp2 := hp.2
   cases h4 : c.Ledger[i].Kind == 4
   ·rw [h4, Bool.false_and, Bool.false_or, Bool.and_eq_true] at hp2
    simp only [cond_false, obs, contO, hp2.1, hp2.2, cond_true]
    exact ⟨trivial, rfl⟩
   ·cases h5 : changeB c.F c.Ledger (i : Int)
    ·exact ⟨rfl, rfl⟩
    ·rw [h4, h5, Bool.not_true, Bool.and_false, Bool.false_or, Bool.and_eq_true] at hp2
     simp only [cond_true, Bool.not_true, cond_false, obs, contO, hp2.1, hp2.2]
     exact ⟨trivial, rfl⟩
 ·unfold ms25_0
  simp only [Int.lt_irrefl, decide_false, cond_false]
  exact ⟨trivial, rfl⟩
theorem honest_eq (c : TCluster) (g : GoodClu c) : ∃ y, m24 c = some y ∧ m25 c = some y := by
 obtain ⟨y, h1, h2, h3⟩ := clu_eq2 c g
 unfold m24 m25
 rw [h1, h2]
 simp only [obs]
 by_cases hy : y = 0
 rotate_left
 ·have e : (y != 0) = true := by simpa using hy
  rw [e]; exact ⟨_, rfl, rfl⟩
 have e : (y != 0) = false := by simpa using hy
 rw [e, cond_false, cond_false, hon_spec c g (h3 hy), hon_impl c g (h3 hy)]
 cases fstN (honBad c) c.Ledger.length <;> exact ⟨_, rfl, rfl⟩
theorem honest_law (c : TCluster) (h : okClu c) : m6 c = some true := by
 unfold m6
 obtain ⟨y, h1, h2⟩ := szClu_ok c h
 rw [h1, obs]
 by_cases hy : y < 0
 ·simp only [hy, decide_true, cond_true]
 have g := h2 (by omega)
 obtain ⟨z, k1, k2⟩ := honest_eq c g
 simp only [hy, decide_false, cond_false, toClu_ok c g, obs, k1, k2, eqClu_ok c g]
 cases z <;> rfl
end Go.Proofs.YtgjplfeejfeioaaGreatDoor
