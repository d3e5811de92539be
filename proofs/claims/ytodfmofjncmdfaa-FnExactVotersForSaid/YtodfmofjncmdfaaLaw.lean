/- FnExactAcceptOf, the plain law: sizes, copies, VotesFault. -/
import Derived.Test.YtodfmofjncmdfaaSort
namespace Go.Proofs.Ytodfmofjncmdfaa
open Go Go.Rf
set_option linter.unusedVariables false
set_option linter.unusedSimpArgs false
theorem szS_ok (xs : List TVote) (h : xs.length ≤ 9223372036854775807) : ∃ y, m27 xs 1048576 = some y ∧ (0 ≤ y → xs.length ≤ 1048576) := by
 unfold m27
 have e : wi .i64 (1048576 - (xs.length : Int)) = 1048576 - (xs.length : Int) := wi64 (by omega) (by omega)
 rw [e]
 by_cases hc : (1048576 - (xs.length : Int)) < 0
 ·simp only [hc, decide_true, cond_true]
  exact ⟨-1, rfl, fun h => by omega⟩
 simp only [hc, decide_false, cond_false]
 obtain ⟨o, h1, h2⟩ := loop_idx (f := ms27_0 xs) (fun i s => s.2.2 = (i : Int)) xs.length (fun o => (∃ s, o = .exit 0 s) ∨ ∃ s, o = .ret s)
  (fun i s hi hs => by
   unfold ms27_0
   rw [hs]
   by_cases hc : i < xs.length
   ·have hc' : (i : Int) < (xs.length : Int) := by omega
    simp only [hc', decide_true, cond_true, getN hc, Option.bind_some]
    by_cases h3 : m63 xs[i] s.1 < 0
    ·simp only [h3, decide_true, cond_true]
     exact .inr (.inr ⟨_, rfl, .inr ⟨_, rfl⟩⟩)
    ·simp only [h3, decide_false, cond_false]
     exact .inl ⟨hc, _, rfl, wi1 (by omega)⟩
   ·have hc' : ¬ (i : Int) < (xs.length : Int) := by omega
    simp only [hc', decide_false, cond_false]
    exact .inr (.inl ⟨_, _, rfl, .inl ⟨_, rfl⟩⟩)) NN 0 (1048576 - (xs.length : Int), 0, 0) (Nat.zero_le _) (by rw [NN_eq]; omega) rfl
 rw [h1]
 rcases h2 with ⟨s, rfl⟩ | ⟨s, rfl⟩
 ·exact ⟨s.1, by simp [contO], fun _ => by omega⟩
 ·exact ⟨s.2.1, by simp [contO], fun _ => by omega⟩
theorem cpS_ok (xs : List TVote) (h : xs.length ≤ 1048576) : m30 xs = some xs := by
 unfold m30
 have hm : mkO 40 (xs.length : Int) (⟨0, (⟨0, 0, []⟩ : TReply)⟩ : TVote) = some (List.replicate xs.length (⟨0, (⟨0, 0, []⟩ : TReply)⟩ : TVote)) := by
  unfold mkO
  rw [if_pos ⟨by omega, by simp; omega⟩, Int.toNat_natCast]
 rw [hm, Option.bind_some]
 obtain ⟨o, h1, s, rfl, h2⟩ := loop_idx (f := ms30_0 xs) (fun i s => s.1 = (i : Int) ∧ s.2.length = xs.length ∧ ∀ j, j < i → s.2[j]? = xs[j]?) xs.length (fun o => ∃ s, o = .exit 0 s ∧ s.2 = xs)
  (fun i s hi hs => by
   obtain ⟨z, ys⟩ := s
   obtain ⟨rfl, hl, hj⟩ := hs
   unfold ms30_0
   dsimp only at hl hj ⊢
   by_cases hc : i < xs.length
   ·have hc' : (i : Int) < (xs.length : Int) := by omega
    have g2 := getN (xs := ys) (i := i) (by omega)
    simp only [hc', decide_true, cond_true, getN hc, g2, Option.bind_some]
    refine .inl ⟨hc, _, rfl, wi1 (by omega), by simpa using hl, fun j hj' => ?_⟩
    rw [Int.toNat_natCast, List.getElem?_set]
    by_cases e : i = j
    ·subst e
     rw [if_pos rfl, if_pos (by omega), List.getElem?_eq_getElem hc]
     rfl
    ·rw [if_neg e]; exact hj j (by omega)
   ·have hc' : ¬ (i : Int) < (xs.length : Int) := by omega
    simp only [hc', decide_false, cond_false]
    refine .inr (.inl ⟨_, _, rfl, _, rfl, List.ext_getElem? fun j => ?_⟩)
    by_cases hjx : j < xs.length
    ·exact hj j (by omega)
    ·rw [List.getElem?_eq_none (by dsimp only; omega), List.getElem?_eq_none (by omega)]) NN 0 (0, List.replicate xs.length (⟨0, (⟨0, 0, []⟩ : TReply)⟩ : TVote)) (Nat.zero_le _) (by rw [NN_eq]; omega) ⟨rfl, by simp, fun j hj => by omega⟩
 rw [h1]
 simp [contO, h2]
theorem eqR_self (x : TReply) : m113 x x = true := by simp [m113]
theorem eqV_self (x : TVote) : m69 x x = true := by simp [m69, eqR_self]
theorem eqS_ok (xs : List TVote) (h : xs.length ≤ 1048576) : m34 xs xs = some true := by
 unfold m34
 have e : ((xs.length : Int) != (xs.length : Int)) = false := by simp
 rw [e, cond_false]
 obtain ⟨o, h1, s, rfl⟩ := loop_idx (f := ms34_0 xs xs) (fun i s => s.2 = (i : Int)) xs.length (fun o => ∃ s, o = .exit 0 s)
  (fun i s hi hs => by
   unfold ms34_0
   rw [hs]
   by_cases hc : i < xs.length
   ·have hc' : (i : Int) < (xs.length : Int) := by omega
    simp only [hc', decide_true, cond_true, getN hc, Option.bind_some, eqV_self, Bool.not_true, cond_false]
    exact .inl ⟨hc, _, rfl, wi1 (by omega)⟩
   ·have hc' : ¬ (i : Int) < (xs.length : Int) := by omega
    simp only [hc', decide_false, cond_false]
    exact .inr (.inl ⟨_, _, rfl, _, rfl⟩)) NN 0 (false, 0) (Nat.zero_le _) (by rw [NN_eq]; omega) rfl
 rw [h1]
 simp [contO]
theorem rep_ok (x : TReply) : ∃ b, m107 x = some b := by
 unfold m107
 cases m74 x.Code 0 10 <;> cases m74 x.Value (-1) 9999 <;> exact ⟨_, rfl⟩
noncomputable def repB (x : TReply) : Bool := (m107 x).getD false
theorem rep1 (x : TReply) : m107 x = some (repB x) := by
 obtain ⟨b, h⟩ := rep_ok x
 unfold repB; rw [h]; rfl
theorem rep2 (x : TReply) : m110 x = some (repB x) := (rfl : m110 x = m107 x).trans (rep1 x)
noncomputable def goodV (f : Int) (x : TVote) : Bool := m75 f x.From && repB x.Reply
theorem all_take {α : Type} {p : α → Bool} {xs : List α} {i : Nat} (hi : i < xs.length) (h : ∀ j (hj : j < xs.length), j < i → p xs[j] = true) (hp : p xs[i] = true) : ∀ j (hj : j < xs.length), j < i + 1 → p xs[j] = true := fun j hj h1 => by
 by_cases e : j = i
 ·subst e; exact hp
 ·exact h j hj (by omega)
theorem fault1 (f : Int) (xs : List TVote) (hl : xs.length ≤ 40) : loopO (ms64_0 f xs) NN (0, 0) = some (if xs.all (goodV f) then .exit 0 (0, (xs.length : Int)) else .ret (3, ((xs.findIdx fun x => !goodV f x : Nat) : Int))) := by
 obtain ⟨o, h1, rfl⟩ := loop_idx (f := ms64_0 f xs) (fun i s => s = (0, (i : Int)) ∧ ∀ j (hj : j < xs.length), j < i → goodV f xs[j] = true) xs.length (fun o => o = if xs.all (goodV f) then .exit 0 (0, (xs.length : Int)) else .ret (3, ((xs.findIdx fun x => !goodV f x : Nat) : Int)))
  (fun i s hi hs => by
   obtain ⟨rfl, hg⟩ := hs
   unfold ms64_0
   dsimp only
   by_cases hc : i < xs.length
   ·have hc' : (i : Int) < (xs.length : Int) := by omega
    simp only [hc', decide_true, cond_true, getN hc, Option.bind_some, rep1]
    by_cases hgi : goodV f xs[i] = true
    ·have := hgi
     unfold goodV at this
     rw [Bool.and_eq_true] at this
     simp only [this.1, this.2, Bool.not_true, cond_false, Option.bind_some, contO, wi1 (show i ≤ 1099511627776 by omega)]
     exact .inl ⟨hc, _, rfl, rfl, all_take hc hg hgi⟩
    ·have hall : ¬ (xs.all (goodV f)) = true := fun h => hgi (List.all_eq_true.1 h _ (List.getElem_mem hc))
     have hidx : (xs.findIdx fun x => !goodV f x) = i := by
      rw [List.findIdx_eq hc]
      exact ⟨by simpa using hgi, fun j hj => by simpa using hg j (by omega) hj⟩
     refine .inr (.inr ⟨(3, (i : Int)), ?_, by rw [if_neg hall, hidx]⟩)
     unfold goodV at hgi
     cases e1 : m75 f xs[i].From
     ·simp [contO]
     ·cases e2 : repB xs[i].Reply
      ·simp [contO]
      ·simp [e1, e2] at hgi
   ·have hc' : ¬ (i : Int) < (xs.length : Int) := by omega
    have : i = xs.length := by omega
    subst this
    simp only [hc', decide_false, cond_false]
    have hall : xs.all (goodV f) = true := List.all_eq_true.2 fun x hx => by
     obtain ⟨j, hj, rfl⟩ := List.mem_iff_getElem.1 hx
     exact hg j hj hj
    exact .inr (.inl ⟨_, _, rfl, by rw [if_pos hall]⟩)) NN 0 (0, 0) (Nat.zero_le _) (by rw [NN_eq]; omega) ⟨rfl, fun j hj h => by omega⟩
 exact h1
theorem bad_eq (f : Int) (x : TVote) : m109 x f = some (!goodV f x) := by
 unfold m109 goodV
 rw [show m86 f x.From = m75 f x.From from rfl, rep2]
 cases m75 f x.From <;> cases repB x.Reply <;> rfl
theorem fault2 (f : Int) (xs : List TVote) (hl : xs.length ≤ 40) : ∃ z : Int, m127 xs (fun x => m109 x f) = some z ∧ decide (z ≥ 0) = !xs.all (goodV f) := by
 unfold m127
 obtain ⟨o, h1, h2⟩ := loop_idx (f := ms127_0 xs (fun x => m109 x f)) (fun i s => s = (0, (i : Int)) ∧ ∀ j (hj : j < xs.length), j < i → goodV f xs[j] = true) xs.length (fun o => (xs.all (goodV f) = true ∧ ∃ s, o = .exit 0 s) ∨ (xs.all (goodV f) = false ∧ ∃ (i : Nat) (s : Int), o = .ret ((i : Int), s)))
  (fun i s hi hs => by
   obtain ⟨rfl, hg⟩ := hs
   unfold ms127_0
   dsimp only
   by_cases hc : i < xs.length
   ·have hc' : (i : Int) < (xs.length : Int) := by omega
    simp only [hc', decide_true, cond_true, getN hc, Option.bind_some, bad_eq]
    by_cases hgi : goodV f xs[i] = true
    ·simp only [hgi, Bool.not_true, cond_false, wi1 (show i ≤ 1099511627776 by omega)]
     exact .inl ⟨hc, _, rfl, rfl, all_take hc hg hgi⟩
    ·have hall : xs.all (goodV f) = false := Bool.eq_false_iff.2 fun h => hgi (List.all_eq_true.1 h _ (List.getElem_mem hc))
     have hgi' : goodV f xs[i] = false := Bool.eq_false_iff.2 hgi
     simp only [hgi', Bool.not_false, cond_true]
     exact .inr (.inr ⟨_, rfl, .inr ⟨hall, i, _, rfl⟩⟩)
   ·have hc' : ¬ (i : Int) < (xs.length : Int) := by omega
    have : i = xs.length := by omega
    subst this
    simp only [hc', decide_false, cond_false]
    have hall : xs.all (goodV f) = true := List.all_eq_true.2 fun x hx => by
     obtain ⟨j, hj, rfl⟩ := List.mem_iff_getElem.1 hx
     exact hg j hj hj
    exact .inr (.inl ⟨_, _, rfl, .inl ⟨hall, _, rfl⟩⟩)) NN 0 (0, 0) (Nat.zero_le _) (by rw [NN_eq]; omega) ⟨rfl, fun j hj h => by omega⟩
 rw [h1]
 rcases h2 with ⟨g, s, rfl⟩ | ⟨g, i, s, rfl⟩
 ·exact ⟨-1, by simp [contO], by rw [g]; rfl⟩
 ·exact ⟨(i : Int), by simp [contO], by rw [g]; simp⟩
theorem fault_eq (f : Int) (xs : List TVote) : ∃ y : Int, m64 f xs = some y ∧ m67 f xs = some y ∧ (y = 0 → 1 ≤ f ∧ f ≤ 2 ∧ xs.length ≤ 40 ∧ ∀ x ∈ xs, 1 ≤ x.From ∧ x.From ≤ 3 * f + 1) := by
 unfold m64 m67
 rw [show m56 f = m52 f from rfl]
 cases hf : m52 f
 ·exact ⟨3, rfl, rfl, fun h => by omega⟩
 have hf2 : 1 ≤ f ∧ f ≤ 2 := by
  unfold m52 m74 at hf
  by_cases h : f ≥ 1
  ·simp [h] at hf; omega
  ·simp [h] at hf
 simp only [Bool.not_true, cond_false]
 by_cases hl : (xs.length : Int) > 40
 ·simp only [hl, decide_true, cond_true]
  exact ⟨2, rfl, rfl, fun h => by omega⟩
 simp only [hl, decide_false, cond_false]
 rw [fault1 f xs (by omega)]
 obtain ⟨z, h1, h2⟩ := fault2 f xs (by omega)
 unfold m108
 rw [h1]
 cases hall : xs.all (goodV f)
 ·rw [hall] at h2
  exact ⟨3, by simp [contO], by simp only [Option.bind_some, h2]; rfl, fun h => by omega⟩
 ·rw [hall] at h2
  refine ⟨0, by simp [contO], by simp only [Option.bind_some, h2]; rfl, fun _ => ⟨hf2.1, hf2.2, by omega, fun x hx => ?_⟩⟩
  have := List.all_eq_true.1 hall x hx
  unfold goodV at this
  rw [Bool.and_eq_true] at this
  have h3 := this.1
  unfold m75 m74 at h3
  rw [wi64 (x := 3 * f) (by omega) (by omega), wi64 (by omega) (by omega)] at h3
  by_cases h : x.From ≥ 1
  ·simp [h] at h3; omega
  ·simp [h] at h3
open Go Go.Rf
set_option linter.unusedVariables false
set_option linter.unusedSimpArgs false
def eqR (x r : TReply) : Bool := (x.Code == r.Code) && ((x.Value == r.Value) && ((x.Path == r.Path) && true))
def saidBy (xs : List TVote) (r : TReply) (k : Int) : Bool := xs.any fun x => x.From == k && eqR x.Reply r
def upto (n : Nat) : List Int := (List.range n).map fun (j : Nat) => ((j : Int) + 1)
theorem upto_succ (n : Nat) : upto (n + 1) = upto n ++ [(n : Int) + 1] := by simp [upto, List.range_succ]
theorem upto_mem (n : Nat) (k : Int) : k ∈ upto n ↔ 1 ≤ k ∧ k ≤ n := by
 simp only [upto, List.mem_map, List.mem_range]
 constructor
 ·rintro ⟨j, h, rfl⟩; omega
 ·intro h; exact ⟨(k - 1).toNat, by omega, by omega⟩
theorem upto_lt (n : Nat) : (upto n).Pairwise (· < ·) := by
 unfold upto
 rw [List.pairwise_map]
 exact List.pairwise_lt_range.imp fun h => by omega
theorem said_ok (xs : List TVote) (r : TReply) (k : Int) (L : List Int) (hl : xs.length ≤ 40) : loopO (ms65_0 xs r (k, L)) NN (false, 0) = some (.exit 2 (saidBy xs r k, (xs.length : Int))) := by
 obtain ⟨o, h1, rfl⟩ := loop_idx (f := ms65_0 xs r (k, L)) (fun i s => s = (saidBy (xs.take i) r k, (i : Int))) xs.length (fun o => o = .exit 2 (saidBy xs r k, (xs.length : Int)))
  (fun i s hi hs => by
   subst hs
   unfold ms65_0
   dsimp only
   by_cases hc : i < xs.length
   ·have hc' : (i : Int) < (xs.length : Int) := by omega
    simp only [hc', decide_true, cond_true, getN hc, Option.bind_some]
    have hst : saidBy (xs.take (i + 1)) r k = (saidBy (xs.take i) r k || (xs[i].From == k && eqR xs[i].Reply r)) := by
     unfold saidBy
     rw [List.take_add_one, List.any_append, List.getElem?_eq_getElem hc]
     simp
    refine .inl ⟨hc, (saidBy (xs.take (i + 1)) r k, ((i + 1 : Nat) : Int)), ?_, rfl⟩
    rw [hst]
    cases saidBy (xs.take i) r k
    ·cases hf : xs[i].From == k
     ·simp only [cond_false, Option.bind_some, contO, wi1 (show i ≤ 1099511627776 by omega)]; rfl
     ·simp only [cond_false, cond_true, Option.bind_some, contO, wi1 (show i ≤ 1099511627776 by omega)]; rfl
    ·simp only [cond_true, Option.bind_some, contO, wi1 (show i ≤ 1099511627776 by omega)]; rfl
   ·have hc' : ¬ (i : Int) < (xs.length : Int) := by omega
    have : i = xs.length := by omega
    subst this
    simp only [hc', decide_false, cond_false, List.take_length]
    exact .inr (.inl ⟨_, _, rfl, rfl⟩)) NN 0 (false, 0) (Nat.zero_le _) (by rw [NN_eq]; omega) rfl
 exact h1
theorem appI {L : List Int} {k : Int} (h : L.length ≤ 1000) : appO 8 L [k] = some (L ++ [k]) := by
 unfold appO
 rw [if_pos (by simp; omega)]
theorem voters1 (xs : List TVote) (r : TReply) (f : Nat) (hf : f ≤ 2) (hl : xs.length ≤ 40) : m65 (f : Int) xs r = some ((upto (3 * f + 1)).filter (saidBy xs r)) := by
 unfold m65
 have e1 : wi .i64 ((wi .i64 (3 * (f : Int))) + 1) = ((3 * f + 1 : Nat) : Int) := by rw [wi64 (x := 3 * (f : Int)) (by omega) (by omega), wi64 (by omega) (by omega)]; omega
 obtain ⟨o, h1, s, rfl, h2⟩ := loop_idx (f := ms65_1 (f : Int) xs r) (fun i s => s = ((i : Int) + 1, (upto i).filter (saidBy xs r))) (3 * f + 1) (fun o => ∃ s, o = .exit 0 s ∧ s.2 = (upto (3 * f + 1)).filter (saidBy xs r))
  (fun i s hi hs => by
   subst hs
   unfold ms65_1
   dsimp only
   rw [e1]
   by_cases hc : i < 3 * f + 1
   ·have hc' : (i : Int) + 1 ≤ ((3 * f + 1 : Nat) : Int) := by omega
    simp only [hc', decide_true, cond_true, said_ok xs r _ _ hl, Option.bind_some, contO, if_true]
    have hlen : ((upto i).filter (saidBy xs r)).length ≤ 1000 := Nat.le_trans (List.length_filter_le _ _) (by simp [upto]; omega)
    have e2 : wi .i64 ((i : Int) + 1 + 1) = ((i + 1 : Nat) : Int) + 1 := by rw [wi64 (by omega) (by omega)]; omega
    refine .inl ⟨hc, _, ?_, rfl⟩
    rw [upto_succ, List.filter_append, e2]
    cases hs : saidBy xs r ((i : Int) + 1)
    ·simp [hs]; rfl
    ·simp [hs, appI hlen]; rfl
   ·have hc' : ¬ (i : Int) + 1 ≤ ((3 * f + 1 : Nat) : Int) := by omega
    simp only [hc', decide_false, cond_false]
    have : i = 3 * f + 1 := by omega
    subst this
    exact .inr (.inl ⟨_, _, rfl, _, rfl, rfl⟩)) NN 0 (1, []) (Nat.zero_le _) (by rw [NN_eq]; omega) rfl
 rw [h1]
 simp [contO, h2]
theorem voters2 (xs : List TVote) (r : TReply) (hl : xs.length ≤ 40) : ∃ ys : List Int, m68 xs r = some (cmpA ys) ∧ ys.Pairwise (· ≤ ·) ∧ ∀ k, k ∈ ys ↔ saidBy xs r k = true := by
 unfold m68
 obtain ⟨o, h1, s, rfl, h2⟩ := loop_idx (f := ms68_0 xs r) (fun i s => s = ((i : Int), ((xs.take i).filter fun x => eqR x.Reply r).map fun x => x.From)) xs.length (fun o => ∃ s, o = .exit 0 s ∧ s.2 = (xs.filter fun x => eqR x.Reply r).map fun x => x.From)
  (fun i s hi hs => by
   subst hs
   unfold ms68_0
   dsimp only
   by_cases hc : i < xs.length
   ·have hc' : (i : Int) < (xs.length : Int) := by omega
    simp only [hc', decide_true, cond_true, getN hc, Option.bind_some]
    have hlen : (((xs.take i).filter fun x => eqR x.Reply r).map fun x => x.From).length ≤ 1000 := by
     rw [List.length_map]; exact Nat.le_trans (List.length_filter_le _ _) (by simp; omega)
    have hst : ((xs.take (i + 1)).filter fun x => eqR x.Reply r) = ((xs.take i).filter fun x => eqR x.Reply r) ++ if eqR xs[i].Reply r then [xs[i]] else [] := by
     rw [List.take_add_one, List.filter_append, List.getElem?_eq_getElem hc]
     simp [List.filter_cons]
    refine .inl ⟨hc, _, ?_, rfl⟩
    rw [hst]
    show Option.bind (bif eqR xs[i].Reply r then _ else _) _ = _
    cases he : eqR xs[i].Reply r
    ·simp [contO, wi1 (show i ≤ 1099511627776 by omega)]
    ·simp [contO, appI hlen, wi1 (show i ≤ 1099511627776 by omega)]
   ·have hc' : ¬ (i : Int) < (xs.length : Int) := by omega
    have : i = xs.length := by omega
    subst this
    simp only [hc', decide_false, cond_false, List.take_length]
    exact .inr (.inl ⟨_, _, rfl, _, rfl, rfl⟩)) NN 0 (0, []) (Nat.zero_le _) (by rw [NN_eq]; omega) rfl
 rw [h1]
 have hlen : s.2.length < 50 := by rw [h2, List.length_map]; exact Nat.lt_of_le_of_lt (List.length_filter_le _ _) (by omega)
 obtain ⟨ys, k1, k2, k3⟩ := SO_ok hlen
 refine ⟨ys, ?_, k3, fun k => ?_⟩
 ·simp only [Option.bind_some, contO, if_true, k1]
  rw [CM_ok (by rw [k2.length_eq]; omega)]
  rfl
 ·rw [k2.mem_iff, h2]
  simp only [List.mem_map, List.mem_filter, saidBy, List.any_eq_true, Bool.and_eq_true, beq_iff_eq]
  constructor
  ·rintro ⟨x, ⟨a, b⟩, c⟩; exact ⟨x, a, c, b⟩
  ·rintro ⟨x, a, c, b⟩; exact ⟨x, ⟨a, b⟩, c⟩
theorem strict_eq : ∀ (xs ys : List Int), xs.Pairwise (· < ·) → ys.Pairwise (· < ·) → (∀ k, k ∈ xs ↔ k ∈ ys) → xs = ys
 | [], [], _, _, _ => rfl
 | [], y :: ys, _, _, h => by have := (h y).2 (by simp); cases this
 | x :: xs, [], _, _, h => by have := (h x).1 (by simp); cases this
 | x :: xs, y :: ys, hx, hy, h => by
  rw [List.pairwise_cons] at hx hy
  have e : x = y := by
   rcases List.mem_cons.1 ((h x).1 (by simp)) with e | e
   ·exact e
   ·rcases List.mem_cons.1 ((h y).2 (by simp)) with e' | e'
    ·exact e'.symm
    ·have := hy.1 x e; have := hx.1 y e'; omega
  subst e
  rw [strict_eq xs ys hx.2 hy.2 fun k => ?_]
  have := h k
  simp only [List.mem_cons] at this
  constructor
  ·intro hk
   rcases this.1 (.inr hk) with e | e
   ·subst e; have := hx.1 k hk; omega
   ·exact e
  ·intro hk
   rcases this.2 (.inr hk) with e | e
   ·subst e; have := hy.1 k hk; omega
   ·exact e
theorem voters_eq (xs : List TVote) (r : TReply) (f : Nat) (hf : f ≤ 2) (hl : xs.length ≤ 40) (hx : ∀ x ∈ xs, 1 ≤ x.From ∧ x.From ≤ 3 * (f : Int) + 1) : ∃ ys, m65 (f : Int) xs r = some ys ∧ m68 xs r = some ys := by
 obtain ⟨ys, h1, h2, h3⟩ := voters2 xs r hl
 refine ⟨_, voters1 xs r f hf hl, ?_⟩
 rw [h1]
 congr 1
 refine strict_eq _ _ (cmpA_nodup ys h2) ((upto_lt _).filter _) fun k => ?_
 rw [cmpA_mem, h3, List.mem_filter, upto_mem]
 constructor
 ·intro h
  refine ⟨?_, h⟩
  unfold saidBy at h
  rw [List.any_eq_true] at h
  obtain ⟨x, hxm, hk⟩ := h
  rw [Bool.and_eq_true, beq_iff_eq] at hk
  have := hx x hxm
  omega
 ·exact fun h => h.2
open Go Go.Rf
set_option linter.unusedVariables false
set_option linter.unusedSimpArgs false
theorem NN_20 : 1048576 < NN := by rw [NN_eq]; omega
def hInt (x k k' : Int) : Prop := x = k ∧ k' = k + 1
theorem hInt_m : ∀ x k k', hInt x k k' → k ≤ k' := fun x k k' h => by obtain ⟨_, rfl⟩ := h; omega
abbrev few {α : Type} (good : α → Prop) (xs : List α) : Prop := xs.length ≤ 1048576 ∧ ∀ x ∈ xs, good x
theorem mkInt : Mks m24 (MKL hInt) (few fun _ => True) (1048576 * 1) :=
 gMk (F := ms24_0) (good := fun _ => True) (by omega) NN_20 (fun k i a x _ hx hi h0 hb hk hB => by
  have hB : k + 1 ≤ 1152921504606846976 := hB
  refine ⟨k + 1, k, ?_, ⟨rfl, rfl⟩, by omega, by omega⟩
  unfold ms24_0
  simp (disch := omega) only [hi, decide_true, cond_true, hx, Option.bind_some, letO_eq, wiK]) (fun k i a h => by
  unfold ms24_0
  simp only [h, decide_false, cond_false])
theorem hdInt : Hds m71 (MKL hInt) :=
 gHd (F := ms71_0) hInt_m NN_20 (fun xs k r i k' x hx hi h0 hb hk hB h => by
  obtain ⟨rfl, rfl⟩ := h
  have hB : x + 1 ≤ 1152921504606846976 := hB
  refine ⟨r, ?_⟩
  unfold ms71_0
  simp (disch := omega) only [hi, decide_true, cond_true, hx, Option.bind_some, bne_self_eq_false, cond_false, wiK]) (fun xs k r i h => by
  unfold ms71_0
  simp only [h, decide_false, cond_false])
open Go Go.Rf
set_option linter.unusedVariables false
set_option linter.unusedSimpArgs false
theorem mkText_loop : ∀ (j : Nat) (k : Int) (s : Str) (N : Nat), k < 10 ^ j → j < N → s.length + j ≤ 1000 → ∃ z s', loopO ms70_0 N (k, s) = some (.exit 0 (z, s')) ∧ s'.length ≤ s.length + j
 | 0, k, s, N, hk, hN, hs => by
  obtain ⟨N, rfl⟩ : ∃ n, N = n + 1 := ⟨N - 1, by omega⟩
  have h : ¬ k > 0 := by simp at hk; omega
  refine ⟨k, s, ?_, by omega⟩
  simp only [loopO]
  unfold ms70_0
  simp only [h, decide_false, cond_false, Option.bind_some]
 | j + 1, k, s, N, hk, hN, hs => by
  obtain ⟨N, rfl⟩ : ∃ n, N = n + 1 := ⟨N - 1, by omega⟩
  by_cases h : k > 0
  ·have e1 : Int.tdiv k 10 = k / 10 := Int.tdiv_eq_ediv_of_nonneg (by omega)
   have e2 : (10 : Int) ^ (j + 1) = 10 ^ j * 10 := Int.pow_succ ..
   have e3 : wi .i64 (Int.tdiv k 10) < 10 ^ j := by
    rw [e1]
    have : k / 10 < 10 ^ j := by omega
    by_cases hb : k ≤ 9223372036854775807
    ·rw [wi64 (by omega) (by omega)]; exact this
    ·refine Int.lt_of_le_of_lt ?_ this
     show IntKind.i64.wrap (k / 10) ≤ k / 10
     rw [IntKind.wrap_i64]; omega
   obtain ⟨z, s', q1, q2⟩ := mkText_loop j (wi .i64 (Int.tdiv k 10)) (([UInt8.ofNat (Int.toNat (wi .u8 (wi .i64 (48 + (Int.tmod k 10)))))] : Str) ++ s) N e3 (by omega) (by simp; omega)
   refine ⟨z, s', ?_, by simp at q2; omega⟩
   simp only [loopO]
   rw [show ms70_0 (k, s) = some (LO.norm (wi .i64 (Int.tdiv k 10), ([UInt8.ofNat (Int.toNat (wi .u8 (wi .i64 (48 + (Int.tmod k 10)))))] : Str) ++ s)) from by
    unfold ms70_0
    simp only [h, decide_true, cond_true]
    unfold catO
    rw [if_pos (by simp; omega)]; rfl]
   exact q1
  ·refine ⟨k, s, ?_, by omega⟩
   simp only [loopO]
   unfold ms70_0
   simp only [h, decide_false, cond_false, Option.bind_some]
theorem mkText (k : Int) (hk : k ≤ mB) : ∃ s, m70 k = some s := by
 unfold m70
 by_cases h : k ≤ 0
 ·simp only [h, decide_true, cond_true]; exact ⟨_, rfl⟩
 ·simp only [h, decide_false, cond_false]
  have hk : k ≤ 1152921504606846976 := hk
  obtain ⟨z, s', q1, q2⟩ := mkText_loop 30 k [] NN (by simp; omega) (by rw [NN_eq]; omega) (by simp)
  rw [q1, Option.bind_some]
  simp only [contO, if_true]
  unfold catO
  rw [if_pos (by simp at q2 ⊢; omega)]
  exact ⟨_, rfl⟩
open Go Go.Rf
set_option linter.unusedVariables false
set_option linter.unusedSimpArgs false
theorem mkVotes : Mks m35 (MKL fun _ k k' => k ≤ k') (few fun _ => True) (1048576 * 4) :=
 gMk (F := ms35_0) (good := fun _ => True) (by omega) NN_20 (fun k i a x _ hx hi h0 hb hk hB => by
  have hB : k + 4 ≤ 1152921504606846976 := hB
  obtain ⟨t, ht⟩ := mkText (k + 1 + 1 + 1) (show _ ≤ (1152921504606846976 : Int) by omega)
  refine ⟨k + 1 + 1 + 1 + 1, ⟨k, ⟨k + 1, k + 1 + 1, t⟩⟩, ?_, by omega, by omega, by omega⟩
  unfold ms35_0
  simp (disch := omega) only [hi, decide_true, cond_true, hx, Option.bind_some, letO_eq, wiK, getI_set hx, getI_set (getI_set hx _), getI_set (getI_set (getI_set hx _) _), List.set_set, ht]) (fun k i a h => by
  unfold ms35_0
  simp only [h, decide_false, cond_false])
theorem eqL_self (xs : List Int) (h : xs.length ≤ 1048576) : m23 xs xs = some true := by
 unfold m23
 simp only [bne_self_eq_false, cond_false]
 obtain ⟨o, h1, s, rfl⟩ := loop_idx (f := ms23_0 xs xs) (fun i s => s.2 = (i : Int)) xs.length (fun o => ∃ s, o = .exit 0 s)
  (fun i s hi hs => by
   unfold ms23_0
   rw [hs]
   by_cases hc : i < xs.length
   ·have hc' : (i : Int) < (xs.length : Int) := by omega
    simp only [hc', decide_true, cond_true, getN hc, Option.bind_some, bne_self_eq_false, cond_false]
    exact .inl ⟨hc, _, rfl, wi1 (by omega)⟩
   ·have hc' : ¬ (i : Int) < (xs.length : Int) := by omega
    simp only [hc', decide_false, cond_false]
    exact .inr (.inl ⟨_, _, rfl, _, rfl⟩)) NN 0 (false, 0) (Nat.zero_le _) (by rw [NN_eq]; omega) rfl
 rw [h1]; rfl
theorem eqIs_self (x : TIntsResult) (h : x.List.length ≤ 1048576) : m33 x x = some true := by
 unfold m33
 simp only [bne_self_eq_false, cond_false, eqL_self _ h, Option.bind_some, Bool.not_true]
theorem mkInts (x : TIntsResult) (h : x.List.length ≤ 1048576) : ∃ k' x', m36 x 1 = some (k', x') ∧ m37 x' 1 = some k' ∧ 0 ≤ k' := by
 obtain ⟨k', y, h1, h2, h3, h4⟩ := mkInt x.List 1 ⟨h, fun _ _ => trivial⟩ (by omega) (by decide)
 refine ⟨k', { x with List := y }, ?_, ?_, by omega⟩
 ·unfold m36
  rw [h1]; rfl
 ·unfold m37
  have h4 : k' ≤ 1 + 1048576 * 1 := h4
  rw [hdInt y 1 k' h2 (by omega) (show k' ≤ (1152921504606846976 : Int) by omega)]
  have : ¬ k' < 0 := by omega
  simp only [Option.bind_some, this, decide_false, cond_false]
theorem szS_lt (xs : List TVote) (h : xs.length ≤ 9223372036854775807) : ∃ y, m27 xs 1048576 = some y ∧ (0 ≤ y → xs.length ≤ 1048576) := szS_ok xs h
theorem votersFor_law (f : Int) (xs : List TVote) (r : TReply) (h : xs.length ≤ 9223372036854775807) : m5 f xs r = some true := by
 unfold m5
 obtain ⟨y, h1, h2⟩ := szS_ok xs h
 rw [h1, Option.bind_some]
 by_cases hy : y < 0
 ·simp only [hy, decide_true, cond_true]
 simp only [hy, decide_false, cond_false]
 have hl := h2 (by omega)
 by_cases hr : m28 r y < 0
 ·simp only [hr, decide_true, cond_true]
 simp only [hr, decide_false, cond_false]
 have key : ∃ w, m29 f xs r = some w ∧ m32 f xs r = some w ∧ w.List.length ≤ 1048576 := by
  obtain ⟨c, k1, k2, k3⟩ := fault_eq f xs
  unfold m29 m32
  rw [k1, k2]
  simp only [Option.bind_some]
  by_cases hc : c = 0
  rotate_left
  ·have hc' : (c != 0) = true := by simpa using hc
   rw [hc']
   exact ⟨_, rfl, rfl, by simp⟩
  have hc' : (c != 0) = false := by simpa using hc
  rw [hc']
  simp only [cond_false]
  obtain ⟨g1, g2, g3, g4⟩ := k3 hc
  obtain ⟨n, rfl⟩ : ∃ n : Nat, f = n := ⟨f.toNat, by omega⟩
  obtain ⟨ys, v1, v2⟩ := voters_eq xs r n (by omega) g3 g4
  have v0 := voters1 xs r n (by omega) g3
  rw [v1] at v0
  injection v0 with v0
  have hlen : ys.length ≤ 7 := by
   rw [v0]
   refine Nat.le_trans (List.length_filter_le _ _) ?_
   simp [upto]; omega
  rw [v1, v2]
  exact ⟨_, rfl, rfl, by show ys.length ≤ _; omega⟩
 obtain ⟨w, e1, e2, e3⟩ := key
 have e0 : m31 r = r := rfl
 obtain ⟨k, xs', q1, _, q3, _⟩ := mkVotes xs 1 ⟨hl, fun _ _ => trivial⟩ (by omega) (by decide)
 obtain ⟨k2, w', p1, p2, p3⟩ := mkInts w e3
 have hk : ¬ k < 0 := by omega
 have hk2 : ¬ k2 < 0 := by omega
 simp only [e0, cpS_ok xs hl, eqS_ok xs hl, e1, e2, eqIs_self w e3, q1, p1, p2, hk, hk2, Option.bind_some, Bool.not_true, cond_false, decide_false, contO, bne_self_eq_false]
end Go.Proofs.Ytodfmofjncmdfaa
