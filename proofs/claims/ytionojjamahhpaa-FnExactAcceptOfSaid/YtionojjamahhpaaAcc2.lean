/- FnExactAcceptOf, the plain law: voters, the law. -/
import Derived.Test.YtionojjamahhpaaAcc1
namespace Go.Proofs.Ytionojjamahhpaa
open Go Go.Rf
set_option linter.unusedVariables false
set_option linter.unusedSimpArgs false
def eqR (x r : TReply) : Bool := (x.Code == r.Code) && ((x.Value == r.Value) && ((x.Path == r.Path) && true))
def saidBy (xs : List TVote) (r : TReply) (k : Int) : Bool := xs.any fun x => x.From == k && eqR x.Reply r
def upto (n : Nat) : List Int := (List.range n).map fun (j : Nat) => ((j : Int) + 1)
theorem upto_succ (n : Nat) : upto (n + 1) = upto n ++ [(n : Int) + 1] := by simp [upto, List.range_succ]
theorem upto_mem (n : Nat) (k : Int) : k ∈ upto n ↔ 1 ≤ k ∧ k ≤ n := by
  simp only [upto, List.mem_map, List.mem_range]
  constructor
  · rintro ⟨j, h, rfl⟩; omega
  · intro h; exact ⟨(k - 1).toNat, by omega, by omega⟩
theorem upto_lt (n : Nat) : (upto n).Pairwise (· < ·) := by
  unfold upto
  rw [List.pairwise_map]
  exact List.pairwise_lt_range.imp fun h => by omega
theorem said_ok (xs : List TVote) (r : TReply) (k : Int) (L : List Int) (hl : xs.length ≤ 40) : loopO (ms68_0 xs r (k, L)) NN (false, 0) = some (.exit 2 (saidBy xs r k, (xs.length : Int))) := by
  obtain ⟨o, h1, rfl⟩ := loop_idx (f := ms68_0 xs r (k, L)) (fun i s => s = (saidBy (xs.take i) r k, (i : Int))) xs.length (fun o => o = .exit 2 (saidBy xs r k, (xs.length : Int)))
    (fun i s hi hs => by
      subst hs
      unfold ms68_0
      dsimp only
      by_cases hc : i < xs.length
      · have hc' : (i : Int) < (xs.length : Int) := by omega
        simp only [hc', decide_true, cond_true, getN hc, Option.bind_some]
        have hst : saidBy (xs.take (i + 1)) r k = (saidBy (xs.take i) r k || (xs[i].From == k && eqR xs[i].Reply r)) := by
          unfold saidBy
          rw [List.take_add_one, List.any_append, List.getElem?_eq_getElem hc]
          simp
        refine .inl ⟨hc, (saidBy (xs.take (i + 1)) r k, ((i + 1 : Nat) : Int)), ?_, rfl⟩
        rw [hst]
        cases saidBy (xs.take i) r k
        · cases hf : xs[i].From == k
          · simp only [cond_false, Option.bind_some, contO, wi1 (show i ≤ 1099511627776 by omega)]; rfl
          · simp only [cond_false, cond_true, Option.bind_some, contO, wi1 (show i ≤ 1099511627776 by omega)]; rfl
        · simp only [cond_true, Option.bind_some, contO, wi1 (show i ≤ 1099511627776 by omega)]; rfl
      · have hc' : ¬ (i : Int) < (xs.length : Int) := by omega
        have : i = xs.length := by omega
        subst this
        simp only [hc', decide_false, cond_false, List.take_length]
        exact .inr (.inl ⟨_, _, rfl, rfl⟩)) NN 0 (false, 0) (Nat.zero_le _) (by rw [NN_eq]; omega) rfl
  exact h1
theorem appI {L : List Int} {k : Int} (h : L.length ≤ 1000) : appO 8 L [k] = some (L ++ [k]) := by
  unfold appO
  rw [if_pos (by simp; omega)]
theorem voters1 (xs : List TVote) (r : TReply) (f : Nat) (hf : f ≤ 2) (hl : xs.length ≤ 40) : m68 (f : Int) xs r = some ((upto (3 * f + 1)).filter (saidBy xs r)) := by
  unfold m68
  have e1 : wi .i64 ((wi .i64 (3 * (f : Int))) + 1) = ((3 * f + 1 : Nat) : Int) := by rw [wi64 (x := 3 * (f : Int)) (by omega) (by omega), wi64 (by omega) (by omega)]; omega
  obtain ⟨o, h1, s, rfl, h2⟩ := loop_idx (f := ms68_1 (f : Int) xs r) (fun i s => s = ((i : Int) + 1, (upto i).filter (saidBy xs r))) (3 * f + 1) (fun o => ∃ s, o = .exit 0 s ∧ s.2 = (upto (3 * f + 1)).filter (saidBy xs r))
    (fun i s hi hs => by
      subst hs
      unfold ms68_1
      dsimp only
      rw [e1]
      by_cases hc : i < 3 * f + 1
      · have hc' : (i : Int) + 1 ≤ ((3 * f + 1 : Nat) : Int) := by omega
        simp only [hc', decide_true, cond_true, said_ok xs r _ _ hl, Option.bind_some, contO, if_true]
        have hlen : ((upto i).filter (saidBy xs r)).length ≤ 1000 := Nat.le_trans (List.length_filter_le _ _) (by simp [upto]; omega)
        have e2 : wi .i64 ((i : Int) + 1 + 1) = ((i + 1 : Nat) : Int) + 1 := by rw [wi64 (by omega) (by omega)]; omega
        refine .inl ⟨hc, _, ?_, rfl⟩
        rw [upto_succ, List.filter_append, e2]
        cases hs : saidBy xs r ((i : Int) + 1)
        · simp [hs]; rfl
        · simp [hs, appI hlen]; rfl
      · have hc' : ¬ (i : Int) + 1 ≤ ((3 * f + 1 : Nat) : Int) := by omega
        simp only [hc', decide_false, cond_false]
        have : i = 3 * f + 1 := by omega
        subst this
        exact .inr (.inl ⟨_, _, rfl, _, rfl, rfl⟩)) NN 0 (1, []) (Nat.zero_le _) (by rw [NN_eq]; omega) rfl
  rw [h1]
  simp [contO, h2]
theorem voters2 (xs : List TVote) (r : TReply) (hl : xs.length ≤ 40) : ∃ ys : List Int, m69 xs r = some (cmpA ys) ∧ ys.Pairwise (· ≤ ·) ∧ ∀ k, k ∈ ys ↔ saidBy xs r k = true := by
  unfold m69
  obtain ⟨o, h1, s, rfl, h2⟩ := loop_idx (f := ms69_0 xs r) (fun i s => s = ((i : Int), ((xs.take i).filter fun x => eqR x.Reply r).map fun x => x.From)) xs.length (fun o => ∃ s, o = .exit 0 s ∧ s.2 = (xs.filter fun x => eqR x.Reply r).map fun x => x.From)
    (fun i s hi hs => by
      subst hs
      unfold ms69_0
      dsimp only
      by_cases hc : i < xs.length
      · have hc' : (i : Int) < (xs.length : Int) := by omega
        simp only [hc', decide_true, cond_true, getN hc, Option.bind_some]
        have hlen : (((xs.take i).filter fun x => eqR x.Reply r).map fun x => x.From).length ≤ 1000 := by
          rw [List.length_map]; exact Nat.le_trans (List.length_filter_le _ _) (by simp; omega)
        have hst : ((xs.take (i + 1)).filter fun x => eqR x.Reply r) = ((xs.take i).filter fun x => eqR x.Reply r) ++ if eqR xs[i].Reply r then [xs[i]] else [] := by
          rw [List.take_add_one, List.filter_append, List.getElem?_eq_getElem hc]
          simp [List.filter_cons]
        refine .inl ⟨hc, _, ?_, rfl⟩
        rw [hst]
        show Option.bind (bif eqR xs[i].Reply r then _ else _) _ = _
        cases he : eqR xs[i].Reply r
        · simp [contO, wi1 (show i ≤ 1099511627776 by omega)]
        · simp [contO, appI hlen, wi1 (show i ≤ 1099511627776 by omega)]
      · have hc' : ¬ (i : Int) < (xs.length : Int) := by omega
        have : i = xs.length := by omega
        subst this
        simp only [hc', decide_false, cond_false, List.take_length]
        exact .inr (.inl ⟨_, _, rfl, _, rfl, rfl⟩)) NN 0 (0, []) (Nat.zero_le _) (by rw [NN_eq]; omega) rfl
  rw [h1]
  have hlen : s.2.length < 50 := by rw [h2, List.length_map]; exact Nat.lt_of_le_of_lt (List.length_filter_le _ _) (by omega)
  obtain ⟨ys, k1, k2, k3⟩ := SO_ok hlen
  refine ⟨ys, ?_, k3, fun k => ?_⟩
  · simp only [Option.bind_some, contO, if_true, k1]
    rw [CM_ok (by rw [k2.length_eq]; omega)]
    rfl
  · rw [k2.mem_iff, h2]
    simp only [List.mem_map, List.mem_filter, saidBy, List.any_eq_true, Bool.and_eq_true, beq_iff_eq]
    constructor
    · rintro ⟨x, ⟨a, b⟩, c⟩; exact ⟨x, a, c, b⟩
    · rintro ⟨x, a, c, b⟩; exact ⟨x, ⟨a, b⟩, c⟩
theorem strict_eq : ∀ (xs ys : List Int), xs.Pairwise (· < ·) → ys.Pairwise (· < ·) → (∀ k, k ∈ xs ↔ k ∈ ys) → xs = ys
  | [], [], _, _, _ => rfl
  | [], y :: ys, _, _, h => by have := (h y).2 (by simp); cases this
  | x :: xs, [], _, _, h => by have := (h x).1 (by simp); cases this
  | x :: xs, y :: ys, hx, hy, h => by
    rw [List.pairwise_cons] at hx hy
    have e : x = y := by
      rcases List.mem_cons.1 ((h x).1 (by simp)) with e | e
      · exact e
      · rcases List.mem_cons.1 ((h y).2 (by simp)) with e' | e'
        · exact e'.symm
        · have := hy.1 x e; have := hx.1 y e'; omega
    subst e
    rw [strict_eq xs ys hx.2 hy.2 fun k => ?_]
    have := h k
    simp only [List.mem_cons] at this
    constructor
    · intro hk
      rcases this.1 (.inr hk) with e | e
      · subst e; have := hx.1 k hk; omega
      · exact e
    · intro hk
      rcases this.2 (.inr hk) with e | e
      · subst e; have := hy.1 k hk; omega
      · exact e
theorem voters_eq (xs : List TVote) (r : TReply) (f : Nat) (hf : f ≤ 2) (hl : xs.length ≤ 40) (hx : ∀ x ∈ xs, 1 ≤ x.From ∧ x.From ≤ 3 * (f : Int) + 1) : ∃ ys, m68 (f : Int) xs r = some ys ∧ m69 xs r = some ys := by
  obtain ⟨ys, h1, h2, h3⟩ := voters2 xs r hl
  refine ⟨_, voters1 xs r f hf hl, ?_⟩
  rw [h1]
  congr 1
  refine strict_eq _ _ (cmpA_nodup ys h2) ((upto_lt _).filter _) fun k => ?_
  rw [cmpA_mem, h3, List.mem_filter, upto_mem]
  constructor
  · intro h
    refine ⟨?_, h⟩
    unfold saidBy at h
    rw [List.any_eq_true] at h
    obtain ⟨x, hxm, hk⟩ := h
    rw [Bool.and_eq_true, beq_iff_eq] at hk
    have := hx x hxm
    omega
  · exact fun h => h.2
theorem accept_eq (f : Int) (xs : List TVote) : ∃ y, m26 f xs = some y ∧ m27 f xs = some y := by
  obtain ⟨y, h1, h2, h3⟩ := fault_eq f xs
  unfold m26 m27
  rw [h1, h2]
  simp only [Option.bind_some]
  by_cases hy : y = 0
  rotate_left
  · have hy' : (y != 0) = true := by simpa using hy
    rw [hy']
    exact ⟨_, rfl, rfl⟩
  have hy' : (y != 0) = false := by simpa using hy
  rw [hy']
  simp only [cond_false]
  obtain ⟨g1, g2, g3, g4⟩ := h3 hy
  obtain ⟨n, rfl⟩ : ∃ n : Nat, f = n := ⟨f.toNat, by omega⟩
  have hstep : ms27_0 (n : Int) xs = ms26_0 (n : Int) xs := by
    funext s
    unfold ms26_0 ms27_0
    cases hg : getI xs s.1 with
    | none => rfl
    | some x =>
      obtain ⟨ys, v1, v2⟩ := voters_eq xs x.Reply n (by omega) g3 g4
      simp only [Option.bind_some, v1, v2]
  rw [hstep]
  obtain ⟨o, k1, k2⟩ := loop_idx (f := ms26_0 (n : Int) xs) (fun i s => s.1 = (i : Int)) xs.length (fun o => (∃ s, o = .exit 0 s) ∨ ∃ s, o = .ret s)
    (fun i s hi hs => by
      unfold ms26_0
      rw [hs]
      by_cases hc : i < xs.length
      · have hc' : (i : Int) < (xs.length : Int) := by omega
        obtain ⟨ys, v1, v2⟩ := voters_eq xs xs[i].Reply n (by omega) g3 g4
        simp only [hc', decide_true, cond_true, getN hc, Option.bind_some, v1]
        by_cases h3 : (ys.length : Int) > (n : Int)
        · simp only [h3, decide_true, cond_true]
          exact .inr (.inr ⟨_, rfl, .inr ⟨_, rfl⟩⟩)
        · simp only [h3, decide_false, cond_false]
          exact .inl ⟨hc, _, rfl, wi1 (by omega)⟩
      · have hc' : ¬ (i : Int) < (xs.length : Int) := by omega
        simp only [hc', decide_false, cond_false]
        exact .inr (.inl ⟨_, _, rfl, .inl ⟨_, rfl⟩⟩)) NN 0 (0, 0, 0, []) (Nat.zero_le _) (by rw [NN_eq]; omega) rfl
  rw [k1]
  rcases k2 with ⟨s, rfl⟩ | ⟨s, rfl⟩
  · exact ⟨_, rfl, rfl⟩
  · exact ⟨_, rfl, rfl⟩
theorem accept_law (f : Int) (xs : List TVote) (h : xs.length ≤ 9223372036854775807) : m5 f xs = some true := by
  unfold m5
  obtain ⟨y, h1, h2⟩ := szS_ok xs h
  rw [h1, Option.bind_some]
  by_cases hy : y < 0
  · simp only [hy, decide_true, cond_true]
  simp only [hy, decide_false, cond_false]
  have hl := h2 (by omega)
  obtain ⟨z, k1, k2⟩ := accept_eq f xs
  simp only [cpS_ok xs hl, eqS_ok xs hl, k1, k2, Option.bind_some]
  have : m28 z z = true := by simp [m28, eqR_self]
  rw [this]; rfl
end Go.Proofs.Ytionojjamahhpaa
