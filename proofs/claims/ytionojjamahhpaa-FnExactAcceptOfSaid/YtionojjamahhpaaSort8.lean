/- slices.Compact leaves one of each run. -/
import Derived.Test.YtionojjamahhpaaSort7
namespace Go.Proofs.Ytionojjamahhpaa
open Go Go.Rf
set_option linter.unusedVariables false
set_option linter.unusedSimpArgs false
theorem CM0_ok {xs : List Int} {k : Nat} (hk : 1 ≤ k) (hkn : k < xs.length) (hl : xs.length ≤ 1099511627776) (hal : cmpA (xs.take (k + 1)) = xs.take k) :
    ∃ (i : Nat) (ys : List Int), loopO (ms111_0 (k : Int) (xs.length : Int)) NN ((k : Int), 1, xs) = some (.exit 2 ((i : Int), ((xs.length - k : Nat) : Int), ys)) ∧ i ≤ xs.length ∧ ys.length = xs.length ∧ ys.take i = cmpA xs := by
  have h := loop_idx (f := ms111_0 (k : Int) (xs.length : Int)) (fun q s => ∃ (i : Nat) (ys : List Int), s = ((i : Int), ((q + 1 : Nat) : Int), ys) ∧ i ≤ k + q ∧ ys.length = xs.length ∧ (∀ j, i ≤ j → A ys j = A xs j) ∧ ys.take i = cmpA (xs.take (k + q + 1))) (xs.length - k - 1)
    (fun o => ∃ (i : Nat) (ys : List Int), o = .exit 2 ((i : Int), ((xs.length - k : Nat) : Int), ys) ∧ i ≤ xs.length ∧ ys.length = xs.length ∧ ys.take i = cmpA xs)
    (fun q s hq hs => by
      obtain ⟨i, ys, rfl, h1, h2, h3, h4⟩ := hs
      unfold ms111_0
      dsimp only
      by_cases hc : q + 1 < xs.length - k
      · left
        have hc' : ((q + 1 : Nat) : Int) < (xs.length : Int) - (k : Int) := by omega
        have e1 : wi .i64 (((q + 1 : Nat) : Int) - 1) = (q : Int) := by rw [wi64 (by omega) (by omega)]; omega
        have v1 : getV ys (k : Int) (xs.length : Int) ((q + 1 : Nat) : Int) = some (A xs (k + q + 1)) := by
          unfold getV
          rw [if_pos ⟨by omega, by omega⟩, show (k : Int) + ((q + 1 : Nat) : Int) = ((k + q + 1 : Nat) : Int) by omega, getA (by omega), h3 _ (by omega)]
        have v2 : getV ys (k : Int) (xs.length : Int) (q : Int) = some (A xs (k + q)) := by
          unfold getV
          rw [if_pos ⟨by omega, by omega⟩, show (k : Int) + (q : Int) = ((k + q : Nat) : Int) by omega, getA (by omega), h3 _ (by omega)]
        have g1 := getA (xs := ys) (i := i) (by omega)
        have e2 := wi1 (n := i) (by omega)
        have e3 := wi1 (n := q + 1) (by omega)
        have hst := cmpA_step (xs := xs) (i := k + q + 1) (by omega) (by omega)
        rw [show k + q + 1 - 1 = k + q by omega] at hst
        simp only [hc', decide_true, cond_true, e1, v1, v2, g1, Option.bind_some]
        refine ⟨by omega, ?_⟩
        by_cases he : A xs (k + q + 1) = A xs (k + q)
        · have he' : (A xs (k + q + 1) != A xs (k + q)) = false := by simp [he]
          rw [if_pos he.symm] at hst
          simp only [he', cond_false, Option.bind_some, contO, e3]
          exact ⟨_, rfl, i, ys, rfl, by omega, h2, h3, by rw [show k + (q + 1) + 1 = k + q + 1 + 1 by omega, hst]; exact h4⟩
        · have he' : (A xs (k + q + 1) != A xs (k + q)) = true := by simp [he]
          rw [if_neg (fun q => he q.symm)] at hst
          simp only [he', cond_true, Option.bind_some, contO, e2, e3]
          refine ⟨_, rfl, i + 1, ys.set i (A xs (k + q + 1)), rfl, by omega, by simp [h2], fun j hj => ?_, ?_⟩
          · rw [A_set (by omega), if_neg (by omega)]; exact h3 j (by omega)
          · rw [show k + (q + 1) + 1 = k + q + 1 + 1 by omega, hst, take_snoc (by simp; omega), A_set (by omega), if_pos rfl, List.take_set_of_le (Nat.le_refl _), h4]
      · right; left
        have hc' : ¬ ((q + 1 : Nat) : Int) < (xs.length : Int) - (k : Int) := by omega
        simp only [hc', decide_false, cond_false]
        have hq2 : q + 1 = xs.length - k := by omega
        refine ⟨2, _, rfl, i, ys, by rw [hq2], by omega, h2, ?_⟩
        rw [h4, List.take_of_length_le (by omega)]) NN 0 ((k : Int), 1, xs) (by omega) (by rw [NN_eq]; omega) ⟨k, xs, rfl, by omega, rfl, fun _ _ => rfl, by rw [hal]⟩
  obtain ⟨o, h1, i, ys, rfl, h2⟩ := h
  exact ⟨i, ys, h1, h2⟩
theorem CM_ok {xs : List Int} (hl : xs.length ≤ 1099511627776) : m111 xs = some (cmpA xs) := by
  unfold m111
  by_cases h2 : xs.length < 2
  · have h2' : (xs.length : Int) < 2 := by omega
    simp only [h2', decide_true, cond_true]
    match xs, h2 with
    | [], _ => rfl
    | [x], _ => rfl
    | _ :: _ :: _, h => exact absurd h (by simp)
  have h2' : ¬ (xs.length : Int) < 2 := by omega
  simp only [h2', decide_false, cond_false]
  have h := loop_idx (f := ms111_1 xs) (fun q s => s = (none, ((q + 1 : Nat) : Int)) ∧ (∀ i, 1 ≤ i → i < q + 1 → A xs i ≠ A xs (i - 1))) (xs.length - 1)
    (fun o => (∃ k, o = .exit 0 (none, k) ∧ cmpA xs = xs) ∨ (∃ k, o = .ret (some (cmpA xs), k)))
    (fun q s hq hs => by
      obtain ⟨rfl, ha⟩ := hs
      unfold ms111_1
      dsimp only
      by_cases hc : q + 1 < xs.length
      · have hc' : ((q + 1 : Nat) : Int) < (xs.length : Int) := by omega
        have e1 : wi .i64 (((q + 1 : Nat) : Int) - 1) = (q : Int) := by rw [wi64 (by omega) (by omega)]; omega
        have g1 := getA (xs := xs) (i := q + 1) (by omega)
        have g2 := getA (xs := xs) (i := q) (by omega)
        have e3 := wi1 (n := q + 1) (by omega)
        simp only [hc', decide_true, cond_true, e1, g1, g2, Option.bind_some]
        by_cases he : A xs (q + 1) = A xs q
        · right; right
          have he' : (A xs (q + 1) == A xs q) = true := by simp [he]
          have hal : cmpA (xs.take (q + 1 + 1)) = xs.take (q + 1) := by
            rw [cmpA_step (by omega) (by omega), Nat.add_sub_cancel, if_pos he.symm]
            refine cmpA_alone _ (fun i h1 h2 => ?_)
            simp only [List.length_take] at h2
            have := ha i h1 (by omega)
            rw [show ∀ j, j < q + 1 → A (xs.take (q + 1)) j = A xs j from fun j hj => by simp [A, hj], show A (xs.take (q + 1)) (i - 1) = A xs (i - 1) from by simp [A, show i - 1 < q + 1 by omega]]
            · exact this
            · omega
          obtain ⟨i, ys, k1, k2, k3, k4⟩ := CM0_ok (xs := xs) (k := q + 1) (by omega) hc hl hal
          have v1 : viO xs.length ((q + 1 : Nat) : Int) (xs.length : Int) = some () := by unfold viO; rw [if_pos ⟨by omega, by omega, by omega⟩]
          have v2 : viO ys.length (i : Int) (ys.length : Int) = some () := by unfold viO; rw [if_pos ⟨by omega, by omega, by omega⟩]
          have hcl : (clr ys (i : Int)).length = ys.length := by simp [clr]; omega
          have v3 : viO (clr ys (i : Int)).length 0 (i : Int) = some () := by unfold viO; rw [if_pos ⟨by omega, by omega, by omega⟩]
          simp only [he', cond_true, v1, k1, Option.bind_some, contO, if_true, v2, v3]
          refine ⟨_, rfl, .inr ⟨(i : Int), ?_⟩⟩
          have : (clr ys (i : Int)).take (i : Int).toNat = cmpA xs := by
            rw [← k4]
            simp only [clr, Int.toNat_natCast]
            rw [List.take_append_of_le_length (by simp; omega), List.take_take, Nat.min_self]
          rw [this]
        · left
          have he' : (A xs (q + 1) == A xs q) = false := by simp [he]
          simp only [he', cond_false, e3]
          refine ⟨by omega, _, rfl, rfl, fun i h1 h2 => ?_⟩
          by_cases e : i = q + 1
          · subst e; exact he
          · exact ha i h1 (by omega)
      · right; left
        have hc' : ¬ ((q + 1 : Nat) : Int) < (xs.length : Int) := by omega
        simp only [hc', decide_false, cond_false]
        exact ⟨0, _, rfl, .inl ⟨_, rfl, cmpA_alone xs (fun i h1 h2 => ha i h1 (by omega))⟩⟩) NN 0 (none, 1) (by omega) (by rw [NN_eq]; omega) ⟨rfl, fun i h1 h2 => by omega⟩
  obtain ⟨o, h1, h2⟩ := h
  rcases h2 with ⟨k, rfl, h3⟩ | ⟨k, rfl⟩
  · rw [h1]
    simp only [Option.bind_some, contO, if_true, h3]
  · rw [h1]; rfl
end Go.Proofs.Ytionojjamahhpaa
