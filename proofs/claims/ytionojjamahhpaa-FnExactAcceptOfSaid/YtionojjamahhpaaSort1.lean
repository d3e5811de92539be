/- insertionSort, heapSort's parts: what they do to a range. -/
import Derived.Test.YtionojjamahhpaaW
import Derived.Test.YtionojjamahhpaaRh3
namespace Go.Proofs.Ytionojjamahhpaa
open Go Go.Rf
set_option linter.unusedVariables false
set_option linter.unusedSimpArgs false
theorem LE_eq (x y : Int) : m144 x y = some (decide (x < y)) := by
  unfold m144 m155
  simp [contO]
theorem wiS {n : Nat} (h0 : 0 < n) (h : n ≤ 1099511627776) : wi .i64 ((n : Int) - 1) = ((n - 1 : Nat) : Int) := by
  rw [wi64 (by omega) (by omega)]; omega
theorem wiA {n : Nat} (h : n ≤ 1099511627776) : wi .i64 ((n : Int) + 1) = ((n + 1 : Nat) : Int) := by
  rw [wi64 (by omega) (by omega)]; omega
theorem wiD {n k : Nat} (hk : k ≤ n) (h : n ≤ 1099511627776) : wi .i64 ((n : Int) - (k : Int)) = ((n - k : Nat) : Int) := by
  rw [wi64 (by omega) (by omega)]; omega
theorem wiP {n k : Nat} (h : n + k ≤ 1099511627776) : wi .i64 ((n : Int) + (k : Int)) = ((n + k : Nat) : Int) := by
  rw [wi64 (by omega) (by omega)]; omega

theorem IS0 {a j : Nat} {ys : List Int} (haj : a ≤ j) (hj : j < ys.length) (hl : ys.length ≤ 1099511627776) :
    ms138_0 (a : Int) ((j : Int), ys) = if a < j ∧ A ys j < A ys (j - 1) then some (.norm (((j - 1 : Nat) : Int), sw ys j (j - 1))) else some (.exit 2 ((j : Int), ys)) := by
  unfold ms138_0
  by_cases h1 : a < j
  · have e1 := wiS (n := j) (by omega) (by omega)
    have g1 := getA hj
    have g2 := getA (xs := ys) (i := j - 1) (by omega)
    by_cases h2 : A ys j < A ys (j - 1)
    · have g3 : getI (ys.set (Int.toNat (j : Int)) (A ys (j - 1))) ((j - 1 : Nat) : Int) = some (A ys (j - 1)) := by
        rw [getA (by simp; omega), A_set (by simpa using hj), if_neg (by omega)]
      simp only [gt_iff_lt, Int.ofNat_lt, h1, decide_true, cond_true, g1, e1, g2, g3, Option.bind_some, LE_eq, h2, contO, and_self, if_true]
      rfl
    · simp [h1, h2, g1, g2, e1, LE_eq, contO]
  · have : ¬ ((j : Int) > (a : Int)) := by omega
    simp [h1, this, contO]

/-- Sorted but for what stands at j. -/
def Hole (ys : List Int) (a j i : Nat) : Prop := ∀ p q, a ≤ p → p < q → q ≤ i → q ≠ j → A ys p ≤ A ys q
theorem IS_inner {a i : Nat} {ys : List Int} (hai : a ≤ i) (hi : i < ys.length) (hl : ys.length ≤ 1099511627776) (hs : SO ys a i) (n : Nat) (hn : i < n) :
    ∃ s' : Int × List Int, loopO (ms138_0 (a : Int)) n ((i : Int), ys) = some (.exit 2 s') ∧ RP ys s'.2 a (i + 1) ∧ SO s'.2 a (i + 1) := by
  refine loopO_exit (fun s : Int × List Int => ∃ j : Nat, s.1 = j ∧ a ≤ j ∧ j ≤ i ∧ RP ys s.2 a (i + 1) ∧ Hole s.2 a j i) (fun s : Int × List Int => s.1.toNat) (fun s : Int × List Int => RP ys s.2 a (i + 1) ∧ SO s.2 a (i + 1)) 2 (fun s hs => ?_) n _ ⟨i, rfl, hai, Nat.le_refl _, RP.refl _ _ _, fun p q h1 h2 h3 h4 => hs p q h1 h2 (by omega)⟩ (by simpa using hn)
  obtain ⟨z, zs⟩ := s
  obtain ⟨j, rfl, h1, h2, h3, h4⟩ := hs
  dsimp only at h3 h4 ⊢
  have hlen := h3.len
  rw [IS0 h1 (by omega) (by omega)]
  by_cases hc : a < j ∧ A zs j < A zs (j - 1)
  · rw [if_pos hc]
    refine .inl ⟨_, rfl, ⟨j - 1, rfl, by omega, by omega, h3.trans (RP.sw (by omega) (by omega) (by omega)), fun p q g1 g2 g3 g4 => ?_⟩, by simp; omega⟩
    rw [A_sw (by omega) (by omega), A_sw (by omega) (by omega)]
    have k1 := h4 p (j - 1)
    have k2 := h4 (j - 1) q
    have k3 := h4 j q
    have k4 := h4 p q
    repeat' split
    all_goals first | omega | (exfalso; omega) | (have := k1 (by omega) (by omega) (by omega) (by omega); omega) | (have := k2 (by omega) (by omega) (by omega) (by omega); omega) | (have := k3 (by omega) (by omega) (by omega) (by omega); omega) | exact k4 (by omega) (by omega) (by omega) (by omega)
  · rw [if_neg hc]
    refine .inr ⟨_, rfl, h3, fun p q g1 g2 g3 => ?_⟩
    show A zs p ≤ A zs q
    by_cases e : q = j
    · subst e
      have h5 : A zs (q - 1) ≤ A zs q := by
        by_cases hq : A zs q < A zs (q - 1)
        · exact absurd ⟨by omega, hq⟩ hc
        · omega
      by_cases e2 : p = q - 1
      · subst e2; exact h5
      · have := h4 p (q - 1) g1 (by omega) (by omega) (by omega)
        omega
    · exact h4 p q g1 g2 (by omega) e
theorem NN_eq : NN = 9223372036854775808 := by unfold NN maxLen; rfl
theorem IS1 {a b : Nat} {xs : List Int} (hab : a ≤ b) (hb : b ≤ xs.length) (hl : xs.length ≤ 1099511627776) (s : Int × List Int)
    (hs : ∃ i : Nat, s.1 = i ∧ a < i ∧ (i ≤ b ∨ i = a + 1) ∧ RP xs s.2 a b ∧ SO s.2 a i) :
    (∃ s', ms138_1 (a : Int) (b : Int) s = some (.norm s') ∧ (∃ i : Nat, s'.1 = i ∧ a < i ∧ (i ≤ b ∨ i = a + 1) ∧ RP xs s'.2 a b ∧ SO s'.2 a i) ∧ b + 2 - s'.1.toNat < b + 2 - s.1.toNat) ∨ (∃ s', ms138_1 (a : Int) (b : Int) s = some (.exit 0 s') ∧ RP xs s'.2 a b ∧ SO s'.2 a b) := by
  obtain ⟨z, zs⟩ := s
  obtain ⟨i, rfl, h1, h2, h3, h4⟩ := hs
  dsimp only at h3 h4 ⊢
  have hlen := h3.len
  unfold ms138_1
  by_cases hc : i < b
  · have hc' : ((i : Nat) : Int) < (b : Int) := by omega
    obtain ⟨s', k1, k2, k3⟩ := IS_inner (a := a) (i := i) (ys := zs) (by omega) (by omega) (by omega) h4 NN (by rw [NN_eq]; omega)
    simp only [hc', decide_true, cond_true, k1, Option.bind_some, contO, if_true]
    rw [wiA (by omega)]
    exact .inl ⟨_, rfl, ⟨i + 1, rfl, by omega, by omega, h3.trans (k2.mono (by omega) (by omega)), k3⟩, by simp; omega⟩
  · have hc' : ¬ ((i : Nat) : Int) < (b : Int) := by omega
    simp only [hc', decide_false, cond_false]
    exact .inr ⟨_, rfl, h3, fun p q g1 g2 g3 => h4 p q g1 g2 (by omega)⟩
theorem IS_ok {a b : Nat} {xs : List Int} (hab : a ≤ b) (hb : b ≤ xs.length) (hl : xs.length ≤ 1099511627776) : ∃ ys, m138 xs a b = some ys ∧ RP xs ys a b ∧ SO ys a b := by
  unfold m138
  rw [wiA (by omega)]
  obtain ⟨s', h1, h2, h3⟩ := loopO_exit (fun s : Int × List Int => ∃ i : Nat, s.1 = i ∧ a < i ∧ (i ≤ b ∨ i = a + 1) ∧ RP xs s.2 a b ∧ SO s.2 a i) (fun s : Int × List Int => b + 2 - s.1.toNat) (fun s => RP xs s.2 a b ∧ SO s.2 a b) 0 (IS1 hab hb hl) NN (((a + 1 : Nat) : Int), xs)
    ⟨a + 1, rfl, by omega, .inr rfl, RP.refl _ _ _, fun p q h1 h2 h3 => by omega⟩ (by rw [NN_eq]; omega)
  rw [h1]
  exact ⟨s'.2, by simp [contO], h2, h3⟩
end Go.Proofs.Ytionojjamahhpaa
