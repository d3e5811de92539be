/- reverseRange, choosePivot, partialInsertionSort (short ranges), partition. -/
import Derived.Test.YtionojjamahhpaaSort1
namespace Go.Proofs.Ytionojjamahhpaa
open Go Go.Rf
set_option linter.unusedVariables false
set_option linter.unusedSimpArgs false
theorem getSet {xs : List Int} {i j : Nat} {zi zj v : Int} (hi : zi = i) (hj : zj = j) (h : j < xs.length) : getI (xs.set (Int.toNat zi) v) zj = some (A (xs.set i v) j) := by
  subst hi; subst hj
  exact getA (by simpa using h)
theorem RR_step {a b : Nat} {xs : List Int} (hb : b ≤ xs.length) (hl : xs.length ≤ 1099511627776) (s : Int × Int × List Int)
    (hs : ∃ i j : Nat, s.1 = i ∧ s.2.1 = j ∧ a ≤ i ∧ j < b ∧ i ≤ j + 1 ∧ RP xs s.2.2 a b) :
    (∃ s', ms142_0 s = some (.norm s') ∧ (∃ i j : Nat, s'.1 = i ∧ s'.2.1 = j ∧ a ≤ i ∧ j < b ∧ i ≤ j + 1 ∧ RP xs s'.2.2 a b) ∧ (s'.2.1 + 1 - s'.1).toNat < (s.2.1 + 1 - s.1).toNat) ∨ (∃ s', ms142_0 s = some (.exit 0 s') ∧ RP xs s'.2.2 a b) := by
  obtain ⟨z, w, zs⟩ := s
  obtain ⟨i, j, rfl, rfl, h1, h2, h3, h4⟩ := hs
  dsimp only at h4 ⊢
  have hlen := h4.len
  unfold ms142_0
  by_cases hc : i < j
  · have hc' : ((i : Nat) : Int) < (j : Int) := by omega
    have g1 := getA (xs := zs) (i := j) (by omega)
    have g2 := getA (xs := zs) (i := i) (by omega)
    have g3 := getSet (xs := zs) (i := i) (j := j) (v := A zs j) rfl rfl (by omega)
    simp only [hc', decide_true, cond_true, g1, g2, g3, Option.bind_some, wiA (n := i) (by omega), wiS (n := j) (by omega) (by omega)]
    refine .inl ⟨_, rfl, ⟨i + 1, j - 1, rfl, rfl, by omega, by omega, by omega, h4.trans (RP.sw (xs := zs) (i := i) (j := j) (by omega) (by omega) (by omega))⟩, by dsimp only; omega⟩
  · have hc' : ¬ ((i : Nat) : Int) < (j : Int) := by omega
    simp only [hc', decide_false, cond_false]
    exact .inr ⟨_, rfl, h4⟩
theorem RR_ok {a b : Nat} {xs : List Int} (hab : a < b) (hb : b ≤ xs.length) (hl : xs.length ≤ 1099511627776) : ∃ ys, m142 xs a b = some ys ∧ RP xs ys a b := by
  unfold m142
  rw [wiS (by omega) (by omega)]
  obtain ⟨s', h1, h2⟩ := loopO_exit (fun s : Int × Int × List Int => ∃ i j : Nat, s.1 = i ∧ s.2.1 = j ∧ a ≤ i ∧ j < b ∧ i ≤ j + 1 ∧ RP xs s.2.2 a b) (fun s : Int × Int × List Int => (s.2.1 + 1 - s.1).toNat) (fun s => RP xs s.2.2 a b) 0 (RR_step hb hl) NN ((a : Int), ((b - 1 : Nat) : Int), xs)
    ⟨a, b - 1, rfl, rfl, by omega, by omega, by omega, RP.refl _ _ _⟩ (by rw [NN_eq]; dsimp only; omega)
  rw [h1]
  exact ⟨s'.2.2, by simp [contO], h2⟩

/-! choosePivot -/
theorem O2_ok {a0 : List Int} {i j : Nat} (sw_ : Int) (hi : i < a0.length) (hj : j < a0.length) : ∃ (p q : Nat) (t : Int), m157 a0 i j sw_ = some ((p : Int), (q : Int), t) ∧ ((p = i ∧ q = j) ∨ (p = j ∧ q = i)) := by
  unfold m157
  simp only [getA hj, getA hi, Option.bind_some, LE_eq]
  by_cases h : A a0 j < A a0 i
  · exact ⟨j, i, wi .i64 (sw_ + 1), by simp [h], .inr ⟨rfl, rfl⟩⟩
  · exact ⟨i, j, sw_, by simp [h], .inl ⟨rfl, rfl⟩⟩
theorem MD_ok {a0 : List Int} {i j k : Nat} (s : Int) (hi : i < a0.length) (hj : j < a0.length) (hk : k < a0.length) : ∃ (p : Nat) (t : Int), m154 a0 i j k s = some ((p : Int), t) ∧ (p = i ∨ p = j ∨ p = k) := by
  unfold m154
  obtain ⟨p1, q1, t1, e1, h1⟩ := O2_ok (a0 := a0) (i := i) (j := j) s hi hj
  simp only [e1, Option.bind_some]
  have hq1 : q1 < a0.length := by rcases h1 with h | h <;> omega
  have hp1 : p1 < a0.length := by rcases h1 with h | h <;> omega
  obtain ⟨p2, q2, t2, e2, h2⟩ := O2_ok (a0 := a0) (i := q1) (j := k) t1 hq1 hk
  simp only [e2, Option.bind_some]
  have hp2 : p2 < a0.length := by rcases h2 with h | h <;> omega
  obtain ⟨p3, q3, t3, e3, h3⟩ := O2_ok (a0 := a0) (i := p1) (j := p2) t2 hp1 hp2
  simp only [e3, Option.bind_some]
  exact ⟨q3, t3, rfl, by omega⟩
theorem wiT {n k : Nat} (h : n ≤ 1099511627776) (hk : 0 < k) (hk2 : k ≤ 1024): wi .i64 (Int.tdiv (n : Int) (k : Int)) = ((n / k : Nat) : Int) := by
  have e : Int.tdiv (n : Int) (k : Int) = ((n / k : Nat) : Int) := by simp
  have : n / k ≤ n := Nat.div_le_self n k
  rw [e]
  generalize n / k = q at this
  rw [wi64 (by omega) (by omega)]
theorem wiM {n k : Nat} (h : n * k ≤ 1099511627776) : wi .i64 ((n : Int) * (k : Int)) = ((n * k : Nat) : Int) := by
  rw [← Int.natCast_mul, wi64 (by omega) (by omega)]
theorem CP_ok {a b : Nat} {xs : List Int} (hab : a + 8 ≤ b) (h50 : b < a + 50) (hb : b ≤ xs.length) (hl : xs.length ≤ 1099511627776) : ∃ (p : Nat) (h : Int), m141 xs a b = some ((p : Int), h) ∧ a ≤ p ∧ p < b := by
  unfold m141
  have e0 := wiD (n := b) (k := a) (by omega) (by omega)
  have e1 : wi .i64 (Int.tdiv ((b - a : Nat) : Int) 4) = (((b - a) / 4 : Nat) : Int) := wiT (n := b - a) (k := 4) (by omega) (by omega) (by omega)
  have hq : (b - a) / 4 ≤ 12 := by omega
  have m1 : wi .i64 ((((b - a) / 4 : Nat) : Int) * 1) = (((b - a) / 4 * 1 : Nat) : Int) := wiM (k := 1) (by omega)
  have m2 : wi .i64 ((((b - a) / 4 : Nat) : Int) * 2) = (((b - a) / 4 * 2 : Nat) : Int) := wiM (k := 2) (by omega)
  have m3 : wi .i64 ((((b - a) / 4 : Nat) : Int) * 3) = (((b - a) / 4 * 3 : Nat) : Int) := wiM (k := 3) (by omega)
  have h8 : ((b - a : Nat) : Int) ≥ 8 := by omega
  have h5 : ¬ ((b - a : Nat) : Int) ≥ 50 := by omega
  simp only [e0, h8, h5, decide_true, decide_false, cond_true, cond_false, e1, m1, m2, m3, wiP (n := a) (k := (b - a) / 4 * 1) (by omega), wiP (n := a) (k := (b - a) / 4 * 2) (by omega), wiP (n := a) (k := (b - a) / 4 * 3) (by omega), Option.bind_some, contO]
  obtain ⟨p, t, e, hp⟩ := MD_ok (a0 := xs) (i := a + (b - a) / 4 * 1) (j := a + (b - a) / 4 * 2) (k := a + (b - a) / 4 * 3) 0 (by omega) (by omega) (by omega)
  simp only [e, Option.bind_some]
  by_cases q1 : t = 0
  · exact ⟨p, 1, by simp [q1, contO], by omega, by omega⟩
  · by_cases q2 : t = 12
    · exact ⟨p, 2, by simp [q2, contO], by omega, by omega⟩
    · have r1 : (t == 0) = false := by simpa using q1
      have r2 : (t == 12) = false := by simpa using q2
      exact ⟨p, 0, by simp [r1, r2, contO], by omega, by omega⟩

/-! partialInsertionSort, where the range is short -/
theorem PI0 {a b i : Nat} {xs : List Int} (r : Bool) (q j : Int) (hb : b ≤ xs.length) (hl : xs.length ≤ 1099511627776) (h0 : 0 < i) (hi : i ≤ b) :
    ms143_0 (b : Int) (r, q, j, xs) (i : Int) = if i < b ∧ ¬ A xs i < A xs (i - 1) then some (.norm ((i + 1 : Nat) : Int)) else some (.exit 2 (i : Int)) := by
  unfold ms143_0
  by_cases h1 : i < b
  · have h1' : ((i : Nat) : Int) < (b : Int) := by omega
    have g1 := getA (xs := xs) (i := i) (by omega)
    have g2 := getA (xs := xs) (i := i - 1) (by omega)
    by_cases h2 : A xs i < A xs (i - 1)
    · simp [h1, h1', g1, g2, wiS (n := i) h0 (by omega), LE_eq, h2, contO]
    · have e := wiA (n := i) (by omega)
      simp [h1, h1', g1, g2, wiS (n := i) h0 (by omega), LE_eq, h2, contO, e]
  · have h1' : ¬ ((i : Nat) : Int) < (b : Int) := by omega
    simp [h1, h1', contO]
theorem PI_ok {a b : Nat} {xs : List Int} (hab : a < b) (h50 : b < a + 50) (hb : b ≤ xs.length) (hl : xs.length ≤ 1099511627776) : ∃ r : Bool, m143 xs a b = some (r, xs) ∧ (r = true → SO xs a b) := by
  unfold m143
  rw [wiA (by omega)]
  obtain ⟨z, h1, i, rfl, h2, h3, h4, h5⟩ := loopO_exit (f := ms143_0 (b : Int) (false, ((a + 1 : Nat) : Int), 0, xs)) (fun z => ∃ i : Nat, z = i ∧ a < i ∧ i ≤ b ∧ SO xs a i) (fun z => b - z.toNat) (fun z => ∃ i : Nat, z = i ∧ a < i ∧ i ≤ b ∧ SO xs a i ∧ (i < b → A xs i < A xs (i - 1))) 2
    (fun z hz => by
      obtain ⟨i, rfl, h2, h3, h4⟩ := hz
      rw [PI0 (a := a) false _ _ hb hl (by omega) h3]
      by_cases hc : i < b ∧ ¬ A xs i < A xs (i - 1)
      · rw [if_pos hc]
        refine .inl ⟨_, rfl, ⟨i + 1, rfl, by omega, by omega, fun p q g1 g2 g3 => ?_⟩, by simp; omega⟩
        by_cases e : q = i
        · subst e
          have := hc.2
          by_cases e2 : p = q - 1
          · subst e2; omega
          · have := h4 p (q - 1) g1 (by omega) (by omega); omega
        · exact h4 p q g1 g2 (by omega)
      · rw [if_neg hc]
        refine .inr ⟨_, rfl, i, rfl, h2, h3, h4, fun hib => ?_⟩
        by_cases h : A xs i < A xs (i - 1)
        · exact h
        · exact absurd ⟨hib, h⟩ hc) NN ((a + 1 : Nat) : Int) ⟨a + 1, rfl, by omega, by omega, fun p q g1 g2 g3 => by omega⟩ (by rw [NN_eq]; omega)
  have key : ms143_3 (a : Int) (b : Int) (false, ((a + 1 : Nat) : Int), 0, xs) = some (.ret (decide (i = b), (i : Int), 0, xs)) := by
    unfold ms143_3
    simp only [h1, Option.bind_some, contO, if_true]
    have e0 := wiD (n := b) (k := a) (by omega) (by omega)
    have h5' : ((b - a : Nat) : Int) < 50 := by omega
    by_cases e : i = b
    · subst e; simp [contO]
    · have e' : ((((i : Nat) : Int) == (b : Int)) : Bool) = false := by simp; omega
      simp [e, e', e0, h5', contO]
  obtain ⟨n, hn⟩ : ∃ n, NN = n + 1 := ⟨9223372036854775807, by rw [NN_eq]⟩
  rw [hn]
  refine ⟨decide (i = b), by simp only [loopO, key, Option.bind_some, contO], fun hr => ?_⟩
  have : i = b := by simpa using hr
  subst this; exact h4
end Go.Proofs.Ytionojjamahhpaa
