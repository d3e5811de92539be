/- partition, partitionEqual. -/
import Derived.Test.YtionojjamahhpaaSort2
namespace Go.Proofs.Ytionojjamahhpaa
open Go Go.Rf
set_option linter.unusedVariables false
set_option linter.unusedSimpArgs false
theorem scanU {f : Int → Option (LO Int)} {e a j n : Nat} (Pr : Nat → Prop) [DecidablePred Pr] (hf : ∀ i : Nat, a < i → i ≤ j + 1 → f (i : Int) = if i ≤ j ∧ Pr i then some (.norm ((i + 1 : Nat) : Int)) else some (.exit e (i : Int)))
    {i : Nat} (h1 : a < i) (h2 : i ≤ j + 1) (hn : j + 2 < n) : ∃ i' : Nat, loopO f n (i : Int) = some (.exit e (i' : Int)) ∧ i ≤ i' ∧ i' ≤ j + 1 ∧ (∀ k, i ≤ k → k < i' → Pr k) ∧ (i' ≤ j → ¬ Pr i') := by
  obtain ⟨z, g1, i', rfl, g2⟩ := loopO_exit (f := f) (fun z => ∃ q : Nat, z = q ∧ i ≤ q ∧ q ≤ j + 1 ∧ ∀ k, i ≤ k → k < q → Pr k) (fun z => j + 1 - z.toNat) (fun z => ∃ q : Nat, z = q ∧ i ≤ q ∧ q ≤ j + 1 ∧ (∀ k, i ≤ k → k < q → Pr k) ∧ (q ≤ j → ¬ Pr q)) e
    (fun z hz => by
      obtain ⟨q, rfl, k1, k2, k3⟩ := hz
      rw [hf q (by omega) k2]
      by_cases hc : q ≤ j ∧ Pr q
      · rw [if_pos hc]
        refine .inl ⟨_, rfl, ⟨q + 1, rfl, by omega, by omega, fun k m1 m2 => ?_⟩, by simp; omega⟩
        by_cases e : k = q
        · subst e; exact hc.2
        · exact k3 k m1 (by omega)
      · rw [if_neg hc]
        exact .inr ⟨_, rfl, q, rfl, k1, k2, k3, fun m1 m2 => hc ⟨m1, m2⟩⟩) n (i : Int) ⟨i, rfl, Nat.le_refl _, h2, fun k m1 m2 => by omega⟩ (by simp; omega)
  exact ⟨i', g1, g2⟩
theorem scanD {f : Int → Option (LO Int)} {e b i n : Nat} (Pr : Nat → Prop) [DecidablePred Pr] (hi : 0 < i) (hf : ∀ j : Nat, i ≤ j + 1 → j < b → f (j : Int) = if i ≤ j ∧ Pr j then some (.norm ((j - 1 : Nat) : Int)) else some (.exit e (j : Int)))
    {j : Nat} (h1 : j < b) (h2 : i ≤ j + 1) (hn : b + 2 < n) : ∃ j' : Nat, loopO f n (j : Int) = some (.exit e (j' : Int)) ∧ j' ≤ j ∧ i ≤ j' + 1 ∧ (∀ k, j' < k → k ≤ j → Pr k) ∧ (i ≤ j' → ¬ Pr j') := by
  obtain ⟨z, g1, i', rfl, g2⟩ := loopO_exit (f := f) (fun z => ∃ q : Nat, z = q ∧ q ≤ j ∧ i ≤ q + 1 ∧ ∀ k, q < k → k ≤ j → Pr k) (fun z => z.toNat) (fun z => ∃ q : Nat, z = q ∧ q ≤ j ∧ i ≤ q + 1 ∧ (∀ k, q < k → k ≤ j → Pr k) ∧ (i ≤ q → ¬ Pr q)) e
    (fun z hz => by
      obtain ⟨q, rfl, k1, k2, k3⟩ := hz
      rw [hf q k2 (by omega)]
      by_cases hc : i ≤ q ∧ Pr q
      · rw [if_pos hc]
        refine .inl ⟨_, rfl, ⟨q - 1, rfl, by omega, by omega, fun k m1 m2 => ?_⟩, by simp; omega⟩
        by_cases e : k = q
        · subst e; exact hc.2
        · exact k3 k (by omega) m2
      · rw [if_neg hc]
        exact .inr ⟨_, rfl, q, rfl, k1, k2, k3, fun m1 m2 => hc ⟨m1, m2⟩⟩) n (j : Int) ⟨j, rfl, Nat.le_refl _, h2, fun k m1 m2 => by omega⟩ (by simp; omega)
  exact ⟨i', g1, g2⟩

/-- On the left the small ones, on the right the others. -/
structure Part (ys : List Int) (a i j b : Nat) : Prop where
  ai : a < i
  ij : i ≤ j + 1
  jb : j < b
  lo : ∀ k, a < k → k < i → A ys k < A ys a
  hi : ∀ k, j < k → k < b → A ys a ≤ A ys k

theorem PO_up {a b i : Nat} {ys : List Int} (j : Nat) (hj : j < b) (hb : b ≤ ys.length) (hl : ys.length ≤ 1099511627776) (h1 : a < i) (h2 : i ≤ j + 1) (s : Int) :
    ms146_2 (a : Int) (s, (j : Int), ys) (i : Int) = if i ≤ j ∧ A ys i < A ys a then some (.norm ((i + 1 : Nat) : Int)) else some (.exit 6 (i : Int)) := by
  unfold ms146_2
  by_cases hc : i ≤ j
  · have hc' : ((i : Nat) : Int) ≤ (j : Int) := by omega
    have g1 := getA (xs := ys) (i := i) (by omega)
    have g2 := getA (xs := ys) (i := a) (by omega)
    have e := wiA (n := i) (by omega)
    by_cases h3 : A ys i < A ys a <;> simp [hc, hc', g1, g2, LE_eq, h3, contO, e]
  · have hc' : ¬ ((i : Nat) : Int) ≤ (j : Int) := by omega
    simp [hc, hc', contO]
theorem PO_dn {a b i : Nat} {ys : List Int} (j : Nat) (hj : j < b) (hb : b ≤ ys.length) (hl : ys.length ≤ 1099511627776) (h1 : a < i) (h2 : i ≤ j + 1) (s t : Int) :
    ms146_3 (a : Int) (s, t, ys) (i : Int) (j : Int) = if i ≤ j ∧ ¬ A ys j < A ys a then some (.norm ((j - 1 : Nat) : Int)) else some (.exit 8 (j : Int)) := by
  unfold ms146_3
  by_cases hc : i ≤ j
  · have hc' : ((i : Nat) : Int) ≤ (j : Int) := by omega
    have g1 := getA (xs := ys) (i := j) (by omega)
    have g2 := getA (xs := ys) (i := a) (by omega)
    have e := wiS (n := j) (by omega) (by omega)
    by_cases h3 : A ys j < A ys a <;> simp [hc, hc', g1, g2, LE_eq, h3, contO, e]
  · have hc' : ¬ ((i : Nat) : Int) ≤ (j : Int) := by omega
    simp [hc, hc', contO]
theorem Part.up {ys : List Int} {a i j b i' : Nat} (h : Part ys a i j b) (h1 : i ≤ i') (h2 : i' ≤ j + 1) (h3 : ∀ k, i ≤ k → k < i' → A ys k < A ys a) : Part ys a i' j b :=
  ⟨by have := h.ai; omega, h2, h.jb, fun k k1 k2 => if hk : k < i then h.lo k k1 hk else h3 k (by omega) k2, h.hi⟩
theorem Part.dn {ys : List Int} {a i j b j' : Nat} (h : Part ys a i j b) (h1 : j' ≤ j) (h2 : i ≤ j' + 1) (h3 : ∀ k, j' < k → k ≤ j → ¬ A ys k < A ys a) : Part ys a i j' b :=
  ⟨h.ai, h2, by have := h.jb; omega, h.lo, fun k k1 k2 => if hk : j < k then h.hi k hk k2 else by have := h3 k k1 (by omega); omega⟩
theorem Part.swap {ys : List Int} {a i j b : Nat} (h : Part ys a i j b) (hb : b ≤ ys.length) (hij : i < j) (h1 : ¬ A ys i < A ys a) (h2 : A ys j < A ys a) : Part (sw ys i j) a (i + 1) (j - 1) b := by
  have h3 := h.ai; have h4 := h.jb
  have ea : A (sw ys i j) a = A ys a := by rw [A_sw (by omega) (by omega), if_neg (by omega), if_neg (by omega)]
  refine ⟨by omega, by omega, by omega, fun k k1 k2 => ?_, fun k k1 k2 => ?_⟩
  · rw [ea, A_sw (by omega) (by omega), if_neg (by omega)]
    split
    · exact h2
    · exact h.lo k k1 (by omega)
  · rw [ea, A_sw (by omega) (by omega)]
    split
    · omega
    · rw [if_neg (by omega)]; exact h.hi k (by omega) k2
/-- What a partition gives. -/
structure Parted (ys : List Int) (a mid b : Nat) : Prop where
  am : a ≤ mid
  mb : mid < b
  lo : ∀ k, a ≤ k → k < mid → A ys k ≤ A ys mid
  hi : ∀ k, mid < k → k < b → A ys mid ≤ A ys k
theorem Part.end {ys : List Int} {a i j b : Nat} (h : Part ys a i j b) (hb : b ≤ ys.length) (hij : j < i) : Parted (sw ys j a) a j b := by
  have h3 := h.ai; have h4 := h.jb; have h5 := h.ij
  have haj : a ≤ j := by omega
  refine ⟨haj, h4, fun k k1 k2 => ?_, fun k k1 k2 => ?_⟩
  · have e : A (sw ys j a) j = A ys a := by
      rw [A_sw (by omega) (by omega)]
      split
      · rename_i q; rw [q]
      · rw [if_pos rfl]
    rw [e, A_sw (by omega) (by omega)]
    split
    · have := h.lo j (by omega) (by omega); omega
    · rw [if_neg (by omega)]
      have := h.lo k (by omega) (by omega); omega
  · have e : A (sw ys j a) j = A ys a := by
      rw [A_sw (by omega) (by omega)]
      split
      · rename_i q; rw [q]
      · rw [if_pos rfl]
    rw [e, A_sw (by omega) (by omega), if_neg (by omega), if_neg (by omega)]
    exact h.hi k k1 k2
theorem PO4 {a b : Nat} {xs : List Int} (hb : b ≤ xs.length) (hl : xs.length ≤ 1099511627776) (s : Int × Int × List Int)
    (hs : ∃ i j : Nat, s.1 = i ∧ s.2.1 = j ∧ RP xs s.2.2 a b ∧ Part s.2.2 a i j b) :
    (∃ s', ms146_4 (a : Int) s = some (.norm s') ∧ (∃ i j : Nat, s'.1 = i ∧ s'.2.1 = j ∧ RP xs s'.2.2 a b ∧ Part s'.2.2 a i j b) ∧ s'.2.1.toNat < s.2.1.toNat) ∨ (∃ s', ms146_4 (a : Int) s = some (.exit 4 s') ∧ ∃ i j : Nat, s'.1 = i ∧ s'.2.1 = j ∧ RP xs s'.2.2 a b ∧ Part s'.2.2 a i j b ∧ j < i) := by
  obtain ⟨z, w, ys⟩ := s
  obtain ⟨i, j, rfl, rfl, h1, h2⟩ := hs
  dsimp only at h1 h2 ⊢
  have hlen := h1.len
  have hjb := h2.jb
  obtain ⟨i', g1, g2, g3, g4, g5⟩ := scanU (f := ms146_2 (a : Int) ((i : Int), (j : Int), ys)) (e := 6) (a := a) (j := j) (n := NN) (fun k => A ys k < A ys a) (fun i0 k1 k2 => PO_up j hjb (by omega) (by omega) k1 k2 _) h2.ai h2.ij (by rw [NN_eq]; omega)
  have h3 := h2.up g2 g3 g4
  obtain ⟨j', d1, d2, d3, d4, d5⟩ := scanD (f := ms146_3 (a : Int) ((i : Int), (j : Int), ys) (i' : Int)) (e := 8) (b := b) (i := i') (n := NN) (fun k => ¬ A ys k < A ys a) (by have := h3.ai; omega) (fun j0 k1 k2 => PO_dn j0 k2 (by omega) (by omega) h3.ai k1 _ _) hjb h3.ij (by rw [NN_eq]; omega)
  have h4 := h3.dn d2 d3 d4
  unfold ms146_4
  simp only [g1, Option.bind_some, contO, if_true, d1]
  by_cases hc : j' < i'
  · have hc' : ((i' : Nat) : Int) > (j' : Int) := by omega
    simp only [hc', decide_true, cond_true]
    exact .inr ⟨_, rfl, i', j', rfl, rfl, h1, h4, hc⟩
  · have hc' : ¬ ((i' : Nat) : Int) > (j' : Int) := by omega
    have hjb' := h4.jb
    have e1 : ¬ A ys i' < A ys a := g5 (by omega)
    have e2 : A ys j' < A ys a := by
      have := d5 (by omega)
      omega
    have hne : i' ≠ j' := fun e => by rw [e] at e1; exact e1 e2
    have r1 := getA (xs := ys) (i := j') (by omega)
    have r2 := getA (xs := ys) (i := i') (by omega)
    have r3 := getSet (xs := ys) (i := i') (j := j') (v := A ys j') rfl rfl (by omega)
    simp only [hc', decide_false, cond_false, r1, r2, r3, Option.bind_some, wiA (n := i') (by omega), wiS (n := j') (by omega) (by omega)]
    have hai := h4.ai
    exact .inl ⟨_, rfl, ⟨i' + 1, j' - 1, rfl, rfl, h1.trans (RP.sw (xs := ys) (i := i') (j := j') (by omega) (by omega) (by omega)), h4.swap (by omega) (by omega) e1 e2⟩, by simp; omega⟩
theorem PO_up0 {a b p i : Nat} {xs : List Int} (hap : a < b) (hp : p < b) (hb : b ≤ xs.length) (hl : xs.length ≤ 1099511627776) (h1 : a < i) (h2 : i ≤ (b - 1) + 1) :
    ms146_0 xs (a : Int) (b : Int) (p : Int) (A xs p) (A xs a) (i : Int) = if i ≤ b - 1 ∧ A (sw xs a p) i < A (sw xs a p) a then some (.norm ((i + 1 : Nat) : Int)) else some (.exit 0 (i : Int)) := by
  unfold ms146_0
  rw [show (xs.set (Int.toNat (a : Int)) (A xs p)).set (Int.toNat (p : Int)) (A xs a) = sw xs a p from rfl, wiS (n := b) (by omega) (by omega)]
  have hlen : (sw xs a p).length = xs.length := sw_len
  by_cases hc : i ≤ b - 1
  · have hc' : ((i : Nat) : Int) ≤ ((b - 1 : Nat) : Int) := by omega
    have g1 := getA (xs := sw xs a p) (i := i) (by omega)
    have g2 := getA (xs := sw xs a p) (i := a) (by omega)
    have e := wiA (n := i) (by omega)
    by_cases h3 : A (sw xs a p) i < A (sw xs a p) a <;> simp [hc, hc', g1, g2, LE_eq, h3, contO, e]
  · have hc' : ¬ ((i : Nat) : Int) ≤ ((b - 1 : Nat) : Int) := by omega
    simp [hc, hc', contO]
theorem PO_dn0 {a b p i j : Nat} {xs : List Int} (hap : a < b) (hp : p < b) (hb : b ≤ xs.length) (hl : xs.length ≤ 1099511627776) (h1 : a < i) (h2 : i ≤ j + 1) (hj : j < b) :
    ms146_1 xs (a : Int) (p : Int) (i : Int) (A xs p) (A xs a) (j : Int) = if i ≤ j ∧ ¬ A (sw xs a p) j < A (sw xs a p) a then some (.norm ((j - 1 : Nat) : Int)) else some (.exit 2 (j : Int)) := by
  unfold ms146_1
  rw [show (xs.set (Int.toNat (a : Int)) (A xs p)).set (Int.toNat (p : Int)) (A xs a) = sw xs a p from rfl]
  have hlen : (sw xs a p).length = xs.length := sw_len
  by_cases hc : i ≤ j
  · have hc' : ((i : Nat) : Int) ≤ (j : Int) := by omega
    have g1 := getA (xs := sw xs a p) (i := j) (by omega)
    have g2 := getA (xs := sw xs a p) (i := a) (by omega)
    have e := wiS (n := j) (by omega) (by omega)
    by_cases h3 : A (sw xs a p) j < A (sw xs a p) a <;> simp [hc, hc', g1, g2, LE_eq, h3, contO, e]
  · have hc' : ¬ ((i : Nat) : Int) ≤ (j : Int) := by omega
    simp [hc, hc', contO]
theorem PO_ok {a b p : Nat} {xs : List Int} (hap : a ≤ p) (hp : p < b) (hb : b ≤ xs.length) (hl : xs.length ≤ 1099511627776) :
    ∃ (mid : Nat) (r : Bool) (ys : List Int), m146 xs a b p = some ((mid : Int), r, ys) ∧ RP xs ys a b ∧ Parted ys a mid b := by
  have hlen : (sw xs a p).length = xs.length := sw_len
  have q1 := getA (xs := xs) (i := p) (by omega)
  have q2 := getA (xs := xs) (i := a) (by omega)
  have q3 := getSet (xs := xs) (i := a) (j := p) (v := A xs p) rfl rfl (by omega)
  have h0 : Part (sw xs a p) a (a + 1) (b - 1) b := ⟨by omega, by omega, by omega, fun k k1 k2 => by omega, fun k k1 k2 => by omega⟩
  have hr : RP xs (sw xs a p) a b := RP.sw (by omega) (by omega) hb
  obtain ⟨i', g1, g2, g3, g4, g5⟩ := scanU (f := ms146_0 xs (a : Int) (b : Int) (p : Int) (A xs p) (A xs a)) (e := 0) (a := a) (j := b - 1) (n := NN) (fun k => A (sw xs a p) k < A (sw xs a p) a) (fun i0 k1 k2 => PO_up0 (by omega) hp hb hl k1 k2) h0.ai h0.ij (by rw [NN_eq]; omega)
  have h3 := h0.up g2 g3 g4
  obtain ⟨j', d1, d2, d3, d4, d5⟩ := scanD (f := ms146_1 xs (a : Int) (p : Int) (i' : Int) (A xs p) (A xs a)) (e := 2) (b := b) (i := i') (n := NN) (fun k => ¬ A (sw xs a p) k < A (sw xs a p) a) (by have := h3.ai; omega) (fun j0 k1 k2 => PO_dn0 (by omega) hp hb hl h3.ai k1 k2) h0.jb h3.ij (by rw [NN_eq]; omega)
  have h4 := h3.dn d2 d3 d4
  have hjb' := h4.jb
  have hai := h4.ai
  have hij := h4.ij
  unfold m146
  rw [wiA (n := a) (by omega), wiS (n := b) (by omega) (by omega)]
  simp only [q1, q2, q3, Option.bind_some, g1, contO, if_true, d1, show (xs.set (Int.toNat (a : Int)) (A xs p)).set (Int.toNat (p : Int)) (A xs a) = sw xs a p from rfl]
  by_cases hc : j' < i'
  · have hc' : ((i' : Nat) : Int) > (j' : Int) := by omega
    have r1 := getA (xs := sw xs a p) (i := a) (by omega)
    have r2 := getA (xs := sw xs a p) (i := j') (by omega)
    have r3 := getSet (xs := sw xs a p) (i := j') (j := a) (v := A (sw xs a p) a) rfl rfl (by omega)
    simp only [hc', decide_true, cond_true, r1, r2, r3, Option.bind_some]
    exact ⟨j', true, _, rfl, hr.trans (RP.sw (xs := sw xs a p) (i := j') (j := a) (by omega) (by omega) (by omega)), h4.end (by omega) hc⟩
  · have hc' : ¬ ((i' : Nat) : Int) > (j' : Int) := by omega
    have e1 : ¬ A (sw xs a p) i' < A (sw xs a p) a := g5 (by omega)
    have e2 : A (sw xs a p) j' < A (sw xs a p) a := by
      have := d5 (by omega)
      omega
    have hne : i' ≠ j' := fun e => by rw [e] at e1; exact e1 e2
    have r1 := getA (xs := sw xs a p) (i := j') (by omega)
    have r2 := getA (xs := sw xs a p) (i := i') (by omega)
    have r3 := getSet (xs := sw xs a p) (i := i') (j := j') (v := A (sw xs a p) j') rfl rfl (by omega)
    simp only [hc', decide_false, cond_false, r1, r2, r3, Option.bind_some, wiA (n := i') (by omega), wiS (n := j') (by omega) (by omega)]
    obtain ⟨s', k1, i2, j2, k2, k3, k4, k5, k6⟩ := loopO_exit (f := ms146_4 (a : Int)) (fun s : Int × Int × List Int => ∃ i j : Nat, s.1 = i ∧ s.2.1 = j ∧ RP xs s.2.2 a b ∧ Part s.2.2 a i j b) (fun s : Int × Int × List Int => s.2.1.toNat) (fun s => ∃ i j : Nat, s.1 = i ∧ s.2.1 = j ∧ RP xs s.2.2 a b ∧ Part s.2.2 a i j b ∧ j < i) 4 (PO4 hb hl) NN
      (((i' + 1 : Nat) : Int), ((j' - 1 : Nat) : Int), sw (sw xs a p) i' j') ⟨i' + 1, j' - 1, rfl, rfl, hr.trans (RP.sw (xs := sw xs a p) (i := i') (j := j') (by omega) (by omega) (by omega)), h4.swap (by omega) (by omega) e1 e2⟩ (by rw [NN_eq]; simp; omega)
    have hl2 := k4.len
    have hb2 := k5.jb
    have hb3 := k5.ai
    have hb4 := k5.ij
    have t1 := getA (xs := s'.2.2) (i := a) (by omega)
    have t2 := getA (xs := s'.2.2) (i := j2) (by omega)
    have t3 := getSet (xs := s'.2.2) (i := j2) (j := a) (v := A s'.2.2 a) rfl rfl (by omega)
    rw [show (((sw xs a p).set (Int.toNat (i' : Int)) (A (sw xs a p) j')).set (Int.toNat (j' : Int)) (A (sw xs a p) i')) = sw (sw xs a p) i' j' from rfl, k1]
    simp only [Option.bind_some, contO, if_true, k3, t1, t2, t3]
    exact ⟨j2, false, _, rfl, k4.trans (RP.sw (xs := s'.2.2) (i := j2) (j := a) (by omega) (by omega) (by omega)), k5.end (by omega) k6⟩
end Go.Proofs.Ytionojjamahhpaa
