/- partitionEqual; heaps. -/
import Derived.Test.YtionojjamahhpaaSort3
namespace Go.Proofs.Ytionojjamahhpaa
open Go Go.Rf
set_option linter.unusedVariables false
set_option linter.unusedSimpArgs false
/-- On the left what is no greater, on the right the greater ones. -/
structure PartE (ys : List Int) (a i j b : Nat) : Prop where
  ai : a < i
  ij : i ≤ j + 1
  jb : j < b
  lo : ∀ k, a < k → k < i → A ys k ≤ A ys a
  hi : ∀ k, j < k → k < b → A ys a < A ys k
theorem PartE.up {ys : List Int} {a i j b i' : Nat} (h : PartE ys a i j b) (h1 : i ≤ i') (h2 : i' ≤ j + 1) (h3 : ∀ k, i ≤ k → k < i' → ¬ A ys a < A ys k) : PartE ys a i' j b :=
  ⟨by have := h.ai; omega, h2, h.jb, fun k k1 k2 => if hk : k < i then h.lo k k1 hk else by have := h3 k (by omega) k2; omega, h.hi⟩
theorem PartE.dn {ys : List Int} {a i j b j' : Nat} (h : PartE ys a i j b) (h1 : j' ≤ j) (h2 : i ≤ j' + 1) (h3 : ∀ k, j' < k → k ≤ j → A ys a < A ys k) : PartE ys a i j' b :=
  ⟨h.ai, h2, by have := h.jb; omega, h.lo, fun k k1 k2 => if hk : j < k then h.hi k hk k2 else h3 k k1 (by omega)⟩
theorem PartE.swap {ys : List Int} {a i j b : Nat} (h : PartE ys a i j b) (hb : b ≤ ys.length) (hij : i < j) (h1 : A ys a < A ys i) (h2 : ¬ A ys a < A ys j) : PartE (sw ys i j) a (i + 1) (j - 1) b := by
  have h3 := h.ai; have h4 := h.jb
  have ea : A (sw ys i j) a = A ys a := by rw [A_sw (by omega) (by omega), if_neg (by omega), if_neg (by omega)]
  refine ⟨by omega, by omega, by omega, fun k k1 k2 => ?_, fun k k1 k2 => ?_⟩
  · rw [ea, A_sw (by omega) (by omega), if_neg (by omega)]
    split
    · omega
    · exact h.lo k k1 (by omega)
  · rw [ea, A_sw (by omega) (by omega)]
    split
    · exact h1
    · rw [if_neg (by omega)]; exact h.hi k (by omega) k2
theorem PE_up {a b i : Nat} {ys : List Int} (j : Nat) (hj : j < b) (hb : b ≤ ys.length) (hl : ys.length ≤ 1099511627776) (h1 : a < i) (h2 : i ≤ j + 1) (s : Int) :
    ms145_0 (a : Int) (s, (j : Int), ys) (i : Int) = if i ≤ j ∧ ¬ A ys a < A ys i then some (.norm ((i + 1 : Nat) : Int)) else some (.exit 2 (i : Int)) := by
  unfold ms145_0
  by_cases hc : i ≤ j
  · have hc' : ((i : Nat) : Int) ≤ (j : Int) := by omega
    have g1 := getA (xs := ys) (i := i) (by omega)
    have g2 := getA (xs := ys) (i := a) (by omega)
    have e := wiA (n := i) (by omega)
    by_cases h3 : A ys a < A ys i <;> simp [hc, hc', g1, g2, LE_eq, h3, contO, e]
  · have hc' : ¬ ((i : Nat) : Int) ≤ (j : Int) := by omega
    simp [hc, hc', contO]
theorem PE_dn {a b i : Nat} {ys : List Int} (j : Nat) (hj : j < b) (hb : b ≤ ys.length) (hl : ys.length ≤ 1099511627776) (h1 : a < i) (h2 : i ≤ j + 1) (s t : Int) :
    ms145_1 (a : Int) (s, t, ys) (i : Int) (j : Int) = if i ≤ j ∧ A ys a < A ys j then some (.norm ((j - 1 : Nat) : Int)) else some (.exit 4 (j : Int)) := by
  unfold ms145_1
  by_cases hc : i ≤ j
  · have hc' : ((i : Nat) : Int) ≤ (j : Int) := by omega
    have g1 := getA (xs := ys) (i := j) (by omega)
    have g2 := getA (xs := ys) (i := a) (by omega)
    have e := wiS (n := j) (by omega) (by omega)
    by_cases h3 : A ys a < A ys j <;> simp [hc, hc', g1, g2, LE_eq, h3, contO, e]
  · have hc' : ¬ ((i : Nat) : Int) ≤ (j : Int) := by omega
    simp [hc, hc', contO]
theorem PE2 {a b : Nat} {xs : List Int} (hb : b ≤ xs.length) (hl : xs.length ≤ 1099511627776) (s : Int × Int × List Int)
    (hs : ∃ i j : Nat, s.1 = i ∧ s.2.1 = j ∧ RP xs s.2.2 a b ∧ PartE s.2.2 a i j b) :
    (∃ s', ms145_2 (a : Int) s = some (.norm s') ∧ (∃ i j : Nat, s'.1 = i ∧ s'.2.1 = j ∧ RP xs s'.2.2 a b ∧ PartE s'.2.2 a i j b) ∧ s'.2.1.toNat < s.2.1.toNat ∧ A s'.2.2 a = A s.2.2 a) ∨ (∃ s', ms145_2 (a : Int) s = some (.exit 0 s') ∧ ∃ i j : Nat, s'.1 = i ∧ s'.2.1 = j ∧ RP xs s'.2.2 a b ∧ PartE s'.2.2 a i j b ∧ j < i ∧ A s'.2.2 a = A s.2.2 a) := by
  obtain ⟨z, w, ys⟩ := s
  obtain ⟨i, j, rfl, rfl, h1, h2⟩ := hs
  dsimp only at h1 h2 ⊢
  have hlen := h1.len
  have hjb := h2.jb
  obtain ⟨i', g1, g2, g3, g4, g5⟩ := scanU (f := ms145_0 (a : Int) ((i : Int), (j : Int), ys)) (e := 2) (a := a) (j := j) (n := NN) (fun k => ¬ A ys a < A ys k) (fun i0 k1 k2 => PE_up j hjb (by omega) (by omega) k1 k2 _) h2.ai h2.ij (by rw [NN_eq]; omega)
  have h3 := h2.up g2 g3 g4
  obtain ⟨j', d1, d2, d3, d4, d5⟩ := scanD (f := ms145_1 (a : Int) ((i : Int), (j : Int), ys) (i' : Int)) (e := 4) (b := b) (i := i') (n := NN) (fun k => A ys a < A ys k) (by have := h3.ai; omega) (fun j0 k1 k2 => PE_dn j0 k2 (by omega) (by omega) h3.ai k1 _ _) hjb h3.ij (by rw [NN_eq]; omega)
  have h4 := h3.dn d2 d3 d4
  unfold ms145_2
  simp only [g1, Option.bind_some, contO, if_true, d1]
  by_cases hc : j' < i'
  · have hc' : ((i' : Nat) : Int) > (j' : Int) := by omega
    simp only [hc', decide_true, cond_true]
    exact .inr ⟨_, rfl, i', j', rfl, rfl, h1, h4, hc, rfl⟩
  · have hc' : ¬ ((i' : Nat) : Int) > (j' : Int) := by omega
    have hjb' := h4.jb
    have e1 : A ys a < A ys i' := by
      have := g5 (by omega)
      omega
    have e2 : ¬ A ys a < A ys j' := d5 (by omega)
    have hne : i' ≠ j' := fun e => by rw [e] at e1; exact e2 e1
    have r1 := getA (xs := ys) (i := j') (by omega)
    have r2 := getA (xs := ys) (i := i') (by omega)
    have r3 := getSet (xs := ys) (i := i') (j := j') (v := A ys j') rfl rfl (by omega)
    simp only [hc', decide_false, cond_false, r1, r2, r3, Option.bind_some, wiA (n := i') (by omega), wiS (n := j') (by omega) (by omega)]
    have hai := h4.ai
    exact .inl ⟨_, rfl, ⟨i' + 1, j' - 1, rfl, rfl, h1.trans (RP.sw (xs := ys) (i := i') (j := j') (by omega) (by omega) (by omega)), h4.swap (by omega) (by omega) e1 e2⟩, by simp; omega, (by show A (sw ys i' j') a = A ys a; rw [A_sw (by omega) (by omega), if_neg (by omega), if_neg (by omega)])⟩
theorem PE_ok {a b p : Nat} {xs : List Int} (hap : a ≤ p) (hp : p < b) (hb : b ≤ xs.length) (hl : xs.length ≤ 1099511627776) :
    ∃ (mid : Nat) (ys : List Int), m145 xs a b p = some ((mid : Int), ys) ∧ RP xs ys a b ∧ a < mid ∧ mid ≤ b ∧ (∀ k, a ≤ k → k < mid → A ys k ≤ A xs p) ∧ (∀ k, mid ≤ k → k < b → A xs p < A ys k) := by
  have hlen : (sw xs a p).length = xs.length := sw_len
  have q1 := getA (xs := xs) (i := p) (by omega)
  have q2 := getA (xs := xs) (i := a) (by omega)
  have q3 := getSet (xs := xs) (i := a) (j := p) (v := A xs p) rfl rfl (by omega)
  have hr : RP xs (sw xs a p) a b := RP.sw (by omega) (by omega) hb
  have hpv : A (sw xs a p) a = A xs p := by
    rw [A_sw (by omega) (by omega)]
    split
    · rename_i q; rw [q]
    · rw [if_pos rfl]
  unfold m145
  rw [wiA (n := a) (by omega), wiS (n := b) (by omega) (by omega)]
  obtain ⟨s', k1, i2, j2, k2, k3, k4, k5, k6, k7⟩ := loopO_exit (f := ms145_2 (a : Int)) (fun s : Int × Int × List Int => ∃ i j : Nat, s.1 = i ∧ s.2.1 = j ∧ (RP xs s.2.2 a b ∧ A s.2.2 a = A xs p) ∧ PartE s.2.2 a i j b) (fun s : Int × Int × List Int => s.2.1.toNat) (fun s => ∃ i j : Nat, s.1 = i ∧ s.2.1 = j ∧ RP xs s.2.2 a b ∧ A s.2.2 a = A xs p ∧ PartE s.2.2 a i j b ∧ j < i) 0
    (fun s hs => by
      obtain ⟨i, j, g1, g2, ⟨g3, g4⟩, g5⟩ := hs
      have ga := g5.ai
      have gj := g5.jb
      have gl := g3.len
      rcases PE2 hb hl s ⟨i, j, g1, g2, g3, g5⟩ with ⟨s', f1, ⟨i', j', f2, f3, f4, f5⟩, f6, f7⟩ | ⟨s', f1, i', j', f2, f3, f4, f5, f6, f7⟩
      · exact .inl ⟨s', f1, ⟨i', j', f2, f3, ⟨f4, f7.trans g4⟩, f5⟩, f6⟩
      · exact .inr ⟨s', f1, i', j', f2, f3, f4, f7.trans g4, f5, f6⟩) NN
    (((a + 1 : Nat) : Int), ((b - 1 : Nat) : Int), sw xs a p) ⟨a + 1, b - 1, rfl, rfl, ⟨hr, hpv⟩, ⟨by omega, by omega, by omega, fun k k1 k2 => by omega, fun k k1 k2 => by omega⟩⟩ (by rw [NN_eq]; simp; omega)
  simp only [q1, q2, q3, Option.bind_some, show (xs.set (Int.toNat (a : Int)) (A xs p)).set (Int.toNat (p : Int)) (A xs a) = sw xs a p from rfl, k1, contO, if_true, k2]
  have hi1 := k6.ai; have hi2 := k6.ij; have hi3 := k6.jb
  refine ⟨i2, _, rfl, k4, by omega, by omega, fun k g1 g2 => ?_, fun k g1 g2 => ?_⟩
  · rw [← k5]
    by_cases e : k = a
    · subst e; exact Int.le_refl _
    · exact k6.lo k (by omega) g2
  · rw [← k5]; exact k6.hi k (by omega) g2
end Go.Proofs.Ytionojjamahhpaa
