/- slices.Sort: the choice of patterns, the whole sort. -/
import Derived.Test.YtionojjamahhpaaSort5
namespace Go.Proofs.Ytionojjamahhpaa
open Go Go.Rf
theorem wu64 {x : Int} (h1 : 0 ≤ x) (h2 : x ≤ 18446744073709551615) : wi .u64 x = x := by
  show IntKind.wrap .u64 x = x
  simp [IntKind.wrap, IntKind.signed, IntKind.bits]
  (try split) <;> omega
def Ok {α : Type} (P : α → Prop) (o : Option α) : Prop := ∃ v, o = some v ∧ P v
theorem Ok.bind {α β : Type} {P : α → Prop} {Q : β → Prop} {o : Option α} {f : α → Option β} (h : Ok P o) (k : ∀ v, P v → Ok Q (f v)) : Ok Q (o.bind f) := by
  obtain ⟨v, rfl, hv⟩ := h
  exact k v hv
theorem Ok.some {α : Type} {P : α → Prop} {v : α} (h : P v) : Ok P (Option.some v) := ⟨v, rfl, h⟩
noncomputable def npT (n : Nat) : Bool := match m151 (n : Int) with | some y => decide (0 < y ∧ y ≤ 2 * (n : Int)) | none => false
theorem npT_ok : ∀ n : Fin 42, npT (n.val + 8) = true := by decide +kernel
theorem NP_ok {n : Nat} (h8 : 8 ≤ n) (h50 : n < 50) : ∃ y, m151 (n : Int) = some y ∧ 0 < y ∧ y ≤ 2 * (n : Int) := by
  have := npT_ok ⟨n - 8, by omega⟩
  rw [show (⟨n - 8, by omega⟩ : Fin 42).val + 8 = n by simp only []; omega] at this
  unfold npT at this
  split at this
  · rename_i y e
    exact ⟨y, e, of_decide_eq_true this⟩
  · exact absurd this (by simp)
theorem andI_le {x m : Int} (h0 : 0 ≤ m) (h1 : m < 9223372036854775808) : 0 ≤ andI .u64 x m ∧ andI .u64 x m ≤ m := by
  have e1 : (BitVec.ofInt 64 x &&& BitVec.ofInt 64 m).toNat ≤ (BitVec.ofInt 64 m).toNat := by
    rw [BitVec.toNat_and]; exact Nat.and_le_right
  have e2 : ((BitVec.ofInt 64 m).toNat : Int) = m := by
    rw [BitVec.toNat_ofInt]
    omega
  have e3 : andI .u64 x m = ((BitVec.ofInt 64 x &&& BitVec.ofInt 64 m).toNat : Int) := by
    show IntKind.wrap .u64 _ = _
    exact wu64 (by omega) (by show ((BitVec.ofInt 64 x &&& BitVec.ofInt 64 m).toNat : Int) ≤ _; omega)
  rw [e3]
  omega
theorem BP_ok {a b : Nat} {xs : List Int} (hab : a + 8 ≤ b) (h50 : b < a + 50) (hb : b ≤ xs.length) (hl : xs.length ≤ 1099511627776) : ∃ ys, m140 xs a b = some ys ∧ RP xs ys a b := by
  have e0 := wiD (n := b) (k := a) (by omega) (by omega)
  have e1 : wi .i64 (Int.tdiv ((b - a : Nat) : Int) 4) = (((b - a) / 4 : Nat) : Int) := wiT (n := b - a) (k := 4) (by omega) (by omega) (by omega)
  have e2 : wi .i64 ((((b - a) / 4 : Nat) : Int) * 2) = (((b - a) / 4 * 2 : Nat) : Int) := wiM (n := (b - a) / 4) (k := 2) (by omega)
  have e3 := wiP (n := a) (k := (b - a) / 4 * 2) (by omega)
  have e4 := wiA (n := a + (b - a) / 4 * 2) (by omega)
  have e5 := wiS (n := a + (b - a) / 4 * 2) (by omega) (by omega)
  obtain ⟨y, hy, hy0, hy2⟩ := NP_ok (n := b - a) (by omega) (by omega)
  unfold m140
  have hc : ((b - a : Nat) : Int) ≥ 8 := by omega
  rw [e0]
  simp only [hc, decide_true, cond_true, hy, Option.bind_some, e1, e2, e3, e5]
  have hmain := loopO_exit (f := ms140_0 (a : Int) (b : Int) y) (fun s : Int × Int × List Int => ∃ i : Nat, s.1 = i ∧ a + (b - a) / 4 * 2 - 1 ≤ i ∧ i ≤ a + (b - a) / 4 * 2 + 2 ∧ RP xs s.2.2 a b) (fun s => 1099511627776 - s.1.toNat) (fun s => RP xs s.2.2 a b) 0
    (fun s hs => by
      obtain ⟨z, r, ys⟩ := s
      obtain ⟨i, rfl, h1, h2, h3⟩ := hs
      dsimp only at h3 ⊢
      have hlen := h3.len
      unfold ms140_0
      dsimp only
      rw [e0, e1, e2, e3, e4]
      by_cases hi : i ≤ a + (b - a) / 4 * 2 + 1
      · have hi' : (i : Int) ≤ ((a + (b - a) / 4 * 2 + 1 : Nat) : Int) := by omega
        simp only [hi', decide_true, cond_true, Option.bind_some]
        generalize m152 r = q
        have hw : wi .u64 (y - 1) = y - 1 := wu64 (by omega) (by omega)
        rw [hw]
        obtain ⟨k1, k2⟩ := andI_le (x := q.1) (m := y - 1) (by omega) (by omega)
        have hw2 : wi .i64 (andI .u64 q.1 (y - 1)) = andI .u64 q.1 (y - 1) := wi64 (by omega) (by omega)
        rw [hw2]
        generalize andI .u64 q.1 (y - 1) = o at k1 k2 ⊢
        have hin : ∃ v : Nat, (bif decide (o ≥ ((b - a : Nat) : Int)) then some (LO.norm (wi .i64 (o - ((b - a : Nat) : Int)))) else some (LO.norm o)) = some (LO.norm ((v : Nat) : Int)) ∧ v < b - a := by
          by_cases g : o ≥ ((b - a : Nat) : Int)
          · refine ⟨(o - ((b - a : Nat) : Int)).toNat, ?_, by omega⟩
            simp only [g, decide_true, cond_true]
            rw [wi64 (by omega) (by omega)]
            congr 2; omega
          · refine ⟨o.toNat, ?_, by omega⟩
            simp only [g, decide_false, cond_false]
            congr 2; omega
        obtain ⟨v, v1, v2⟩ := hin
        rw [v1]
        have p1 := wiP (n := a) (k := v) (by omega)
        have g1 := getA (xs := ys) (i := a + v) (by omega)
        have g2 := getA (xs := ys) (i := i) (by omega)
        have g3 := getSet (xs := ys) (i := i) (j := a + v) (v := A ys (a + v)) rfl rfl (by omega)
        simp only [contO, Option.bind_some, p1, g1, g2, g3]
        rw [show (ys.set (Int.toNat (i : Int)) (A ys (a + v))).set (Int.toNat ((a + v : Nat) : Int)) (A ys i) = sw ys i (a + v) from rfl]
        have p2 := wiA (n := i) (by omega)
        rw [p2]
        exact .inl ⟨_, rfl, ⟨i + 1, rfl, by omega, by omega, h3.trans (RP.sw (xs := ys) (i := i) (j := a + v) (by omega) (by omega) (by omega))⟩, by dsimp only; omega⟩
      · have hi' : ¬ (i : Int) ≤ ((a + (b - a) / 4 * 2 + 1 : Nat) : Int) := by omega
        simp only [hi', decide_false, cond_false]
        exact .inr ⟨_, rfl, h3⟩) NN
  obtain ⟨s', k1, k2⟩ := hmain (((a + (b - a) / 4 * 2 - 1 : Nat) : Int), wi .u64 ((b - a : Nat) : Int), xs) ⟨_, rfl, Nat.le_refl _, by omega, RP.refl _ _ _⟩ (by rw [NN_eq]; dsimp only; omega)
  rw [k1]
  exact ⟨s'.2.2, by simp [contO], k2⟩
/-- Everything outside [c, d) stands right. -/
def Sep (ys : List Int) (a c d b : Nat) : Prop := ∀ i j, a ≤ i → i < j → j < b → (i < c ∨ d ≤ j) → A ys i ≤ A ys j
theorem Sep.rp {ys zs : List Int} {a c d b : Nat} (h : Sep ys a c d b) (k : RP ys zs c d) (hac : a ≤ c) (hdb : d ≤ b) (hb : b ≤ ys.length) : Sep zs a c d b := by
  intro i j h1 h2 h3 h4
  by_cases hi : i < c ∨ d ≤ i
  · rw [k.out i hi]
    by_cases hj : j < c ∨ d ≤ j
    · rw [k.out j hj]; exact h i j h1 h2 h3 h4
    · exact k.all (p := fun x => A ys i ≤ x) (by omega) (fun q q1 q2 => h i q h1 (by omega) (by omega) (.inl (by omega))) j (by omega) (by omega)
  · rw [k.out j (by omega)]
    exact k.all (p := fun x => x ≤ A ys j) (by omega) (fun q q1 q2 => h q j (by omega) (by omega) h3 (.inr (by omega))) i (by omega) (by omega)
theorem Sep.fin {ys : List Int} {a c d b : Nat} (h : Sep ys a c d b) (k : SO ys c d) : SO ys a b := fun i j h1 h2 h3 => by
  by_cases e : i < c ∨ d ≤ j
  · exact h i j h1 h2 h3 e
  · exact k i j (by omega) h2 (by omega)
end Go.Proofs.Ytionojjamahhpaa
