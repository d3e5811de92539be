/- How many. -/
import Derived.Test.YtjandfmkelohdaaDoorW1
import Derived.Test.YtjandfmkelohdaaDoorRh3
namespace Go.Proofs.YtjandfmkelohdaaDoor
open Go Go.Rf
theorem NN_eq : NN = 9223372036854775808 := by unfold NN maxLen; rfl
open Go Go.Rf
set_option linter.unusedVariables false
set_option linter.unusedSimpArgs false
theorem wi8 {x : Int} (h1 : 0 ≤ x) (h2 : x < 256) : wi .u8 x = x := by
 show IntKind.u8.wrap x = x
 rw [IntKind.wrap_u8]; omega
theorem catS {a b : Str} (h : a.length + b.length ≤ 4611686018427387904) : catO a b = some (a ++ b) := by
 unfold catO; rw [if_pos h]
theorem dig_byte {k : Nat} (h : k < 10) : UInt8.ofNat (Int.toNat (wi .u8 (wi .i64 (48 + (k : Int))))) = UInt8.ofNat (48 + k) := by
 rw [wi64 (by omega) (by omega), wi8 (by omega) (by omega)]
 congr 1
theorem decLen : ∀ (j k : Nat), k < 10 ^ (j + 1) → (Lib.decDigits k).length ≤ j + 1
 | 0, k, h => by rw [Lib.decDigits, dif_pos (by simpa using h)]; simp
 | j + 1, k, h => by
  by_cases hk : k < 10
  ·rw [Lib.decDigits, dif_pos hk]; simp
  ·rw [Lib.decDigits, dif_neg hk, List.length_append]
   have e : (10 : Nat) ^ (j + 1 + 1) = 10 ^ (j + 1) * 10 := Nat.pow_succ ..
   have := decLen j (k / 10) (by omega)
   simp only [List.length_singleton]; omega
theorem dig_nat : ∀ (j k n : Nat), k < 10 ^ (j + 1) → j < n → j ≤ 17 → m85 n (k : Int) = some (Lib.decDigits k)
 | j, k, n, hk, hn, hj => by
  obtain ⟨n, rfl⟩ : ∃ q, n = q + 1 := ⟨n - 1, by omega⟩
  show m85F (m85 n) (k : Int) = _
  unfold m85F
  have h0 : ¬ (k : Int) < 0 := by omega
  simp only [h0, decide_false, cond_false]
  have hb : k < 10 ^ 18 := Nat.lt_of_lt_of_le hk (Nat.pow_le_pow_right (by omega) (by omega))
  by_cases h1 : k < 10
  ·have h1' : (k : Int) < 10 := by omega
   simp only [h1', decide_true, cond_true]
   rw [dig_byte h1, Lib.decDigits, dif_pos h1]
  ·have h1' : ¬ (k : Int) < 10 := by omega
   simp only [h1', decide_false, cond_false]
   obtain ⟨j, rfl⟩ : ∃ q, j = q + 1 := ⟨j - 1, by
    cases j with
    | zero => simp at hk; omega
    | succ j => omega⟩
   have e : (10 : Nat) ^ (j + 1 + 1) = 10 ^ (j + 1) * 10 := Nat.pow_succ ..
   have e1 : wi .i64 (Int.tdiv (k : Int) 10) = ((k / 10 : Nat) : Int) := by
    rw [Int.tdiv_eq_ediv_of_nonneg (by omega), wi64 (by omega) (by omega)]; omega
   have e2 : Int.tmod (k : Int) 10 = ((k % 10 : Nat) : Int) := by
    rw [Int.tmod_eq_emod_of_nonneg (by omega)]; omega
   have hl := decLen j (k / 10) (by omega)
   rw [e1, dig_nat j (k / 10) n (by omega) (by omega) (by omega), Option.bind_some, e2, dig_byte (by omega), catS (by simp; omega), Option.bind_some]
   conv => rhs; rw [Lib.decDigits, dif_neg h1]
theorem digits (n : Int) (h1 : -100000000000000000 ≤ n) (h2 : n ≤ 100000000000000000) : m85 64 n = some (Lib.itoa n) ∧ (Lib.itoa n).length ≤ 20 := by
 by_cases h0 : n < 0
 ·have e : wi .i64 (0 - n) = ((n.natAbs : Nat) : Int) := by rw [wi64 (by omega) (by omega)]; omega
  have hl := decLen 17 n.natAbs (by omega)
  have ei : Lib.itoa n = 45 :: Lib.decDigits n.natAbs := by unfold Lib.itoa; rw [if_pos h0]
  refine ⟨?_, by rw [ei, List.length_cons]; omega⟩
  show m85F (m85 63) n = _
  unfold m85F
  simp only [h0, decide_true, cond_true]
  rw [e, dig_nat 17 n.natAbs 63 (by omega) (by omega) (by omega), Option.bind_some, catS (by simp; omega), Option.bind_some, ei]
  rfl
 ·obtain ⟨k, rfl⟩ : ∃ k : Nat, n = k := ⟨n.toNat, by omega⟩
  have hl := decLen 17 k (by omega)
  have ei : Lib.itoa (k : Int) = Lib.decDigits k := by unfold Lib.itoa; rw [if_neg h0]; simp
  rw [ei]
  exact ⟨dig_nat 17 k 64 (by omega) (by omega) (by omega), by omega⟩
theorem decimal (n : Int) (h1 : -9223372036854775808 ≤ n) (h2 : n ≤ 9223372036854775807) : m42 n = some (Lib.itoa n) := by
 unfold m42 m87 fmtO
 rw [if_pos ⟨rfl, decide_eq_true ⟨h1, h2⟩⟩]; rfl
open Go Go.Rf
set_option linter.unusedVariables false
set_option linter.unusedSimpArgs false
theorem inB (n lo hi : Int) : m84 n lo hi = decide (lo ≤ n ∧ n ≤ hi) := by
 unfold m84
 by_cases h : n ≥ lo
 ·simp [h]
 ·simp [h]
def repOk (x : TReply) : Bool := decide (0 ≤ x.Code ∧ x.Code ≤ 10) && (decide (-1 ≤ x.Value ∧ x.Value ≤ 9999) && decide ((x.Path.length : Int) ≤ 24))
theorem rep_spec (x : TReply) : m39 x = some (repOk x) := by
 unfold m39 repOk
 rw [inB, inB]
 cases decide (0 ≤ x.Code ∧ x.Code ≤ 10) <;> cases decide (-1 ≤ x.Value ∧ x.Value ≤ 9999) <;> rfl
theorem rep_impl (x : TReply) : m41 x = some (repOk x) := (rfl : m41 x = m39 x).trans (rep_spec x)
def repText (x : TReply) : Str := [99, 111, 100, 101, 32] ++ Lib.itoa x.Code ++ [32] ++ Lib.itoa x.Value ++ (if x.Path = [] then [] else [32] ++ x.Path)
theorem text_eq (x : TReply) : ∃ y, m9 x = some y ∧ m11 x = some y := by
 unfold m9 m11
 rw [rep_spec, rep_impl]
 simp only [Option.bind_some]
 cases h : repOk x
 ·exact ⟨_, rfl, rfl⟩
 simp only [Bool.not_true, cond_false]
 unfold repOk at h
 simp only [Bool.and_eq_true, decide_eq_true_eq] at h
 obtain ⟨⟨h1, h2⟩, ⟨h3, h4⟩, h5⟩ := h
 obtain ⟨d1, l1⟩ := digits x.Code (by omega) (by omega)
 obtain ⟨d2, l2⟩ := digits x.Value (by omega) (by omega)
 unfold m40
 simp only [d1, d2, decimal x.Code (by omega) (by omega), decimal x.Value (by omega) (by omega), Option.bind_some]
 have hp : x.Path.length ≤ 24 := by omega
 refine ⟨⟨0, repText x⟩, ?_, ?_⟩
 ·simp only [catS (show (([99, 111, 100, 101, 32] : Str)).length + (Lib.itoa x.Code).length ≤ 4611686018427387904 by simp; omega), Option.bind_some]
  simp only [catS (show ([99, 111, 100, 101, 32] ++ Lib.itoa x.Code : Str).length + ([32] : Str).length ≤ 4611686018427387904 by simp; omega), Option.bind_some]
  simp only [catS (show ([99, 111, 100, 101, 32] ++ Lib.itoa x.Code ++ [32] : Str).length + (Lib.itoa x.Value).length ≤ 4611686018427387904 by simp; omega), Option.bind_some]
  unfold repText
  by_cases hx : x.Path = []
  ·simp [hx]
  ·have hb : (!(x.Path == ([] : Str))) = true := by simpa using hx
   simp only [hb, cond_true, hx, if_false]
   rw [catS (by simp; omega), Option.bind_some, catS (by simp; omega), Option.bind_some]
   simp
 ·simp only [catS (show (([99, 111, 100, 101, 32] : Str)).length + (Lib.itoa x.Code).length ≤ 4611686018427387904 by simp; omega), Option.bind_some]
  simp only [catS (show ([99, 111, 100, 101, 32] ++ Lib.itoa x.Code : Str).length + ([32] : Str).length ≤ 4611686018427387904 by simp; omega), Option.bind_some]
  simp only [catS (show ([99, 111, 100, 101, 32] ++ Lib.itoa x.Code ++ [32] : Str).length + (Lib.itoa x.Value).length ≤ 4611686018427387904 by simp; omega), Option.bind_some]
  unfold repText
  by_cases hx : x.Path = []
  ·simp [hx, contO]
  ·have hb : (!(x.Path == ([] : Str))) = true := by simpa using hx
   simp only [hb, cond_true, hx, if_false]
   rw [catS (by simp; omega), Option.bind_some, catS (by simp; omega), Option.bind_some]
   simp [contO]
theorem replyText_law (x : TReply) : m3 x = some true := by
 unfold m3
 by_cases hr : m8 x 1048576 < 0
 ·simp only [hr, decide_true, cond_true]
 simp only [hr, decide_false, cond_false]
 have e0 : m10 x = x := rfl
 obtain ⟨y, e1, e2⟩ := text_eq x
 have e3 : m12 y y = true := by simp [m12]
 simp only [e0, e1, e2, e3, Option.bind_some, Bool.not_true, cond_false]
end Go.Proofs.YtjandfmkelohdaaDoor
