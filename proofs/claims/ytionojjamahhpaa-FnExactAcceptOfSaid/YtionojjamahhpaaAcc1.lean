/- FnExactAcceptOf, the plain law: sizes, copies, VotesFault. -/
import Derived.Test.YtionojjamahhpaaSort8
namespace Go.Proofs.Ytionojjamahhpaa
open Go Go.Rf
set_option linter.unusedVariables false
set_option linter.unusedSimpArgs false
theorem szS_ok (xs : List TVote) (h : xs.length ≤ 9223372036854775807) : ∃ y, m8 xs 1048576 = some y ∧ (0 ≤ y → xs.length ≤ 1048576) := by
  unfold m8
  have e : wi .i64 (1048576 - (xs.length : Int)) = 1048576 - (xs.length : Int) := wi64 (by omega) (by omega)
  rw [e]
  by_cases hc : (1048576 - (xs.length : Int)) < 0
  · simp only [hc, decide_true, cond_true]
    exact ⟨-1, rfl, fun h => by omega⟩
  simp only [hc, decide_false, cond_false]
  obtain ⟨o, h1, h2⟩ := loop_idx (f := ms8_0 xs) (fun i s => s.2.2 = (i : Int)) xs.length (fun o => (∃ s, o = .exit 0 s) ∨ ∃ s, o = .ret s)
    (fun i s hi hs => by
      unfold ms8_0
      rw [hs]
      by_cases hc : i < xs.length
      · have hc' : (i : Int) < (xs.length : Int) := by omega
        simp only [hc', decide_true, cond_true, getN hc, Option.bind_some]
        by_cases h3 : m45 xs[i] s.1 < 0
        · simp only [h3, decide_true, cond_true]
          exact .inr (.inr ⟨_, rfl, .inr ⟨_, rfl⟩⟩)
        · simp only [h3, decide_false, cond_false]
          exact .inl ⟨hc, _, rfl, wi1 (by omega)⟩
      · have hc' : ¬ (i : Int) < (xs.length : Int) := by omega
        simp only [hc', decide_false, cond_false]
        exact .inr (.inl ⟨_, _, rfl, .inl ⟨_, rfl⟩⟩)) NN 0 (1048576 - (xs.length : Int), 0, 0) (Nat.zero_le _) (by rw [NN_eq]; omega) rfl
  rw [h1]
  rcases h2 with ⟨s, rfl⟩ | ⟨s, rfl⟩
  · exact ⟨s.1, by simp [contO], fun _ => by omega⟩
  · exact ⟨s.2.1, by simp [contO], fun _ => by omega⟩
theorem cpS_ok (xs : List TVote) (h : xs.length ≤ 1048576) : m10 xs = some xs := by
  unfold m10
  have hm : mkO 40 (xs.length : Int) (⟨0, (⟨0, 0, []⟩ : TReply)⟩ : TVote) = some (List.replicate xs.length (⟨0, (⟨0, 0, []⟩ : TReply)⟩ : TVote)) := by
    unfold mkO
    rw [if_pos ⟨by omega, by simp; omega⟩, Int.toNat_natCast]
  rw [hm, Option.bind_some]
  obtain ⟨o, h1, s, rfl, h2⟩ := loop_idx (f := ms10_0 xs) (fun i s => s.1 = (i : Int) ∧ s.2.length = xs.length ∧ ∀ j, j < i → s.2[j]? = xs[j]?) xs.length (fun o => ∃ s, o = .exit 0 s ∧ s.2 = xs)
    (fun i s hi hs => by
      obtain ⟨z, ys⟩ := s
      obtain ⟨rfl, hl, hj⟩ := hs
      unfold ms10_0
      dsimp only at hl hj ⊢
      by_cases hc : i < xs.length
      · have hc' : (i : Int) < (xs.length : Int) := by omega
        have g2 := getN (xs := ys) (i := i) (by omega)
        simp only [hc', decide_true, cond_true, getN hc, g2, Option.bind_some]
        refine .inl ⟨hc, _, rfl, wi1 (by omega), by simpa using hl, fun j hj' => ?_⟩
        rw [Int.toNat_natCast, List.getElem?_set]
        by_cases e : i = j
        · subst e
          rw [if_pos rfl, if_pos (by omega), List.getElem?_eq_getElem hc]
          rfl
        · rw [if_neg e]; exact hj j (by omega)
      · have hc' : ¬ (i : Int) < (xs.length : Int) := by omega
        simp only [hc', decide_false, cond_false]
        refine .inr (.inl ⟨_, _, rfl, _, rfl, List.ext_getElem? fun j => ?_⟩)
        by_cases hjx : j < xs.length
        · exact hj j (by omega)
        · rw [List.getElem?_eq_none (by dsimp only; omega), List.getElem?_eq_none (by omega)]) NN 0 (0, List.replicate xs.length (⟨0, (⟨0, 0, []⟩ : TReply)⟩ : TVote)) (Nat.zero_le _) (by rw [NN_eq]; omega) ⟨rfl, by simp, fun j hj => by omega⟩
  rw [h1]
  simp [contO, h2]
theorem eqR_self (x : TReply) : m70 x x = true := by simp [m70]
theorem eqV_self (x : TVote) : m53 x x = true := by simp [m53, eqR_self]
theorem eqS_ok (xs : List TVote) (h : xs.length ≤ 1048576) : m12 xs xs = some true := by
  unfold m12
  have e : ((xs.length : Int) != (xs.length : Int)) = false := by simp
  rw [e, cond_false]
  obtain ⟨o, h1, s, rfl⟩ := loop_idx (f := ms12_0 xs xs) (fun i s => s.2 = (i : Int)) xs.length (fun o => ∃ s, o = .exit 0 s)
    (fun i s hi hs => by
      unfold ms12_0
      rw [hs]
      by_cases hc : i < xs.length
      · have hc' : (i : Int) < (xs.length : Int) := by omega
        simp only [hc', decide_true, cond_true, getN hc, Option.bind_some, eqV_self, Bool.not_true, cond_false]
        exact .inl ⟨hc, _, rfl, wi1 (by omega)⟩
      · have hc' : ¬ (i : Int) < (xs.length : Int) := by omega
        simp only [hc', decide_false, cond_false]
        exact .inr (.inl ⟨_, _, rfl, _, rfl⟩)) NN 0 (false, 0) (Nat.zero_le _) (by rw [NN_eq]; omega) rfl
  rw [h1]
  simp [contO]
theorem rep_ok (x : TReply) : ∃ b, m84 x = some b := by
  unfold m84
  cases m90 x.Code 0 10 <;> cases m90 x.Value (-1) 9999 <;> exact ⟨_, rfl⟩
noncomputable def repB (x : TReply) : Bool := (m84 x).getD false
theorem rep1 (x : TReply) : m84 x = some (repB x) := by
  obtain ⟨b, h⟩ := rep_ok x
  unfold repB; rw [h]; rfl
theorem rep2 (x : TReply) : m52 x = some (repB x) := (rfl : m52 x = m84 x).trans (rep1 x)
noncomputable def goodV (f : Int) (x : TVote) : Bool := m83 f x.From && repB x.Reply
theorem all_take {α : Type} {p : α → Bool} {xs : List α} {i : Nat} (hi : i < xs.length) (h : ∀ j (hj : j < xs.length), j < i → p xs[j] = true) (hp : p xs[i] = true) : ∀ j (hj : j < xs.length), j < i + 1 → p xs[j] = true := fun j hj h1 => by
  by_cases e : j = i
  · subst e; exact hp
  · exact h j hj (by omega)
theorem fault1 (f : Int) (xs : List TVote) (hl : xs.length ≤ 40) : loopO (ms46_0 f xs) NN (0, 0) = some (if xs.all (goodV f) then .exit 0 (0, (xs.length : Int)) else .ret (3, ((xs.findIdx fun x => !goodV f x : Nat) : Int))) := by
  obtain ⟨o, h1, rfl⟩ := loop_idx (f := ms46_0 f xs) (fun i s => s = (0, (i : Int)) ∧ ∀ j (hj : j < xs.length), j < i → goodV f xs[j] = true) xs.length (fun o => o = if xs.all (goodV f) then .exit 0 (0, (xs.length : Int)) else .ret (3, ((xs.findIdx fun x => !goodV f x : Nat) : Int)))
    (fun i s hi hs => by
      obtain ⟨rfl, hg⟩ := hs
      unfold ms46_0
      dsimp only
      by_cases hc : i < xs.length
      · have hc' : (i : Int) < (xs.length : Int) := by omega
        simp only [hc', decide_true, cond_true, getN hc, Option.bind_some, rep1]
        by_cases hgi : goodV f xs[i] = true
        · have := hgi
          unfold goodV at this
          rw [Bool.and_eq_true] at this
          simp only [this.1, this.2, Bool.not_true, cond_false, Option.bind_some, contO, wi1 (show i ≤ 1099511627776 by omega)]
          exact .inl ⟨hc, _, rfl, rfl, all_take hc hg hgi⟩
        · have hall : ¬ (xs.all (goodV f)) = true := fun h => hgi (List.all_eq_true.1 h _ (List.getElem_mem hc))
          have hidx : (xs.findIdx fun x => !goodV f x) = i := by
            rw [List.findIdx_eq hc]
            exact ⟨by simpa using hgi, fun j hj => by simpa using hg j (by omega) hj⟩
          refine .inr (.inr ⟨(3, (i : Int)), ?_, by rw [if_neg hall, hidx]⟩)
          unfold goodV at hgi
          cases e1 : m83 f xs[i].From
          · simp [contO]
          · cases e2 : repB xs[i].Reply
            · simp [contO]
            · simp [e1, e2] at hgi
      · have hc' : ¬ (i : Int) < (xs.length : Int) := by omega
        have : i = xs.length := by omega
        subst this
        simp only [hc', decide_false, cond_false]
        have hall : xs.all (goodV f) = true := List.all_eq_true.2 fun x hx => by
          obtain ⟨j, hj, rfl⟩ := List.mem_iff_getElem.1 hx
          exact hg j hj hj
        exact .inr (.inl ⟨_, _, rfl, by rw [if_pos hall]⟩)) NN 0 (0, 0) (Nat.zero_le _) (by rw [NN_eq]; omega) ⟨rfl, fun j hj h => by omega⟩
  exact h1
theorem bad_eq (f : Int) (x : TVote) : m50 x f = some (!goodV f x) := by
  unfold m50 goodV
  rw [show m51 f x.From = m83 f x.From from rfl, rep2]
  cases m83 f x.From <;> cases repB x.Reply <;> rfl
theorem fault2 (f : Int) (xs : List TVote) (hl : xs.length ≤ 40) : ∃ z : Int, m86 xs (fun x => m50 x f) = some z ∧ decide (z ≥ 0) = !xs.all (goodV f) := by
  unfold m86
  obtain ⟨o, h1, h2⟩ := loop_idx (f := ms86_0 xs (fun x => m50 x f)) (fun i s => s = (0, (i : Int)) ∧ ∀ j (hj : j < xs.length), j < i → goodV f xs[j] = true) xs.length (fun o => (xs.all (goodV f) = true ∧ ∃ s, o = .exit 0 s) ∨ (xs.all (goodV f) = false ∧ ∃ (i : Nat) (s : Int), o = .ret ((i : Int), s)))
    (fun i s hi hs => by
      obtain ⟨rfl, hg⟩ := hs
      unfold ms86_0
      dsimp only
      by_cases hc : i < xs.length
      · have hc' : (i : Int) < (xs.length : Int) := by omega
        simp only [hc', decide_true, cond_true, getN hc, Option.bind_some, bad_eq]
        by_cases hgi : goodV f xs[i] = true
        · simp only [hgi, Bool.not_true, cond_false, wi1 (show i ≤ 1099511627776 by omega)]
          exact .inl ⟨hc, _, rfl, rfl, all_take hc hg hgi⟩
        · have hall : xs.all (goodV f) = false := Bool.eq_false_iff.2 fun h => hgi (List.all_eq_true.1 h _ (List.getElem_mem hc))
          have hgi' : goodV f xs[i] = false := Bool.eq_false_iff.2 hgi
          simp only [hgi', Bool.not_false, cond_true]
          exact .inr (.inr ⟨_, rfl, .inr ⟨hall, i, _, rfl⟩⟩)
      · have hc' : ¬ (i : Int) < (xs.length : Int) := by omega
        have : i = xs.length := by omega
        subst this
        simp only [hc', decide_false, cond_false]
        have hall : xs.all (goodV f) = true := List.all_eq_true.2 fun x hx => by
          obtain ⟨j, hj, rfl⟩ := List.mem_iff_getElem.1 hx
          exact hg j hj hj
        exact .inr (.inl ⟨_, _, rfl, .inl ⟨hall, _, rfl⟩⟩)) NN 0 (0, 0) (Nat.zero_le _) (by rw [NN_eq]; omega) ⟨rfl, fun j hj h => by omega⟩
  rw [h1]
  rcases h2 with ⟨g, s, rfl⟩ | ⟨g, i, s, rfl⟩
  · exact ⟨-1, by simp [contO], by rw [g]; rfl⟩
  · exact ⟨(i : Int), by simp [contO], by rw [g]; simp⟩
/-- What both say of the votes. -/
theorem fault_eq (f : Int) (xs : List TVote) : ∃ y : Int, m46 f xs = some y ∧ m11 f xs = some y ∧ (y = 0 → 1 ≤ f ∧ f ≤ 2 ∧ xs.length ≤ 40 ∧ ∀ x ∈ xs, 1 ≤ x.From ∧ x.From ≤ 3 * f + 1) := by
  unfold m46 m11
  rw [show m48 f = m71 f from rfl]
  cases hf : m71 f
  · exact ⟨3, rfl, rfl, fun h => by omega⟩
  have hf2 : 1 ≤ f ∧ f ≤ 2 := by
    unfold m71 m90 at hf
    by_cases h : f ≥ 1
    · simp [h] at hf; omega
    · simp [h] at hf
  simp only [Bool.not_true, cond_false]
  by_cases hl : (xs.length : Int) > 40
  · simp only [hl, decide_true, cond_true]
    exact ⟨2, rfl, rfl, fun h => by omega⟩
  simp only [hl, decide_false, cond_false]
  rw [fault1 f xs (by omega)]
  obtain ⟨z, h1, h2⟩ := fault2 f xs (by omega)
  unfold m49
  rw [h1]
  cases hall : xs.all (goodV f)
  · rw [hall] at h2
    exact ⟨3, by simp [contO], by simp only [Option.bind_some, h2]; rfl, fun h => by omega⟩
  · rw [hall] at h2
    refine ⟨0, by simp [contO], by simp only [Option.bind_some, h2]; rfl, fun _ => ⟨hf2.1, hf2.2, by omega, fun x hx => ?_⟩⟩
    have := List.all_eq_true.1 hall x hx
    unfold goodV at this
    rw [Bool.and_eq_true] at this
    have h3 := this.1
    unfold m83 m90 at h3
    rw [wi64 (x := 3 * f) (by omega) (by omega), wi64 (by omega) (by omega)] at h3
    by_cases h : x.From ≥ 1
    · simp [h] at h3; omega
    · simp [h] at h3
end Go.Proofs.Ytionojjamahhpaa
