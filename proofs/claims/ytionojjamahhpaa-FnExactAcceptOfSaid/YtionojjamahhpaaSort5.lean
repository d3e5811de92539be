/- heapSort. -/
import Derived.Test.YtionojjamahhpaaSort4
namespace Go.Proofs.Ytionojjamahhpaa
open Go Go.Rf
set_option linter.unusedVariables false
set_option linter.unusedSimpArgs false
def chld (ys : List Int) (f r hi : Nat) : Nat := if 2 * r + 2 < hi ∧ A ys (f + (2 * r + 1)) < A ys (f + (2 * r + 1) + 1) then 2 * r + 2 else 2 * r + 1
theorem SD_step {f hi r : Nat} {ys : List Int} (hf : f + hi ≤ ys.length) (hl : ys.length ≤ 1099511627776) (hr : r ≤ 1099511627776) :
    ms150_0 (hi : Int) (f : Int) ((r : Int), ys) = if hi ≤ 2 * r + 1 then some (.exit 0 ((r : Int), ys)) else if A ys (f + r) < A ys (f + chld ys f r hi) then some (.norm ((chld ys f r hi : Nat), sw ys (f + r) (f + chld ys f r hi))) else some (.ret ((r : Int), ys)) := by
  unfold ms150_0
  have e1 : wi .i64 (2 * (r : Int)) = ((2 * r : Nat) : Int) := by rw [wi64 (by omega) (by omega)]; omega
  have e2 : wi .i64 (((2 * r : Nat) : Int) + 1) = ((2 * r + 1 : Nat) : Int) := by rw [wi64 (by omega) (by omega)]; omega
  have e3 : wi .i64 (((2 * r + 1 : Nat) : Int) + 1) = ((2 * r + 2 : Nat) : Int) := by rw [wi64 (by omega) (by omega)]; omega
  dsimp only
  rw [e1, e2, e3]
  by_cases h1 : hi ≤ 2 * r + 1
  · have h1' : ((2 * r + 1 : Nat) : Int) ≥ (hi : Int) := by omega
    simp only [h1, h1', decide_true, cond_true, if_true]
  · have h1' : ¬ ((2 * r + 1 : Nat) : Int) ≥ (hi : Int) := by omega
    have p1 := wiP (n := f) (k := 2 * r + 1) (by omega)
    have p2 : wi .i64 (((f + (2 * r + 1) : Nat) : Int) + 1) = ((f + (2 * r + 1) + 1 : Nat) : Int) := by rw [wi64 (by omega) (by omega)]; omega
    have p3 := wiP (n := f) (k := r) (by omega)
    have g1 := getA (xs := ys) (i := f + (2 * r + 1)) (by omega)
    have g3 := getA (xs := ys) (i := f + r) (by omega)
    have fin : ∀ c : Nat, c < hi → r < c → c = chld ys f r hi → contO (fun s3 => (getI ys (wi .i64 ((f : Int) + (r : Int)))).bind fun x3 => (getI ys (wi .i64 ((f : Int) + s3))).bind fun x4 => bif !decide (x3 < x4) then some (LO.ret ((r : Int), ys)) else (getI ys (wi .i64 ((f : Int) + s3))).bind fun x5 => (getI ys (wi .i64 ((f : Int) + (r : Int)))).bind fun x6 => (getI ys (wi .i64 ((f : Int) + (r : Int)))).bind fun x7 => (getI (ys.set (Int.toNat (wi .i64 ((f : Int) + (r : Int)))) x5) (wi .i64 ((f : Int) + s3))).bind fun x8 => some (LO.norm (s3, (ys.set (Int.toNat (wi .i64 ((f : Int) + (r : Int)))) x5).set (Int.toNat (wi .i64 ((f : Int) + s3))) x6))) (fun i1 s3 => if i1 = 1 then some (LO.norm ((r : Int), ys)) else some (LO.exit i1 ((r : Int), ys))) (fun s3 => some (LO.ret ((r : Int), ys))) (LO.norm (c : Int))
        = if A ys (f + r) < A ys (f + chld ys f r hi) then some (.norm ((chld ys f r hi : Nat), sw ys (f + r) (f + chld ys f r hi))) else some (.ret ((r : Int), ys)) := by
      intro c hc hrc e
      rw [← e]
      have p4 := wiP (n := f) (k := c) (by omega)
      have g4 := getA (xs := ys) (i := f + c) (by omega)
      have g5 := getSet (xs := ys) (i := f + r) (j := f + c) (v := A ys (f + c)) rfl rfl (by omega)
      simp only [contO, p3, p4, g3, g4, g5, Option.bind_some]
      by_cases h3 : A ys (f + r) < A ys (f + c)
      · simp only [h3, decide_true, Bool.not_true, cond_false, if_true]; rfl
      · simp only [h3, decide_false, Bool.not_false, cond_true, if_false]
    simp only [h1, h1', decide_false, cond_false, if_false]
    by_cases h2 : 2 * r + 2 < hi
    · have h2' : ((2 * r + 2 : Nat) : Int) < (hi : Int) := by omega
      have g2 := getA (xs := ys) (i := f + (2 * r + 1) + 1) (by omega)
      simp only [h2', decide_true, cond_true, p1, p2, g1, g2, Option.bind_some, LE_eq]
      by_cases h3 : A ys (f + (2 * r + 1)) < A ys (f + (2 * r + 1) + 1)
      · simp only [h3, decide_true, cond_true, Option.bind_some]
        exact fin (2 * r + 2) h2 (by omega) (by unfold chld; rw [if_pos ⟨h2, h3⟩])
      · simp only [h3, decide_false, cond_false, Option.bind_some]
        exact fin (2 * r + 1) (by omega) (by omega) (by unfold chld; rw [if_neg (fun q => h3 q.2)])
    · have h2' : ¬ ((2 * r + 2 : Nat) : Int) < (hi : Int) := by omega
      simp only [h2', decide_false, cond_false, Option.bind_some, LE_eq]
      exact fin (2 * r + 1) (by omega) (by omega) (by unfold chld; rw [if_neg (fun q => h2 q.1)])

def HpX (ys : List Int) (f lo hi r : Nat) : Prop := ∀ p c, lo ≤ p → p ≠ r → (c = 2 * p + 1 ∨ c = 2 * p + 2) → c < hi → A ys (f + c) ≤ A ys (f + p)
def Grand (ys : List Int) (f lo hi r : Nat) : Prop := ∀ p c, lo ≤ p → (r = 2 * p + 1 ∨ r = 2 * p + 2) → (c = 2 * r + 1 ∨ c = 2 * r + 2) → c < hi → A ys (f + c) ≤ A ys (f + p)
def Hp (ys : List Int) (f lo hi : Nat) : Prop := ∀ p c, lo ≤ p → (c = 2 * p + 1 ∨ c = 2 * p + 2) → c < hi → A ys (f + c) ≤ A ys (f + p)
theorem SD_ok {f lo hi r : Nat} {ys : List Int} (hlr : lo ≤ r) (hr : r ≤ 1099511627776) (hf : f + hi ≤ ys.length) (hl : ys.length ≤ 1099511627776) (hx : HpX ys f lo hi r) (hg : Grand ys f lo hi r) :
    ∃ zs, m150 ys r hi f = some zs ∧ RP ys zs f (f + hi) ∧ Hp zs f lo hi := by
  have hloop := loopO_rule (f := ms150_0 (hi : Int) (f : Int)) (fun s : Int × List Int => ∃ r : Nat, s.1 = r ∧ lo ≤ r ∧ r ≤ 1099511627776 ∧ RP ys s.2 f (f + hi) ∧ HpX s.2 f lo hi r ∧ Grand s.2 f lo hi r) (fun s => hi - s.1.toNat) (fun o => ∃ zs : List Int, ((∃ r, o = .exit 0 (r, zs)) ∨ (∃ r, o = .ret (r, zs))) ∧ RP ys zs f (f + hi) ∧ Hp zs f lo hi)
    (fun s hs => by
      obtain ⟨z, zs⟩ := s
      obtain ⟨r, rfl, h1, h2, h3, h4, h5⟩ := hs
      dsimp only at h3 h4 h5 ⊢
      have hlen := h3.len
      rw [SD_step (by omega) (by omega) h2]
      by_cases c1 : hi ≤ 2 * r + 1
      · rw [if_pos c1]
        refine .inr (.inl ⟨0, _, rfl, zs, .inl ⟨_, rfl⟩, h3, fun p c g1 g2 g3 => ?_⟩)
        by_cases e : p = r
        · omega
        · exact h4 p c g1 e g2 g3
      · rw [if_neg c1]
        have hch : chld zs f r hi = 2 * r + 1 ∧ ¬ (2 * r + 2 < hi ∧ A zs (f + (2 * r + 1)) < A zs (f + (2 * r + 1) + 1)) ∨ chld zs f r hi = 2 * r + 2 ∧ 2 * r + 2 < hi ∧ A zs (f + (2 * r + 1)) < A zs (f + (2 * r + 1) + 1) := by
          unfold chld
          by_cases q : 2 * r + 2 < hi ∧ A zs (f + (2 * r + 1)) < A zs (f + (2 * r + 1) + 1)
          · rw [if_pos q]; exact .inr ⟨rfl, q⟩
          · rw [if_neg q]; exact .inl ⟨rfl, q⟩
        have e22 : f + (2 * r + 1) + 1 = f + (2 * r + 2) := by omega
        rw [e22] at hch
        generalize chld zs f r hi = c at hch ⊢
        have hc : c < hi ∧ r < c ∧ (c = 2 * r + 1 ∨ c = 2 * r + 2) := by rcases hch with ⟨q, _⟩ | ⟨q, _, _⟩ <;> omega
        have hmax : ∀ d, (d = 2 * r + 1 ∨ d = 2 * r + 2) → d < hi → A zs (f + d) ≤ A zs (f + c) := by
          intro d hd hdh
          rcases hch with ⟨q, q2⟩ | ⟨q, q2, q3⟩ <;> subst q
          · rcases hd with rfl | rfl
            · exact Int.le_refl _
            · have : ¬ A zs (f + (2 * r + 1)) < A zs (f + (2 * r + 2)) := fun q => q2 ⟨hdh, q⟩
              omega
          · rcases hd with rfl | rfl
            · omega
            · exact Int.le_refl _
        by_cases c2 : A zs (f + r) < A zs (f + c)
        · rw [if_pos c2]
          have hs : ∀ k, A (sw zs (f + r) (f + c)) (f + k) = if k = c then A zs (f + r) else if k = r then A zs (f + c) else A zs (f + k) := fun k => by
            rw [A_sw (by omega) (by omega)]
            by_cases q1 : k = c
            · subst q1; rw [if_pos rfl, if_pos rfl]
            · rw [if_neg (by omega), if_neg q1]
              by_cases q2 : k = r
              · subst q2; rw [if_pos rfl, if_pos rfl]
              · rw [if_neg (by omega), if_neg q2]
          refine .inl ⟨_, rfl, ⟨c, rfl, by omega, by omega, h3.trans (RP.sw (xs := zs) (i := f + r) (j := f + c) (by omega) (by omega) (by omega)), fun p d g1 g2 g3 g4 => ?_, fun p d g1 g2 g3 g4 => ?_⟩, by dsimp only; omega⟩
          · rw [hs d, hs p, if_neg g2]
            by_cases e1 : p = r
            · subst e1
              rw [if_pos rfl]
              by_cases e2 : d = c
              · rw [if_pos e2]; omega
              · rw [if_neg e2, if_neg (by omega)]; exact hmax d g3 g4
            · rw [if_neg e1]
              by_cases e2 : d = r
              · subst e2
                rw [if_neg (by omega), if_pos rfl]
                exact h5 p c g1 g3 hc.2.2 hc.1
              · by_cases e3 : d = c
                · omega
                · rw [if_neg e3, if_neg e2]; exact h4 p d g1 e1 g3 g4
          · have : p = r := by omega
            subst this
            rw [hs d, hs p, if_neg (by omega), if_neg (by omega), if_neg (by omega), if_pos rfl]
            exact h4 c d (by omega) (by omega) g3 g4
        · rw [if_neg c2]
          refine .inr (.inr ⟨_, rfl, zs, .inr ⟨_, rfl⟩, h3, fun p d g1 g2 g3 => ?_⟩)
          by_cases e : p = r
          · subst e
            have := hmax d g2 g3
            omega
          · exact h4 p d g1 e g2 g3) NN ((r : Int), ys) ⟨r, rfl, hlr, hr, RP.refl _ _ _, hx, hg⟩ (by rw [NN_eq]; dsimp only; omega)
  obtain ⟨o, k1, zs, k2, k3, k4⟩ := hloop
  unfold m150
  rcases k2 with ⟨q, rfl⟩ | ⟨q, rfl⟩
  · exact ⟨zs, by rw [k1]; simp [contO], k3, k4⟩
  · exact ⟨zs, by rw [k1]; simp [contO], k3, k4⟩
theorem Hp.root {ys : List Int} {f hi : Nat} (h : Hp ys f 0 hi) : ∀ q, q < hi → A ys (f + q) ≤ A ys (f + 0) := by
  intro q
  induction q using Nat.strongRecOn with
  | _ q ih =>
    intro hq
    by_cases e : q = 0
    · subst e; exact Int.le_refl _
    · have h1 := ih ((q - 1) / 2) (by omega) (by omega)
      have h2 := h ((q - 1) / 2) q (by omega) (by omega) hq
      omega
theorem HS_ok {a b : Nat} {xs : List Int} (hab : a < b) (hb : b ≤ xs.length) (hl : xs.length ≤ 1099511627776) : ∃ ys, m139 xs a b = some ys ∧ RP xs ys a b ∧ SO ys a b := by
  have e0 := wiD (n := b) (k := a) (by omega) (by omega)
  have e1 := wiS (n := b - a) (by omega) (by omega)
  have e2 : wi .i64 (Int.tdiv ((b - a - 1 : Nat) : Int) 2) = (((b - a - 1) / 2 : Nat) : Int) := wiT (n := b - a - 1) (k := 2) (by omega) (by omega) (by omega)
  unfold m139
  rw [e0, e1, e2]
  obtain ⟨s1, k1, k2, k3⟩ := loopO_exit (f := ms139_0 (a : Int) (b : Int)) (fun s : Int × List Int => ∃ n : Nat, s.1 = (n : Int) - 1 ∧ n ≤ b - a ∧ RP xs s.2 a b ∧ Hp s.2 a n (b - a)) (fun s => (s.1 + 1).toNat) (fun s => RP xs s.2 a b ∧ Hp s.2 a 0 (b - a)) 0
    (fun s hs => by
      obtain ⟨z, ys⟩ := s
      obtain ⟨n, rfl, h1, h2, h3⟩ := hs
      dsimp only at h2 h3 ⊢
      have hlen := h2.len
      unfold ms139_0
      by_cases hc : n = 0
      · subst hc
        exact .inr ⟨_, rfl, h2, h3⟩
      · have hc' : ((n : Int) - 1) ≥ 0 := by omega
        have e3 : (n : Int) - 1 = ((n - 1 : Nat) : Int) := by omega
        obtain ⟨zs, q1, q2, q3⟩ := SD_ok (f := a) (lo := n - 1) (hi := b - a) (r := n - 1) (ys := ys) (by omega) (by omega) (by omega) (by omega) (fun p c g1 g2 g3 g4 => h3 p c (by omega) g3 g4) (fun p c g1 g2 g3 g4 => by omega)
        dsimp only
        rw [e0]
        simp only [hc', decide_true, cond_true]
        rw [e3, q1]
        simp only [Option.bind_some]
        refine .inl ⟨_, rfl, ⟨n - 1, by dsimp only; rw [wi64 (by omega) (by omega)], by omega, h2.trans ⟨q2.len, fun k hk => q2.out k (by omega), q2.perm⟩, q3⟩, ?_⟩
        dsimp only
        rw [wi64 (by omega) (by omega)]; omega) NN ((((b - a - 1) / 2 : Nat) : Int), xs) ⟨(b - a - 1) / 2 + 1, by dsimp only; omega, by omega, RP.refl _ _ _, fun p c g1 g2 g3 => by omega⟩ (by rw [NN_eq]; dsimp only; omega)
  rw [k1]
  simp only [Option.bind_some, contO, if_true]
  have hlen1 := k2.len
  obtain ⟨s2, j1, j2, j3⟩ := loopO_exit (f := ms139_1 (a : Int)) (fun s : Int × List Int => ∃ n : Nat, s.1 = (n : Int) - 1 ∧ n ≤ b - a ∧ RP xs s.2 a b ∧ Hp s.2 a 0 n ∧ ∀ p q, p < q → n ≤ q → q < b - a → A s.2 (a + p) ≤ A s.2 (a + q)) (fun s => (s.1 + 1).toNat) (fun s => RP xs s.2 a b ∧ SO s.2 a b) 2
    (fun s hs => by
      obtain ⟨z, ys⟩ := s
      obtain ⟨n, rfl, h1, h2, h3, h4⟩ := hs
      dsimp only at h2 h3 h4 ⊢
      have hlen := h2.len
      unfold ms139_1
      by_cases hc : n = 0
      · subst hc
        refine .inr ⟨_, rfl, h2, fun p q g1 g2 g3 => ?_⟩
        have := h4 (p - a) (q - a) (by omega) (by omega) (by omega)
        rw [show a + (p - a) = p by omega, show a + (q - a) = q by omega] at this
        exact this
      · have hc' : ((n : Int) - 1) ≥ 0 := by omega
        have e3 : (n : Int) - 1 = ((n - 1 : Nat) : Int) := by omega
        have p1 := wiP (n := a) (k := n - 1) (by omega)
        have g1 := getA (xs := ys) (i := a + (n - 1)) (by omega)
        have g2 := getA (xs := ys) (i := a) (by omega)
        have g3 := getSet (xs := ys) (i := a) (j := a + (n - 1)) (v := A ys (a + (n - 1))) rfl rfl (by omega)
        have hs : ∀ k, k < n - 1 → k ≠ 0 → A (sw ys a (a + (n - 1))) (a + k) = A ys (a + k) := fun k h1 h2 => by
          rw [A_sw (by omega) (by omega), if_neg (by omega), if_neg (by omega)]
        have hswl : (sw ys a (a + (n - 1))).length = ys.length := sw_len
        obtain ⟨zs, q1, q2, q3⟩ := SD_ok (f := a) (lo := 0) (hi := n - 1) (r := 0) (ys := sw ys a (a + (n - 1))) (by omega) (by omega) (by omega) (by omega)
          (fun p c g1 g2 g3 g4 => by rw [hs c g4 (by omega), hs p (by omega) g2]; exact h3 p c g1 g3 (by omega)) (fun p c g1 g2 g3 g4 => by omega)
        dsimp only
        simp only [hc', decide_true, cond_true]
        rw [e3]
        simp only [p1, g1, g2, g3, Option.bind_some]
        rw [show (ys.set (Int.toNat (a : Int)) (A ys (a + (n - 1)))).set (Int.toNat ((a + (n - 1) : Nat) : Int)) (A ys a) = sw ys a (a + (n - 1)) from rfl]
        rw [show ((0 : Int)) = ((0 : Nat) : Int) from rfl, q1]
        simp only [Option.bind_some]
        have hroot := h3.root
        have helem : ∀ k, k < n - 1 → ∃ k', k' < n ∧ A (sw ys a (a + (n - 1))) (a + k) = A ys (a + k') := fun k hk => by
          by_cases e : k = 0
          · subst e
            refine ⟨n - 1, by omega, ?_⟩
            rw [A_sw (by omega) (by omega), if_neg (by omega), if_pos (by omega : a + 0 = a)]
          · exact ⟨k, by omega, hs k hk e⟩
        have hlast : A zs (a + (n - 1)) = A ys (a + 0) := by
          rw [q2.out _ (.inr (by omega)), A_sw (by omega) (by omega), if_pos rfl]; rfl
        have hbnd : ∀ v : Int, (∀ k', k' < n → A ys (a + k') ≤ v) → ∀ k, k < n - 1 → A zs (a + k) ≤ v := fun v hv k hk =>
          q2.all (by omega) (p := fun x => x ≤ v) (fun i h1 h2 => by
            obtain ⟨k', h3, h4⟩ := helem (i - a) (by omega)
            rw [show a + (i - a) = i by omega] at h4
            rw [h4]; exact hv k' h3) (a + k) (by omega) (by omega)
        have hout : ∀ k, n ≤ k → A zs (a + k) = A ys (a + k) := fun k hk => by
          rw [q2.out _ (.inr (by omega)), A_sw (by omega) (by omega), if_neg (by omega), if_neg (by omega)]
        refine .inl ⟨_, rfl, ⟨n - 1, by dsimp only; rw [wi64 (by omega) (by omega)], by omega, (h2.trans (RP.sw (xs := ys) (i := a) (j := a + (n - 1)) (by omega) (by omega) (by omega))).trans ⟨q2.len, fun k hk => q2.out k (by omega), q2.perm⟩, q3, fun p q m1 m2 m3 => ?_⟩, ?_⟩
        · by_cases e : q = n - 1
          · subst e
            rw [hlast]
            exact hbnd _ (fun k' hk' => hroot k' hk') p (by omega)
          · rw [hout q (by omega)]
            by_cases e2 : p < n - 1
            · exact hbnd _ (fun k' hk' => h4 k' q (by omega) (by omega) m3) p e2
            · by_cases e3 : p = n - 1
              · subst e3
                rw [hlast]; exact h4 0 q (by omega) (by omega) m3
              · rw [hout p (by omega)]; exact h4 p q m1 (by omega) m3
        · dsimp only
          rw [wi64 (by omega) (by omega)]; omega) NN (((b - a - 1 : Nat) : Int), s1.2) ⟨b - a, by dsimp only; omega, Nat.le_refl _, k2, k3, fun p q g1 g2 g3 => by omega⟩ (by rw [NN_eq]; dsimp only; omega)
  rw [j1]
  exact ⟨s2.2, by simp [contO], j2, j3⟩
end Go.Proofs.Ytionojjamahhpaa
