/- slices.Sort sorts. -/
import Derived.Test.YtionojjamahhpaaSort6
namespace Go.Proofs.Ytionojjamahhpaa
open Go Go.Rf
set_option linter.unusedVariables false
set_option linter.unusedSimpArgs false
theorem PI_le {ys : List Int} {a c d b : Nat} {xs : List Int} (hpre : a > 0 → ∀ k, a ≤ k → k < b → A xs (a - 1) ≤ A xs k) (hr : RP xs ys a b) (hs : Sep ys a c d b) (hac : a ≤ c) (hdb : d ≤ b) (hb : b ≤ xs.length) :
    c > 0 → ∀ k, c ≤ k → k < d → A ys (c - 1) ≤ A ys k := by
  intro h0 k h1 h2
  by_cases e : c = a
  · subst e
    rw [hr.out (c - 1) (.inl (by omega))]
    exact hr.all (p := fun x => A xs (c - 1) ≤ x) hb (fun q q1 q2 => hpre h0 q q1 q2) k h1 (by omega)
  · exact hs (c - 1) k (by omega) (by omega) (by omega) (.inl (by omega))
theorem PDF_ok (rec_ : List Int → Int → Int → Int → Option (List Int)) (m : Nat)
    (ih : 12 < m → ∀ (xs : List Int) (a b : Nat) (l : Int), a ≤ b → 2 * (b - a) < m → b ≤ xs.length → xs.length < 50 → (a > 0 → ∀ k, a ≤ k → k < b → A xs (a - 1) ≤ A xs k) → Ok (fun ys => RP xs ys a b ∧ SO ys a b) (rec_ xs a b l))
    {xs : List Int} {a b : Nat} {l : Int} (hab : a ≤ b) (hm : b - a ≤ m) (hb : b ≤ xs.length) (hl : xs.length < 50) (hpre : a > 0 → ∀ k, a ≤ k → k < b → A xs (a - 1) ≤ A xs k) :
    Ok (fun ys => RP xs ys a b ∧ SO ys a b) (m129F rec_ xs a b l) := by
  have hmain := loopO_rule (f := ms129_0 rec_) (fun s : Int × Int × Int × Bool × Bool × List Int => ∃ c d : Nat, s.1 = c ∧ s.2.1 = d ∧ a ≤ c ∧ c ≤ d ∧ d ≤ b ∧ RP xs s.2.2.2.2.2 a b ∧ Sep s.2.2.2.2.2 a c d b) (fun s => (s.2.1 - s.1).toNat) (fun o => ∃ s, o = .ret s ∧ RP xs s.2.2.2.2.2 a b ∧ SO s.2.2.2.2.2 a b)
    (fun s hs => by
      obtain ⟨z, w, lim, bal, par, ys⟩ := s
      obtain ⟨c, d, rfl, rfl, h1, h2, h3, h4, h5⟩ := hs
      dsimp only at h4 h5 ⊢
      have hlen := h4.len
      have e0 := wiD (n := d) (k := c) (by omega) (by omega)
      suffices hk : Ok (fun o => (∃ s', o = .norm s' ∧ (∃ c' d' : Nat, s'.1 = (c' : Int) ∧ s'.2.1 = (d' : Int) ∧ a ≤ c' ∧ c' ≤ d' ∧ d' ≤ b ∧ RP xs s'.2.2.2.2.2 a b ∧ Sep s'.2.2.2.2.2 a c' d' b) ∧ (s'.2.1 - s'.1).toNat < ((d : Int) - c).toNat) ∨ (∃ s', o = .ret s' ∧ RP xs s'.2.2.2.2.2 a b ∧ SO s'.2.2.2.2.2 a b)) (ms129_0 rec_ ((c : Int), (d : Int), lim, bal, par, ys)) by
        obtain ⟨o, k1, k2⟩ := hk
        rcases k2 with ⟨s', rfl, k3, k4⟩ | ⟨s', rfl, k3⟩
        · exact .inl ⟨s', k1, k3, k4⟩
        · exact .inr (.inr ⟨s', k1, s', rfl, k3⟩)
      unfold ms129_0
      dsimp only
      rw [e0]
      by_cases hsz : d - c ≤ 12
      · have hsz' : ((d - c : Nat) : Int) ≤ 12 := by omega
        simp only [hsz', decide_true, cond_true]
        obtain ⟨zs, k1, k2, k3⟩ := IS_ok (a := c) (b := d) (xs := ys) h2 (by omega) (by omega)
        rw [k1]
        exact Ok.some (.inr ⟨_, rfl, h4.trans (k2.mono h1 h3), (h5.rp k2 h1 h3 (by omega)).fin k3⟩)
      have hsz' : ¬ ((d - c : Nat) : Int) ≤ 12 := by omega
      simp only [hsz', decide_false, cond_false]
      by_cases hlim : lim = 0
      · subst hlim
        obtain ⟨zs, k1, k2, k3⟩ := HS_ok (a := c) (b := d) (xs := ys) (by omega) (by omega) (by omega)
        rw [k1]
        exact Ok.some (.inr ⟨_, rfl, h4.trans (k2.mono h1 h3), (h5.rp k2 h1 h3 (by omega)).fin k3⟩)
      have hlim' : (lim == 0) = false := by simpa using hlim
      simp only [hlim', cond_false]
      refine Ok.bind (P := fun o => ∃ l zs, o = LO.norm (l, zs) ∧ RP ys zs c d) ?_ (fun o ho => ?_)
      · cases bal
        · obtain ⟨zs, k1, k2⟩ := BP_ok (a := c) (b := d) (xs := ys) (by omega) (by omega) (by omega) (by omega)
          simp only [Bool.not_false, cond_true, k1, Option.bind_some]
          exact Ok.some ⟨_, _, rfl, k2⟩
        · exact Ok.some ⟨_, _, rfl, RP.refl _ _ _⟩
      obtain ⟨lim2, ys1, rfl, r1⟩ := ho
      have hlen1 := r1.len
      simp only [contO]
      obtain ⟨p, hint, k1, k2, k3⟩ := CP_ok (a := c) (b := d) (xs := ys1) (by omega) (by omega) (by omega) (by omega)
      simp only [k1, Option.bind_some]
      refine Ok.bind (P := fun o => ∃ (q : Nat) (hh : Int) (zs : List Int), o = LO.norm ((q : Int), hh, zs) ∧ c ≤ q ∧ q < d ∧ RP ys zs c d) ?_ (fun o ho => ?_)
      · cases hb : (hint == 2)
        · exact Ok.some ⟨p, hint, ys1, rfl, k2, k3, r1⟩
        · obtain ⟨zs, j1, j2⟩ := RR_ok (a := c) (b := d) (xs := ys1) (by omega) (by omega) (by omega)
          simp only [cond_true, j1, Option.bind_some]
          have e1 := wiS (n := d) (by omega) (by omega)
          have e2 := wiD (n := p) (k := c) (by omega) (by omega)
          have e3 := wiD (n := d - 1) (k := p - c) (by omega) (by omega)
          rw [e1, e2, e3]
          exact Ok.some ⟨d - 1 - (p - c), 1, zs, rfl, by omega, by omega, r1.trans j2⟩
      obtain ⟨q, hh, ys2, rfl, q1, q2, r2⟩ := ho
      have hlen2 := r2.len
      have s2 := h5.rp r2 h1 h3 (by omega)
      have t2 := h4.trans (r2.mono h1 h3)
      simp only [contO]
      refine Ok.bind (P := fun o => o = LO.norm ys2 ∨ (o = LO.ret ys2 ∧ SO ys2 c d)) ?_ (fun o ho => ?_)
      · refine Ok.bind (P := fun o => ∃ g, o = LO.norm g) ?_ (fun o ho => ?_)
        · cases bal <;> cases par <;> exact Ok.some ⟨_, rfl⟩
        · obtain ⟨g, rfl⟩ := ho
          simp only [contO]
          cases g
          · exact Ok.some (.inl rfl)
          · obtain ⟨r, j1, j2⟩ := PI_ok (a := c) (b := d) (xs := ys2) (by omega) (by omega) (by omega) (by omega)
            simp only [cond_true, j1, Option.bind_some]
            cases r
            · exact Ok.some (.inl rfl)
            · exact Ok.some (.inr ⟨rfl, j2 rfl⟩)
      rcases ho with rfl | ⟨rfl, hso⟩
      rotate_left
      · exact Ok.some (.inr ⟨_, rfl, t2, s2.fin hso⟩)
      simp only [contO]
      refine Ok.bind (P := fun o => o = LO.norm ((c : Int), ys2) ∨ (∃ (mid : Nat) (zs : List Int), o = LO.exit 1 ((mid : Int), zs) ∧ RP ys2 zs c d ∧ c < mid ∧ mid ≤ d ∧ Sep zs a mid d b)) ?_ (fun o ho => ?_)
      · by_cases hc : c = 0
        · subst hc
          exact Ok.some (.inl rfl)
        · have hc' : (c : Int) > 0 := by omega
          have e1 := wiS (n := c) (by omega) (by omega)
          have g1 := getA (xs := ys2) (i := c - 1) (by omega)
          have g2 := getA (xs := ys2) (i := q) (by omega)
          simp only [hc', decide_true, cond_true, e1, g1, g2, Option.bind_some, LE_eq]
          have hle := PI_le hpre t2 s2 h1 h3 hb (by omega)
          by_cases hlt : A ys2 (c - 1) < A ys2 q
          · simp only [hlt, decide_true, Bool.not_true, cond_false]
            exact Ok.some (.inl rfl)
          · obtain ⟨mid, zs, j1, j2, j3, j4, j5, j6⟩ := PE_ok (a := c) (b := d) (p := q) (xs := ys2) q1 q2 (by omega) (by omega)
            simp only [hlt, decide_false, Bool.not_false, cond_true, j1, Option.bind_some]
            refine Ok.some (.inr ⟨mid, zs, rfl, j2, j3, j4, ?_⟩)
            have s3 := s2.rp j2 h1 h3 (by omega)
            have hq := hle q q1 q2
            have hall := j2.all (p := fun x => A ys2 (c - 1) ≤ x) (by omega) (fun k k1 k2 => hle k k1 k2)
            intro i j g1 g2 g3 g4
            by_cases e : i < c ∨ d ≤ j
            · exact s3 i j g1 g2 g3 e
            · have b1 := j5 i (by omega) (by omega)
              have b2 := hall j (by omega) (by omega)
              omega
      rcases ho with rfl | ⟨mid, zs, rfl, j2, j3, j4, j5⟩
      rotate_left
      · simp only [contO, if_true]
        exact Ok.some (.inl ⟨_, rfl, ⟨mid, d, rfl, rfl, by omega, j4, h3, t2.trans (j2.mono h1 h3), j5⟩, by dsimp only; omega⟩)
      simp only [contO]
      obtain ⟨mid, al, ys3, j1, j2, j3⟩ := PO_ok (a := c) (b := d) (p := q) (xs := ys2) q1 q2 (by omega) (by omega)
      have m1 := j3.am
      have m2 := j3.mb
      have hlen3 := j2.len
      simp only [j1, Option.bind_some]
      have s3 := s2.rp j2 h1 h3 (by omega)
      have t3 := t2.trans (j2.mono h1 h3)
      have e1 := wiD (n := mid) (k := c) (by omega) (by omega)
      have e2 := wiD (n := d) (k := mid) (by omega) (by omega)
      have e3 := wiA (n := mid) (by omega)
      rw [e1, e2, e3]
      by_cases hlr : mid - c < d - mid
      · have hlr' : ((mid - c : Nat) : Int) < ((d - mid : Nat) : Int) := by omega
        simp only [hlr', decide_true, cond_true]
        refine Ok.bind (ih (by omega) ys3 c mid lim2 m1 (by omega) (by omega) (by omega) (fun g0 k g1 g2 => PI_le hpre t3 s3 h1 h3 hb g0 k g1 (by omega))) (fun zs hz => ?_)
        obtain ⟨r4, so4⟩ := hz
        have s4 := s3.rp (r4.mono (Nat.le_refl _) (by omega : mid ≤ d)) h1 h3 (by omega)
        refine Ok.some (.inl ⟨_, rfl, ⟨mid + 1, d, rfl, rfl, by omega, by omega, h3, t3.trans (r4.mono h1 (by omega)), ?_⟩, by dsimp only; omega⟩)
        intro i j g1 g2 g3 g4
        dsimp only at g4 ⊢
        by_cases e : i < c ∨ d ≤ j
        · exact s4 i j g1 g2 g3 e
        · have hmidz : A zs mid = A ys3 mid := r4.out mid (.inr (Nat.le_refl _))
          have hlow : ∀ k, c ≤ k → k < mid → A zs k ≤ A ys3 mid := r4.all (p := fun x => x ≤ A ys3 mid) (by omega) (fun k k1 k2 => j3.lo k k1 k2)
          by_cases ej : j < mid
          · exact so4 i j (by omega) g2 ej
          · have hj : A ys3 mid ≤ A zs j := by
              by_cases ej2 : j = mid
              · subst ej2; rw [hmidz]; exact Int.le_refl _
              · rw [r4.out j (.inr (by omega))]; exact j3.hi j (by omega) (by omega)
            by_cases ei : i = mid
            · subst ei; rw [hmidz]; exact hj
            · have := hlow i (by omega) (by omega)
              omega
      · have hlr' : ¬ ((mid - c : Nat) : Int) < ((d - mid : Nat) : Int) := by omega
        simp only [hlr', decide_false, cond_false]
        have sm : ∀ k, c ≤ k → k ≤ mid → ∀ j, mid < j → j < d → A ys3 k ≤ A ys3 j := fun k k1 k2 j g1 g2 => by
          have := j3.hi j g1 g2
          by_cases ek : k = mid
          · subst ek; exact this
          · have := j3.lo k k1 (by omega); omega
        refine Ok.bind (ih (by omega) ys3 (mid + 1) d lim2 (by omega) (by omega) (by omega) (by omega) (fun g0 k g1 g2 => sm mid m1 (Nat.le_refl _) k (by omega) g2)) (fun zs hz => ?_)
        obtain ⟨r4, so4⟩ := hz
        have s4 := s3.rp (r4.mono (by omega : c ≤ mid + 1) (Nat.le_refl _)) h1 h3 (by omega)
        refine Ok.some (.inl ⟨_, rfl, ⟨c, mid, rfl, rfl, h1, m1, by omega, t3.trans (r4.mono (by omega) h3), ?_⟩, by dsimp only; omega⟩)
        intro i j g1 g2 g3 g4
        dsimp only at g4 ⊢
        by_cases e : i < c ∨ d ≤ j
        · exact s4 i j g1 g2 g3 e
        · by_cases ei : mid < i
          · exact so4 i j ei g2 (by omega)
          · rw [r4.out i (.inl (by omega))]
            by_cases ej : j = mid
            · subst ej
              rw [r4.out j (.inl (by omega))]
              exact j3.lo i (by omega) (by omega)
            · exact r4.all (p := fun x => A ys3 i ≤ x) (by omega) (fun k k1 k2 => sm i (by omega) (by omega) k (by omega) k2) j (by omega) (by omega)) NN ((a : Int), (b : Int), l, true, true, xs) ⟨a, b, rfl, rfl, Nat.le_refl _, hab, Nat.le_refl _, RP.refl _ _ _, fun i j g1 g2 g3 g4 => by omega⟩ (by rw [NN_eq]; dsimp only; omega)
  obtain ⟨o, k1, s, rfl, k2, k3⟩ := hmain
  unfold m129F
  rw [k1]
  exact ⟨_, rfl, k2, k3⟩
theorem PD_ok (n : Nat) : ∀ (xs : List Int) (a b : Nat) (l : Int), a ≤ b → b - a < 2 ^ (n + 3) → b ≤ xs.length → xs.length < 50 → (a > 0 → ∀ k, a ≤ k → k < b → A xs (a - 1) ≤ A xs k) → Ok (fun ys => RP xs ys a b ∧ SO ys a b) (m129 (n + 1) xs a b l) := by
  induction n with
  | zero => intro xs a b l h1 h2 h3 h4 h5; exact PDF_ok _ (b - a) (fun h => by simp at h2; omega) h1 (Nat.le_refl _) h3 h4 h5
  | succ n ih =>
    intro xs a b l h1 h2 h3 h4 h5
    refine PDF_ok _ (b - a) (fun h xs' a' b' l' g1 g2 g3 g4 g5 => ih xs' a' b' l' g1 ?_ g3 g4 g5) h1 (Nat.le_refl _) h3 h4 h5
    have : 2 ^ (n + 1 + 3) = 2 * 2 ^ (n + 3) := by rw [show n + 1 + 3 = (n + 3) + 1 by omega, Nat.pow_succ]; omega
    omega
noncomputable def blT (n : Nat) : Bool := (m130 (wi .u64 (n : Int))).isSome
theorem blT_ok : ∀ n : Fin 50, blT n.val = true := by decide +kernel
theorem SO_ok {xs : List Int} (h : xs.length < 50) : ∃ ys, m110 xs = some ys ∧ ys.Perm xs ∧ ys.Pairwise (· ≤ ·) := by
  unfold m110
  have hb := blT_ok ⟨xs.length, h⟩
  unfold blT at hb
  obtain ⟨y, hy⟩ := Option.isSome_iff_exists.1 hb
  rw [hy]
  obtain ⟨ys, k1, k2, k3⟩ := PD_ok 63 xs 0 xs.length y (Nat.zero_le _) (by rw [show (2:Nat) ^ (63 + 3) = 73786976294838206464 by decide +kernel]; omega) (Nat.le_refl _) h (fun h => by omega)
  refine ⟨ys, ?_, k2.perm, ?_⟩
  · simp only [Option.bind_some]
    rw [show (0 : Int) = ((0 : Nat) : Int) from rfl, k1]
    rfl
  · rw [List.pairwise_iff_getElem]
    intro i j hi hj hij
    have := k3 i j (Nat.zero_le _) hij (by rw [← k2.len]; exact hj)
    rwa [A_get (by omega), A_get (by omega)] at this
end Go.Proofs.Ytionojjamahhpaa
