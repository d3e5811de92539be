/- The cluster that the Lm choose: what is so of every step is so of it. -/
import Derived.Test.YthbiabieiopobaaGreatDoorLaw
import Derived.Test.YthbiabieiopobaaGreatDoorRh10
import Derived.KernelRfl
namespace Go.Proofs.YthbiabieiopobaaGreatDoor
open Go Go.Rf
set_option linter.unusedVariables false
set_option linter.unusedSimpArgs false
def Lm (code : List U8) : Prop := code.length ≤ 1048576 ∧ ∀ x ∈ code, 0 ≤ x.v ∧ x.v ≤ 255
theorem eJ (f : Int) : m27 f = inR f 1 2 := in1 _ _ _
def Ko (id : Int) : Af := ⟨id, 0, -1, 0⟩
theorem appR {L : List Af} {k : Af} (h : L.length ≤ 1000) : Bw 32 L [k] = some (L ++ [k]) := by
 unfold Bw
 rw [if_pos (by simp; omega)]
theorem PR (ids : List Int) (h : ids.length ≤ 1000) : AB (IH ids) NN (0, []) = some (.exit 0 ((ids.length : Int), ids.map Ko)) := by
 refine Dk (f := IH ids) (s0 := (0, [])) (fun i => ((i : Int), (ids.take i).map Ko)) ids.length _ (fun i hi => ?_) ?_ rfl (CH (by omega)) rfl
 ·have hc' : (i : Int) < (ids.length : Int) := by omega
  unfold IH
  simp only [hc', decide_true, cond_true, BI hi, obs]
  rw [appR (by simp; omega), wi1 (by omega), obs, List.take_succ_eq_append_getElem hi, List.map_append]
  rfl
 ·unfold IH
  simp only [Int.lt_irrefl, decide_false, cond_false, List.take_length]
theorem Hf {code : List U8} (H : Lm code) {i n : Int} (hi : 0 ≤ i ∧ i ≤ 1000) (hn : n ≤ 1000) : ∃ r, m9 code i n = some r ∧ 0 ≤ r ∧ (r < n ∨ r = 0) := by
 obtain ⟨hl, hb⟩ := H
 unfold m9
 by_cases h1 : n ≤ 1
 ·simp only [h1, decide_true, cond_true]
  exact ⟨0, rfl, by omega, .inr rfl⟩
 have hn0 : n ≠ 0 := by omega
 simp only [h1, decide_false, cond_false]
 cases hc : ((code.length : Int) == 0)
 rotate_left
 ·simp only [cond_true, I3, if_neg hn0, obs]
  exact ⟨_, rfl, Int.tmod_nonneg _ (by rw [DV (by omega) (by omega)]; omega), .inl (Int.tmod_lt_of_pos _ (by omega))⟩
 have hp : 0 < (code.length : Int) := by
  have : (code.length : Int) ≠ 0 := by simpa using hc
  omega
 have hp0 : (code.length : Int) ≠ 0 := by omega
 have hx : ∀ a : Int, 0 ≤ a → ∃ x ∈ code, Av code (Int.tmod a (code.length : Int)) = some x := fun a ha => by
  have q1 := Int.tmod_nonneg (a := a) (code.length : Int) ha
  have q2 := Int.tmod_lt_of_pos a hp
  have hi : (Int.tmod a (code.length : Int)).toNat < code.length := by omega
  refine ⟨code[(Int.tmod a (code.length : Int)).toNat], List.getElem_mem hi, ?_⟩
  unfold Av
  rw [if_pos q1, List.getElem?_eq_getElem hi]
 have e2 : wi .i64 (i + 1) = i + 1 := DV (by omega) (by omega)
 obtain ⟨x, hxm, hx1⟩ := hx i hi.1
 obtain ⟨y, hym, hy1⟩ := hx (i + 1) (by omega)
 have hxb := hb x hxm
 have hyb := hb y hym
 have t1 : 0 ≤ Int.tdiv i (code.length : Int) := Int.tdiv_nonneg hi.1 (by omega)
 have t2 : Int.tdiv i (code.length : Int) ≤ i := Int.tdiv_le_self _ hi.1
 have e4 : IntKind.i64.wrap (Int.tdiv i (code.length : Int)) = Int.tdiv i (code.length : Int) := DV (by omega) (by omega)
 simp only [cond_false, I3, PD, if_neg hp0, if_neg hn0, obs, hx1, e2, hy1, e4]
 generalize Int.tdiv i (code.length : Int) = d at t1 t2
 have e6 : wi .i64 (wi .i64 x.v + wi .i64 (d * 3)) = x.v + d * 3 := by
  rw [DV (x := x.v) (by omega) (by omega), DV (x := d * 3) (by omega) (by omega), DV (by omega) (by omega)]
 rw [e6]
 by_cases h5 : n > 200
 ·have e7 : wi .i64 (wi .i64 ((x.v + d * 3) * 251) + wi .i64 y.v) = (x.v + d * 3) * 251 + y.v := by
   rw [DV (x := y.v) (by omega) (by omega), DV (x := (x.v + d * 3) * 251) (by omega) (by omega), DV (by omega) (by omega)]
  simp only [h5, decide_true, cond_true, Ak, obs, e7, if_neg hn0]
  exact ⟨_, rfl, Int.tmod_nonneg _ (by omega), .inl (Int.tmod_lt_of_pos _ (by omega))⟩
 ·simp only [h5, decide_false, cond_false, Ak, obs, if_neg hn0]
  exact ⟨_, rfl, Int.tmod_nonneg _ (by omega), .inl (Int.tmod_lt_of_pos _ (by omega))⟩
structure GA (P : Ab → Prop) : Prop where
 inv : ∀ c, P c → Inv c
 pro : ∀ (c : Ab) (id s v : Int), P c → ∃ y, m12 c id s v = some y ∧ (y.Code = 0 → P y.Cluster)
 prp : ∀ (c : Ab) (id i : Int), P c → ∃ y, m13 c id i = some y ∧ (y.Code = 0 → P y.Cluster)
 com : ∀ (c : Ab) (id s v : Int), P c → ∃ y, m14 c id s v = some y ∧ (y.Code = 0 → P y.Cluster)
 chg : ∀ (c : Ab) (id v : Int), P c → ∃ y, m15 c id v = some y ∧ (y.Code = 0 → P y.Cluster)
 nwc : ∀ (c : Ab) (id : Int), P c → ∃ y, m16 c id = some y ∧ (y.Code = 0 → P y.Cluster)
 ado : ∀ (c : Ab) (id pl : Int), P c → ∃ y, m17 c id pl = some y ∧ (y.Code = 0 → P y.Cluster)
 don : ∀ (c : Ab) (id : Int), P c → ∃ y, m18 c id = some y ∧ (y.Code = 0 → P y.Cluster)
 frg : ∀ (c : Ab) (m : Ai), P c → Bz m → ∃ y, m19 c m = some y ∧ (y.Code = 0 → P y.Cluster)
def rq : Nat → Ag
 | 0 => ⟨1, 1, 0, [⟨1, [], 0, 0, false, false⟩]⟩
 | 1 => ⟨1, 2, 1, [⟨3, [47, 97], 7, 0, false, false⟩]⟩
 | 2 => ⟨1, 3, 2, [⟨5, [47, 97], 9, -1, false, false⟩]⟩
 | 3 => ⟨2, 4, 3, [⟨3, [47, 97, 47, 98], 1, 0, true, true⟩]⟩
 | _ => ⟨2, 5, 4, [⟨6, [47, 97], 0, 0, false, false⟩]⟩
def rqs (n : Nat) : List Ag := (List.range n).map rq
def oD (i : Nat) : Prop := ∃ x, Av [(⟨1, [], 0, 0, false, false⟩ : TOp), (⟨3, ([47, 97] : Str), 7, 0, false, false⟩ : TOp), (⟨5, ([47, 97] : Str), 9, (-1), false, false⟩ : TOp), (⟨3, ([47, 97, 47, 98] : Str), 1, 0, true, true⟩ : TOp), (⟨6, ([47, 97] : Str), 0, 0, false, false⟩ : TOp)] (i : Int) = some x ∧ (⟨wi .i64 (1 + (wi .i64 (Int.tdiv (i : Int) 3))), wi .i64 ((i : Int) + 1), (i : Int), [x]⟩ : Ag) = rq i ∧ (rqs i).any (GZ (rq i)) = false ∧ m49 (rq i) = some 0
theorem QX : ∀ (i : Nat), i < 5 → oD i
 | 0, _ => ⟨⟨1, [], 0, 0, false, false⟩, rfl, rfl, rfl, by kernel_rfl⟩
 | 1, _ => ⟨⟨3, ([47, 97] : Str), 7, 0, false, false⟩, rfl, rfl, rfl, by kernel_rfl⟩
 | 2, _ => ⟨⟨5, ([47, 97] : Str), 9, (-1), false, false⟩, rfl, rfl, rfl, by kernel_rfl⟩
 | 3, _ => ⟨⟨3, ([47, 97, 47, 98] : Str), 1, 0, true, true⟩, rfl, rfl, rfl, by kernel_rfl⟩
 | 4, _ => ⟨⟨6, ([47, 97] : Str), 0, 0, false, false⟩, rfl, rfl, rfl, by kernel_rfl⟩
 | n + 5, h => absurd h (by omega)
theorem Ve (i : Nat) : rqs (i + 1) = rqs i ++ [rq i] := by unfold rqs; rw [List.range_succ, List.map_append]; rfl
theorem QK (i : Nat) : (rqs i).length = i := by unfold rqs; rw [List.length_map, List.length_range]
theorem cG : ∀ i : Nat, (rq i).Ops.length = 1
 | 0 | 1 | 2 | 3 | _ + 4 => rfl
theorem eE {c0 : Ab} (h0 : Inv c0) (hr : c0.Requests = []) : ∃ (k : Int) (c : Ab), AB JW NN (true, 0, c0.F, c0.Bad, c0.Replicas, c0.Ledger, c0.Requests) = some (.exit 0 (true, k, c.F, c.Bad, c.Replicas, c.Ledger, c.Requests)) ∧ Inv c ∧ c.Requests = rqs 5 := by
 obtain ⟨o, h1, k, c, rfl, h2⟩ := Ep (f := JW) (fun i t => i ≤ 5 ∧ ∃ c : Ab, t = (true, (i : Int), c.F, c.Bad, c.Replicas, c.Ledger, c.Requests) ∧ Inv c ∧ c.Requests = rqs i) 5 (fun o => ∃ (k : Int) (c : Ab), o = .exit 0 (true, k, c.F, c.Bad, c.Replicas, c.Ledger, c.Requests) ∧ Inv c ∧ c.Requests = rqs 5) (fun i t hi ht => by
  obtain ⟨hi5, c, rfl, h1, h2⟩ := ht
  unfold JW
  dsimp only
  by_cases hc : i < 5
  ·have hc' : (i : Int) < 5 := by omega
   obtain ⟨x, q1, q2, q3, q4⟩ := QX i hc
   have q5 : Ds (rq i) = 0 := by unfold Ds; rw [q4]; rfl
   have e1 : wi .i64 ((i : Int) + 1) = ((i + 1 : Nat) : Int) := wi1 (by omega)
   obtain ⟨h4, h5⟩ := Yl c (rq i) h1 ⟨by rw [cG]; omega, by rw [q5, q4]⟩ q5 (by rw [h2]; exact q3) (by rw [h2, QK]; exact hc)
   have h4 : m11 (⟨c.F, c.Bad, c.Replicas, c.Ledger, c.Requests⟩ : Ab) _ = _ := h4
   simp only [hc', decide_true, cond_true, obs, Ak, q1, q2, h4]
   exact .inl ⟨hc, _, by rw [e1]; rfl, hc, _, rfl, h5, by rw [Ve]; exact congrArg (· ++ [rq i]) h2⟩
  ·have hc' : ¬ (i : Int) < 5 := by omega
   simp only [hc', decide_false, cond_false, obs, Ak]
   have e5 : i = 5 := by omega
   subst e5
   exact .inr (.inl ⟨_, _, rfl, _, c, rfl, h1, h2⟩)) NN 0 (true, 0, c0.F, c0.Bad, c0.Replicas, c0.Ledger, c0.Requests) (by omega) (CH (by omega)) ⟨by omega, c0, rfl, h0, hr⟩
 exact ⟨k, c, h1, h2⟩
section
variable {P : Ab → Prop} (S : GA P)
include S
theorem eD (y4 : Int) {c0 : Ab} (h0 : P c0) : ∃ (k : Int) (c : Ab), AB (Ot y4) NN (0, c0.F, c0.Bad, c0.Replicas, c0.Ledger, c0.Requests) = some (.exit 5 (k, c.F, c.Bad, c.Replicas, c.Ledger, c.Requests)) ∧ P c := by
 obtain ⟨o, h1, k, c, rfl, h2⟩ := Ep (f := Ot y4) (fun i t => ∃ c : Ab, t = ((i : Int), c.F, c.Bad, c.Replicas, c.Ledger, c.Requests) ∧ P c) 240 (fun o => ∃ (k : Int) (c : Ab), o = .exit 5 (k, c.F, c.Bad, c.Replicas, c.Ledger, c.Requests) ∧ P c) (fun i t hi ht => by
  obtain ⟨c, rfl, h1⟩ := ht
  have hl := (S.inv c h1).full.led.len
  unfold Ot
  dsimp only
  by_cases hc : i < c.Ledger.length
  ·have hc' : (i : Int) < (c.Ledger.length : Int) := by omega
   have e1 : wi .i64 ((i : Int) + 1) = ((i + 1 : Nat) : Int) := wi1 (by omega)
   have e0 : ((0 : Int) == 0) = true := rfl
   simp only [hc', decide_true, cond_true, e0, obs, Ak, BI hc]
   cases c.Ledger[i].Kind == 1
   ·simp only [cond_false, obs, Ak, e1]
    exact .inl ⟨by omega, _, rfl, c, rfl, h1⟩
   ·obtain ⟨y, h3, h4⟩ := S.prp c (wi .i64 (1 + y4)) (i : Int) h1
    have h3 : m13 (⟨c.F, c.Bad, c.Replicas, c.Ledger, c.Requests⟩ : Ab) (wi .i64 (1 + y4)) (i : Int) = some y := h3
    simp only [cond_true, h3, obs]
    by_cases hy : y.Code = 0
    ·have e : (y.Code == 0) = true := by simpa using hy
     simp only [e, cond_true, obs, Ak, e1]
     exact .inl ⟨by omega, _, rfl, y.Cluster, rfl, h4 hy⟩
    ·have e : (y.Code == 0) = false := by simpa using hy
     simp only [e, cond_false, obs, Ak, e1]
     exact .inl ⟨by omega, _, rfl, c, rfl, h1⟩
  ·have hc' : ¬ (i : Int) < (c.Ledger.length : Int) := by omega
   simp only [hc', decide_false, cond_false, obs, Ak]
   exact .inr (.inl ⟨_, _, rfl, _, c, rfl, h1⟩)) NN 0 (0, c0.F, c0.Bad, c0.Replicas, c0.Ledger, c0.Requests) (by omega) (CH (by omega)) ⟨c0, rfl, h0⟩
 exact ⟨k, c, h1, h2⟩
theorem eF (y4 y5 : Int) {c0 : Ab} (h0 : P c0) : ∃ (k : Int) (c : Ab), AB (Oq y4 y5) NN (0, c0.F, c0.Bad, c0.Replicas, c0.Ledger, c0.Requests) = some (.exit 7 (k, c.F, c.Bad, c.Replicas, c.Ledger, c.Requests)) ∧ P c := by
 obtain ⟨o, h1, k, c, rfl, h2⟩ := Ep (f := Oq y4 y5) (fun i t => ∃ c : Ab, t = ((i : Int), c.F, c.Bad, c.Replicas, c.Ledger, c.Requests) ∧ P c) 6 (fun o => ∃ (k : Int) (c : Ab), o = .exit 7 (k, c.F, c.Bad, c.Replicas, c.Ledger, c.Requests) ∧ P c) (fun i t hi ht => by
  obtain ⟨c, rfl, h1⟩ := ht
  unfold Oq
  dsimp only
  by_cases hc : i < 6
  ·have hc' : (i : Int) < 6 := by omega
   have e1 : wi .i64 ((i : Int) + 1) = ((i + 1 : Nat) : Int) := wi1 (by omega)
   obtain ⟨y, h3, h4⟩ := S.com c (wi .i64 (1 + y4)) (wi .i64 (1 + y5)) (i : Int) h1
   have h3 : m14 (⟨c.F, c.Bad, c.Replicas, c.Ledger, c.Requests⟩ : Ab) (wi .i64 (1 + y4)) (wi .i64 (1 + y5)) (i : Int) = some y := h3
   simp only [hc', decide_true, cond_true, h3, obs]
   by_cases hy : y.Code = 0
   ·have e : (y.Code == 0) = true := by simpa using hy
    simp only [e, cond_true, obs, Ak, e1]
    exact .inl ⟨hc, _, rfl, y.Cluster, rfl, h4 hy⟩
   ·have e : (y.Code == 0) = false := by simpa using hy
    simp only [e, cond_false, obs, Ak, e1]
    exact .inl ⟨hc, _, rfl, c, rfl, h1⟩
  ·have hc' : ¬ (i : Int) < 6 := by omega
   simp only [hc', decide_false, cond_false]
   exact .inr (.inl ⟨_, _, rfl, _, c, rfl, h1⟩)) NN 0 (0, c0.F, c0.Bad, c0.Replicas, c0.Ledger, c0.Requests) (by omega) (CH (by omega)) ⟨c0, rfl, h0⟩
 exact ⟨k, c, h1, h2⟩
theorem eH (b : Bool) (k0 y4 : Int) {c : Ab} (h0 : P c) {y0 : Ac} (hy0 : y0.Code = 0 → P y0.Cluster) : ∃ (k : Int) (y : Ac), AB (Oo (b, k0, c.F, c.Bad, c.Replicas, c.Ledger, c.Requests) y4) NN (0, y0.Code, y0.Cluster.F, y0.Cluster.Bad, y0.Cluster.Replicas, y0.Cluster.Ledger, y0.Cluster.Requests) = some (.exit 9 (k, y.Code, y.Cluster.F, y.Cluster.Bad, y.Cluster.Replicas, y.Cluster.Ledger, y.Cluster.Requests)) ∧ (y.Code = 0 → P y.Cluster) := by
 have hl := (S.inv c h0).full.led.len
 obtain ⟨o, h1, k, y, rfl, h2⟩ := Ep (f := Oo (b, k0, c.F, c.Bad, c.Replicas, c.Ledger, c.Requests) y4) (fun i t => ∃ y : Ac, t = ((i : Int), y.Code, y.Cluster.F, y.Cluster.Bad, y.Cluster.Replicas, y.Cluster.Ledger, y.Cluster.Requests) ∧ (y.Code = 0 → P y.Cluster)) c.Ledger.length (fun o => ∃ (k : Int) (y : Ac), o = .exit 9 (k, y.Code, y.Cluster.F, y.Cluster.Bad, y.Cluster.Replicas, y.Cluster.Ledger, y.Cluster.Requests) ∧ (y.Code = 0 → P y.Cluster)) (fun i t hi ht => by
  obtain ⟨y, rfl, h1⟩ := ht
  unfold Oo
  dsimp only
  by_cases hc : i < c.Ledger.length
  ·have hc' : (i : Int) < (c.Ledger.length : Int) := by omega
   have e1 : wi .i64 ((i : Int) + 1) = ((i + 1 : Nat) : Int) := wi1 (by omega)
   simp only [hc', decide_true, cond_true, obs, Ak]
   cases y.Code != 0
   ·simp only [cond_false, obs, Ak]
    exact .inr (.inl ⟨_, _, rfl, _, y, rfl, h1⟩)
   ·obtain ⟨z, h3, h4⟩ := S.ado c (wi .i64 (1 + y4)) (i : Int) h0
    have h3 : m17 (⟨c.F, c.Bad, c.Replicas, c.Ledger, c.Requests⟩ : Ab) (wi .i64 (1 + y4)) (i : Int) = some z := h3
    simp only [cond_true, obs, Ak, h3, e1]
    exact .inl ⟨hc, _, rfl, z, rfl, h4⟩
  ·have hc' : ¬ (i : Int) < (c.Ledger.length : Int) := by omega
   simp only [hc', decide_false, cond_false, obs, Ak]
   exact .inr (.inl ⟨_, _, rfl, _, y, rfl, h1⟩)) NN 0 (0, y0.Code, y0.Cluster.F, y0.Cluster.Bad, y0.Cluster.Replicas, y0.Cluster.Ledger, y0.Cluster.Requests) (by omega) (CH (by omega)) ⟨y0, rfl, hy0⟩
 exact ⟨k, y, h1, h2⟩
end
theorem aH {σ τ : Type} {E : Option (LO σ)} {K : LO σ → Option (LO τ)} (G : σ → Prop) {Q : τ → Prop} (hE : ∃ v, E = some (.norm v) ∧ G v) (hK : ∀ v, G v → ∃ w, K (.norm v) = some (.norm w) ∧ Q w) : ∃ w, E.bind K = some (.norm w) ∧ Q w := by
 obtain ⟨v, rfl, h⟩ := hE
 exact hK v h
theorem or2 (a b : Bool) : (bif a then some (LO.norm a) else some (LO.norm b) : Option (LO Bool)) = some (.norm (a || b)) := by cases a <;> rfl
theorem or3 (a b c : Bool) : (bif a then some (LO.norm a) else bif b then some (LO.norm b) else some (LO.norm c) : Option (LO Bool)) = some (.norm (a || (b || c))) := by cases a <;> cases b <;> rfl
theorem or4 (a b c d : Bool) : (bif a then some (LO.norm a) else bif b then some (LO.norm b) else bif c then some (LO.norm c) else some (LO.norm d) : Option (LO Bool)) = some (.norm (a || (b || (c || d)))) := by cases a <;> cases b <;> cases c <;> rfl
section
variable {P : Ab → Prop} (S : GA P)
include S
theorem Y6 {code : List U8} (H : Lm code) {k : Nat} (hk : k < 60) {c : Ab} (h0 : P c) : ∃ w, Jf code (true, (k : Int), c.F, c.Bad, c.Replicas, c.Ledger, c.Requests) = some (.norm w) ∧ ∃ c' : Ab, w = (true, ((k + 1 : Nat) : Int), c'.F, c'.Bad, c'.Replicas, c'.Ledger, c'.Requests) ∧ P c' := by
 have hl := (S.inv c h0).full.led.len
 have hk' : (k : Int) < 60 := by omega
 have ew : ∀ j : Nat, j ≤ 100 → wi .i64 ((k : Int) + (j : Int)) = (k : Int) + j := fun j hj => DV (by omega) (by omega)
 have w9 : wi .i64 ((k : Int) + 9) = (k : Int) + 9 := ew 9 (by omega)
 have w20 : wi .i64 ((k : Int) + 20) = (k : Int) + 20 := ew 20 (by omega)
 have w30 : wi .i64 ((k : Int) + 30) = (k : Int) + 30 := ew 30 (by omega)
 have w40 : wi .i64 ((k : Int) + 40) = (k : Int) + 40 := ew 40 (by omega)
 have w50 : wi .i64 ((k : Int) + 50) = (k : Int) + 50 := ew 50 (by omega)
 have w60 : wi .i64 ((k : Int) + 60) = (k : Int) + 60 := ew 60 (by omega)
 have w70 : wi .i64 ((k : Int) + 70) = (k : Int) + 70 := ew 70 (by omega)
 have w80 : wi .i64 ((k : Int) + 80) = (k : Int) + 80 := ew 80 (by omega)
 have w1 : wi .i64 ((k : Int) + 1) = ((k + 1 : Nat) : Int) := wi1 (by omega)
 have wl : wi .i64 ((c.Ledger.length : Int) + 1) = (c.Ledger.length : Int) + 1 := DV (by omega) (by omega)
 obtain ⟨y4, a4, _⟩ := Hf H (i := (k : Int) + 9) (n := 4) (by omega) (by omega)
 obtain ⟨y5, a5, _⟩ := Hf H (i := (k : Int) + 20) (n := 3) (by omega) (by omega)
 obtain ⟨y6, a6, _⟩ := Hf H (i := (k : Int) + 30) (n := 6) (by omega) (by omega)
 obtain ⟨y7, a7, _⟩ := Hf H (i := (k : Int) + 40) (n := (c.Ledger.length : Int) + 1) (by omega) (by omega)
 obtain ⟨y8, a8, _⟩ := Hf H (i := (k : Int) + 50) (n := 14) (by omega) (by omega)
 obtain ⟨y12, a12, _⟩ := Hf H (i := (k : Int) + 60) (n := 3) (by omega) (by omega)
 obtain ⟨y18, a18, _⟩ := Hf H (i := (k : Int) + 60) (n := 4) (by omega) (by omega)
 obtain ⟨y19, a19, _⟩ := Hf H (i := (k : Int) + 70) (n := 3) (by omega) (by omega)
 obtain ⟨y20, a20, _⟩ := Hf H (i := (k : Int) + 80) (n := 2) (by omega) (by omega)
 unfold Jf
 simp only [hk', decide_true, cond_true, obs, Ak, w9, w20, w30, w40, w50, w60, w70, w80, w1, wl, a4, a5, a6, a7, a8, a12, a18, a19, a20, or2, or3, or4]
 refine aH (fun w => ∃ c' : Ab, w = (true, c'.F, c'.Bad, c'.Replicas, c'.Ledger, c'.Requests) ∧ P c') (aH (fun v => ∃ (y : Ac) (c' : Ab), v = (y.Code, y.Cluster.F, y.Cluster.Bad, y.Cluster.Replicas, y.Cluster.Ledger, y.Cluster.Requests, c'.F, c'.Bad, c'.Replicas, c'.Ledger, c'.Requests) ∧ P c' ∧ (y.Code = 0 → P y.Cluster)) ?_ ?_) ?_
 ·have no : ∀ c' : Ab, P c' → ∃ (y : Ac) (c'' : Ab), ((1, 0, [], [], [], [], c'.F, c'.Bad, c'.Replicas, c'.Ledger, c'.Requests) : Int × Int × (List Int) × (List Af) × (List Ai) × (List Ag) × Int × (List Int) × (List Af) × (List Ai) × (List Ag)) = (y.Code, y.Cluster.F, y.Cluster.Bad, y.Cluster.Replicas, y.Cluster.Ledger, y.Cluster.Requests, c''.F, c''.Bad, c''.Replicas, c''.Ledger, c''.Requests) ∧ P c'' ∧ (y.Code = 0 → P y.Cluster) := fun c' hc => ⟨⟨1, ⟨0, [], [], [], []⟩⟩, c', rfl, hc, fun h => by cases h⟩
  cases (y8 == 0) || (y8 == 1)
  rotate_left
  ·obtain ⟨y, h1, h2⟩ := S.pro c (wi .i64 (1 + y4)) (wi .i64 (1 + y5)) y6 h0
   have h1 : m12 (⟨c.F, c.Bad, c.Replicas, c.Ledger, c.Requests⟩ : Ab) (wi .i64 (1 + y4)) (wi .i64 (1 + y5)) y6 = some y := h1
   simp only [cond_true, h1, obs]
   exact ⟨_, rfl, y, c, rfl, h0, h2⟩
  simp only [cond_false]
  cases (y8 == 2) || ((y8 == 3) || ((y8 == 4) || (y8 == 5)))
  rotate_left
  ·obtain ⟨j, c', h1, h2⟩ := eD S y4 h0
   simp only [cond_true, h1, obs, if_true]
   exact ⟨_, rfl, no c' h2⟩
  simp only [cond_false]
  cases (y8 == 6) || ((y8 == 7) || (y8 == 8))
  rotate_left
  ·obtain ⟨j, c', h1, h2⟩ := eF S y4 y5 h0
   simp only [cond_true, h1, obs, if_true]
   exact ⟨_, rfl, no c' h2⟩
  simp only [cond_false]
  cases y8 == 9
  rotate_left
  ·obtain ⟨y, h1, h2⟩ := S.chg c (wi .i64 (1 + y4)) (wi .i64 (1 + y12)) h0
   have h1 : m15 (⟨c.F, c.Bad, c.Replicas, c.Ledger, c.Requests⟩ : Ab) (wi .i64 (1 + y4)) (wi .i64 (1 + y12)) = some y := h1
   simp only [cond_true, h1, obs]
   exact ⟨_, rfl, y, c, rfl, h0, h2⟩
  simp only [cond_false]
  cases y8 == 10
  rotate_left
  ·obtain ⟨y, h1, h2⟩ := S.nwc c (wi .i64 (1 + y4)) h0
   have h1 : m16 (⟨c.F, c.Bad, c.Replicas, c.Ledger, c.Requests⟩ : Ab) (wi .i64 (1 + y4)) = some y := h1
   simp only [cond_true, h1, obs]
   exact ⟨_, rfl, y, c, rfl, h0, h2⟩
  simp only [cond_false]
  cases y8 == 11
  rotate_left
  ·obtain ⟨y, h1, h2⟩ := S.ado c (wi .i64 (1 + y4)) y7 h0
   have h1 : m17 (⟨c.F, c.Bad, c.Replicas, c.Ledger, c.Requests⟩ : Ab) (wi .i64 (1 + y4)) y7 = some y := h1
   obtain ⟨j, z, h3, h4⟩ := eH S true (k : Int) y4 h0 h2
   simp only [cond_true, h1, h3, obs, if_true]
   exact ⟨_, rfl, z, c, rfl, h0, h4⟩
  simp only [cond_false]
  cases y8 == 12
  rotate_left
  ·obtain ⟨y, h1, h2⟩ := S.don c (wi .i64 (1 + y4)) h0
   have h1 : m18 (⟨c.F, c.Bad, c.Replicas, c.Ledger, c.Requests⟩ : Ab) (wi .i64 (1 + y4)) = some y := h1
   simp only [cond_true, h1, obs]
   exact ⟨_, rfl, y, c, rfl, h0, h2⟩
  simp only [cond_false]
  have frg : ∀ (a b d e : Int) (cs : List AP), cs.length ≤ 1 → ∃ y, m19 (⟨c.F, c.Bad, c.Replicas, c.Ledger, c.Requests⟩ : Ab) (⟨a, b, wi .i64 (1 + y4), d, e, cs, []⟩ : Ai) = some y ∧ (y.Code = 0 → P y.Cluster) := fun a b d e cs hcs => S.frg c _ h0 ⟨Nat.le_trans hcs (by omega), Nat.zero_le _⟩
  cases (wi .i64 (1 + y18)) == 4
  ·obtain ⟨y, h1, h2⟩ := frg (wi .i64 (1 + y18)) y19 (wi .i64 (1 + y5)) y6 [] (Nat.zero_le _)
   simp only [cond_false, obs, Ak, h1]
   exact ⟨_, rfl, y, c, rfl, h0, h2⟩
  ·simp only [cond_true]
   cases y20 == 0
   ·obtain ⟨y, h1, h2⟩ := frg 4 (wi .i64 (1 + y19)) 0 0 [] (Nat.zero_le _)
    simp only [cond_false, obs, Ak, h1]
    exact ⟨_, rfl, y, c, rfl, h0, h2⟩
   ·obtain ⟨y, h1, h2⟩ := frg 4 (wi .i64 (1 + y19)) 0 0 [(⟨wi .i64 (1 + y5), 0, y6⟩ : AP)] (Nat.le_refl _)
    simp only [cond_true, obs, Ak, h1]
    exact ⟨_, rfl, y, c, rfl, h0, h2⟩
 ·rintro _ ⟨y, c', rfl, h1, h2⟩
  by_cases hy : y.Code = 0
  ·have e : (y.Code == 0) = true := by simpa using hy
   have f : m20 (⟨y.Cluster.F, y.Cluster.Bad, y.Cluster.Replicas, y.Cluster.Ledger, y.Cluster.Requests⟩ : Ab) = some 0 := IO_ (S.inv _ (h2 hy))
   simp only [e, cond_true, obs, Ak, f]
   exact ⟨_, rfl, y.Cluster, rfl, h2 hy⟩
  ·have e : (y.Code == 0) = false := by simpa using hy
   have f : m20 (⟨c'.F, c'.Bad, c'.Replicas, c'.Ledger, c'.Requests⟩ : Ab) = some 0 := IO_ (S.inv _ h1)
   simp only [e, cond_false, obs, Ak, f]
   exact ⟨_, rfl, c', rfl, h1⟩
 ·rintro _ ⟨c', rfl, h1⟩
  exact ⟨_, rfl, c', rfl, h1⟩
theorem eG {code : List U8} (H : Lm code) {c0 : Ab} (h0 : P c0) : ∃ (k : Int) (c : Ab), AB (Jf code) NN (true, 0, c0.F, c0.Bad, c0.Replicas, c0.Ledger, c0.Requests) = some (.exit 2 (true, k, c.F, c.Bad, c.Replicas, c.Ledger, c.Requests)) ∧ P c := by
 obtain ⟨o, h1, k, c, rfl, h2⟩ := Ep (f := Jf code) (fun i t => ∃ c : Ab, t = (true, (i : Int), c.F, c.Bad, c.Replicas, c.Ledger, c.Requests) ∧ P c) 60 (fun o => ∃ (k : Int) (c : Ab), o = .exit 2 (true, k, c.F, c.Bad, c.Replicas, c.Ledger, c.Requests) ∧ P c) (fun i t hi ht => by
  obtain ⟨c, rfl, h1⟩ := ht
  by_cases hc : i < 60
  ·obtain ⟨w, h2, c', rfl, h3⟩ := Y6 S H hc h1
   exact .inl ⟨hc, _, h2, c', rfl, h3⟩
  ·have hc' : ¬ (i : Int) < 60 := by omega
   unfold Jf
   simp only [hc', decide_false, cond_false, obs, Ak]
   exact .inr (.inl ⟨_, _, rfl, _, c, rfl, h1⟩)) NN 0 (true, 0, c0.F, c0.Bad, c0.Replicas, c0.Ledger, c0.Requests) (by omega) (CH (by omega)) ⟨c0, rfl, h0⟩
 exact ⟨k, c, h1, h2⟩
end
theorem Tm {bs : List Int} (h : bs.length ≤ 1) (hb : GR 1 bs = 0) : m10 1 bs = some ⟨0, ⟨1, bs, (D9 1 bs).map Ko, [], []⟩⟩ := by
 have e1 : m28 1 bs = some 0 := by
  unfold m28
  have e : ¬ ((bs.length : Int) > 1) := by omega
  rw [OS 1 bs (by omega), hb, decide_eq_false e]; rfl
 have hol : (D9 1 bs).length ≤ 1000 := EE (f := 1) (by omega) (by omega)
 have e3 : m29 bs = some bs := OX (by omega) (by decide)
 unfold m10
 rw [eJ, e1, e3, Je (by omega) bs (by omega), show inR 1 1 2 = true from rfl]
 simp only [Bool.not_true, cond_false, obs, bne_self_eq_false]
 rw [PR _ hol]
 rfl
theorem Yp {bs : List Int} (h : bs.length ≤ 1) (hb : GR 1 bs = 0) : Inv ⟨1, bs, (D9 1 bs).map Ko, [], []⟩ := by
 have hol : (D9 1 bs).length ≤ 1000 := EE (f := 1) (by omega) (by omega)
 have hc : Io 1 [] = 0 := rfl
 refine ⟨⟨⟨OM hc, (by show (bs.length : Int) ≤ 1; omega), Nat.zero_le _, hb, ?_, fun r hr => ?_⟩, hc, rfl⟩, ⟨(by show bs.length ≤ 1048576; omega), (by simp only [List.length_map]; omega), Nat.zero_le _, fun x hx => (by cases hx), Nat.zero_le _, fun x hx => (by cases hx)⟩, List.Pairwise.nil, fun x hx => (by cases hx), fun x hx => (by cases hx), fun x hx => (by cases hx), rfl, Nat.zero_le _⟩
 ·show ((D9 1 bs).map Ko).map (·.Id) = D9 1 bs
  rw [List.map_map]
  exact List.map_id _
 ·obtain ⟨id, hid, rfl⟩ := List.mem_map.1 hr
  have hu := (HD _ _).1 (List.mem_filter.1 hid).1
  refine HL (NF ?_ (by show (0 : Int) ≤ 0 ∧ (0 : Int) ≤ 20; omega) (by show (0 : Int) ≤ 0 ∧ (0 : Int) ≤ 30; omega)) rfl (by show (0 : Int) ≤ _; omega)
  show 1 ≤ id ∧ id ≤ CG 1
  rw [D7 (by omega)]
  omega
theorem jY {P : Ab → Prop} (S : GA P) (h0 : ∀ c, Inv c → c.Requests = rqs 5 → P c) {code : List U8} (H : Lm code) : ∃ c, m5 code = some (c, true) ∧ P c := by
 obtain ⟨y1, a1, b1, _⟩ := Hf H (i := 0) (n := 6) (by omega) (by omega)
 have key : ∀ bs : List Int, bs.length ≤ 1 → GR 1 bs = 0 → (D9 1 bs).length + bs.length = 4 → ∃ c, ((some (LO.norm bs) : Option (LO (List Int))).bind (Ak (fun s2 =>
 (m10 1 s2).bind fun y2 =>
 (AB (JW) NN ((wi .i64 ((y2.Cluster.Replicas.length : Int) + (s2.length : Int))) == 4, 0, y2.Cluster.F, y2.Cluster.Bad, y2.Cluster.Replicas, y2.Cluster.Ledger, y2.Cluster.Requests)).bind (Ak (fun _ => none) (fun i4 s8 =>
  if i4 = 0 then
  (AB (Jf code) NN (s8.1, 0, s8.2.2.1, s8.2.2.2.1, s8.2.2.2.2.1, s8.2.2.2.2.2.1, s8.2.2.2.2.2.2)).bind (Ak (fun _ => none) (fun i23 s46 =>
   if i23 = 2 then
   some ((⟨s46.2.2.1, s46.2.2.2.1, s46.2.2.2.2.1, s46.2.2.2.2.2.1, s46.2.2.2.2.2.2⟩ : Ab), s46.1)
   else
   none) (fun s46 =>
   some ((⟨0, [], [], [], []⟩ : Ab), false)))
  else
  none) (fun s8 =>
  some ((⟨0, [], [], [], []⟩ : Ab), false)))) (fun i1 s2 =>
 none) (fun s2 =>
 some ((⟨0, [], [], [], []⟩ : Ab), false)))) = some (c, true) ∧ P c := fun bs h1 h2 h3 => by
  have e : (wi .i64 ((((D9 1 bs).map Ko).length : Int) + (bs.length : Int)) == 4) = true := by
   rw [List.length_map, DV (by omega) (by omega), beq_iff_eq]; omega
  obtain ⟨k, c, q1, q2, q5⟩ := eE (Yp h1 h2) rfl
  obtain ⟨k2, c2, q3, q4⟩ := eG S H (h0 c q2 q5)
  have q1 : AB JW NN (true, 0, 1, bs, (D9 1 bs).map Ko, [], []) = _ := q1
  simp only [obs, Ak, Tm h1 h2, e, q1, if_true, q3]
  exact ⟨c2, rfl, q4⟩
 unfold m5
 rw [a1]
 simp only [obs]
 by_cases h1 : y1 > 0
 rotate_left
 ·simp only [h1, decide_false, cond_false]
  exact key [] (by decide) rfl rfl
 by_cases h2 : y1 < 5
 rotate_left
 ·simp only [h1, h2, decide_true, decide_false, cond_true, cond_false]
  exact key [] (by decide) rfl rfl
 have h5 : y1 = 1 ∨ y1 = 2 ∨ y1 = 3 ∨ y1 = 4 := by omega
 have ha : Bw 8 [] [y1] = some [y1] := OX (by show 1 ≤ 1048576; omega) (by decide)
 simp only [h1, h2, decide_true, cond_true, ha, obs]
 rcases h5 with rfl | rfl | rfl | rfl <;> exact key _ (by decide) rfl rfl
def QC (c : Ab) : Prop := Inv c ∧ c.Requests = rqs 5
theorem Fp {c : Ab} (h : QC c) {x : Option Ac} (hx : ∃ y, x = some y ∧ GB c y) : ∃ y, x = some y ∧ (y.Code = 0 → QC y.Cluster) := by
 obtain ⟨y, h1, h2⟩ := hx
 exact ⟨y, h1, fun h0 => ⟨(h2 h0).1, (h2 h0).2.trans h.2⟩⟩
theorem Qf : GA QC where
 inv c h := h.1
 pro c id s v h := Fp h (Yh c id s v h.1)
 prp c id i h := Fp h (Yg c id i h.1)
 com c id s v h := Fp h (YX c id s v h.1)
 chg c id v h := Fp h (Za c id v h.1)
 nwc c id h := Fp h (Ym c id h.1)
 ado c id pl h := Fp h (Zo c id pl h.1)
 don c id h := Fp h (YO c id h.1)
 frg c m h g := Fp h (YI c m h.1 g)
theorem Y5 {code : List U8} (H : Lm code) : ∃ c, m5 code = some (c, true) ∧ QC c := jY Qf (fun _ h1 h2 => ⟨h1, h2⟩) H
open Go Go.Rf
noncomputable section
def stp (s : AQ) (i : Nat) : Option AQ := match Tt s (rq i) with
 | some (_, s', 0) => some s'
 | _ => none
def okS (s : AQ) : Bool := decide (PZ s = some s) && decide (m7 s s = some true)
def O9 : Nat → AQ → List Nat → Bool
 | n, s, D => okS s && [0, 1, 2, 3, 4].all fun i => match stp s i with
  | none => false
  | some s' => bif D.contains i then decide (s' = s) else match n with
   | 0 => false
   | n + 1 => O9 n s' (i :: D)
def st0 : AQ := ⟨[⟨[47], 0, 0, 0, 0⟩], [], 0, []⟩
theorem WM : O9 5 st0 [] = true := by kernel_rfl
end
theorem Uy {s s' : AQ} {i : Nat} (h : stp s i = some s') : ∃ r, Tt s (rq i) = some (r, s', 0) := by
 unfold stp at h
 split at h
 ·rename_i r s1 e
  injection h with h
  subst h
  exact ⟨r, e⟩
 ·cases h
noncomputable def P4 : AQ → List Nat → Option AQ
 | s, [] => some s
 | s, i :: l => (stp s i).bind fun s' => P4 s' l
theorem YL {n : Nat} {s : AQ} {D : List Nat} (h : O9 n s D = true) : okS s = true := by
 unfold O9 at h
 rw [Bool.and_eq_true] at h
 exact h.1
theorem TL {n : Nat} {s : AQ} {D : List Nat} (h : O9 n s D = true) {i : Nat} (hi : i < 5) : ∃ s', stp s i = some s' ∧ (s' = s ∨ ∃ n' D', O9 n' s' D' = true) := by
 unfold O9 at h
 rw [Bool.and_eq_true, List.all_eq_true] at h
 have hm : i ∈ [0, 1, 2, 3, 4] := by
  have : i = 0 ∨ i = 1 ∨ i = 2 ∨ i = 3 ∨ i = 4 := by omega
  simpa using this
 have h2 := h.2 i hm
 cases e : stp s i with
 | none => rw [e] at h2; cases h2
 | some s' =>
  rw [e] at h2
  dsimp only at h2
  refine ⟨s', rfl, ?_⟩
  cases hc : D.contains i
  ·rw [hc] at h2
   cases n with
   | zero => cases h2
   | succ n => exact .inr ⟨n, i :: D, h2⟩
  ·rw [hc] at h2
   exact .inl (of_decide_eq_true h2)
theorem KU : ∀ (l : List Nat) {n : Nat} {s : AQ} {D : List Nat}, O9 n s D = true → (∀ i ∈ l, i < 5) → ∃ s', P4 s l = some s' ∧ okS s' = true
 | [], n, s, D, h, _ => ⟨s, rfl, YL h⟩
 | i :: l, n, s, D, h, hl => by
  obtain ⟨s', h1, h2⟩ := TL h (hl i List.mem_cons_self)
  have hl' : ∀ j ∈ l, j < 5 := fun j hj => hl j (List.mem_cons_of_mem _ hj)
  have key : ∃ s'', P4 s' l = some s'' ∧ okS s'' = true := by
   rcases h2 with rfl | ⟨n', D', h3⟩
   ·exact KU l h hl'
   ·exact KU l h3 hl'
  obtain ⟨s'', k1, k2⟩ := key
  exact ⟨s'', by unfold P4; rw [h1]; exact k1, k2⟩
theorem Vd {l : List Nat} (hl : l.length ≤ 40) (h5 : ∀ i ∈ l, i < 5) {s : AQ} (hr : P4 st0 l = some s) (ho : PZ s = some s) : ∃ r, m53 (l.map rq) = some ⟨0, r, s⟩ := by
 have e40 : ¬ ((l.map rq).length : Int) > 40 := by rw [List.length_map]; omega
 obtain ⟨o, h1, r, hq⟩ := Ep (f := Nk (l.map rq)) (fun i t => ∃ (r : BK) (s' : AQ), t = ((i : Int), r.Code, r.Value, r.Path, s'.Nodes, s'.Sessions, s'.Now, s'.Marks, (0 : Int)) ∧ P4 s' (l.drop i) = some s) l.length (fun o => ∃ r : BK, o = .exit 0 ((l.length : Int), r.Code, r.Value, r.Path, s.Nodes, s.Sessions, s.Now, s.Marks, (0 : Int))) (fun i t hi ht => by
  obtain ⟨r, s', rfl, hs⟩ := ht
  unfold Nk
  dsimp only
  by_cases hc : i < l.length
  ·have hlm : i < (l.map rq).length := by rw [List.length_map]; exact hc
   have hc' : (i : Int) < ((l.map rq).length : Int) := by omega
   have e1 : wi .i64 ((i : Int) + 1) = ((i + 1 : Nat) : Int) := wi1 (by omega)
   rw [List.drop_eq_getElem_cons hc] at hs
   unfold P4 at hs
   cases e : stp s' l[i] with
   | none => rw [e] at hs; cases hs
   | some s1 =>
    rw [e] at hs
    obtain ⟨r1, h3⟩ := Uy e
    obtain ⟨_, _, _, _, h4⟩ := QX l[i] (h5 _ (List.getElem_mem hc))
    have h3 : Tt (⟨s'.Nodes, s'.Sessions, s'.Now, s'.Marks⟩ : AQ) (rq l[i]) = some (r1, s1, 0) := h3
    simp only [hc', decide_true, cond_true, BI hlm, List.getElem_map, obs, h4, h3, bne_self_eq_false, cond_false, e1]
    exact .inl ⟨hc, _, rfl, r1, s1, rfl, hs⟩
  ·have hlm : ¬ (i : Int) < ((l.map rq).length : Int) := by rw [List.length_map]; omega
   have ei : i = l.length := by omega
   subst ei
   rw [List.drop_length] at hs
   have hs : some s' = some s := hs
   injection hs with hs
   subst hs
   simp only [hlm, decide_false, cond_false]
   exact .inr (.inl ⟨_, _, rfl, r, rfl⟩)) NN 0 (0, 0, 0, [], (Lt 0).Nodes, (Lt 0).Sessions, (Lt 0).Now, (Lt 0).Marks, 0) (by omega) (CH (by omega)) ⟨⟨0, 0, []⟩, st0, rfl, hr⟩
 subst hq
 have ho : PZ (⟨s.Nodes, s.Sessions, s.Now, s.Marks⟩ : AQ) = some s := ho
 unfold m53 m88
 simp only [e40, decide_false, cond_false, h1, obs, Ak, if_true, ho]
 exact ⟨_, rfl⟩
open Go Go.Rf
theorem W0 {c : Ab} (I : Inv c) {v : Int} (h : v ∈ E0 c.F c.Ledger) : 0 ≤ v ∧ v ≤ 5 := by
 have key : ∀ s : Int, 0 ≤ (E9 c.F c.Ledger s).headD 0 ∧ (E9 c.F c.Ledger s).headD 0 ≤ 5 := fun s => by
  cases e : E9 c.F c.Ledger s with
  | nil => exact ⟨by decide, by decide⟩
  | cons x r =>
   have hx : x ∈ E9 c.F c.Ledger s := by rw [e]; exact List.mem_cons_self
   have hd := (List.mem_filter.1 hx).2
   unfold Lx at hd
   obtain ⟨y, _, hy⟩ := List.any_eq_true.1 hd
   unfold OK at hy
   rw [Bool.and_eq_true] at hy
   exact LR I (OL I hy.2)
 have hh : ∀ i, v ∈ Ie c.F c.Ledger i → 0 ≤ v ∧ v ≤ 5 := fun i h => by
  obtain ⟨s, _, rfl⟩ := List.mem_map.1 h
  exact key s
 unfold E0 at h
 cases e : DY (EG c.F c.Ledger) 30 with
 | none => rw [e] at h; exact hh _ h
 | some i => rw [e] at h; exact hh _ h
def Fh (vs : List Int) : List Nat := (vs.filter fun v => decide (v > 0)).map fun v => (v - 1).toNat
theorem SZ (a b : List Int) : Fh (a ++ b) = Fh a ++ Fh b := by unfold Fh; rw [List.filter_append, List.map_append]
theorem LV (a : List Int) : (Fh a).length ≤ a.length := by unfold Fh; rw [List.length_map]; exact List.length_filter_le _ _
theorem Yc {v : Int} (h : 0 < v ∧ v ≤ 5) : Av (rqs 5) (wi .i64 (v - 1)) = some (rq (v - 1).toNat) := by
 have : v = 1 ∨ v = 2 ∨ v = 3 ∨ v = 4 ∨ v = 5 := by omega
 rcases this with rfl | rfl | rfl | rfl | rfl <;> rfl
theorem NL {c : Ab} (F : QC c) {r : Af} (hr : r ∈ c.Replicas) : ∃ y, m22 c r = some y ∧ y.Code = 0 ∧ m7 y.State y.State = some true := by
 obtain ⟨I, h5⟩ := F
 obtain ⟨q1, _, q3⟩ := Ee (I.full.reps r hr)
 obtain ⟨_, _, b3⟩ := DC q1
 obtain ⟨d, hd⟩ : ∃ d : Nat, r.Done = d := ⟨r.Done.toNat, by omega⟩
 have hdl : d ≤ (E0 c.F c.Ledger).length := by omega
 have hll := Jz c.F c.Ledger
 obtain ⟨vs, hvs⟩ : ∃ vs, vs = (E0 c.F c.Ledger).take d := ⟨_, rfl⟩
 have hvl : vs.length ≤ 30 := by rw [hvs, List.length_take]; omega
 have hv5 : ∀ v ∈ vs, 0 ≤ v ∧ v ≤ 5 := fun v hv => W0 I (List.mem_of_mem_take (by rw [hvs] at hv; exact hv))
 have hp5 : ∀ i ∈ Fh vs, i < 5 := fun i hi => by
  obtain ⟨v, hv, rfl⟩ := List.mem_map.1 hi
  have h1 := (List.mem_filter.1 hv).2
  have h2 := hv5 v (List.mem_filter.1 hv).1
  have h3 : v > 0 := of_decide_eq_true h1
  omega
 obtain ⟨s, k1, k2⟩ := KU (Fh vs) WM hp5
 unfold okS at k2
 rw [Bool.and_eq_true] at k2
 obtain ⟨a, ha⟩ := Vd (Nat.le_trans (LV vs) (by omega)) hp5 k1 (of_decide_eq_true k2.1)
 refine ⟨⟨0, a, s⟩, ?_, rfl, of_decide_eq_true k2.2⟩
 unfold m22 m51
 rw [KL I.full.led (Nx I), obs, hd, Gx hdl, obs, obs, ← hvs]
 rw [Dk (f := JZ c vs) (s0 := (0, [], 0)) (fun i => ((i : Int), (Fh (vs.take i)).map rq, (0 : Int))) vs.length (.exit 0 ((vs.length : Int), (Fh (vs.take vs.length)).map rq, (0 : Int))) (fun i hi => ?_) ?_ rfl (CH (by omega)) rfl]
 ·rw [List.take_length]
  simp only [obs, Ak, if_true, ha]
 ·unfold JZ
  simp only [Int.lt_irrefl, decide_false, cond_false]
 ·have hc' : (i : Int) < (vs.length : Int) := by omega
  have e1 : wi .i64 ((i : Int) + 1) = ((i + 1 : Nat) : Int) := wi1 (by omega)
  have hv := hv5 _ (List.getElem_mem hi)
  have hoff : m52 c vs[i] = true := by
   unfold m52
   rw [h5, QK]
   exact decide_eq_true (by omega)
  have ht : vs.take (i + 1) = vs.take i ++ [vs[i]] := List.take_succ_eq_append_getElem hi
  unfold JZ
  simp only [hc', decide_true, cond_true, BI hi, obs, hoff, Bool.not_true, cond_false, ht, SZ]
  by_cases h0 : vs[i] > 0
  ·have hpk : Fh [vs[i]] = [(vs[i] - 1).toNat] := by
    unfold Fh
    rw [List.filter_cons_of_pos (by simpa using h0)]; rfl
   have hpl := LV (vs.take i)
   rw [List.length_take] at hpl
   rw [h5, Yc ⟨h0, hv.2⟩]
   simp only [h0, decide_true, cond_true, obs]
   rw [Xy (by rw [List.length_map]; show _ + 1 ≤ _; omega) (by decide)]
   simp only [obs, Ak, e1, hpk, List.map_append]
   rfl
  ·have hpk : Fh [vs[i]] = [] := by
    unfold Fh
    rw [List.filter_cons_of_neg (by simpa using h0)]; rfl
   simp only [h0, decide_false, cond_false, obs, Ak, e1, hpk, List.append_nil]
theorem Po {c : Ab} {r r' : Af} (h : r.Done = r'.Done) : m22 c r = m22 c r' := by
 unfold m22 m51
 rw [h]
theorem cJ (c : Ab) (O : Lp c) (h : c.Replicas.length ≤ 1048576) {k : Nat} (hk : k < c.Replicas.length) : m23 c c.Replicas[k].Id = some (some c.Replicas[k]) := by
 unfold m23
 rw [show m54 c.Replicas (fun x0_ => some (m55 x0_ c.Replicas[k].Id)) = some (ixI (SS c c.Replicas[k].Id)) from IK (CH h) (Dv h) (fun x _ => rfl), obs]
 cases e : SS c c.Replicas[k].Id with
 | none =>
  have := (Nz.1 e) k hk
  rw [Em hk] at this
  simp at this
 | some i =>
  obtain ⟨hi, _, h2⟩ := Ig.1 e
  rw [Em hi] at h2
  have : c.Replicas[i].Id = c.Replicas[k].Id := by simpa using h2
  have := eM O hi hk this
  subst this
  have h1 : ¬ (ixI (some i) < 0) := by simp [ixI]
  simp only [h1, decide_false, cond_false]
  rw [show ixI (some i) = (i : Int) from rfl, BI hi]; rfl
theorem LH {c : Ab} (F : QC c) {k : Nat} (hk : k < c.Replicas.length) : m6 c c.Replicas[k].Id = m22 c c.Replicas[k] := by
 have e0 : ((0 : Int) != 0) = false := rfl
 have hr := cJ c F.1.full.toLp F.1.good.rep hk
 have hf : m21 c c.Replicas[k].Id = some 0 := by
  unfold m21
  simp only [IO_ F.1, obs, e0, cond_false, hr, FZ]
 unfold m6
 simp only [hf, obs, e0, cond_false, hr, FZ]
 cases m22 c c.Replicas[k] <;> rfl
theorem U4 {c : Ab} (I : Inv c) : 0 < c.Replicas.length := by
 have h1 := I.full.ids
 have h2 := I.full.badl
 rw [I.f1] at h1 h2
 rw [← List.length_map (f := (·.Id)), h1]
 have hb : c.Bad = [] ∨ ∃ b, c.Bad = [b] := by
  cases e : c.Bad with
  | nil => exact .inl rfl
  | cons x r =>
   rw [e] at h2
   simp only [List.length_cons] at h2
   cases r with
   | nil => exact .inr ⟨x, rfl⟩
   | cons y r => simp only [List.length_cons] at h2; omega
 have key : ∃ v, v ∈ D9 1 c.Bad := by
  by_cases h3 : (1 : Int) ∈ c.Bad
  ·refine ⟨2, List.mem_filter.2 ⟨(HD _ _).2 ⟨by decide, by decide⟩, ?_⟩⟩
   have : (2 : Int) ∉ c.Bad := fun h4 => by
    rcases hb with hb | ⟨b, hb⟩
    ·rw [hb] at h4; cases h4
    ·rw [hb, List.mem_singleton] at h3 h4; omega
   unfold PO
   simpa using this
  ·refine ⟨1, List.mem_filter.2 ⟨(HD _ _).2 ⟨by decide, by decide⟩, ?_⟩⟩
   unfold PO
   simpa using h3
 obtain ⟨v, hv⟩ := key
 exact List.length_pos_of_mem hv
theorem fU {c : Ab} (F : QC c) {i : Nat} (hi : i < c.Replicas.length) : AB (M5 (false, (i : Int)) (c, true)) NN (false, 0) = some (.exit 2 (false, (i : Int))) := by
 have hl := F.1.good.rep
 rw [Dk (f := M5 (false, (i : Int)) (c, true)) (s0 := (false, 0)) (fun j => (false, (j : Int))) i (.exit 2 (false, (i : Int))) (fun j hj => ?_) ?_ rfl (CH (by omega)) rfl]
 ·unfold M5
  simp only [Int.lt_irrefl, decide_false, cond_false]
 ·have hj2 : j < c.Replicas.length := by omega
  have hc' : (j : Int) < (i : Int) := by omega
  have e1 : wi .i64 ((j : Int) + 1) = ((j + 1 : Nat) : Int) := wi1 (by omega)
  obtain ⟨y, a1, a2, a3⟩ := NL F (List.getElem_mem hi)
  obtain ⟨z, b1, b2, b3⟩ := NL F (List.getElem_mem hj2)
  unfold M5
  simp only [hc', decide_true, cond_true, BI hi, BI hj2, obs, LH F hi, LH F hj2, a1, b1]
  by_cases hd : c.Replicas[i].Done = c.Replicas[j].Done
  ·have e : (c.Replicas[i].Done == c.Replicas[j].Done) = true := by simpa using hd
   have hyz : y = z := by
    rw [Po hd, b1] at a1
    injection a1 with a1
    exact a1.symm
   subst hyz
   simp only [e, cond_true, a2, bne_self_eq_false, cond_false, a3, obs, Ak, Bool.not_true, e1]
  ·have e : (c.Replicas[i].Done == c.Replicas[j].Done) = false := by simpa using hd
   simp only [e, cond_false, obs, Ak, e1]
theorem Zk (code : List U8) (h : ∀ x ∈ code, 0 ≤ x.v ∧ x.v ≤ 255) : m3 code = some true := by
 unfold m3 m4
 by_cases hl : (code.length : Int) > 1048576
 ·simp only [hl, decide_true, cond_true]
 have H : Lm code := ⟨by omega, h⟩
 obtain ⟨c, h1, F⟩ := Y5 H
 have hp := U4 F.1
 have hr := F.1.good.rep
 have hlo : AB (M4 (c, true)) NN (false, 0) = some (.exit 0 (false, (c.Replicas.length : Int))) := by
  rw [Dk (f := M4 (c, true)) (s0 := (false, 0)) (fun i => (false, (i : Int))) c.Replicas.length (.exit 0 (false, (c.Replicas.length : Int))) (fun i hi => ?_) ?_ rfl (CH hr) rfl]
  ·unfold M4
   simp only [Int.lt_irrefl, decide_false, cond_false]
  ·have hc' : (i : Int) < (c.Replicas.length : Int) := by omega
   have e1 : wi .i64 ((i : Int) + 1) = ((i + 1 : Nat) : Int) := wi1 (by omega)
   unfold M4
   simp only [hc', decide_true, cond_true, fU F hi, obs, Ak, if_true, e1]
 have a1 : m8 c = some true := by
  unfold m8
  rw [IO_ F.1]; rfl
 have hp' : (c.Replicas.length : Int) > 0 := by omega
 simp only [hl, decide_false, cond_false, h1, obs, hlo, Ak, if_true, cond_true, a1, hp', decide_true]
end Go.Proofs.YthbiabieiopobaaGreatDoor
