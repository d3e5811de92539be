/- Clusters: one replica, copies, what is put, what may be sent: the program's side. -/
import Derived.Test.YtjlecnhninhmnaaGreatDoorClu
import Derived.Test.YtjlecnhninhmnaaGreatDoorRh10
import Derived.KernelRfl
namespace Go.Proofs.YtjlecnhninhmnaaGreatDoor
open Go Go.Rf
set_option linter.unusedVariables false
set_option linter.unusedSimpArgs false
def M1 (c : Aa) (id : Int) : Option Nat := BN (pAt (fun r => r.Id == id) c.Replicas) c.Replicas.length
theorem V9 {f : Int} {xs : List Ai} {r : Af} (h : BV f xs r = 0) : 0 ≤ r.View ∧ r.View ≤ 20 := by
 unfold BV at h
 cases h1 : Dt f r
 rotate_left
 ·rw [h1] at h; cases h
 unfold Dt at h1
 simp only [Bool.or_eq_false_iff, Bool.not_eq_false', Bv] at h1
 exact h1.2.1
theorem ZB {α : Type} {b : Nat} {L ys : List α} (h : L.length + ys.length ≤ 2097152) (hb : b ≤ 1000) : B0 b L ys = some (L ++ ys) := by
 unfold B0
 rw [if_pos (Nat.le_trans (Nat.mul_le_mul h (show b + 1 ≤ 1001 by omega)) (by decide))]
theorem PY {α : Type} {b : Nat} {ys : List α} (h : ys.length ≤ 1048576) (hb : b ≤ 1000) : B0 b [] ys = some ys := by
 rw [ZB (by simp only [List.length_nil]; omega) hb]; rfl
theorem X6 {α : Type} {f : Int × List α → Option (LO (Int × List α))} {xs : List α} {b : Nat} {e : Nat} (hl : xs.length ≤ 1048576) (hb : b ≤ 1000)
  (h1 : ∀ (i : Nat) (hi : i < xs.length) (s : List α), f ((i : Int), s) = (B0 b s [xs[i]]).bind fun z => some (.norm (wi .i64 ((i : Int) + 1), z))) (h0 : ∀ s, f ((xs.length : Int), s) = some (.exit e ((xs.length : Int), s))) :
  Az f NN (0, []) = some (.exit e ((xs.length : Int), xs)) := by
 rw [Dv (f := f) (s0 := (0, [])) (fun i => ((i : Int), xs.take i)) xs.length (.exit e ((xs.length : Int), xs.take xs.length)) (fun i hi => ?_) ?_ rfl (Bl hl) rfl]
 ·rw [List.take_length]
 ·rw [h0]
 ·rw [h1 i hi, ZB (by simp; omega) hb, obs, wi1 (show i ≤ 1099511627776 by omega), List.take_succ_eq_append_getElem hi]
theorem TF (r : Ag) (h : IJ r) : TZ r = some r := by
 unfold TZ
 rw [show W9 r.Ops = some r.Ops from PY h (by decide)]; rfl
theorem MY (m : Ai) (h : Bd m) : OQ m = some m := by
 unfold OQ
 rw [show Wz m.Certs = some m.Certs from PY h.1 (by decide), obs, show m35 m.Refs = some m.Refs from PY h.2 (by decide)]; rfl
theorem TG (xs : List Ai) (h : xs.length ≤ 1048576) (g : ∀ m ∈ xs, Bd m) : Ua xs = some xs := by
 unfold Ua
 rw [X6 (b := 88) h (by decide) (fun i hi s => by
  have hc' : (i : Int) < (xs.length : Int) := by omega
  unfold Ko
  simp only [hc', decide_true, cond_true, AW hi, obs, MY _ (g _ (List.getElem_mem hi))]) (fun s => by
  unfold Ko
  simp only [Int.lt_irrefl, decide_false, cond_false]
  rfl)]
 rfl
theorem BL (c : Aa) (g : Eu c) : m76 c = some c := by
 unfold m76
 rw [show m35 c.Bad = some c.Bad from PY g.bad (by decide), obs, show WM c.Replicas = some c.Replicas from PY g.rep (by decide), obs, TG _ g.led g.msg, obs]
 rw [X6 (b := 48) g.req (by decide) (fun i hi s => by
  have hc' : (i : Int) < (c.Requests.length : Int) := by omega
  unfold NL
  simp only [hc', decide_true, cond_true, AW hi, obs, TF _ (g.ops _ (List.getElem_mem hi))]) (fun s => by
  unfold NL
  simp only [Int.lt_irrefl, decide_false, cond_false]
  rfl)]
 rfl
noncomputable def Ew (xs : List Ai) (m : Ai) : List Ai × Int := bif decide (atM xs m ≥ 0) then (xs, 0) else bif (xs.length : Int) == 240 then ([], 2) else (xs ++ [m], 0)
theorem OD (xs : List Ai) (m : Ai) (h : xs.length ≤ 240) (g : ∀ x ∈ xs, Bd x) (gm : Bd m) : TX xs m = some (bif BB xs.length m then ([], 4) else Ew xs m) := by
 unfold TX Ew
 rw [IZ m xs.length gm, Kx xs m (by omega) g, MY m gm, show dZ xs = some xs from PY (by omega) (by decide)]
 simp only [obs]
 rw [ZB (show xs.length + [m].length ≤ 2097152 by simp; omega) (by decide)]
 cases BB xs.length m <;> cases decide (atM xs m ≥ 0) <;> cases ((xs.length : Int) == 240) <;> rfl
theorem VK {xs : List Ai} {m : Ai} (h : xs.length ≤ 240) (g : ∀ x ∈ xs, Bd x) (gm : Bd m) : (Ew xs m).1.length ≤ 241 ∧ ∀ x ∈ (Ew xs m).1, Bd x := by
 unfold Ew
 cases decide (atM xs m ≥ 0)
 ·cases ((xs.length : Int) == 240)
  ·exact ⟨by show (xs ++ [m]).length ≤ 241; simp; omega, fun x hx => by
    rcases List.mem_append.1 (show x ∈ xs ++ [m] from hx) with h | h
    ·exact g x h
    ·rw [List.mem_singleton.1 h]; exact gm⟩
  ·exact ⟨Nat.zero_le _, fun x hx => by cases hx⟩
 ·exact ⟨by show xs.length ≤ 241; omega, g⟩
noncomputable def DG (c : Aa) (m : Ai) : Aa := ⟨c.F, c.Bad, c.Replicas, (Ew c.Ledger m).1, c.Requests⟩
theorem MQ {c : Aa} {m : Ai} (g : Eu c) (h : c.Ledger.length ≤ 240) (gm : Bd m) : Eu (DG c m) :=
 have p := VK h g.msg gm
 ⟨g.bad, g.rep, Nat.le_trans p.1 (by omega), p.2, g.req, g.ops⟩
noncomputable def MG (c : Aa) (m : Ai) : Ac := bif (Ew c.Ledger m).2 != 0 then ⟨(Ew c.Ledger m).2, ⟨0, [], [], [], []⟩⟩ else ⟨0, DG c m⟩
theorem Hu (c : Aa) (m : Ai) (g : Eu c) (h : c.Ledger.length ≤ 240) (gm : Bd m) (hr : BB c.Ledger.length m = false) : m89 c m = some ((Ew c.Ledger m).2, bif (Ew c.Ledger m).2 != 0 then c else DG c m) := by
 unfold m89 DG
 rw [OD c.Ledger m h g.msg gm, hr]
 simp only [obs, cond_false, bne]
 cases ((Ew c.Ledger m).2 == 0) <;> rfl
theorem IO {c : Aa} {m : Ai} (g : Eu c) (h : c.Ledger.length ≤ 240) (gm : Bd m) : (bif (Ew c.Ledger m).2 != 0 then some (⟨(Ew c.Ledger m).2, (⟨0, [], [], [], []⟩ : Aa)⟩ : Ac) else (m76 (bif (Ew c.Ledger m).2 != 0 then c else DG c m)).bind fun y4 => some (⟨0, y4⟩ : Ac)) = some (MG c m) := by
 unfold MG
 cases (Ew c.Ledger m).2 != 0
 ·simp only [cond_false, BL _ (MQ g h gm), obs]
 ·rfl
def Zv (m : Ai) : List (Int × Int × Int) := m.Certs.map fun c => (c.Slot, c.View, c.Value)
def kW (c : Int × Int × Int) : Prop := (1 ≤ c.1 ∧ c.1 ≤ 30) ∧ 0 ≤ c.2.1
def IP (xs : List Ai) (rs : List Int) : List (List (Int × Int × Int)) := rs.map fun r => ((Ar xs r).map Zv).getD []
structure Rn (xs : List Ai) (rs : List Int) : Prop where
 get : ∀ r ∈ rs, ∃ x, Ar xs r = some x
 len : rs.length ≤ 1000
theorem PH {f : Int} {xs : List Ai} (H : BJ f xs) {rs : List Int} (R : Rn xs rs) : (∀ cs ∈ IP xs rs, cs.length ≤ 1000 ∧ ∀ c ∈ cs, kW c) := by
 intro cs hcs
 unfold IP at hcs
 obtain ⟨r, hr, rfl⟩ := List.mem_map.1 hcs
 obtain ⟨x, gx⟩ := R.get r hr
 rw [gx]
 have M := H.msg x (Ek gx)
 have hcl := M.certsl
 refine ⟨by simp [Zv]; omega, fun c hc => ?_⟩
 simp only [Option.map_some, Option.getD_some, Zv] at hc
 obtain ⟨d, hd, rfl⟩ := List.mem_map.1 hc
 obtain ⟨k1, k2, k3⟩ := M.cert d hd
 exact ⟨k1, k2.1⟩
theorem PD {α β : Type} {f : α → Option β} {g : α → β} : ∀ {xs : List α}, (∀ x ∈ xs, f x = some (g x)) → G1 f xs = some (xs.map g)
 | [], _ => rfl
 | x :: xs, h => by simp only [G1, h x (by simp), PD (xs := xs) (fun y hy => h y (List.mem_cons_of_mem _ hy)), List.map_cons]
theorem MU {f : Int} {xs : List Ai} (H : BJ f xs) {rs : List Int} (R : Rn xs rs) : TY xs rs = some (GA (IP xs rs)) := by
 unfold TY
 rw [PD (g := fun r => ((Ar xs r).map Zv).getD []) (fun r hr => by
  obtain ⟨x, gx⟩ := R.get r hr
  rw [gx]; rfl)]
 show MV rs (some (IP xs rs)) = _
 unfold MV
 dsimp only
 have hg : Wa (IP xs rs) := fun cs hcs => ⟨fun c hc => by
  have := ((PH H R cs hcs).2 c hc).1
  omega, (PH H R cs hcs).1⟩
 rw [if_pos ⟨R.len, hg⟩]
theorem Rz {f : Int} {xs : List Ai} (H : BJ f xs) {i : Int} {x : Ai} (hx : Ar xs i = some x) : Rn xs x.Refs := by
 have M := H.msg x (Ek hx)
 have hm := Cf H.f12
 have hf := H.f12
 have hl := H.len
 have hrl := M.refsl
 obtain ⟨h0, h1, h2⟩ := DN hx
 have hxe : xs[i.toNat] = x := by
  rw [List.getElem?_eq_getElem h1] at h2
  injection h2
 refine ⟨fun r hr => ?_, by omega⟩
 have hr2 := H.refs i.toNat h1 r (by rw [hxe]; exact hr)
 have hr1 := M.ref r hr
 obtain ⟨q, rfl⟩ : ∃ q : Nat, r = q := ⟨r.toNat, by omega⟩
 exact ⟨_, AW (show q < xs.length by omega)⟩
def HQ (xs : List Ai) (st : Int) : List Int := ((Ar xs st).map (·.Refs)).getD []
def ZK (xs : List Ai) (st s v : Int) : Bool := bif decide (s ≤ ((GA (IP xs (HQ xs st))).length : Int)) then v == ((Ar (GA (IP xs (HQ xs st))) (s - 1)).getD 0) else decide (v > 0)
def RD (f : Int) (xs : List Ai) (m : Ai) (st : Int) : Bool := (m.Kind == 1) && ((m.From == Dz f m.View) && bif m.View == 0 then (st == -1) && decide (m.Value > 0) else EY f xs st && ((BK xs st == m.View) && ZK xs st m.Slot m.Value))
def KD (f : Int) (xs : List Ai) (i st : Int) : Bool := match Ar xs i with
 | some m => RD f xs m st
 | none => false
theorem Sv {ys : List Int} {s : Int} (h1 : 1 ≤ s ∧ s ≤ 30) (h2 : s ≤ (ys.length : Int)) : Ar ys (wi .i64 (s - 1)) = some ((Ar ys (s - 1)).getD 0) := by
 rw [Dp (by omega) (by omega)]
 obtain ⟨q, hq⟩ : ∃ q : Nat, s - 1 = q := ⟨(s - 1).toNat, by omega⟩
 rw [hq, AW (show q < ys.length by omega)]; rfl
theorem Tv {f : Int} {xs : List Ai} (H : BJ f xs) (i st : Int) : WJ f xs i st = some (KD f xs i st) := by
 unfold WJ KD
 rw [in2, NZ H.len']
 cases hg : Ar xs i with
 | none => rfl
 | some m =>
  have M := H.msg m (Ek hg)
  simp only [Option.isSome_some, Bool.not_true, cond_false, obs, FL H.f12]
  unfold RD
  cases e1 : m.Kind == 1
  ·have : (m.Kind != 1) = true := by unfold bne; rw [e1]; rfl
   rw [this]; rfl
  have : (m.Kind != 1) = false := by unfold bne; rw [e1]; rfl
  rw [this]
  have hk : m.Kind = 1 := by simpa using e1
  have hs := M.slot (by omega)
  cases e2 : m.From == Dz f m.View
  ·have : (m.From != Dz f m.View) = true := by unfold bne; rw [e2]; rfl
   rw [this]; rfl
  have : (m.From != Dz f m.View) = false := by unfold bne; rw [e2]; rfl
  rw [this]
  simp only [cond_false, obs, Ah, Bool.true_and]
  cases e3 : m.View == 0
  rotate_left
  ·cases st == -1 <;> rfl
  simp only [cond_false, KI H, obs]
  cases e4 : EY f xs st
  ·rfl
  obtain ⟨x, gx, _⟩ := EG e4
  have ev : BK xs st = x.View := by simp [BK, gx]
  have er : HQ xs st = x.Refs := by simp [HQ, gx]
  rw [ev]
  cases e5 : x.View == m.View
  ·have : (x.View != m.View) = true := by unfold bne; rw [e5]; rfl
   simp only [gx, this, Bool.not_true, cond_false, cond_true, obs, Ah, Bool.false_and, Bool.and_false]
  have : (x.View != m.View) = false := by unfold bne; rw [e5]; rfl
  unfold ZK
  rw [er]
  simp only [gx, this, Bool.not_true, cond_false, obs, Ah, MU H (Rz H gx), Bool.true_and]
  by_cases hl : m.Slot ≤ ((GA (IP xs x.Refs)).length : Int)
  ·simp only [hl, decide_true, cond_true, Sv hs hl, obs]
  ·simp only [hl, decide_false, cond_false]
def D7 (r : Af) (k s : Int) (m : Ai) : Bool := (m.From == r.Id) && ((m.Kind == k) && ((m.View == r.View) && (m.Slot == s)))
theorem Hq (xs : List Ai) (r : Af) (k s : Int) (h : xs.length ≤ 1048576) : OS r xs k s = some (xs.any (D7 r k s)) := by
 unfold OS YQ
 rw [show m26 xs (fun x0_ => Q7 x0_ r k s) = some (xs.any (D7 r k s)) from G0 (Bl h) (BS h) (fun x _ => by
  unfold Q7 W8 D7
  cases x.From == r.Id <;> cases x.Kind == k <;> cases x.View == r.View <;> rfl)]
 rfl
noncomputable def G3 (f : Int) (xs : List Ai) (r : Af) (s v : Int) : Int := bif !(inR s 1 30 && inR v 0 12) then 3 else bif !M4 r then 8 else bif !BO f xs 2 r.View s v then 10 else bif xs.any (D7 r 3 s) then 6 else 0
theorem X9 {f : Int} {xs : List Ai} (H : BJ f xs) (r : Af) (s v : Int) (hv : 0 ≤ r.View ∧ r.View ≤ 20) : m86 r f xs s v = some (G3 f xs r s v) := by
 have hl := H.len
 unfold m86 G3
 rw [Ir, GL, Hq xs r 3 s (by omega)]
 cases e1 : inR s 1 30
 ·rfl
 cases e2 : inR v 0 12
 ·rfl
 rw [Nv H ⟨s, r.View, v⟩ (Bv.1 e1) hv (Bv.1 e2)]
 unfold GB
 cases M4 r <;> cases BO f xs 2 r.View s v <;> cases xs.any (D7 r 3 s) <;> rfl
noncomputable def Gj (f : Int) (xs : List Ai) (r : Af) (i : Int) : Int := bif !KD f xs i r.Start then 1 else match Ar xs i with
 | some m => bif m.View != r.View then 1 else bif xs.any (D7 r 2 m.Slot) then 6 else 0
 | none => 1
theorem MR {f : Int} {xs : List Ai} {i st : Int} (h : KD f xs i st = true) : ∃ m, Ar xs i = some m ∧ m.Kind = 1 := by
 unfold KD at h
 cases hg : Ar xs i with
 | none => rw [hg] at h; cases h
 | some m =>
  rw [hg] at h
  refine ⟨m, rfl, ?_⟩
  have h : RD f xs m st = true := h
  unfold RD at h
  simp only [Bool.and_eq_true, beq_iff_eq] at h
  exact h.1
theorem VN {f : Int} {xs : List Ai} (H : BJ f xs) (r : Af) (i : Int) : m84 r f xs i = some (Gj f xs r i) := by
 have hl := H.len
 unfold m84 Gj
 rw [Tv H]
 simp only [obs]
 cases hp : KD f xs i r.Start
 ·rfl
 obtain ⟨m, gm, hk⟩ := MR hp
 simp only [Bool.not_true, cond_false, gm, obs]
 cases m.View != r.View
 ·simp only [cond_false, obs, Ah, Hq xs r 2 m.Slot (by omega)]
  cases xs.any (D7 r 2 m.Slot) <;> rfl
 ·rfl
def UB (r : Af) (v : Int) (m : Ai) : Bool := (m.From == r.Id) && ((m.Kind == 1) && ((m.View == r.View) && (m.Value == v)))
theorem Qn (xs : List Ai) (r : Af) (v : Int) (h : xs.length ≤ 1048576) : L9 r xs 1 v = some (xs.any (UB r v)) := by
 unfold L9
 rw [show m26 xs (fun x0_ => Ia x0_ r 1 v) = some (xs.any (UB r v)) from G0 (Bl h) (BS h) (fun x _ => by
  unfold Ia WL UB
  cases x.From == r.Id <;> cases x.Kind == 1 <;> cases x.View == r.View <;> rfl)]
 rfl
noncomputable def MD (xs : List Ai) (r : Af) : List Int := bif r.Start != -1 then GA (IP xs (HQ xs r.Start)) else []
noncomputable def Gk (f : Int) (xs : List Ai) (r : Af) (s v : Int) : Int := bif !(inR s 1 30 && inR v 0 12) then 3 else bif !M4 r || r.Id != Dz f r.View then 8 else bif xs.any (D7 r 1 s) then 6 else bif decide (s > 1) && !xs.any (D7 r 1 (s - 1)) then 4 else bif decide (s ≤ ((MD xs r).length : Int)) then (bif v != ((Ar (MD xs r) (s - 1)).getD 0) then 1 else 0) else bif (v == 0) || xs.any (UB r v) then 1 else 0
theorem Tc {f : Int} {xs : List Ai} {r : Af} (h : BV f xs r = 0) : r.Start = -1 ∨ ∃ x, Ar xs r.Start = some x := by
 unfold BV at h
 cases h1 : Dt f r
 rotate_left
 ·rw [h1] at h; cases h
 cases h2 : CQ f xs r
 rotate_left
 ·rw [h1, h2] at h; cases h
 unfold CQ at h2
 cases e : r.Start != -1
 ·left; simpa using e
 ·rw [e] at h2
  simp only [Bool.true_and, Bool.or_eq_false_iff, Bool.not_eq_false'] at h2
  obtain ⟨x, gx, _⟩ := EG h2.2.1
  exact .inr ⟨x, gx⟩
theorem VP {f : Int} {xs : List Ai} (H : BJ f xs) {r : Af} (hr : r.Start = -1 ∨ ∃ x, Ar xs r.Start = some x) (s v : Int) : m80 r f xs s v = some (Gk f xs r s v) := by
 have hl := H.len
 unfold m80 Gk
 rw [Ir, GL, Hq xs r 1 s (by omega), FL H.f12]
 cases e1 : inR s 1 30
 ·rfl
 have hs := Bv.1 e1
 rw [show wi .i64 (s - 1) = s - 1 from Dp (by omega) (by omega), Hq xs r 1 (s - 1) (by omega), Qn xs r v (by omega)]
 cases inR v 0 12
 ·rfl
 cases M4 r
 ·rfl
 simp only [Bool.not_true, cond_false, obs, Bool.false_or, Bool.and_self]
 cases r.Id != Dz f r.View
 rotate_left
 ·rfl
 cases xs.any (D7 r 1 s)
 rotate_left
 ·rfl
 have hb : ∀ L : List Int, s ≤ (L.length : Int) → Ar L (s - 1) = some ((Ar L (s - 1)).getD 0) := fun L h => by
  have := Sv hs h
  rwa [show wi .i64 (s - 1) = s - 1 from Dp (by omega) (by omega)] at this
 have tail : ∀ z : Int, (((bif r.Start != -1 then (Ar xs r.Start).bind fun x1 => (TY xs x1.Refs).bind fun y4 => some (LO.norm y4) else some (LO.norm [])) : Option (LO (List Int))) = some (.norm (MD xs r))) := fun z => by
  unfold MD
  rcases hr with hr | ⟨x, gx⟩
  ·rw [hr]; rfl
  ·have er : HQ xs r.Start = x.Refs := by simp [HQ, gx]
   rw [er, gx]
   cases r.Start != -1
   ·rfl
   ·simp only [cond_true, obs, MU H (Rz H gx)]
 cases e2 : decide (s > 1) && !xs.any (D7 r 1 (s - 1))
 rotate_left
 ·rw [Bool.and_eq_true] at e2
  simp only [e2.1, e2.2, cond_true, cond_false, obs, Ah]
 have e3 : ((bif decide (s > 1) then (bif !xs.any (D7 r 1 (s - 1)) then some (LO.ret 4) else some (LO.norm 0)) else some (LO.norm 0)) : Option (LO Int)) = some (.norm 0) := by
  cases h1 : decide (s > 1)
  ·rfl
  ·rw [h1] at e2
   simp only [Bool.true_and] at e2
   rw [e2]; rfl
 simp only [cond_false, obs, e3, Ah, tail 0]
 by_cases hL : s ≤ ((MD xs r).length : Int)
 ·obtain ⟨z, hz⟩ : ∃ z, Ar (MD xs r) (s - 1) = some z := ⟨_, hb _ hL⟩
  simp only [hL, decide_true, cond_true, hz, Option.getD_some, obs]
  cases v != z <;> rfl
 ·simp only [hL, decide_false, cond_false]
  cases v == 0 <;> cases xs.any (UB r v) <;> rfl
def Ip (id s v : Int) (m : Ai) : Bool := (m.Kind == 3) && ((m.From == id) && ((m.Slot == s) && decide (m.View < v)))
def Hi (id s v : Int) (b : Int × Int) (m : Ai) : Int × Int := bif Ip id s v m && decide (m.View > b.1) then (m.View, m.Value) else b
def Eb (xs : List Ai) (id s v : Int) : Int × Int := xs.foldl (Hi id s v) (-1, 0)
theorem PT {id s v : Int} : ∀ (xs : List Ai) (b : Int × Int), (∀ m ∈ xs, 0 ≤ m.View) → (b = (-1, 0) ∨ 0 ≤ b.1) → (xs.foldl (Hi id s v) b = (-1, 0) ∨ 0 ≤ (xs.foldl (Hi id s v) b).1)
 | [], b, _, hb => hb
 | m :: xs, b, h, hb => by
  rw [List.foldl_cons]
  refine PT xs _ (fun y hy => h y (by simp [hy])) ?_
  unfold Hi
  cases Ip id s v m && decide (m.View > b.1)
  ·exact hb
  ·exact .inr (h m (by simp))
theorem Rh (xs : List Ai) (id s v : Int) {i : Nat} (h : i < xs.length) : Eb (xs.take (i + 1)) id s v = Hi id s v (Eb (xs.take i) id s v) xs[i] := by
 unfold Eb
 rw [E7 h, List.foldl_append]; rfl
def stI (s : Int) (b : Int × Int) (i : Nat) : Bool × Int × Int × Int × Int := bif decide (b.1 ≥ 0) then (true, (i : Int), s, b.1, b.2) else (false, (i : Int), 0, 0, 0)
theorem Zd (xs : List Ai) (id v : Int) (s1 : Int × List AE) (h : xs.length ≤ 1048576) (hv : ∀ m ∈ xs, 0 ≤ m.View) : Az (Gx xs id v s1) NN (false, 0, 0, 0, 0) = some (.exit 2 (stI s1.1 (Eb xs id s1.1 v) xs.length)) := by
 rw [Dv (f := Gx xs id v s1) (s0 := (false, 0, 0, 0, 0)) (fun i => stI s1.1 (Eb (xs.take i) id s1.1 v) i) xs.length (.exit 2 (stI s1.1 (Eb xs id s1.1 v) xs.length)) (fun i hi => ?_) ?_ rfl (Bl h) rfl]
 ·unfold Gx stI
  rw [List.take_length]
  cases decide ((Eb xs id s1.1 v).1 ≥ 0) <;> simp only [cond_true, cond_false, Int.lt_irrefl, decide_false]
 ·have hc' : (i : Int) < (xs.length : Int) := by omega
  have h0 := hv _ (List.getElem_mem hi)
  rw [Rh xs id s1.1 v hi]
  rcases PT (id := id) (s := s1.1) (v := v) (xs.take i) (-1, 0) (fun m hm => hv m (List.mem_of_mem_take hm)) (.inl rfl) with hb | hb
  ·have hb : Eb (xs.take i) id s1.1 v = (-1, 0) := hb
   rw [hb]
   have e1 : decide (xs[i].View > (-1 : Int)) = true := decide_eq_true (by omega)
   have e2 : decide (xs[i].View ≥ 0) = true := decide_eq_true h0
   unfold Gx Hi Ip stI
   simp only [show decide ((-1 : Int) ≥ 0) = false from rfl, cond_false, hc', decide_true, cond_true, AW hi, obs, wi1 (show i ≤ 1099511627776 by omega), e1]
   cases xs[i].Kind == 3 <;> cases xs[i].From == id <;> cases xs[i].Slot == s1.1 <;> cases decide (xs[i].View < v) <;> simp [e2, Ah]
  ·have hb : 0 ≤ (Eb (xs.take i) id s1.1 v).1 := hb
   generalize Eb (xs.take i) id s1.1 v = b at hb
   have e2 : decide (b.1 ≥ 0) = true := decide_eq_true hb
   have e3 : decide (xs[i].View ≥ 0) = true := decide_eq_true h0
   unfold Gx Hi Ip stI
   simp only [e2, cond_true, hc', decide_true, AW hi, obs, wi1 (show i ≤ 1099511627776 by omega), Bool.not_true, cond_false]
   cases xs[i].Kind == 3 <;> cases xs[i].From == id <;> cases xs[i].Slot == s1.1 <;> cases decide (xs[i].View < v) <;> cases decide (xs[i].View > b.1) <;> simp [e2, e3, Ah]
def D3 (xs : List Ai) (id v : Int) : Nat → List AE
 | 0 => []
 | i + 1 => D3 xs id v i ++ (bif decide ((Eb xs id ((i : Int) + 1) v).1 ≥ 0) then [(⟨(i : Int) + 1, (Eb xs id ((i : Int) + 1) v).1, (Eb xs id ((i : Int) + 1) v).2⟩ : AE)] else [])
theorem G5 (xs : List Ai) (id v : Int) : ∀ i, (D3 xs id v i).length ≤ i
 | 0 => Nat.le_refl _
 | i + 1 => by
  have := G5 xs id v i
  unfold D3
  cases decide ((Eb xs id ((i : Int) + 1) v).1 ≥ 0) <;> simp <;> omega
theorem appC {L : List AE} {k : AE} (h : L.length ≤ 1000) : B0 24 L [k] = some (L ++ [k]) := by
 unfold B0; rw [if_pos (by simp; omega)]
theorem QY (xs : List Ai) (id v : Int) (h : xs.length ≤ 1048576) (hv : ∀ m ∈ xs, 0 ≤ m.View) : WI xs id v = some (D3 xs id v 30) := by
 unfold WI
 rw [Dv (f := JZ xs id v) (s0 := (1, [])) (fun i => ((i : Int) + 1, D3 xs id v i)) 30 (.exit 0 (31, D3 xs id v 30)) (fun i hi => ?_) ?_ rfl (Bl (by omega)) rfl]
 ·rfl
 ·rfl
 ·have hc : (i : Int) + 1 ≤ 30 := by omega
  have hl := G5 xs id v i
  unfold JZ
  simp only [hc, decide_true, cond_true, Zd xs id v _ h hv, obs, Ah, if_true, Ho (show i ≤ 1048576 by omega)]
  show _ = some (LO.norm (_, D3 xs id v i ++ _))
  unfold stI
  cases decide ((Eb xs id ((i : Int) + 1) v).1 ≥ 0)
  ·simp [Ah]
  ·simp only [cond_true, appC (show (D3 xs id v i).length ≤ 1000 by omega), obs, Ah]
noncomputable def FS (c : Aa) (r : Af) (v : Int) : Bt := bif !inR v 0 20 then ⟨3, ⟨0, 0, 0, 0, 0, [], []⟩⟩ else bif decide (v ≤ r.View) then ⟨8, ⟨0, 0, 0, 0, 0, [], []⟩⟩ else ⟨0, ⟨4, v, r.Id, 0, 0, D3 c.Ledger r.Id v 30, []⟩⟩
theorem XD {c : Aa} (O : JG c) (r : Af) (g : Eu c) (v : Int) : m88 r c.Ledger v = some (FS c r v) := by
 unfold m88 FS
 rw [JO, QY c.Ledger r.Id v g.led fun m hm => (O.led.msg m hm).view.1]
 cases inR v 0 20 <;> cases decide (v ≤ r.View) <;> rfl
theorem XE (c : Aa) (r : Af) (v : Int) : Bd (FS c r v).Msg ∧ BB c.Ledger.length (FS c r v).Msg = false := by
 have := G5 c.Ledger r.Id v 30
 unfold FS
 cases inR v 0 20
 ·exact ⟨⟨Nat.zero_le _, Nat.zero_le _⟩, rfl⟩
 ·cases decide (v ≤ r.View)
  ·exact ⟨⟨Nat.le_trans this (by omega), Nat.zero_le _⟩, rfl⟩
  ·exact ⟨⟨Nat.zero_le _, Nat.zero_le _⟩, rfl⟩
def QX (f : Int) (xs : List Ai) (v : Int) (L : List Int) (i : Nat) : Bool := decide ((L.length : Int) < DI f) && ((BK xs i == v) && (!decide (Bc xs i ∈ L.map (Bc xs)) && BE f xs i))
def chN (f : Int) (xs : List Ai) (v : Int) : Nat → List Int
 | 0 => []
 | i + 1 => bif QX f xs v (chN f xs v i) i then chN f xs v i ++ [(i : Int)] else chN f xs v i
theorem Oh (f : Int) (xs : List Ai) (v : Int) : ∀ i, (chN f xs v i).length ≤ i
 | 0 => Nat.le_refl _
 | i + 1 => by
  have := Oh f xs v i
  unfold chN
  cases QX f xs v (chN f xs v i) i
  ·exact Nat.le_succ_of_le this
  ·simp; omega
theorem SE (f : Int) (xs : List Ai) (v : Int) : ∀ i, ∀ r ∈ chN f xs v i, 0 ≤ r ∧ r < i
 | 0, r, h => by cases h
 | i + 1, r, h => by
  have ih := SE f xs v i
  unfold chN at h
  cases hc : QX f xs v (chN f xs v i) i
  ·rw [hc] at h
   have := ih r h
   omega
  ·rw [hc] at h
   rcases List.mem_append.1 (show r ∈ chN f xs v i ++ [(i : Int)] from h) with h | h
   ·have := ih r h; omega
   ·rw [List.mem_singleton.1 h]; omega
theorem Z4 {f : Int} {xs : List Ai} (H : BJ f xs) (v : Int) : WH f xs v = some (chN f xs v xs.length) := by
 have hl := H.len
 unfold WH
 rw [Dv (f := IB f xs v) (s0 := (0, [], [])) (fun i => ((i : Int), (chN f xs v i).map (Bc xs), chN f xs v i)) xs.length (.exit 0 ((xs.length : Int), (chN f xs v xs.length).map (Bc xs), chN f xs v xs.length)) (fun i hi => ?_) ?_ rfl (Bl (by omega)) rfl]
 ·rfl
 ·unfold IB
  simp only [Int.lt_irrefl, decide_false, cond_false]
 ·have hc' : (i : Int) < (xs.length : Int) := by omega
  have e1 : BK xs (i : Int) = xs[i].View := by simp [BK, AW hi]
  have e2 : Bc xs (i : Int) = xs[i].From := by simp [Bc, AW hi]
  have hL := Oh f xs v i
  have hfl : ((chN f xs v i).map (Bc xs)).length ≤ 1000 := by simp; omega
  have hL' : (chN f xs v i).length ≤ 1000 := by omega
  have es : chN f xs v (i + 1) = bif QX f xs v (chN f xs v i) i then chN f xs v i ++ [(i : Int)] else chN f xs v i := rfl
  have hco : m72 ((chN f xs v i).map (Bc xs)) xs[i].From = some (decide (xs[i].From ∈ (chN f xs v i).map (Bc xs))) := Js (Bl (by omega)) (BS (by omega))
  rw [es]
  unfold IB
  simp only [hc', decide_true, cond_true, AW hi, obs, EH H, hco, wi1 (show i ≤ 1099511627776 by omega)]
  rw [show decide (((chN f xs v i).length : Int) < wi .i64 ((wi .i64 (2 * f)) + 1)) = decide (((chN f xs v i).length : Int) < DI f) from rfl]
  unfold QX
  rw [e1, e2]
  have a1 : B0 8 (chN f xs v i) [(i : Int)] = some (chN f xs v i ++ [(i : Int)]) := MB hL'
  have a2 : B0 8 ((chN f xs v i).map (Bc xs)) [xs[i].From] = some ((chN f xs v i).map (Bc xs) ++ [xs[i].From]) := MB hfl
  have e3 : (chN f xs v i).map (Bc xs) ++ [xs[i].From] = (chN f xs v i ++ [(i : Int)]).map (Bc xs) := by rw [List.map_append, List.map_cons, e2]; rfl
  rw [e3] at a2
  cases decide (((chN f xs v i).length : Int) < DI f)
  ·rfl
  cases xs[i].View == v
  ·rfl
  cases decide (xs[i].From ∈ (chN f xs v i).map (Bc xs))
  rotate_left
  ·rfl
  cases BE f xs i
  ·rfl
  simp only [cond_true, Bool.not_false, obs, Ah, a1, a2, Bool.and_self]
noncomputable def Gn (c : Aa) (r : Af) : Bt := bif (r.View == 0) || ((r.Id != Dz c.F r.View) || (r.Start != (-1))) then ⟨8, ⟨0, 0, 0, 0, 0, [], []⟩⟩ else bif decide (((chN c.F c.Ledger r.View c.Ledger.length).length : Int) < DI c.F) then ⟨10, ⟨0, 0, 0, 0, 0, [], []⟩⟩ else ⟨0, ⟨5, r.View, r.Id, 0, 0, [], chN c.F c.Ledger r.View c.Ledger.length⟩⟩
theorem YH {c : Aa} (O : JG c) (r : Af) : m90 r c.F c.Ledger = some (Gn c r) := by
 unfold m90 Gn
 simp only [obs, FL O.led.f12, cT, Ah, Z4 O.led]
 rw [show decide (((chN c.F c.Ledger r.View c.Ledger.length).length : Int) < wi .i64 ((wi .i64 (2 * c.F)) + 1)) = decide (((chN c.F c.Ledger r.View c.Ledger.length).length : Int) < DI c.F) from rfl]
 cases ((r.View == 0) || ((r.Id != Dz c.F r.View) || (r.Start != (-1))))
 ·cases decide (((chN c.F c.Ledger r.View c.Ledger.length).length : Int) < DI c.F) <;> rfl
 ·rfl
theorem RI {c : Aa} (O : JG c) (r : Af) : Bd (Gn c r).Msg ∧ BB c.Ledger.length (Gn c r).Msg = false := by
 have hl := O.led.len
 have := Oh c.F c.Ledger r.View c.Ledger.length
 unfold Gn
 cases ((r.View == 0) || ((r.Id != Dz c.F r.View) || (r.Start != (-1))))
 ·cases decide (((chN c.F c.Ledger r.View c.Ledger.length).length : Int) < DI c.F)
  ·refine ⟨⟨Nat.zero_le _, by show (chN c.F c.Ledger r.View c.Ledger.length).length ≤ _; omega⟩, ?_⟩
   show BB c.Ledger.length (⟨5, r.View, r.Id, 0, 0, [], chN c.F c.Ledger r.View c.Ledger.length⟩ : Ai) = false
   unfold BB
   rw [List.any_eq_false]
   intro q hq
   have := SE _ _ _ _ q hq
   simp; omega
  ·exact ⟨⟨Nat.zero_le _, Nat.zero_le _⟩, rfl⟩
 ·exact ⟨⟨Nat.zero_le _, Nat.zero_le _⟩, rfl⟩
open Go Go.Rf
theorem Np {α : Type} {p q : α → Bool} (l : List α) (h : ∀ x ∈ l, p x = true → q x = true) : (l.filter p).length ≤ (l.filter q).length := by
 rw [← List.countP_eq_length_filter, ← List.countP_eq_length_filter]
 exact List.countP_mono_left h
theorem ER {α : Type} {xs : List α} {m x : α} {i : Int} (h : Ar xs i = some x) : Ar (xs ++ [m]) i = some x := by
 unfold Ar at h ⊢
 by_cases h0 : 0 ≤ i
 ·rw [if_pos h0] at h ⊢
  have hi := (List.getElem?_eq_some_iff.1 h).1
  rw [List.getElem?_append_left hi]; exact h
 ·rw [if_neg h0] at h; cases h
theorem ZC {α : Type} {xs : List α} {m : α} {p : α → Bool} (h : xs.any p = true) : (xs ++ [m]).any p = true := by
 rw [List.any_append, h, Bool.true_or]
theorem F3 {f : Int} {xs : List Ai} {k v s a : Int} (m : Ai) (h : BO f xs k v s a = true) : BO f (xs ++ [m]) k v s a = true := by
 unfold BO at h ⊢
 have h := of_decide_eq_true h
 refine decide_eq_true ?_
 have := Np (p := G7 xs k v s a) (q := G7 (xs ++ [m]) k v s a) (CX (3 * f + 1).toNat) fun x _ hx => ZC hx
 unfold HI at h ⊢
 omega
theorem G4 {f : Int} {xs : List Ai} {x : Ai} (m : Ai) (h : ES f xs x = true) : ES f (xs ++ [m]) x = true := by
 unfold ES at h ⊢
 rw [Bool.and_eq_true, Bool.and_eq_true, Bool.not_eq_true', List.any_eq_false] at h ⊢
 refine ⟨h.1, h.2.1, fun c hc => ?_⟩
 have h3 : GB f xs c = true := by simpa using h.2.2 c hc
 have h4 : GB f (xs ++ [m]) c = true := F3 m h3
 rw [h4]; decide
theorem Og {f : Int} {xs : List Ai} {i : Int} (m : Ai) (h : BE f xs i = true) : BE f (xs ++ [m]) i = true := by
 obtain ⟨x, gx, _⟩ := Ea h
 unfold BE at h ⊢
 rw [gx] at h
 rw [ER gx]
 exact G4 m h
theorem Nb {f : Int} {xs : List Ai} {x : Ai} (m : Ai) (h : Jh f xs x = true) : Jh f (xs ++ [m]) x = true := by
 unfold Jh at h ⊢
 simp only [Bool.and_eq_true] at h ⊢
 refine ⟨h.1, h.2.1, h.2.2.1, ?_⟩
 have h2 := h.2.2.2
 have hall : ∀ j, j < x.Refs.length → Gp f xs x j = false := by
  rcases BF (Gp f xs x) x.Refs.length with k | ⟨i, k1, k2, k3⟩
  ·exact k
  ·rw [B7 k1 k2 k3] at h2; cases h2
 have hr : ∀ j (hj : j < x.Refs.length), BE f xs x.Refs[j] = true ∧ BK (xs ++ [m]) x.Refs[j] = BK xs x.Refs[j] ∧ Bc (xs ++ [m]) x.Refs[j] = Bc xs x.Refs[j] := fun j hj => by
  have := hall j hj
  rw [DU hj] at this
  simp only [Bool.or_eq_false_iff, Bool.not_eq_false'] at this
  obtain ⟨y, gy, _⟩ := Ea this.1
  exact ⟨this.1, by simp [BK, gy, ER gy], by simp [Bc, gy, ER gy]⟩
 rw [BM]
 ·rfl
 ·intro j hj
  have := hall j hj
  have r := hr j hj
  rw [DU hj] at this ⊢
  have e : (x.Refs.take j).map (Bc (xs ++ [m])) = (x.Refs.take j).map (Bc xs) := by
   refine List.map_congr_left fun a ha => ?_
   obtain ⟨q, hq, rfl⟩ := List.mem_iff_getElem.1 (List.mem_of_mem_take ha)
   exact (hr q hq).2.2
  rw [r.2.1, r.2.2, e, Og m r.1]
  rw [r.1] at this
  exact this
theorem TL {f : Int} {xs : List Ai} {i : Int} (m : Ai) (h : EY f xs i = true) : EY f (xs ++ [m]) i = true := by
 obtain ⟨x, gx, _⟩ := EG h
 unfold EY at h ⊢
 rw [gx] at h
 rw [ER gx]
 exact Nb m h
theorem Xu {f : Int} {xs : List Ai} {s v : Int} (m : Ai) (h : Ha f xs s v = true) : Ha f (xs ++ [m]) s v = true := by
 unfold Ha at h ⊢
 rw [List.any_eq_true] at h ⊢
 obtain ⟨x, hx, h⟩ := h
 refine ⟨x, by simp [hx], ?_⟩
 unfold IQ at h ⊢
 rw [Bool.and_eq_true] at h ⊢
 exact ⟨h.1, F3 m h.2⟩
theorem TI {f : Int} {xs : List Ai} {i : Nat} (m : Ai) (h : DT f xs i = false) : DT f (xs ++ [m]) i = false := by
 unfold DT at h ⊢
 have := Np (p := Ha f xs ((i : Int) + 1)) (q := Ha f (xs ++ [m]) ((i : Int) + 1)) (Ff 13) fun v _ hv => Xu m hv
 unfold Fp at h ⊢
 rw [List.isEmpty_eq_false_iff_exists_mem] at h
 obtain ⟨v, hv⟩ := h
 have h2 := List.length_pos_of_mem hv
 have h3 : 0 < (List.filter (Ha f (xs ++ [m]) ((i : Int) + 1)) (Ff 13)).length := by omega
 cases e : List.filter (Ha f (xs ++ [m]) ((i : Int) + 1)) (Ff 13) with
 | nil => rw [e] at h3; cases h3
 | cons a b => rfl
theorem OY (f : Int) (xs : List Ai) {n : Nat} (hn : n ≤ 30) : n ≤ (Ey f xs).length ↔ ∀ j, j < n → DT f xs j = false := by
 unfold Ey
 rcases BF (DT f xs) 30 with k | ⟨i, k1, k2, k3⟩
 ·rw [BM k]
  show n ≤ (GY f xs 30).length ↔ _
  rw [H6]
  exact ⟨fun _ j hj => k j (by omega), fun _ => hn⟩
 ·rw [B7 k1 k2 k3]
  show n ≤ (GY f xs i).length ↔ _
  rw [H6]
  refine ⟨fun h j hj => k2 j (by omega), fun h => ?_⟩
  rcases Nat.lt_or_ge i n with hi | hi
  ·rw [h i hi] at k3; cases k3
  ·exact hi
theorem WX (f : Int) (xs : List Ai) (m : Ai) : (Ey f xs).length ≤ (Ey f (xs ++ [m])).length :=
 (OY f (xs ++ [m]) (NS f xs)).2 fun j hj => TI m ((OY f xs (NS f xs)).1 (Nat.le_refl _) j hj)
theorem VA {f : Int} {xs : List Ai} {r : Af} (m : Ai) (h : BV f xs r = 0) : BV f (xs ++ [m]) r = 0 := by
 have hl := WX f xs m
 unfold BV at h ⊢
 cases h1 : Dt f r
 rotate_left
 ·rw [h1] at h; cases h
 cases h2 : CQ f xs r
 rotate_left
 ·rw [h1, h2] at h; cases h
 rw [h1, h2] at h
 have h3 : CQ f (xs ++ [m]) r = false := by
  unfold CQ at h2 ⊢
  cases e : r.Start != (-1)
  ·rfl
  rw [e] at h2
  simp only [Bool.true_and, Bool.or_eq_false_iff, Bool.not_eq_false'] at h2 ⊢
  obtain ⟨x, gx, _⟩ := EG h2.2.1
  refine ⟨h2.1, TL m h2.2.1, ?_⟩
  have : BK (xs ++ [m]) r.Start = BK xs r.Start := by simp [BK, gx, ER gx]
  rw [this]; exact h2.2.2
 rw [h3]
 simp only [cond_false] at h ⊢
 cases h4 : decide (r.Done > ((Ey f xs).length : Int))
 ·have h5 : ¬ r.Done > ((Ey f (xs ++ [m])).length : Int) := by
   have := of_decide_eq_false h4
   omega
  rw [decide_eq_false h5]; rfl
 ·rw [h4] at h; cases h
theorem Za {f : Int} {xs : List Ai} {m : Ai} (h : Hh f xs = 0) (hm : CB f m = 0) (hr : BB xs.length m = false) (hn : m ∉ xs) (hl : xs.length < 240) : Hh f (xs ++ [m]) = 0 := by
 unfold Hh at h ⊢
 cases h1 : inR f 1 2
 ·rw [h1] at h; cases h
 have e2 : ¬ ((xs.length : Int) > 240) := by omega
 have e3 : ¬ (((xs ++ [m]).length : Int) > 240) := by simp; omega
 rw [h1, decide_eq_false e2] at h
 rw [decide_eq_false e3]
 simp only [Bool.not_true, cond_false] at h ⊢
 have hall : ∀ j, j < xs.length → EZ f xs j = false := by
  rcases BF (EZ f xs) xs.length with h' | ⟨i, k1, k2, k3⟩
  ·exact h'
  ·rw [B7 k1 k2 k3] at h
   simp only [orF] at h
   rw [Gz k1] at h
   cases e1 : CB f xs[i] != 0
   ·rw [e1] at h
    cases e2 : BB i xs[i] <;> rw [e2] at h <;> cases h
   ·rw [e1] at h
    simp only [cond_true] at h
    rw [h] at e1
    cases e1
 rw [BM]
 ·rfl
 intro j hj
 have hj' : j < xs.length + 1 := by simpa using hj
 rw [DV hj]
 by_cases hjx : j < xs.length
 ·have := hall j hjx
  rw [DV hjx] at this
  have e : (xs ++ [m])[j] = xs[j] := List.getElem_append_left hjx
  rw [e, List.take_append_of_le_length (by omega)]
  exact this
 ·have ej : j = xs.length := by omega
  subst ej
  have e : (xs ++ [m])[xs.length] = m := by simp
  rw [e, List.take_left, hm, hr, decide_eq_false hn]; rfl
open Go Go.Rf
theorem Je {c : Aa} {m : Ai} (hp : (Ew c.Ledger m).2 = 0) : (DG c m = c ∧ m ∈ c.Ledger) ∨ (DG c m = ⟨c.F, c.Bad, c.Replicas, c.Ledger ++ [m], c.Requests⟩ ∧ m ∉ c.Ledger ∧ c.Ledger.length ≠ 240) := by
 have hm : decide (atM c.Ledger m ≥ 0) = decide (m ∈ c.Ledger) := by
  unfold atM
  rw [GX, C0, Bool.eq_iff_iff, List.any_eq_true, decide_eq_true_eq]
  exact ⟨fun ⟨x, hx, h⟩ => by have := of_decide_eq_true h; subst this; exact hx, fun h => ⟨m, h, decide_eq_true rfl⟩⟩
 unfold DG
 unfold Ew at hp ⊢
 rw [hm] at hp ⊢
 by_cases h : m ∈ c.Ledger
 ·rw [decide_eq_true h]
  exact .inl ⟨rfl, h⟩
 ·rw [decide_eq_false h] at hp ⊢
  cases h2 : (c.Ledger.length : Int) == 240
  ·refine .inr ⟨rfl, h, fun h3 => ?_⟩
   rw [h3] at h2; cases h2
  ·rw [h2] at hp; cases hp
theorem VL {c : Aa} {m : Ai} (F : HA c) (hm : CB c.F m = 0) (hr : BB c.Ledger.length m = false) (hp : (Ew c.Ledger m).2 = 0) : HA (DG c m) := by
 rcases Je hp with ⟨e, _⟩ | ⟨e, hn, hl⟩
 ·rw [e]; exact F
 have hl' := F.led.len
 have hc := Za F.cl hm hr hn (by omega)
 rw [e]
 exact ⟨⟨PK hc, F.badl, F.reql, F.bad, F.ids, fun r hr => VA m (F.reps r hr)⟩, hc, F.reqs⟩
theorem aZ {p : Int → Bool} (h : 3 ≤ ((CX 4).filter p).length) : ∃ a, ∀ id, 1 ≤ id ∧ id ≤ 4 → id ≠ a → p id = true := by
 rw [show CX 4 = [1, 2, 3, 4] from rfl] at h
 have key : ∀ a : Int, (∀ id ∈ [(1 : Int), 2, 3, 4], id ≠ a → p id = true) → ∃ a, ∀ id, 1 ≤ id ∧ id ≤ 4 → id ≠ a → p id = true := fun a k => ⟨a, fun id hid hne => k id (by simp; omega) hne⟩
 cases h1 : p 1 <;> cases h2 : p 2 <;> cases h3 : p 3 <;> cases h4 : p 4 <;> simp [List.filter, h1, h2, h3, h4] at h <;> first
  | (refine key 0 ?_; simp [h1, h2, h3, h4]; done)
  | (refine key 1 ?_; simp [h1, h2, h3, h4]; done)
  | (refine key 2 ?_; simp [h1, h2, h3, h4]; done)
  | (refine key 3 ?_; simp [h1, h2, h3, h4]; done)
  | (refine key 4 ?_; simp [h1, h2, h3, h4]; done)
theorem meet {p q : Int → Bool} {bs : List Int} (hb : bs.length ≤ 1) (hp : 3 ≤ ((CX 4).filter p).length) (hq : 3 ≤ ((CX 4).filter q).length) : ∃ id, (1 ≤ id ∧ id ≤ 4) ∧ id ∉ bs ∧ p id = true ∧ q id = true := by
 obtain ⟨a, ha⟩ := aZ hp
 obtain ⟨a', ha'⟩ := aZ hq
 obtain ⟨b, hbb⟩ : ∃ b, ∀ x ∈ bs, x = b := by
  match bs, hb with
  | [], _ => exact ⟨0, by simp⟩
  | [b], _ => exact ⟨b, by simp⟩
  | _ :: _ :: _, h => simp at h
 obtain ⟨id, h1, h2, h3, h4⟩ : ∃ id : Int, (1 ≤ id ∧ id ≤ 4) ∧ id ≠ a ∧ id ≠ a' ∧ id ≠ b := by
  have : ((1 : Int) ≠ a ∧ (1 : Int) ≠ a' ∧ (1 : Int) ≠ b) ∨ ((2 : Int) ≠ a ∧ (2 : Int) ≠ a' ∧ (2 : Int) ≠ b) ∨ ((3 : Int) ≠ a ∧ (3 : Int) ≠ a' ∧ (3 : Int) ≠ b) ∨ ((4 : Int) ≠ a ∧ (4 : Int) ≠ a' ∧ (4 : Int) ≠ b) := by omega
  rcases this with h | h | h | h
  ·exact ⟨1, by omega, h⟩
  ·exact ⟨2, by omega, h⟩
  ·exact ⟨3, by omega, h⟩
  ·exact ⟨4, by omega, h⟩
 exact ⟨id, h1, fun h => h4 (hbb id h), ha id h1 h2, ha' id h1 h3⟩
def SD (x m : Ai) : Bool := (x.Kind == m.Kind) && ((x.From == m.From) && ((x.View == m.View) && (x.Slot == m.Slot)))
structure Inv (c : Aa) : Prop where
 full : HA c
 good : Eu c
 one : c.Ledger.Pairwise fun x m => m.From ∉ c.Bad → m.Kind ≤ 3 → SD x m = false
 chg : ∀ m ∈ c.Ledger, m.From ∉ c.Bad → m.Kind = 4 → ES c.F c.Ledger m = true
 com : ∀ m ∈ c.Ledger, m.From ∉ c.Bad → m.Kind = 3 → BO c.F c.Ledger 2 m.View m.Slot m.Value = true
 prv : ∀ m ∈ c.Ledger, m.From ∉ c.Bad → m.Kind = 2 → m.Value ≤ 5
 f1 : c.F = 1
 five : c.Requests.length ≤ 5
structure N4 (c : Aa) (m : Ai) : Prop where
 code : CB c.F m = 0
 refs : BB c.Ledger.length m = false
 one : m.From ∉ c.Bad → m.Kind ≤ 3 → ∀ x ∈ c.Ledger, SD x m = false
 chg : m.From ∉ c.Bad → m.Kind = 4 → ES c.F c.Ledger m = true
 com : m.From ∉ c.Bad → m.Kind = 3 → BO c.F c.Ledger 2 m.View m.Slot m.Value = true
 prv : m.From ∉ c.Bad → m.Kind = 2 → m.Value ≤ 5
theorem NW {c : Aa} {m : Ai} (I : Inv c) (S : N4 c m) (gm : Bd m) (hp : (Ew c.Ledger m).2 = 0) : Inv (DG c m) := by
 have P := VL I.full S.code S.refs hp
 have G := MQ I.good I.full.led.len gm
 rcases Je hp with ⟨e, _⟩ | ⟨e, hn, hl⟩
 ·rw [e]; exact I
 rw [e] at P G ⊢
 refine ⟨P, G, List.pairwise_append.2 ⟨I.one, List.pairwise_singleton _ _, fun x hx y hy => ?_⟩, fun x hx h1 h2 => ?_, fun x hx h1 h2 => ?_, fun x hx h1 h2 => ?_, I.f1, I.five⟩
 ·rw [List.mem_singleton.1 hy]
  exact fun h1 h2 => S.one h1 h2 x hx
 ·rcases List.mem_append.1 hx with hx | hx
  ·exact G4 m (I.chg x hx h1 h2)
  ·rw [List.mem_singleton.1 hx] at h1 h2 ⊢
   exact G4 m (S.chg h1 h2)
 ·rcases List.mem_append.1 hx with hx | hx
  ·exact F3 m (I.com x hx h1 h2)
  ·rw [List.mem_singleton.1 hx] at h1 h2 ⊢
   exact F3 m (S.com h1 h2)
 ·rcases List.mem_append.1 hx with hx | hx
  ·exact I.prv x hx h1 h2
  ·rw [List.mem_singleton.1 hx] at h1 h2 ⊢
   exact S.prv h1 h2
theorem Xf {c : Aa} {m : Ai} (I : Inv c) (S : N4 c m) (gm : Bd m) (h : (MG c m).Code = 0) : Inv (MG c m).Cluster := by
 unfold MG at h ⊢
 cases hp : (Ew c.Ledger m).2 != 0
 ·exact NW I S gm (by simpa using hp)
 ·rw [hp] at h
  exact absurd h (by simpa using hp)
theorem Ku {c : Aa} (I : Inv c) {k : Nat} (hk : k < c.Replicas.length) {r : Af} (hid : r.Id = c.Replicas[k].Id) (hr : BV c.F c.Ledger r = 0) : Inv ⟨c.F, c.Bad, c.Replicas.set k r, c.Ledger, c.Requests⟩ := by
 have F := I.full
 have g := I.good
 refine ⟨⟨⟨F.led, F.badl, F.reql, F.bad, ?_, fun x hx => ?_⟩, F.cl, F.reqs⟩, ⟨g.bad, by simp only [List.length_set]; exact g.rep, g.led, g.msg, g.req, g.ops⟩, I.one, I.chg, I.com, I.prv, I.f1, I.five⟩
 ·show (c.Replicas.set k r).map (·.Id) = _
  rw [← F.ids]
  refine List.ext_getElem (by simp) fun i h1 h2 => ?_
  simp only [List.getElem_map, List.getElem_set]
  split
  ·rename_i e
   subst e
   exact hid
  ·rfl
 ·rcases List.mem_or_eq_of_mem_set hx with h | h
  ·exact F.reps x h
  ·rw [h]; exact hr
theorem E9 {f : Int} {xs : List Ai} {r : Af} (h : BV f xs r = 0) : Dt f r = false ∧ CQ f xs r = false ∧ r.Done ≤ ((Ey f xs).length : Int) := by
 unfold BV at h
 cases h1 : Dt f r
 rotate_left
 ·rw [h1] at h; cases h
 cases h2 : CQ f xs r
 rotate_left
 ·rw [h1, h2] at h; cases h
 rw [h1, h2] at h
 cases h3 : decide (r.Done > ((Ey f xs).length : Int))
 ·exact ⟨rfl, rfl, by have := of_decide_eq_false h3; omega⟩
 ·rw [h3] at h; cases h
theorem Iw {f : Int} {xs : List Ai} {r : Af} (h1 : Dt f r = false) (h2 : CQ f xs r = false) (h3 : r.Done ≤ ((Ey f xs).length : Int)) : BV f xs r = 0 := by
 unfold BV
 rw [h1, h2, decide_eq_false (show ¬ r.Done > ((Ey f xs).length : Int) by omega)]; rfl
theorem Ec {f : Int} {r : Af} (h : Dt f r = false) : (1 ≤ r.Id ∧ r.Id ≤ BG f) ∧ (0 ≤ r.View ∧ r.View ≤ 20) ∧ (0 ≤ r.Done ∧ r.Done ≤ 30) := by
 unfold Dt at h
 simp only [Bool.or_eq_false_iff, Bool.not_eq_false', Bv] at h
 exact h
theorem Oq {f : Int} {r : Af} (h1 : 1 ≤ r.Id ∧ r.Id ≤ BG f) (h2 : 0 ≤ r.View ∧ r.View ≤ 20) (h3 : 0 ≤ r.Done ∧ r.Done ≤ 30) : Dt f r = false := by
 unfold Dt
 rw [Bv.2 h1, Bv.2 h2, Bv.2 h3]; rfl
theorem Ur {f : Int} {m : Ai} (hk : 1 ≤ m.Kind ∧ m.Kind ≤ 3) (hc : m.Certs = []) (hr : m.Refs = []) (hv : 0 ≤ m.View ∧ m.View ≤ 20) (hf : 1 ≤ m.From ∧ m.From ≤ BG f) (hm : 1 ≤ f ∧ f ≤ 2) (hs : 1 ≤ m.Slot ∧ m.Slot ≤ 30) (ha : 0 ≤ m.Value ∧ m.Value ≤ 12) : CB f m = 0 := by
 have e1 : GE m = true := by
  unfold GE
  rw [Bv.2 (show 1 ≤ m.Kind ∧ m.Kind ≤ 5 by omega), Bv.2 hk, hc, hr]
  simp
 have e2 : EA f m = false := by
  unfold EA
  rw [Bv.2 hv, Bv.2 hf, Bv.2 hs, Bv.2 ha]
  simp
 have e3 : ¬ (0 : Int) > BG f := by rw [Cf hm]; omega
 unfold CB
 rw [e1, e2, hc, hr]
 simp only [cond_true, cond_false, List.length_nil, List.map_nil, List.any_nil]
 have e4 : D8 [] = true := rfl
 rw [e4]
 simp [e3]
theorem Ue {c : Aa} (O : JG c) {k : Nat} (hk : k < c.Replicas.length) : c.Replicas[k].Id ∉ c.Bad := by
 have h : c.Replicas[k].Id ∈ c.Replicas.map (·.Id) := List.mem_map.2 ⟨_, List.getElem_mem hk, rfl⟩
 rw [O.ids] at h
 have := (List.mem_filter.1 h).2
 unfold EK at this
 simpa using this
theorem Wg {r : Af} {k s : Int} {xs : List Ai} {m : Ai} (h : xs.any (D7 r k s) = false) (h1 : m.Kind = k) (h2 : m.From = r.Id) (h3 : m.View = r.View) (h4 : m.Slot = s) : ∀ x ∈ xs, SD x m = false := fun x hx => by
 have := List.any_eq_false.1 h x hx
 unfold D7 at this
 unfold SD
 rw [h1, h2, h3, h4]
 revert this
 cases x.Kind == k <;> cases x.From == r.Id <;> cases x.View == r.View <;> cases x.Slot == s <;> simp
theorem HL {c : Aa} (I : Inv c) {k : Nat} (hk : k < c.Replicas.length) {q s v : Int} (hq : 1 ≤ q ∧ q ≤ 3) (hs : 1 ≤ s ∧ s ≤ 30) (hv : 0 ≤ v ∧ v ≤ 12) (ha : c.Ledger.any (D7 c.Replicas[k] q s) = false) (hc : q = 3 → BO c.F c.Ledger 2 c.Replicas[k].View s v = true) (hp : q = 2 → v ≤ 5) : N4 c ⟨q, c.Replicas[k].View, c.Replicas[k].Id, s, v, [], []⟩ := by
 obtain ⟨b1, b2, _⟩ := Ec (E9 (I.full.reps _ (List.getElem_mem hk))).1
 refine ⟨Ur hq rfl rfl b2 b1 I.full.led.f12 hs hv, rfl, fun _ _ => Wg ha rfl rfl rfl rfl, fun _ h => ?_, fun _ h => hc h, fun _ h => hp h⟩
 exfalso
 have h : q = 4 := h
 omega
theorem O7 {xs : List Ai} {k v s a id : Int} (h : G7 xs k v s a id = true) : ∃ x ∈ xs, x.Kind = k ∧ x.View = v ∧ x.Slot = s ∧ x.Value = a ∧ x.From = id := by
 unfold G7 FI at h
 rw [List.any_eq_true] at h
 obtain ⟨x, hx, h⟩ := h
 simp only [Bool.and_eq_true, beq_iff_eq] at h
 exact ⟨x, hx, h.1.1, h.1.2.1, h.1.2.2.1, h.1.2.2.2, h.2⟩
theorem NE {c : Aa} (I : Inv c) {k v s a : Int} (h : BO c.F c.Ledger k v s a = true) : 3 ≤ ((CX 4).filter (G7 c.Ledger k v s a)).length := by
 unfold BO HI DI at h
 rw [I.f1] at h
 have h := of_decide_eq_true h
 have e : wi .i64 (wi .i64 (2 * 1) + 1) = 3 := rfl
 rw [e] at h
 have h : (3 : Int) ≤ (((CX 4).filter (G7 c.Ledger k v s a)).length : Int) := h
 omega
theorem ZL {c : Aa} (I : Inv c) {p q : Int → Bool} (hp : 3 ≤ ((CX 4).filter p).length) (hq : 3 ≤ ((CX 4).filter q).length) : ∃ id, (1 ≤ id ∧ id ≤ 4) ∧ id ∉ c.Bad ∧ p id = true ∧ q id = true :=
 meet (by have := I.full.badl; rw [I.f1] at this; omega) hp hq
theorem X8 {c : Aa} (I : Inv c) {v s a : Int} (h : BO c.F c.Ledger 3 v s a = true) : BO c.F c.Ledger 2 v s a = true := by
 obtain ⟨id, _, hb, h1, _⟩ := ZL I (NE I h) (NE I h)
 obtain ⟨x, hx, k1, k2, k3, k4, k5⟩ := O7 h1
 have := I.com x hx (by rw [k5]; exact hb) k1
 rw [k2, k3, k4] at this
 exact this
theorem T0 {c : Aa} (I : Inv c) {v s a : Int} (h : BO c.F c.Ledger 2 v s a = true) : 0 ≤ a ∧ a ≤ 5 := by
 obtain ⟨id, _, hb, h1, _⟩ := ZL I (NE I h) (NE I h)
 obtain ⟨x, hx, k1, k2, k3, k4, k5⟩ := O7 h1
 have h2 := I.prv x hx (by rw [k5]; exact hb) k1
 have h3 := (I.full.led.msg x hx).value (by omega)
 omega
theorem NX {c : Aa} (I : Inv c) : ZJ c.F c.Ledger := fun s n => by
 refine Nat.le_trans ((Oc _ _ _ List.nodup_nil).length_le_of_subset (l₂ := [0, 1, 2, 3, 4, 5]) fun v hv => ?_) (by decide)
 rw [LL] at hv
 rcases hv with hv | ⟨x, hx, h, rfl⟩
 ·cases hv
 ·unfold Fg at h
  rw [Bool.and_eq_true, Bool.and_eq_true] at h
  have := T0 I (X8 I h.2.2)
  simp
  omega
open Go Go.Rf
theorem Ry {xs : List Int} (h : xs.Pairwise (· < ·)) : D8 xs = true := by
 unfold D8
 rw [BM]
 ·rfl
 intro i hi
 unfold Dn
 by_cases h0 : 0 < i
 ·have := List.pairwise_iff_getElem.1 h (i - 1) i (by omega) hi (by omega)
  have e1 : A xs i = xs[i] := by simp [A, hi]
  have e2 : A xs (i - 1) = xs[i - 1] := by simp [A, show i - 1 < xs.length by omega]
  rw [e1, e2, decide_eq_false (show ¬ xs[i] ≤ xs[i - 1] by omega), Bool.and_false]
 ·rw [decide_eq_false h0, Bool.false_and]
theorem PR {id s v : Int} : ∀ (xs : List Ai) (b : Int × Int), xs.foldl (Hi id s v) b = b ∨ ∃ m ∈ xs, Ip id s v m = true ∧ xs.foldl (Hi id s v) b = (m.View, m.Value)
 | [], b => .inl rfl
 | m :: xs, b => by
  rw [List.foldl_cons]
  rcases PR xs (Hi id s v b m) with h | ⟨x, hx, h1, h2⟩
  ·rw [h]
   unfold Hi
   cases e : Ip id s v m
   ·exact .inl rfl
   ·cases decide (m.View > b.1)
    ·exact .inl rfl
    ·exact .inr ⟨m, by simp, e, rfl⟩
  ·exact .inr ⟨x, by simp [hx], h1, h2⟩
theorem Ju {xs : List Ai} {id v : Int} : ∀ (i : Nat), ∀ c ∈ D3 xs id v i, (1 ≤ c.Slot ∧ c.Slot ≤ i) ∧ ∃ m ∈ xs, Ip id c.Slot v m = true ∧ c.View = m.View ∧ c.Value = m.Value
 | 0, c, h => by cases h
 | i + 1, c, h => by
  unfold D3 at h
  rcases List.mem_append.1 h with h | h
  ·obtain ⟨h1, h2⟩ := Ju i c h
   exact ⟨by omega, h2⟩
  ·cases e : decide ((Eb xs id ((i : Int) + 1) v).1 ≥ 0)
   ·rw [e] at h; cases h
   ·rw [e, cond_true, List.mem_singleton] at h
    rcases PR (id := id) (s := (i : Int) + 1) (v := v) xs (-1, 0) with hb | ⟨m, hm, h1, h2⟩
    ·have hb : Eb xs id ((i : Int) + 1) v = (-1, 0) := hb
     rw [hb] at e; cases e
    ·have h2 : Eb xs id ((i : Int) + 1) v = (m.View, m.Value) := h2
     rw [h2] at h
     subst h
     exact ⟨by show 1 ≤ (i : Int) + 1 ∧ (i : Int) + 1 ≤ ((i + 1 : Nat) : Int); omega, m, hm, h1, rfl, rfl⟩
theorem PL (xs : List Ai) (id v : Int) : ∀ i, ((D3 xs id v i).map (·.Slot)).Pairwise (· < ·)
 | 0 => List.Pairwise.nil
 | i + 1 => by
  unfold D3
  rw [List.map_append]
  refine List.pairwise_append.2 ⟨PL xs id v i, ?_, fun a ha b hb => ?_⟩
  ·cases decide ((Eb xs id ((i : Int) + 1) v).1 ≥ 0)
   ·exact List.Pairwise.nil
   ·exact List.pairwise_singleton _ _
  ·obtain ⟨c, hc, rfl⟩ := List.mem_map.1 ha
   have := (Ju i c hc).1
   cases e : decide ((Eb xs id ((i : Int) + 1) v).1 ≥ 0)
   ·rw [e] at hb; cases hb
   ·rw [e] at hb
    have hb : b = (i : Int) + 1 := by simpa using hb
    omega
theorem Qi {id s v : Int} {m : Ai} (h : Ip id s v m = true) : m.Kind = 3 ∧ m.From = id ∧ m.Slot = s ∧ m.View < v := by
 unfold Ip at h
 simpa using h
theorem Ut {c : Aa} (I : Inv c) {k : Nat} (hk : k < c.Replicas.length) {v : Int} (h : (FS c c.Replicas[k] v).Code = 0) : (FS c c.Replicas[k] v).Msg = ⟨4, v, c.Replicas[k].Id, 0, 0, D3 c.Ledger c.Replicas[k].Id v 30, []⟩ ∧ (0 ≤ v ∧ v ≤ 20) ∧ N4 c (FS c c.Replicas[k] v).Msg := by
 have O := I.full.toJG
 have H := O.led
 obtain ⟨b1, b2, _⟩ := Ec (E9 (O.reps _ (List.getElem_mem hk))).1
 have hid := Ue O hk
 generalize c.Replicas[k] = r at b1 b2 hid h ⊢
 unfold FS at h ⊢
 cases e1 : inR v 0 20
 ·rw [e1] at h; cases h
 have hv := Bv.1 e1
 rw [e1] at h
 by_cases e2 : v ≤ r.View
 ·rw [decide_eq_true e2] at h; cases h
 rw [decide_eq_false e2]
 clear h
 have hc : ∀ x ∈ D3 c.Ledger r.Id v 30, ((1 ≤ x.Slot ∧ x.Slot ≤ 30) ∧ (0 ≤ x.View ∧ x.View ≤ v - 1) ∧ (0 ≤ x.Value ∧ x.Value ≤ 12)) ∧ GB c.F c.Ledger x = true := fun x hx => by
  obtain ⟨q1, m, hm, q2, q3, q4⟩ := Ju 30 x hx
  obtain ⟨t1, t2, t3, t4⟩ := Qi q2
  have M := H.msg m hm
  have := M.view
  have := M.value (by omega)
  refine ⟨⟨q1, by omega, by omega⟩, ?_⟩
  unfold GB
  rw [q3, q4, ← t3]
  exact I.com m hm (by rw [t2]; exact hid) t1
 have hl := G5 c.Ledger r.Id v 30
 have hp := PL c.Ledger r.Id v 30
 generalize D3 c.Ledger r.Id v 30 = C at hl hp hc ⊢
 simp only [Bool.not_true, cond_false]
 refine ⟨trivial, hv, ?_, rfl, fun _ hq => ?_, fun _ _ => ?_, fun _ hq => ?_, fun _ hq => ?_⟩
 ·have e3 : EA c.F ⟨4, v, r.Id, 0, 0, C, []⟩ = false := by
   unfold EA
   dsimp only
   rw [e1, Bv.2 b1]; rfl
  have e4 : C.any (CO v) = false := by
   rw [List.any_eq_false]
   intro x hx
   obtain ⟨⟨h1, h2, h3⟩, _⟩ := hc x hx
   unfold CO
   rw [Bv.2 h1, Dp (by omega) (by omega), Bv.2 h2, Bv.2 h3]
   simp
  have e5 : ¬ (C.length : Int) > 30 := by omega
  have e6 : ¬ ((([] : List Int).length : Nat) : Int) > BG c.F := by have hf := H.f12; rw [Cf hf]; simp; omega
  unfold CB
  rw [show GE (⟨4, v, r.Id, 0, 0, C, []⟩ : Ai) = true from rfl, e3]
  dsimp only
  rw [decide_eq_false e5, decide_eq_false e6, Ry hp, e4]
  rfl
 ·exfalso
  have hq : (4 : Int) ≤ 3 := hq
  omega
 ·unfold ES
  dsimp only
  rw [decide_eq_true (show v > 0 by omega)]
  simp only [beq_self_eq_true, Bool.true_and, Bool.not_eq_true', List.any_eq_false]
  intro x hx
  rw [(hc x hx).2]
  decide
 ·exfalso
  have hq : (4 : Int) = 3 := hq
  omega
 ·exfalso
  have hq : (4 : Int) = 2 := hq
  omega
theorem OK {f : Int} (h : 1 ≤ f ∧ f ≤ 2) : DI f = 2 * f + 1 := by
 unfold DI
 rw [Dp (x := 2 * f) (by omega) (by omega), Dp (by omega) (by omega)]
structure fS (f : Int) (xs : List Ai) (v : Int) (L : List Int) (i : Nat) : Prop where
 pw : L.Pairwise (· < ·)
 lt : ∀ r ∈ L, 0 ≤ r ∧ r < i
 ok : ∀ r ∈ L, BE f xs r = true ∧ BK xs r = v
 nd : (L.map (Bc xs)).Nodup
 few : (L.length : Int) ≤ DI f
theorem XF {f : Int} (hf : 1 ≤ f ∧ f ≤ 2) (xs : List Ai) (v : Int) : ∀ i, fS f xs v (chN f xs v i) i
 | 0 => ⟨List.Pairwise.nil, fun r h => (by cases h), fun r h => (by cases h), List.nodup_nil, (by rw [OK hf]; show (0 : Int) ≤ _; omega)⟩
 | i + 1 => by
  have K := XF hf xs v i
  unfold chN
  cases e : QX f xs v (chN f xs v i) i
  ·exact ⟨K.pw, fun r h => (by have := K.lt r h; omega), K.ok, K.nd, K.few⟩
  unfold QX at e
  rw [Bool.and_eq_true, Bool.and_eq_true, Bool.and_eq_true] at e
  obtain ⟨e1, e2, e3, e4⟩ := e
  have e1 := of_decide_eq_true e1
  have e3 : Bc xs (i : Int) ∉ (chN f xs v i).map (Bc xs) := by simpa using e3
  refine ⟨List.pairwise_append.2 ⟨K.pw, List.pairwise_singleton _ _, fun a ha b hb => ?_⟩, fun r h => ?_, fun r h => ?_, ?_, ?_⟩
  ·rw [List.mem_singleton.1 hb]; exact (K.lt a ha).2
  ·rcases List.mem_append.1 h with h | h
   ·have := K.lt r h; omega
   ·rw [List.mem_singleton.1 h]; omega
  ·rcases List.mem_append.1 h with h | h
   ·exact K.ok r h
   ·rw [List.mem_singleton.1 h]; exact ⟨e4, by simpa using e2⟩
  ·show ((chN f xs v i ++ [(i : Int)]).map (Bc xs)).Nodup
   rw [List.map_append, List.nodup_append]
   refine ⟨K.nd, by simp, fun a ha b hb hab => ?_⟩
   have hb : b = Bc xs (i : Int) := by simpa using hb
   rw [hab, hb] at ha
   exact e3 ha
  ·show ((chN f xs v i ++ [(i : Int)]).length : Int) ≤ DI f
   simp; omega
theorem TJ {f : Int} {xs : List Ai} (hf : 1 ≤ f ∧ f ≤ 2) {v id : Int} {L : List Int} {i : Nat} (K : fS f xs v L i) (hv : 0 < v) (hid : id = Dz f v) (hn : DI f ≤ (L.length : Int)) : Jh f xs ⟨5, v, id, 0, 0, [], L⟩ = true := by
 unfold Jh
 dsimp only
 rw [decide_eq_true (show v > 0 from hv), hid, decide_eq_false (show ¬ ((L.length : Nat) : Int) < DI f by omega), BM]
 ·simp
 intro j hj
 have hj : j < L.length := hj
 rw [DU (m := (⟨5, v, Dz f v, 0, 0, [], L⟩ : Ai)) hj]
 dsimp only
 obtain ⟨h1, h2⟩ := K.ok _ (List.getElem_mem hj)
 have h3 : Bc xs L[j] ∉ (L.take j).map (Bc xs) := fun h => by
  obtain ⟨a, ha, hab⟩ := List.mem_map.1 h
  obtain ⟨q, hq, rfl⟩ := List.mem_iff_getElem.1 ha
  have hq' : q < j := by simp at hq; omega
  have := List.pairwise_iff_getElem.1 K.nd q j (by simp; omega) (by simpa using hj) hq'
  simp only [List.getElem_map] at this
  rw [List.getElem_take] at hab
  exact this hab
 rw [h1, h2, decide_eq_false h3]
 simp
theorem Wj {f : Int} {xs : List Ai} (hf : 1 ≤ f ∧ f ≤ 2) {v id : Int} {L : List Int} {i : Nat} (K : fS f xs v L i) (hi : i ≤ 240) (hv : 0 ≤ v ∧ v ≤ 20) (hid : 1 ≤ id ∧ id ≤ BG f) : CB f ⟨5, v, id, 0, 0, [], L⟩ = 0 := by
 have e3 : EA f ⟨5, v, id, 0, 0, [], L⟩ = false := by
  unfold EA
  dsimp only
  rw [Bv.2 hv, Bv.2 hid]; rfl
 have e6 : ¬ ((L.length : Nat) : Int) > BG f := by
  have := K.few
  rw [OK hf] at this
  rw [Cf hf]; omega
 have e4 : L.any DR = false := by
  rw [List.any_eq_false]
  intro r hr
  have := K.lt r hr
  unfold DR
  rw [Bv.2 (show 0 ≤ r ∧ r ≤ 239 by omega)]
  simp
 unfold CB
 rw [show GE (⟨5, v, id, 0, 0, [], L⟩ : Ai) = true from rfl, e3]
 dsimp only
 rw [decide_eq_false e6, Ry K.pw, e4]
 rfl
theorem XO {xs : List Ai} {m : Ai} (h : m ∈ xs) : Ar xs (atM xs m) = some m := by
 unfold atM
 obtain ⟨j, hj, rfl⟩ := List.mem_iff_getElem.1 h
 rcases BF (pAt (fun x => decide (x = xs[j])) xs) xs.length with k | ⟨i, k1, k2, k3⟩
 ·have := k j hj
  rw [AQ hj] at this
  simp at this
 ·rw [B7 k1 k2 k3]
  rw [AQ k1] at k3
  have k3 := of_decide_eq_true k3
  show Ar xs ((i : Nat) : Int) = _
  rw [AW k1, k3]
theorem O1 {f : Int} {xs : List Ai} {r : Af} (hn : EY f xs r.Start = true) (hv : BK xs r.Start = r.View) : CQ f xs r = false := by
 obtain ⟨x, gx, hx⟩ := EG hn
 have h0 : x.View > 0 := by
  unfold EY at hn
  rw [gx] at hn
  have hn : Jh f xs x = true := hn
  unfold Jh at hn
  rw [Bool.and_eq_true, Bool.and_eq_true] at hn
  exact of_decide_eq_true hn.1.2
 have e : (r.View == 0) = false := by
  rw [beq_eq_false_iff_ne]; omega
 unfold CQ
 rw [hn, hv, e]
 simp
theorem Wb {c : Aa} (I : Inv c) {k : Nat} (hk : k < c.Replicas.length) (h : (Gn c c.Replicas[k]).Code = 0) : ((Gn c c.Replicas[k]).Msg.View = c.Replicas[k].View ∧ Jh c.F c.Ledger (Gn c c.Replicas[k]).Msg = true) ∧ N4 c (Gn c c.Replicas[k]).Msg := by
 have O := I.full.toJG
 have H := O.led
 have hl := H.len
 obtain ⟨b1, b2, _⟩ := Ec (E9 (O.reps _ (List.getElem_mem hk))).1
 have K := XF H.f12 c.Ledger c.Replicas[k].View c.Ledger.length
 have hrf := (RI O c.Replicas[k]).2
 unfold Gn at h hrf ⊢
 cases e1 : ((c.Replicas[k].View == 0) || ((c.Replicas[k].Id != Dz c.F c.Replicas[k].View) || (c.Replicas[k].Start != (-1))))
 rotate_left
 ·rw [e1] at h; cases h
 rw [e1] at h hrf
 by_cases e2 : (((chN c.F c.Ledger c.Replicas[k].View c.Ledger.length).length : Nat) : Int) < DI c.F
 ·rw [decide_eq_true e2] at h; cases h
 rw [decide_eq_false e2] at hrf ⊢
 simp only [Bool.or_eq_false_iff, bne_eq_false_iff_eq, beq_eq_false_iff_ne, ne_eq] at e1
 have hM := TJ H.f12 K (show 0 < c.Replicas[k].View by omega) e1.2.1 (by omega)
 refine ⟨⟨rfl, hM⟩, Wj H.f12 K hl b2 b1, hrf, fun _ hq => ?_, fun _ hq => ?_, fun _ hq => ?_, fun _ hq => ?_⟩
 ·exfalso
  have hq : (5 : Int) ≤ 3 := hq
  omega
 ·exfalso
  have hq : (5 : Int) = 4 := hq
  omega
 ·exfalso
  have hq : (5 : Int) = 3 := hq
  omega
 ·exfalso
  have hq : (5 : Int) = 2 := hq
  omega
theorem YI {c : Aa} (I : Inv c) {m : Ai} (I1 : Inv (DG c m)) {k : Nat} (hk : k < c.Replicas.length) (hM : m.View = c.Replicas[k].View ∧ Jh c.F c.Ledger m = true) (hp : (Ew c.Ledger m).2 = 0) : Inv ⟨(DG c m).F, (DG c m).Bad, (DG c m).Replicas.set k { c.Replicas[k] with Start := atM (DG c m).Ledger m }, (DG c m).Ledger, (DG c m).Requests⟩ := by
 obtain ⟨q1, q2, q3⟩ := E9 (I1.full.reps _ (List.getElem_mem hk))
 have hg : Ar (DG c m).Ledger (atM (DG c m).Ledger m) = some m ∧ Jh c.F (DG c m).Ledger m = true := by
  rcases Je hp with ⟨e, h⟩ | ⟨e, _⟩
  ·rw [e]; exact ⟨XO h, hM.2⟩
  ·rw [e]; exact ⟨XO (by simp), Nb m hM.2⟩
 refine Ku I1 hk rfl (Iw q1 (O1 ?_ ?_) q3)
 ·show EY c.F (DG c m).Ledger (atM (DG c m).Ledger m) = true
  unfold EY
  rw [hg.1]
  exact hg.2
 ·show BK (DG c m).Ledger (atM (DG c m).Ledger m) = c.Replicas[k].View
  unfold BK
  rw [hg.1]
  exact hM.1
theorem V7 {xs : List Ag} (h : D9 xs = 0) : ∀ i, i < xs.length → Eg xs i = false := by
 unfold D9 at h
 rcases BF (Eg xs) xs.length with k | ⟨i, k1, k2, k3⟩
 ·exact k
 ·rw [B7 k1 k2 k3] at h
  have h : IY xs i = 0 := h
  rw [HO k1] at h
  cases e : Cm xs[i] != 0
  ·rw [e] at h; cases h
  ·rw [e] at h
   exact absurd h (by simpa using e)
theorem V6 {xs : List Ag} {r : Ag} (h : D9 xs = 0) (hr : Cm r = 0) (hn : xs.any (E0 r) = false) : D9 (xs ++ [r]) = 0 := by
 have hall := V7 h
 unfold D9
 rw [BM]
 ·rfl
 intro j hj
 have hj' : j < xs.length + 1 := by simpa using hj
 rw [Dx hj]
 by_cases hjx : j < xs.length
 ·have := hall j hjx
  rw [Dx hjx] at this
  have e : (xs ++ [r])[j] = xs[j] := List.getElem_append_left hjx
  rw [e, List.take_append_of_le_length (by omega)]
  exact this
 ·have ej : j = xs.length := by omega
  subst ej
  have e : (xs ++ [r])[xs.length] = r := by simp
  rw [e, List.take_left, hr, hn]; rfl
theorem Ud {c : Aa} {r : Ag} (I : Inv c) (gr : IJ r) (hr : Cm r = 0) (hn : c.Requests.any (E0 r) = false) (hl : c.Requests.length < 5) : Inv ⟨c.F, c.Bad, c.Replicas, c.Ledger, c.Requests ++ [r]⟩ := by
 have F := I.full
 have g := I.good
 refine ⟨⟨⟨F.led, F.badl, by show (c.Requests ++ [r]).length ≤ 12; simp; omega, F.bad, F.ids, F.reps⟩, F.cl, V6 F.reqs hr hn⟩, ⟨g.bad, g.rep, g.led, g.msg, by show (c.Requests ++ [r]).length ≤ _; simp; omega, fun x hx => ?_⟩, I.one, I.chg, I.com, I.prv, I.f1, by show (c.Requests ++ [r]).length ≤ 5; simp; omega⟩
 rcases List.mem_append.1 hx with h | h
 ·exact g.ops x h
 ·rw [List.mem_singleton.1 h]; exact gr
open Go Go.Rf
theorem Gf (c : Aa) (id : Int) (h : c.Replicas.length ≤ 1048576) : (M1 c id = none ∧ Gy c id = some none) ∨ ∃ (i : Nat) (hi : i < c.Replicas.length), M1 c id = some i ∧ Gy c id = some (some (i : Int)) := by
 unfold Gy
 rw [show m57 c.Replicas (fun x0_ => some (m58 x0_ id)) = some (ixI (M1 c id)) from Ih (Bl h) (BS h) (fun x _ => rfl), obs]
 cases e : M1 c id with
 | none => exact .inl ⟨rfl, rfl⟩
 | some i =>
  have hi := (IK.1 e).1
  refine .inr ⟨i, hi, rfl, ?_⟩
  have h1 : ¬ (ixI (some i) < 0) := by simp [ixI]
  simp only [h1, decide_false, cond_false]
  rw [show ixI (some i) = (i : Int) from rfl, AW hi]; rfl
theorem LM {c : Aa} (I : Inv c) : m22 c = some 0 := by
 exact Nu I.good I.full (NX I)
theorem VO {f : Int} {xs : List Ai} {r : Af} {s v : Int} (h : Gk f xs r s v = 0) : (1 ≤ s ∧ s ≤ 30) ∧ (0 ≤ v ∧ v ≤ 12) ∧ xs.any (D7 r 1 s) = false := by
 unfold Gk at h
 cases e1 : inR s 1 30 && inR v 0 12
 ·rw [e1] at h; cases h
 cases e2 : (!M4 r || r.Id != Dz f r.View)
 rotate_left
 ·rw [e1, e2] at h; cases h
 cases e3 : xs.any (D7 r 1 s)
 rotate_left
 ·rw [e1, e2, e3] at h; cases h
 rw [Bool.and_eq_true, Bv, Bv] at e1
 exact ⟨e1.1, e1.2, rfl⟩
theorem VM {f : Int} {xs : List Ai} {r : Af} {i : Int} (h : Gj f xs r i = 0) : ∃ m, Ar xs i = some m ∧ m.Kind = 1 ∧ xs.any (D7 r 2 m.Slot) = false := by
 unfold Gj at h
 cases hp : KD f xs i r.Start
 ·rw [hp] at h; cases h
 obtain ⟨m, gm, hk⟩ := MR hp
 rw [hp, gm] at h
 refine ⟨m, gm, hk, ?_⟩
 cases e : m.View != r.View
 ·cases e3 : xs.any (D7 r 2 m.Slot)
  ·rfl
  ·simp [e, e3] at h
 ·simp [e] at h
theorem X7 {f : Int} {xs : List Ai} {r : Af} {s v : Int} (h : G3 f xs r s v = 0) : (1 ≤ s ∧ s ≤ 30) ∧ (0 ≤ v ∧ v ≤ 12) ∧ BO f xs 2 r.View s v = true ∧ xs.any (D7 r 3 s) = false := by
 unfold G3 at h
 cases e1 : inR s 1 30 && inR v 0 12
 ·rw [e1] at h; cases h
 cases e2 : M4 r
 ·rw [e1, e2] at h; cases h
 cases e4 : BO f xs 2 r.View s v
 ·rw [e1, e2, e4] at h; cases h
 cases e3 : xs.any (D7 r 3 s)
 rotate_left
 ·rw [e1, e2, e4, e3] at h; cases h
 rw [Bool.and_eq_true, Bv, Bv] at e1
 exact ⟨e1.1, e1.2, rfl, rfl⟩
def HH (y : Ac) : Prop := y.Code = 0 → Inv y.Cluster
theorem ET {k : Int} (h : k ≠ 0) : HH ⟨k, ⟨0, [], [], [], []⟩⟩ := fun h0 => absurd h0 h
theorem Ru {c : Aa} {m : Ai} (I : Inv c) (S : N4 c m) (gm : Bd m) : HH (MG c m) := Xf I S gm
theorem YA (c : Aa) (id s v : Int) (I : Inv c) : ∃ y, m14 c id s v = some y ∧ HH y := by
 have O := I.full.toJG
 have g := I.good
 have H := O.led
 have hl := H.len
 unfold m14 m40 m37 m41
 simp only [LM I, obs, bne_self_eq_false, cond_false, BL c g]
 unfold m77 m78
 have e0 : ((0 : Int) != 0) = false := rfl
 rcases Gf c id g.rep with ⟨r1, r2⟩ | ⟨k, hk, r1, r2⟩
 ·rw [r2]; exact ⟨⟨4, ⟨0, [], [], [], []⟩⟩, rfl, ET (by decide)⟩
 rw [r2]
 simp only [Gm, obs]
 unfold m79
 simp only [AW hk, obs, VP H (Tc (O.reps _ (List.getElem_mem hk)))]
 by_cases hc : Gk c.F c.Ledger c.Replicas[k] s v = 0
 rotate_left
 ·have e : (Gk c.F c.Ledger c.Replicas[k] s v != 0) = true := by simpa using hc
  simp only [e, cond_true, obs]
  exact ⟨⟨Gk c.F c.Ledger c.Replicas[k] s v, ⟨0, [], [], [], []⟩⟩, rfl, ET hc⟩
 obtain ⟨hs, hv, ha⟩ := VO hc
 rw [hc]
 simp only [e0, cond_false, obs]
 rw [show m81 c v = decide (v ≤ (c.Requests.length : Int)) from rfl]
 by_cases ho : v ≤ (c.Requests.length : Int)
 rotate_left
 ·simp only [ho, decide_false, cond_true, Bool.not_false, obs]
  exact ⟨⟨4, ⟨0, [], [], [], []⟩⟩, rfl, ET (by decide)⟩
 unfold m82
 have gm : Bd (⟨1, c.Replicas[k].View, c.Replicas[k].Id, s, v, [], []⟩ : Ai) := ⟨Nat.zero_le _, Nat.zero_le _⟩
 simp only [ho, decide_true, Bool.not_true, cond_false, AW hk, obs, Hu c _ g hl gm rfl]
 rw [IO g hl gm]
 exact ⟨_, rfl, Ru I (HL I hk (by omega) hs hv ha (fun h => by omega) (fun h => by omega)) gm⟩
theorem Y9 (c : Aa) (id i : Int) (I : Inv c) : ∃ y, m15 c id i = some y ∧ HH y := by
 have O := I.full.toJG
 have g := I.good
 have H := O.led
 have hl := H.len
 unfold m15 L6 L8 m42
 simp only [LM I, obs, bne_self_eq_false, cond_false, BL c g]
 unfold L1 Ly
 have e0 : ((0 : Int) != 0) = false := rfl
 rcases Gf c id g.rep with ⟨r1, r2⟩ | ⟨k, hk, r1, r2⟩
 ·rw [r2]; exact ⟨⟨4, ⟨0, [], [], [], []⟩⟩, rfl, ET (by decide)⟩
 rw [r2]
 simp only [Gm, obs]
 unfold m83
 simp only [AW hk, obs, VN H]
 by_cases hc : Gj c.F c.Ledger c.Replicas[k] i = 0
 rotate_left
 ·have e : (Gj c.F c.Ledger c.Replicas[k] i != 0) = true := by simpa using hc
  simp only [e, cond_true, obs]
  exact ⟨⟨Gj c.F c.Ledger c.Replicas[k] i, ⟨0, [], [], [], []⟩⟩, rfl, ET hc⟩
 obtain ⟨m, gx, hk1, ha⟩ := VM hc
 have M := H.msg m (Ek gx)
 rw [hc]
 simp only [e0, cond_false, gx, obs]
 rw [show m81 c m.Value = decide (m.Value ≤ (c.Requests.length : Int)) from rfl]
 by_cases ho : m.Value ≤ (c.Requests.length : Int)
 rotate_left
 ·simp only [ho, decide_false, cond_true, Bool.not_false, obs]
  exact ⟨⟨4, ⟨0, [], [], [], []⟩⟩, rfl, ET (by decide)⟩
 unfold m82
 have gm : Bd (⟨2, c.Replicas[k].View, c.Replicas[k].Id, m.Slot, m.Value, [], []⟩ : Ai) := ⟨Nat.zero_le _, Nat.zero_le _⟩
 simp only [ho, decide_true, Bool.not_true, cond_false, AW hk, obs, Hu c _ g hl gm rfl]
 rw [IO g hl gm]
 exact ⟨_, rfl, Ru I (HL I hk (by omega) (M.slot (by omega)) (M.value (by omega)) ha (fun h => by omega) (fun _ => by have := I.five; omega)) gm⟩
theorem Zx (c : Aa) (id s v : Int) (I : Inv c) : ∃ y, m16 c id s v = some y ∧ HH y := by
 have O := I.full.toJG
 have g := I.good
 have H := O.led
 have hl := H.len
 unfold m16 Lu Lx m43
 simp only [LM I, obs, bne_self_eq_false, cond_false, BL c g]
 unfold Lt Ls
 have e0 : ((0 : Int) != 0) = false := rfl
 rcases Gf c id g.rep with ⟨r1, r2⟩ | ⟨k, hk, r1, r2⟩
 ·rw [r2]; exact ⟨⟨4, ⟨0, [], [], [], []⟩⟩, rfl, ET (by decide)⟩
 rw [r2]
 simp only [Gm, obs]
 unfold m85
 simp only [AW hk, obs, X9 H _ _ _ (V9 (O.reps _ (List.getElem_mem hk)))]
 by_cases hc : G3 c.F c.Ledger c.Replicas[k] s v = 0
 rotate_left
 ·have e : (G3 c.F c.Ledger c.Replicas[k] s v != 0) = true := by simpa using hc
  simp only [e, cond_true, obs]
  exact ⟨⟨G3 c.F c.Ledger c.Replicas[k] s v, ⟨0, [], [], [], []⟩⟩, rfl, ET hc⟩
 obtain ⟨hs, hv, he, ha⟩ := X7 hc
 rw [hc]
 unfold m82
 have gm : Bd (⟨3, c.Replicas[k].View, c.Replicas[k].Id, s, v, [], []⟩ : Ai) := ⟨Nat.zero_le _, Nat.zero_le _⟩
 simp only [e0, cond_false, AW hk, obs, Hu c _ g hl gm rfl]
 rw [IO g hl gm]
 exact ⟨_, rfl, Ru I (HL I hk (by omega) hs hv ha (fun _ => he) (fun h => by omega)) gm⟩
theorem Z3 (c : Aa) (id v : Int) (I : Inv c) : ∃ y, m17 c id v = some y ∧ HH y := by
 have O := I.full.toJG
 have g := I.good
 have H := O.led
 have hl := H.len
 unfold m17 Lq Lr m44
 simp only [LM I, obs, bne_self_eq_false, cond_false, BL c g]
 unfold Lp Lo
 have e0 : ((0 : Int) != 0) = false := rfl
 rcases Gf c id g.rep with ⟨r1, r2⟩ | ⟨k, hk, r1, r2⟩
 ·rw [r2]; exact ⟨⟨4, ⟨0, [], [], [], []⟩⟩, rfl, ET (by decide)⟩
 rw [r2]
 have hr := O.reps _ (List.getElem_mem hk)
 simp only [Gm, obs]
 unfold m87
 simp only [AW hk, obs, XD O _ g v]
 obtain ⟨gm, hrf⟩ := XE c c.Replicas[k] v
 cases hc : (FS c c.Replicas[k] v).Code != 0
 rotate_left
 ·simp only [cond_true, obs, hc]
  exact ⟨⟨(FS c c.Replicas[k] v).Code, ⟨0, [], [], [], []⟩⟩, rfl, ET (by simpa using hc)⟩
 obtain ⟨em, hv, S⟩ := Ut I hk (v := v) (by simpa using hc)
 simp only [cond_false, obs, Hu c _ g hl gm hrf]
 cases hp : (Ew c.Ledger (FS c c.Replicas[k] v).Msg).2 != 0
 rotate_left
 ·have hp' : ((Ew c.Ledger (FS c c.Replicas[k] v).Msg).2 == 0) = false := by
   rw [bne] at hp
   simpa using hp
  simp only [cond_true, obs, hp', cond_false, Ah, hp]
  exact ⟨⟨(Ew c.Ledger (FS c c.Replicas[k] v).Msg).2, ⟨0, [], [], [], []⟩⟩, rfl, ET (by simpa using hp)⟩
 have I1 := NW I S gm (by simpa using hp)
 have er : (DG c (FS c c.Replicas[k] v).Msg).Replicas = c.Replicas := rfl
 have hg : Ar c.Replicas (k : Int) = some c.Replicas[k] := AW hk
 have hs : Ar (c.Replicas.set k { c.Replicas[k] with View := v }) (k : Int) = some { c.Replicas[k] with View := v } := Xk (i := (k : Int)) hg _
 obtain ⟨q1, q2, q3⟩ := E9 (I1.full.reps _ (List.getElem_mem hk))
 obtain ⟨b1, b2, b3⟩ := Ec q1
 have I2 : Inv ⟨(DG c (FS c c.Replicas[k] v).Msg).F, (DG c (FS c c.Replicas[k] v).Msg).Bad, (DG c (FS c c.Replicas[k] v).Msg).Replicas.set k { { c.Replicas[k] with View := v } with Start := -1 }, (DG c (FS c c.Replicas[k] v).Msg).Ledger, (DG c (FS c c.Replicas[k] v).Msg).Requests⟩ := Ku I1 hk rfl (Iw (Oq b1 hv b3) rfl q3)
 rw [er] at I2
 have g2 := I2.good
 simp only [cond_false, beq_self_eq_true, cond_true, er, hg, hs, Ks, obs, Int.toNat_natCast, Ah, e0, List.set_set, BL _ g2]
 exact ⟨_, rfl, fun _ => I2⟩
theorem YG (c : Aa) (id : Int) (I : Inv c) : ∃ y, m18 c id = some y ∧ HH y := by
 have O := I.full.toJG
 have g := I.good
 have H := O.led
 have hl := H.len
 unfold m18 Lm Ln
 simp only [LM I, obs, bne_self_eq_false, cond_false, BL c g]
 unfold Ll Lj
 have e0 : ((0 : Int) != 0) = false := rfl
 rcases Gf c id g.rep with ⟨r1, r2⟩ | ⟨k, hk, r1, r2⟩
 ·rw [r2]; exact ⟨⟨4, ⟨0, [], [], [], []⟩⟩, rfl, ET (by decide)⟩
 rw [r2]
 have hr := O.reps _ (List.getElem_mem hk)
 simp only [Gm, obs]
 unfold m45
 simp only [AW hk, obs, YH O _]
 obtain ⟨gm, hrf⟩ := RI O c.Replicas[k]
 cases hc : (Gn c c.Replicas[k]).Code != 0
 rotate_left
 ·simp only [cond_true, obs, hc]
  exact ⟨⟨(Gn c c.Replicas[k]).Code, ⟨0, [], [], [], []⟩⟩, rfl, ET (by simpa using hc)⟩
 obtain ⟨hM, S⟩ := Wb I hk (by simpa using hc)
 simp only [cond_false, obs, Hu c _ g hl gm hrf]
 cases hp : (Ew c.Ledger (Gn c c.Replicas[k]).Msg).2 != 0
 rotate_left
 ·have hp' : ((Ew c.Ledger (Gn c c.Replicas[k]).Msg).2 == 0) = false := by
   rw [bne] at hp
   simpa using hp
  simp only [cond_true, obs, hp', cond_false, Ah, hp]
  exact ⟨⟨(Ew c.Ledger (Gn c c.Replicas[k]).Msg).2, ⟨0, [], [], [], []⟩⟩, rfl, ET (by simpa using hp)⟩
 have hp0 : (Ew c.Ledger (Gn c c.Replicas[k]).Msg).2 = 0 := by simpa using hp
 have I1 := NW I S gm hp0
 have er : (DG c (Gn c c.Replicas[k]).Msg).Replicas = c.Replicas := rfl
 have hg : Ar c.Replicas (k : Int) = some c.Replicas[k] := AW hk
 have hat2 := Kx (DG c (Gn c c.Replicas[k]).Msg).Ledger (Gn c c.Replicas[k]).Msg I1.good.led I1.good.msg
 have I2 := YI I I1 hk hM hp0
 rw [er] at I2
 have g2 := I2.good
 simp only [cond_false, beq_self_eq_true, cond_true, er, hg, Ks, obs, Int.toNat_natCast, Ah, e0, hat2, BL _ g2]
 exact ⟨_, rfl, fun _ => I2⟩
theorem ZH (c : Aa) (id pl : Int) (I : Inv c) : ∃ y, m19 c id pl = some y ∧ HH y := by
 have O := I.full.toJG
 have g := I.good
 have H := O.led
 unfold m19 Le Lh m46
 simp only [LM I, obs, bne_self_eq_false, cond_false, BL c g]
 unfold Ld Lc
 have e0 : ((0 : Int) != 0) = false := rfl
 rcases Gf c id g.rep with ⟨r1, r2⟩ | ⟨k, hk, r1, r2⟩
 ·rw [r2]; exact ⟨⟨4, ⟨0, [], [], [], []⟩⟩, rfl, ET (by decide)⟩
 rw [r2]
 simp only [Gm, obs]
 unfold m92
 simp only [AW hk, obs]
 cases hs : c.Replicas[k].Start != -1
 rotate_left
 ·simp only [cond_true, obs, Ah]
  exact ⟨⟨8, ⟨0, [], [], [], []⟩⟩, rfl, ET (by decide)⟩
 simp only [cond_false, KI H, obs]
 cases hn : EY c.F c.Ledger pl
 ·simp only [Bool.not_false, cond_true, obs, Ah]
  exact ⟨⟨10, ⟨0, [], [], [], []⟩⟩, rfl, ET (by decide)⟩
 obtain ⟨x, hx, hxv⟩ := EG hn
 simp only [Bool.not_true, cond_false, hx, obs]
 cases hv : x.View != c.Replicas[k].View
 rotate_left
 ·simp only [cond_true, obs, Ah]
  exact ⟨⟨10, ⟨0, [], [], [], []⟩⟩, rfl, ET (by decide)⟩
 have hv' : x.View = c.Replicas[k].View := by simpa using hv
 obtain ⟨q1, q2, q3⟩ := E9 (O.reps _ (List.getElem_mem hk))
 have I2 := Ku I hk (r := { c.Replicas[k] with Start := pl }) rfl (Iw (Oq (Ec q1).1 (Ec q1).2.1 (Ec q1).2.2) (O1 hn (hxv.trans hv')) q3)
 have g2 := I2.good
 simp only [cond_false, Ah, AW hk, Ks, obs, Int.toNat_natCast, e0, BL _ g2]
 exact ⟨_, rfl, fun _ => I2⟩
theorem Zp (c : Aa) (id : Int) (I : Inv c) : ∃ y, m20 c id = some y ∧ HH y := by
 have O := I.full.toJG
 have g := I.good
 have H := O.led
 unfold m20 KZ La
 simp only [LM I, obs, bne_self_eq_false, cond_false, BL c g]
 unfold KY KX
 have e0 : ((0 : Int) != 0) = false := rfl
 rcases Gf c id g.rep with ⟨r1, r2⟩ | ⟨k, hk, r1, r2⟩
 ·rw [r2]; exact ⟨⟨4, ⟨0, [], [], [], []⟩⟩, rfl, ET (by decide)⟩
 rw [r2]
 obtain ⟨q1, q2, q3⟩ := E9 (O.reps _ (List.getElem_mem hk))
 obtain ⟨b1, b2, b3⟩ := Ec q1
 obtain ⟨d, hd⟩ : ∃ d : Nat, c.Replicas[k].Done = d := ⟨c.Replicas[k].Done.toNat, by omega⟩
 simp only [Gm, obs]
 unfold m47
 simp only [OZ H (NX I), AW hk, obs, ge_iff_le]
 by_cases hl : ((Ey c.F c.Ledger).length : Int) ≤ c.Replicas[k].Done
 ·simp only [hl, decide_true, cond_true, obs]
  exact ⟨⟨8, ⟨0, [], [], [], []⟩⟩, rfl, ET (by decide)⟩
 have hdl : d < (Ey c.F c.Ledger).length := by omega
 have hll := NS c.F c.Ledger
 rw [hd] at hl
 simp only [hd, hl, decide_false, cond_false, AW hdl, obs]
 unfold m81
 by_cases ho : (Ey c.F c.Ledger)[d] ≤ (c.Requests.length : Int)
 rotate_left
 ·simp only [ho, decide_false, Bool.not_false, cond_true, obs]
  exact ⟨⟨4, ⟨0, [], [], [], []⟩⟩, rfl, ET (by decide)⟩
 have e1 : wi .i64 ((d : Int) + 1) = (d : Int) + 1 := Dp (by omega) (by omega)
 have I2 := Ku I hk (r := { c.Replicas[k] with Done := wi .i64 ((d : Int) + 1) }) rfl (Iw (Oq b1 b2 (by show 0 ≤ wi .i64 ((d : Int) + 1) ∧ wi .i64 ((d : Int) + 1) ≤ 30; omega)) q2 (by show wi .i64 ((d : Int) + 1) ≤ _; omega))
 have g2 := I2.good
 simp only [ho, decide_true, Bool.not_true, cond_false, AW hk, Ks, obs, Int.toNat_natCast, e0, BL _ g2]
 exact ⟨_, rfl, fun _ => I2⟩
theorem Zm (c : Aa) (m : Ai) (I : Inv c) (gm : Bd m) : ∃ y, m21 c m = some y ∧ HH y := by
 have O := I.full.toJG
 have g := I.good
 have hl := O.led.len
 unfold m21 KV
 simp only [LM I, obs, bne_self_eq_false, cond_false, BL c g]
 unfold m48 m49
 rw [KJ c.F m gm]
 simp only [obs]
 by_cases hc : CB c.F m = 0
 rotate_left
 ·have e : (CB c.F m != 0) = true := by simpa using hc
  simp only [e, cond_true, obs]
  exact ⟨⟨CB c.F m, ⟨0, [], [], [], []⟩⟩, rfl, ET hc⟩
 have e : (CB c.F m != 0) = false := by simpa using hc
 simp only [e, cond_false]
 rw [show m72 c.Bad m.From = some (decide (m.From ∈ c.Bad)) from Js (Bl g.bad) (BS g.bad)]
 simp only [obs]
 by_cases hb : m.From ∈ c.Bad
 rotate_left
 ·simp only [hb, decide_false, Bool.not_false, cond_true, obs]
  exact ⟨⟨10, ⟨0, [], [], [], []⟩⟩, rfl, ET (by decide)⟩
 simp only [hb, decide_true, Bool.not_true, cond_false]
 cases hr : BB c.Ledger.length m
 rotate_left
 ·unfold m89
  rw [OD c.Ledger m hl g.msg gm, hr]
  simp only [cond_true, obs]
  exact ⟨⟨4, ⟨0, [], [], [], []⟩⟩, rfl, ET (by decide)⟩
 rw [Hu c m g hl gm hr]
 simp only [cond_false, obs]
 rw [IO g hl gm]
 exact ⟨_, rfl, Ru I ⟨hc, hr, fun h => absurd hb h, fun h => absurd hb h, fun h => absurd hb h, fun h => absurd hb h⟩ gm⟩
theorem YF (c : Aa) (r : Ag) (I : Inv c) (gr : IJ r) (hr : Cm r = 0) (hn : c.Requests.any (E0 r) = false) (hl : c.Requests.length < 5) : m13 c r = some ⟨0, ⟨c.F, c.Bad, c.Replicas, c.Ledger, c.Requests ++ [r]⟩⟩ ∧ Inv ⟨c.F, c.Bad, c.Replicas, c.Ledger, c.Requests ++ [r]⟩ := by
 have g := I.good
 have I2 := Ud I gr hr hn hl
 have g2 := I2.good
 have e0 : ((0 : Int) != 0) = false := rfl
 have ht : decide (ixI (BN (pAt (E0 r) c.Requests) c.Requests.length) ≥ 0) = false := by rw [GX, C0, hn]
 have e1 : ((c.Requests.length : Int) == 12) = false := by
  rw [beq_eq_false_iff_ne]; omega
 refine ⟨?_, I2⟩
 unfold m13 KW
 simp only [LM I, obs, bne_self_eq_false, cond_false, BL c g]
 unfold m38 m39
 rw [dC, K6 _ _ g.req, hr]
 simp only [obs, e0, cond_false, ht, e1]
 rw [ZB (show c.Requests.length + [r].length ≤ 2097152 by simp; omega) (by decide)]
 simp only [obs, bne_self_eq_false, cond_false, BL _ g2]
open Go Go.Rf
def PN (code : List U8) : Prop := code.length ≤ 1048576 ∧ ∀ x ∈ code, 0 ≤ x.v ∧ x.v ≤ 255
theorem eH (f : Int) : m33 f = inR f 1 2 := in1 _ _ _
def J9 (id : Int) : Af := ⟨id, 0, -1, 0⟩
theorem appR {L : List Af} {k : Af} (h : L.length ≤ 1000) : B0 32 L [k] = some (L ++ [k]) := by
 unfold B0
 rw [if_pos (by simp; omega)]
theorem Q2 (ids : List Int) (h : ids.length ≤ 1000) : Az (Jo ids) NN (0, []) = some (.exit 0 ((ids.length : Int), ids.map J9)) := by
 refine Dv (f := Jo ids) (s0 := (0, [])) (fun i => ((i : Int), (ids.take i).map J9)) ids.length _ (fun i hi => ?_) ?_ rfl (Bl (by omega)) rfl
 ·have hc' : (i : Int) < (ids.length : Int) := by omega
  unfold Jo
  simp only [hc', decide_true, cond_true, AW hi, obs]
  rw [appR (by simp; omega), wi1 (by omega), obs, List.take_succ_eq_append_getElem hi, List.map_append]
  rfl
 ·unfold Jo
  simp only [Int.lt_irrefl, decide_false, cond_false, List.take_length]
theorem HF {code : List U8} (H : PN code) {i n : Int} (hi : 0 ≤ i ∧ i ≤ 1000) (hn : n ≤ 1000) : ∃ r, m11 code i n = some r ∧ 0 ≤ r ∧ (r < n ∨ r = 0) := by
 obtain ⟨hl, hb⟩ := H
 unfold m11
 by_cases h1 : n ≤ 1
 ·simp only [h1, decide_true, cond_true]
  exact ⟨0, rfl, by omega, .inr rfl⟩
 have hn0 : n ≠ 0 := by omega
 simp only [h1, decide_false, cond_false]
 cases hc : ((code.length : Int) == 0)
 rotate_left
 ·simp only [cond_true, Ix, if_neg hn0, obs]
  exact ⟨_, rfl, Int.tmod_nonneg _ (by rw [Dp (by omega) (by omega)]; omega), .inl (Int.tmod_lt_of_pos _ (by omega))⟩
 have hp : 0 < (code.length : Int) := by
  have : (code.length : Int) ≠ 0 := by simpa using hc
  omega
 have hp0 : (code.length : Int) ≠ 0 := by omega
 have hx : ∀ a : Int, 0 ≤ a → ∃ x ∈ code, Ar code (Int.tmod a (code.length : Int)) = some x := fun a ha => by
  have q1 := Int.tmod_nonneg (a := a) (code.length : Int) ha
  have q2 := Int.tmod_lt_of_pos a hp
  have hi : (Int.tmod a (code.length : Int)).toNat < code.length := by omega
  refine ⟨code[(Int.tmod a (code.length : Int)).toNat], List.getElem_mem hi, ?_⟩
  unfold Ar
  rw [if_pos q1, List.getElem?_eq_getElem hi]
 have e2 : wi .i64 (i + 1) = i + 1 := Dp (by omega) (by omega)
 obtain ⟨x, hxm, hx1⟩ := hx i hi.1
 obtain ⟨y, hym, hy1⟩ := hx (i + 1) (by omega)
 have hxb := hb x hxm
 have hyb := hb y hym
 have t1 : 0 ≤ Int.tdiv i (code.length : Int) := Int.tdiv_nonneg hi.1 (by omega)
 have t2 : Int.tdiv i (code.length : Int) ≤ i := Int.tdiv_le_self _ hi.1
 have e4 : IntKind.i64.wrap (Int.tdiv i (code.length : Int)) = Int.tdiv i (code.length : Int) := Dp (by omega) (by omega)
 simp only [cond_false, Ix, Qv, if_neg hp0, if_neg hn0, obs, hx1, e2, hy1, e4]
 generalize Int.tdiv i (code.length : Int) = d at t1 t2
 have e6 : wi .i64 (wi .i64 x.v + wi .i64 (d * 3)) = x.v + d * 3 := by
  rw [Dp (x := x.v) (by omega) (by omega), Dp (x := d * 3) (by omega) (by omega), Dp (by omega) (by omega)]
 rw [e6]
 by_cases h5 : n > 200
 ·have e7 : wi .i64 (wi .i64 ((x.v + d * 3) * 251) + wi .i64 y.v) = (x.v + d * 3) * 251 + y.v := by
   rw [Dp (x := y.v) (by omega) (by omega), Dp (x := (x.v + d * 3) * 251) (by omega) (by omega), Dp (by omega) (by omega)]
  simp only [h5, decide_true, cond_true, Ah, obs, e7, if_neg hn0]
  exact ⟨_, rfl, Int.tmod_nonneg _ (by omega), .inl (Int.tmod_lt_of_pos _ (by omega))⟩
 ·simp only [h5, decide_false, cond_false, Ah, obs, if_neg hn0]
  exact ⟨_, rfl, Int.tmod_nonneg _ (by omega), .inl (Int.tmod_lt_of_pos _ (by omega))⟩
structure Hl (P : Aa → Prop) : Prop where
 inv : ∀ c, P c → Inv c
 off : ∀ (c : Aa) (r : Ag), P c → IJ r → Cm r = 0 → c.Requests.any (E0 r) = false → c.Requests.length < 5 → m13 c r = some ⟨0, ⟨c.F, c.Bad, c.Replicas, c.Ledger, c.Requests ++ [r]⟩⟩ ∧ P ⟨c.F, c.Bad, c.Replicas, c.Ledger, c.Requests ++ [r]⟩
 pro : ∀ (c : Aa) (id s v : Int), P c → ∃ y, m14 c id s v = some y ∧ (y.Code = 0 → P y.Cluster)
 prp : ∀ (c : Aa) (id i : Int), P c → ∃ y, m15 c id i = some y ∧ (y.Code = 0 → P y.Cluster)
 com : ∀ (c : Aa) (id s v : Int), P c → ∃ y, m16 c id s v = some y ∧ (y.Code = 0 → P y.Cluster)
 chg : ∀ (c : Aa) (id v : Int), P c → ∃ y, m17 c id v = some y ∧ (y.Code = 0 → P y.Cluster)
 nwc : ∀ (c : Aa) (id : Int), P c → ∃ y, m18 c id = some y ∧ (y.Code = 0 → P y.Cluster)
 ado : ∀ (c : Aa) (id pl : Int), P c → ∃ y, m19 c id pl = some y ∧ (y.Code = 0 → P y.Cluster)
 don : ∀ (c : Aa) (id : Int), P c → ∃ y, m20 c id = some y ∧ (y.Code = 0 → P y.Cluster)
 frg : ∀ (c : Aa) (m : Ai), P c → Bd m → ∃ y, m21 c m = some y ∧ (y.Code = 0 → P y.Cluster)
def opsL : List TOp := [(⟨1, [], 0, 0, false, false⟩ : TOp), (⟨3, ([47, 97] : Str), 7, 0, false, false⟩ : TOp), (⟨5, ([47, 97] : Str), 9, (-1), false, false⟩ : TOp), (⟨3, ([47, 97, 47, 98] : Str), 1, 0, true, true⟩ : TOp), (⟨6, ([47, 97] : Str), 0, 0, false, false⟩ : TOp)]
theorem YE : ∀ (i : Nat), i < 5 → ∃ x, Ar opsL (i : Int) = some x ∧ Cm (⟨wi .i64 (1 + (wi .i64 (Int.tdiv (i : Int) 3))), wi .i64 ((i : Int) + 1), (i : Int), [x]⟩ : Ag) = 0
 | 0, _ => ⟨⟨1, [], 0, 0, false, false⟩, rfl, by kernel_rfl⟩
 | 1, _ => ⟨⟨3, ([47, 97] : Str), 7, 0, false, false⟩, rfl, by kernel_rfl⟩
 | 2, _ => ⟨⟨5, ([47, 97] : Str), 9, (-1), false, false⟩, rfl, by kernel_rfl⟩
 | 3, _ => ⟨⟨3, ([47, 97, 47, 98] : Str), 1, 0, true, true⟩, rfl, by kernel_rfl⟩
 | 4, _ => ⟨⟨6, ([47, 97] : Str), 0, 0, false, false⟩, rfl, by kernel_rfl⟩
 | n + 5, h => absurd h (by omega)
section
variable {P : Aa → Prop} (S : Hl P)
include S
theorem eC {c0 : Aa} (h0 : P c0) (hr : c0.Requests = []) : ∃ (k : Int) (c : Aa), Az KO NN (true, 0, c0.F, c0.Bad, c0.Replicas, c0.Ledger, c0.Requests) = some (.exit 0 (true, k, c.F, c.Bad, c.Replicas, c.Ledger, c.Requests)) ∧ P c := by
 obtain ⟨o, h1, k, c, rfl, h2⟩ := Dh (f := KO) (fun i t => ∃ c : Aa, t = (true, (i : Int), c.F, c.Bad, c.Replicas, c.Ledger, c.Requests) ∧ P c ∧ c.Requests.length = i ∧ ∀ x ∈ c.Requests, x.Number ≤ i) 5 (fun o => ∃ (k : Int) (c : Aa), o = .exit 0 (true, k, c.F, c.Bad, c.Replicas, c.Ledger, c.Requests) ∧ P c) (fun i t hi ht => by
  obtain ⟨c, rfl, h1, h2, h3⟩ := ht
  unfold KO
  dsimp only
  by_cases hc : i < 5
  ·have hc' : (i : Int) < 5 := by omega
   obtain ⟨x, q1, q2⟩ := YE i hc
   have q1 : Ar [(⟨1, [], 0, 0, false, false⟩ : TOp), (⟨3, ([47, 97] : Str), 7, 0, false, false⟩ : TOp), (⟨5, ([47, 97] : Str), 9, (-1), false, false⟩ : TOp), (⟨3, ([47, 97, 47, 98] : Str), 1, 0, true, true⟩ : TOp), (⟨6, ([47, 97] : Str), 0, 0, false, false⟩ : TOp)] (i : Int) = some x := q1
   have e1 : wi .i64 ((i : Int) + 1) = ((i + 1 : Nat) : Int) := wi1 (by omega)
   obtain ⟨h4, h5⟩ := S.off c (⟨wi .i64 (1 + (wi .i64 (Int.tdiv (i : Int) 3))), wi .i64 ((i : Int) + 1), (i : Int), [x]⟩ : Ag) h1 (by show 1 ≤ 1048576; omega) q2 (by
    rw [List.any_eq_false]
    intro y hy
    have := h3 y hy
    unfold E0
    have e : (y.Number == wi .i64 ((i : Int) + 1)) = false := by
     rw [beq_eq_false_iff_ne, e1]; omega
    rw [e, Bool.and_false]
    decide) (by omega)
   have h4 : m13 (⟨c.F, c.Bad, c.Replicas, c.Ledger, c.Requests⟩ : Aa) _ = _ := h4
   simp only [hc', decide_true, cond_true, obs, Ah, q1, h4]
   refine .inl ⟨hc, _, by rw [e1]; rfl, _, rfl, h5, by simp; omega, fun y hy => ?_⟩
   rcases List.mem_append.1 hy with hy | hy
   ·have := h3 y hy; omega
   ·rw [List.mem_singleton.1 hy, e1]
    exact Int.le_refl _
  ·have hc' : ¬ (i : Int) < 5 := by omega
   simp only [hc', decide_false, cond_false, obs, Ah]
   exact .inr (.inl ⟨_, _, rfl, _, c, rfl, h1⟩)) NN 0 (true, 0, c0.F, c0.Bad, c0.Replicas, c0.Ledger, c0.Requests) (by omega) (Bl (by omega)) ⟨c0, rfl, h0, by rw [hr]; rfl, fun x hx => by rw [hr] at hx; cases hx⟩
 exact ⟨k, c, h1, h2⟩
theorem eB (y4 : Int) {c0 : Aa} (h0 : P c0) : ∃ (k : Int) (c : Aa), Az (OO y4) NN (0, c0.F, c0.Bad, c0.Replicas, c0.Ledger, c0.Requests) = some (.exit 5 (k, c.F, c.Bad, c.Replicas, c.Ledger, c.Requests)) ∧ P c := by
 obtain ⟨o, h1, k, c, rfl, h2⟩ := Dh (f := OO y4) (fun i t => ∃ c : Aa, t = ((i : Int), c.F, c.Bad, c.Replicas, c.Ledger, c.Requests) ∧ P c) 240 (fun o => ∃ (k : Int) (c : Aa), o = .exit 5 (k, c.F, c.Bad, c.Replicas, c.Ledger, c.Requests) ∧ P c) (fun i t hi ht => by
  obtain ⟨c, rfl, h1⟩ := ht
  have hl := (S.inv c h1).full.led.len
  unfold OO
  dsimp only
  by_cases hc : i < c.Ledger.length
  ·have hc' : (i : Int) < (c.Ledger.length : Int) := by omega
   have e1 : wi .i64 ((i : Int) + 1) = ((i + 1 : Nat) : Int) := wi1 (by omega)
   have e0 : ((0 : Int) == 0) = true := rfl
   simp only [hc', decide_true, cond_true, e0, obs, Ah, AW hc]
   cases c.Ledger[i].Kind == 1
   ·simp only [cond_false, obs, Ah, e1]
    exact .inl ⟨by omega, _, rfl, c, rfl, h1⟩
   ·obtain ⟨y, h3, h4⟩ := S.prp c (wi .i64 (1 + y4)) (i : Int) h1
    have h3 : m15 (⟨c.F, c.Bad, c.Replicas, c.Ledger, c.Requests⟩ : Aa) (wi .i64 (1 + y4)) (i : Int) = some y := h3
    simp only [cond_true, h3, obs]
    by_cases hy : y.Code = 0
    ·have e : (y.Code == 0) = true := by simpa using hy
     simp only [e, cond_true, obs, Ah, e1]
     exact .inl ⟨by omega, _, rfl, y.Cluster, rfl, h4 hy⟩
    ·have e : (y.Code == 0) = false := by simpa using hy
     simp only [e, cond_false, obs, Ah, e1]
     exact .inl ⟨by omega, _, rfl, c, rfl, h1⟩
  ·have hc' : ¬ (i : Int) < (c.Ledger.length : Int) := by omega
   simp only [hc', decide_false, cond_false, obs, Ah]
   exact .inr (.inl ⟨_, _, rfl, _, c, rfl, h1⟩)) NN 0 (0, c0.F, c0.Bad, c0.Replicas, c0.Ledger, c0.Requests) (by omega) (Bl (by omega)) ⟨c0, rfl, h0⟩
 exact ⟨k, c, h1, h2⟩
theorem eD (y4 y5 : Int) {c0 : Aa} (h0 : P c0) : ∃ (k : Int) (c : Aa), Az (ON y4 y5) NN (0, c0.F, c0.Bad, c0.Replicas, c0.Ledger, c0.Requests) = some (.exit 7 (k, c.F, c.Bad, c.Replicas, c.Ledger, c.Requests)) ∧ P c := by
 obtain ⟨o, h1, k, c, rfl, h2⟩ := Dh (f := ON y4 y5) (fun i t => ∃ c : Aa, t = ((i : Int), c.F, c.Bad, c.Replicas, c.Ledger, c.Requests) ∧ P c) 6 (fun o => ∃ (k : Int) (c : Aa), o = .exit 7 (k, c.F, c.Bad, c.Replicas, c.Ledger, c.Requests) ∧ P c) (fun i t hi ht => by
  obtain ⟨c, rfl, h1⟩ := ht
  unfold ON
  dsimp only
  by_cases hc : i < 6
  ·have hc' : (i : Int) < 6 := by omega
   have e1 : wi .i64 ((i : Int) + 1) = ((i + 1 : Nat) : Int) := wi1 (by omega)
   obtain ⟨y, h3, h4⟩ := S.com c (wi .i64 (1 + y4)) (wi .i64 (1 + y5)) (i : Int) h1
   have h3 : m16 (⟨c.F, c.Bad, c.Replicas, c.Ledger, c.Requests⟩ : Aa) (wi .i64 (1 + y4)) (wi .i64 (1 + y5)) (i : Int) = some y := h3
   simp only [hc', decide_true, cond_true, h3, obs]
   by_cases hy : y.Code = 0
   ·have e : (y.Code == 0) = true := by simpa using hy
    simp only [e, cond_true, obs, Ah, e1]
    exact .inl ⟨hc, _, rfl, y.Cluster, rfl, h4 hy⟩
   ·have e : (y.Code == 0) = false := by simpa using hy
    simp only [e, cond_false, obs, Ah, e1]
    exact .inl ⟨hc, _, rfl, c, rfl, h1⟩
  ·have hc' : ¬ (i : Int) < 6 := by omega
   simp only [hc', decide_false, cond_false]
   exact .inr (.inl ⟨_, _, rfl, _, c, rfl, h1⟩)) NN 0 (0, c0.F, c0.Bad, c0.Replicas, c0.Ledger, c0.Requests) (by omega) (Bl (by omega)) ⟨c0, rfl, h0⟩
 exact ⟨k, c, h1, h2⟩
theorem eF (b : Bool) (k0 y4 : Int) {c : Aa} (h0 : P c) {y0 : Ac} (hy0 : y0.Code = 0 → P y0.Cluster) : ∃ (k : Int) (y : Ac), Az (OM (b, k0, c.F, c.Bad, c.Replicas, c.Ledger, c.Requests) y4) NN (0, y0.Code, y0.Cluster.F, y0.Cluster.Bad, y0.Cluster.Replicas, y0.Cluster.Ledger, y0.Cluster.Requests) = some (.exit 9 (k, y.Code, y.Cluster.F, y.Cluster.Bad, y.Cluster.Replicas, y.Cluster.Ledger, y.Cluster.Requests)) ∧ (y.Code = 0 → P y.Cluster) := by
 have hl := (S.inv c h0).full.led.len
 obtain ⟨o, h1, k, y, rfl, h2⟩ := Dh (f := OM (b, k0, c.F, c.Bad, c.Replicas, c.Ledger, c.Requests) y4) (fun i t => ∃ y : Ac, t = ((i : Int), y.Code, y.Cluster.F, y.Cluster.Bad, y.Cluster.Replicas, y.Cluster.Ledger, y.Cluster.Requests) ∧ (y.Code = 0 → P y.Cluster)) c.Ledger.length (fun o => ∃ (k : Int) (y : Ac), o = .exit 9 (k, y.Code, y.Cluster.F, y.Cluster.Bad, y.Cluster.Replicas, y.Cluster.Ledger, y.Cluster.Requests) ∧ (y.Code = 0 → P y.Cluster)) (fun i t hi ht => by
  obtain ⟨y, rfl, h1⟩ := ht
  unfold OM
  dsimp only
  by_cases hc : i < c.Ledger.length
  ·have hc' : (i : Int) < (c.Ledger.length : Int) := by omega
   have e1 : wi .i64 ((i : Int) + 1) = ((i + 1 : Nat) : Int) := wi1 (by omega)
   simp only [hc', decide_true, cond_true, obs, Ah]
   cases y.Code != 0
   ·simp only [cond_false, obs, Ah]
    exact .inr (.inl ⟨_, _, rfl, _, y, rfl, h1⟩)
   ·obtain ⟨z, h3, h4⟩ := S.ado c (wi .i64 (1 + y4)) (i : Int) h0
    have h3 : m19 (⟨c.F, c.Bad, c.Replicas, c.Ledger, c.Requests⟩ : Aa) (wi .i64 (1 + y4)) (i : Int) = some z := h3
    simp only [cond_true, obs, Ah, h3, e1]
    exact .inl ⟨hc, _, rfl, z, rfl, h4⟩
  ·have hc' : ¬ (i : Int) < (c.Ledger.length : Int) := by omega
   simp only [hc', decide_false, cond_false, obs, Ah]
   exact .inr (.inl ⟨_, _, rfl, _, y, rfl, h1⟩)) NN 0 (0, y0.Code, y0.Cluster.F, y0.Cluster.Bad, y0.Cluster.Replicas, y0.Cluster.Ledger, y0.Cluster.Requests) (by omega) (Bl (by omega)) ⟨y0, rfl, hy0⟩
 exact ⟨k, y, h1, h2⟩
end
theorem bI {σ τ : Type} {E : Option (LO σ)} {K : LO σ → Option (LO τ)} (G : σ → Prop) {Q : τ → Prop} (hE : ∃ v, E = some (.norm v) ∧ G v) (hK : ∀ v, G v → ∃ w, K (.norm v) = some (.norm w) ∧ Q w) : ∃ w, E.bind K = some (.norm w) ∧ Q w := by
 obtain ⟨v, rfl, h⟩ := hE
 exact hK v h
theorem or2 (a b : Bool) : (bif a then some (LO.norm a) else some (LO.norm b) : Option (LO Bool)) = some (.norm (a || b)) := by cases a <;> rfl
theorem or3 (a b c : Bool) : (bif a then some (LO.norm a) else bif b then some (LO.norm b) else some (LO.norm c) : Option (LO Bool)) = some (.norm (a || (b || c))) := by cases a <;> cases b <;> rfl
theorem or4 (a b c d : Bool) : (bif a then some (LO.norm a) else bif b then some (LO.norm b) else bif c then some (LO.norm c) else some (LO.norm d) : Option (LO Bool)) = some (.norm (a || (b || (c || d)))) := by cases a <;> cases b <;> cases c <;> rfl
section
variable {P : Aa → Prop} (S : Hl P)
include S
theorem YY {code : List U8} (H : PN code) {k : Nat} (hk : k < 60) {c : Aa} (h0 : P c) : ∃ w, J8 code (true, (k : Int), c.F, c.Bad, c.Replicas, c.Ledger, c.Requests) = some (.norm w) ∧ ∃ c' : Aa, w = (true, ((k + 1 : Nat) : Int), c'.F, c'.Bad, c'.Replicas, c'.Ledger, c'.Requests) ∧ P c' := by
 have hl := (S.inv c h0).full.led.len
 have hk' : (k : Int) < 60 := by omega
 have ew : ∀ j : Nat, j ≤ 100 → wi .i64 ((k : Int) + (j : Int)) = (k : Int) + j := fun j hj => Dp (by omega) (by omega)
 have w9 : wi .i64 ((k : Int) + 9) = (k : Int) + 9 := ew 9 (by omega)
 have w20 : wi .i64 ((k : Int) + 20) = (k : Int) + 20 := ew 20 (by omega)
 have w30 : wi .i64 ((k : Int) + 30) = (k : Int) + 30 := ew 30 (by omega)
 have w40 : wi .i64 ((k : Int) + 40) = (k : Int) + 40 := ew 40 (by omega)
 have w50 : wi .i64 ((k : Int) + 50) = (k : Int) + 50 := ew 50 (by omega)
 have w60 : wi .i64 ((k : Int) + 60) = (k : Int) + 60 := ew 60 (by omega)
 have w70 : wi .i64 ((k : Int) + 70) = (k : Int) + 70 := ew 70 (by omega)
 have w80 : wi .i64 ((k : Int) + 80) = (k : Int) + 80 := ew 80 (by omega)
 have w1 : wi .i64 ((k : Int) + 1) = ((k + 1 : Nat) : Int) := wi1 (by omega)
 have wl : wi .i64 ((c.Ledger.length : Int) + 1) = (c.Ledger.length : Int) + 1 := Dp (by omega) (by omega)
 obtain ⟨y4, a4, _⟩ := HF H (i := (k : Int) + 9) (n := 4) (by omega) (by omega)
 obtain ⟨y5, a5, _⟩ := HF H (i := (k : Int) + 20) (n := 3) (by omega) (by omega)
 obtain ⟨y6, a6, _⟩ := HF H (i := (k : Int) + 30) (n := 6) (by omega) (by omega)
 obtain ⟨y7, a7, _⟩ := HF H (i := (k : Int) + 40) (n := (c.Ledger.length : Int) + 1) (by omega) (by omega)
 obtain ⟨y8, a8, _⟩ := HF H (i := (k : Int) + 50) (n := 14) (by omega) (by omega)
 obtain ⟨y12, a12, _⟩ := HF H (i := (k : Int) + 60) (n := 3) (by omega) (by omega)
 obtain ⟨y18, a18, _⟩ := HF H (i := (k : Int) + 60) (n := 4) (by omega) (by omega)
 obtain ⟨y19, a19, _⟩ := HF H (i := (k : Int) + 70) (n := 3) (by omega) (by omega)
 obtain ⟨y20, a20, _⟩ := HF H (i := (k : Int) + 80) (n := 2) (by omega) (by omega)
 unfold J8
 simp only [hk', decide_true, cond_true, obs, Ah, w9, w20, w30, w40, w50, w60, w70, w80, w1, wl, a4, a5, a6, a7, a8, a12, a18, a19, a20, or2, or3, or4]
 refine bI (fun w => ∃ c' : Aa, w = (true, c'.F, c'.Bad, c'.Replicas, c'.Ledger, c'.Requests) ∧ P c') (bI (fun v => ∃ (y : Ac) (c' : Aa), v = (y.Code, y.Cluster.F, y.Cluster.Bad, y.Cluster.Replicas, y.Cluster.Ledger, y.Cluster.Requests, c'.F, c'.Bad, c'.Replicas, c'.Ledger, c'.Requests) ∧ P c' ∧ (y.Code = 0 → P y.Cluster)) ?_ ?_) ?_
 ·have no : ∀ c' : Aa, P c' → ∃ (y : Ac) (c'' : Aa), ((1, 0, [], [], [], [], c'.F, c'.Bad, c'.Replicas, c'.Ledger, c'.Requests) : Int × Int × (List Int) × (List Af) × (List Ai) × (List Ag) × Int × (List Int) × (List Af) × (List Ai) × (List Ag)) = (y.Code, y.Cluster.F, y.Cluster.Bad, y.Cluster.Replicas, y.Cluster.Ledger, y.Cluster.Requests, c''.F, c''.Bad, c''.Replicas, c''.Ledger, c''.Requests) ∧ P c'' ∧ (y.Code = 0 → P y.Cluster) := fun c' hc => ⟨⟨1, ⟨0, [], [], [], []⟩⟩, c', rfl, hc, fun h => by cases h⟩
  cases (y8 == 0) || (y8 == 1)
  rotate_left
  ·obtain ⟨y, h1, h2⟩ := S.pro c (wi .i64 (1 + y4)) (wi .i64 (1 + y5)) y6 h0
   have h1 : m14 (⟨c.F, c.Bad, c.Replicas, c.Ledger, c.Requests⟩ : Aa) (wi .i64 (1 + y4)) (wi .i64 (1 + y5)) y6 = some y := h1
   simp only [cond_true, h1, obs]
   exact ⟨_, rfl, y, c, rfl, h0, h2⟩
  simp only [cond_false]
  cases (y8 == 2) || ((y8 == 3) || ((y8 == 4) || (y8 == 5)))
  rotate_left
  ·obtain ⟨j, c', h1, h2⟩ := eB S y4 h0
   simp only [cond_true, h1, obs, if_true]
   exact ⟨_, rfl, no c' h2⟩
  simp only [cond_false]
  cases (y8 == 6) || ((y8 == 7) || (y8 == 8))
  rotate_left
  ·obtain ⟨j, c', h1, h2⟩ := eD S y4 y5 h0
   simp only [cond_true, h1, obs, if_true]
   exact ⟨_, rfl, no c' h2⟩
  simp only [cond_false]
  cases y8 == 9
  rotate_left
  ·obtain ⟨y, h1, h2⟩ := S.chg c (wi .i64 (1 + y4)) (wi .i64 (1 + y12)) h0
   have h1 : m17 (⟨c.F, c.Bad, c.Replicas, c.Ledger, c.Requests⟩ : Aa) (wi .i64 (1 + y4)) (wi .i64 (1 + y12)) = some y := h1
   simp only [cond_true, h1, obs]
   exact ⟨_, rfl, y, c, rfl, h0, h2⟩
  simp only [cond_false]
  cases y8 == 10
  rotate_left
  ·obtain ⟨y, h1, h2⟩ := S.nwc c (wi .i64 (1 + y4)) h0
   have h1 : m18 (⟨c.F, c.Bad, c.Replicas, c.Ledger, c.Requests⟩ : Aa) (wi .i64 (1 + y4)) = some y := h1
   simp only [cond_true, h1, obs]
   exact ⟨_, rfl, y, c, rfl, h0, h2⟩
  simp only [cond_false]
  cases y8 == 11
  rotate_left
  ·obtain ⟨y, h1, h2⟩ := S.ado c (wi .i64 (1 + y4)) y7 h0
   have h1 : m19 (⟨c.F, c.Bad, c.Replicas, c.Ledger, c.Requests⟩ : Aa) (wi .i64 (1 + y4)) y7 = some y := h1
   obtain ⟨j, z, h3, h4⟩ := eF S true (k : Int) y4 h0 h2
   simp only [cond_true, h1, h3, obs, if_true]
   exact ⟨_, rfl, z, c, rfl, h0, h4⟩
  simp only [cond_false]
  cases y8 == 12
  rotate_left
  ·obtain ⟨y, h1, h2⟩ := S.don c (wi .i64 (1 + y4)) h0
   have h1 : m20 (⟨c.F, c.Bad, c.Replicas, c.Ledger, c.Requests⟩ : Aa) (wi .i64 (1 + y4)) = some y := h1
   simp only [cond_true, h1, obs]
   exact ⟨_, rfl, y, c, rfl, h0, h2⟩
  simp only [cond_false]
  have frg : ∀ (a b d e : Int) (cs : List AE), cs.length ≤ 1 → ∃ y, m21 (⟨c.F, c.Bad, c.Replicas, c.Ledger, c.Requests⟩ : Aa) (⟨a, b, wi .i64 (1 + y4), d, e, cs, []⟩ : Ai) = some y ∧ (y.Code = 0 → P y.Cluster) := fun a b d e cs hcs => S.frg c _ h0 ⟨Nat.le_trans hcs (by omega), Nat.zero_le _⟩
  cases (wi .i64 (1 + y18)) == 4
  ·obtain ⟨y, h1, h2⟩ := frg (wi .i64 (1 + y18)) y19 (wi .i64 (1 + y5)) y6 [] (Nat.zero_le _)
   simp only [cond_false, obs, Ah, h1]
   exact ⟨_, rfl, y, c, rfl, h0, h2⟩
  ·simp only [cond_true]
   cases y20 == 0
   ·obtain ⟨y, h1, h2⟩ := frg 4 (wi .i64 (1 + y19)) 0 0 [] (Nat.zero_le _)
    simp only [cond_false, obs, Ah, h1]
    exact ⟨_, rfl, y, c, rfl, h0, h2⟩
   ·obtain ⟨y, h1, h2⟩ := frg 4 (wi .i64 (1 + y19)) 0 0 [(⟨wi .i64 (1 + y5), 0, y6⟩ : AE)] (Nat.le_refl _)
    simp only [cond_true, obs, Ah, h1]
    exact ⟨_, rfl, y, c, rfl, h0, h2⟩
 ·rintro _ ⟨y, c', rfl, h1, h2⟩
  by_cases hy : y.Code = 0
  ·have e : (y.Code == 0) = true := by simpa using hy
   have f : m22 (⟨y.Cluster.F, y.Cluster.Bad, y.Cluster.Replicas, y.Cluster.Ledger, y.Cluster.Requests⟩ : Aa) = some 0 := LM (S.inv _ (h2 hy))
   simp only [e, cond_true, obs, Ah, f]
   exact ⟨_, rfl, y.Cluster, rfl, h2 hy⟩
  ·have e : (y.Code == 0) = false := by simpa using hy
   have f : m22 (⟨c'.F, c'.Bad, c'.Replicas, c'.Ledger, c'.Requests⟩ : Aa) = some 0 := LM (S.inv _ h1)
   simp only [e, cond_false, obs, Ah, f]
   exact ⟨_, rfl, c', rfl, h1⟩
 ·rintro _ ⟨c', rfl, h1⟩
  exact ⟨_, rfl, c', rfl, h1⟩
theorem eE {code : List U8} (H : PN code) {c0 : Aa} (h0 : P c0) : ∃ (k : Int) (c : Aa), Az (J8 code) NN (true, 0, c0.F, c0.Bad, c0.Replicas, c0.Ledger, c0.Requests) = some (.exit 2 (true, k, c.F, c.Bad, c.Replicas, c.Ledger, c.Requests)) ∧ P c := by
 obtain ⟨o, h1, k, c, rfl, h2⟩ := Dh (f := J8 code) (fun i t => ∃ c : Aa, t = (true, (i : Int), c.F, c.Bad, c.Replicas, c.Ledger, c.Requests) ∧ P c) 60 (fun o => ∃ (k : Int) (c : Aa), o = .exit 2 (true, k, c.F, c.Bad, c.Replicas, c.Ledger, c.Requests) ∧ P c) (fun i t hi ht => by
  obtain ⟨c, rfl, h1⟩ := ht
  by_cases hc : i < 60
  ·obtain ⟨w, h2, c', rfl, h3⟩ := YY S H hc h1
   exact .inl ⟨hc, _, h2, c', rfl, h3⟩
  ·have hc' : ¬ (i : Int) < 60 := by omega
   unfold J8
   simp only [hc', decide_false, cond_false, obs, Ah]
   exact .inr (.inl ⟨_, _, rfl, _, c, rfl, h1⟩)) NN 0 (true, 0, c0.F, c0.Bad, c0.Replicas, c0.Ledger, c0.Requests) (by omega) (Bl (by omega)) ⟨c0, rfl, h0⟩
 exact ⟨k, c, h1, h2⟩
end
theorem TK {bs : List Int} (h : bs.length ≤ 1) (hb : F6 1 bs = 0) : m12 1 bs = some ⟨0, ⟨1, bs, (CN 1 bs).map J9, [], []⟩⟩ := by
 have e1 : m34 1 bs = some 0 := by
  unfold m34
  have e : ¬ ((bs.length : Int) > 1) := by omega
  rw [Me 1 bs (by omega), hb, decide_eq_false e]; rfl
 have hol : (CN 1 bs).length ≤ 1000 := DL (f := 1) (by omega) (by omega)
 have e3 : m35 bs = some bs := PY (by omega) (by decide)
 unfold m12
 rw [eH, e1, e3, J4 (by omega) bs (by omega), show inR 1 1 2 = true from rfl]
 simp only [Bool.not_true, cond_false, obs, bne_self_eq_false]
 rw [Q2 _ hol]
 rfl
theorem YJ {bs : List Int} (h : bs.length ≤ 1) (hb : F6 1 bs = 0) : Inv ⟨1, bs, (CN 1 bs).map J9, [], []⟩ := by
 have hol : (CN 1 bs).length ≤ 1000 := DL (f := 1) (by omega) (by omega)
 have hc : Hh 1 [] = 0 := rfl
 refine ⟨⟨⟨PK hc, (by show (bs.length : Int) ≤ 1; omega), Nat.zero_le _, hb, ?_, fun r hr => ?_⟩, hc, rfl⟩, ⟨(by show bs.length ≤ 1048576; omega), (by simp only [List.length_map]; omega), Nat.zero_le _, fun x hx => (by cases hx), Nat.zero_le _, fun x hx => (by cases hx)⟩, List.Pairwise.nil, fun x hx => (by cases hx), fun x hx => (by cases hx), fun x hx => (by cases hx), rfl, Nat.zero_le _⟩
 ·show ((CN 1 bs).map J9).map (·.Id) = CN 1 bs
  rw [List.map_map]
  exact List.map_id _
 ·obtain ⟨id, hid, rfl⟩ := List.mem_map.1 hr
  have hu := (K0 _ _).1 (List.mem_filter.1 hid).1
  refine Iw (Oq ?_ (by show (0 : Int) ≤ 0 ∧ (0 : Int) ≤ 20; omega) (by show (0 : Int) ≤ 0 ∧ (0 : Int) ≤ 30; omega)) rfl (by show (0 : Int) ≤ _; omega)
  show 1 ≤ id ∧ id ≤ BG 1
  rw [Cf (by omega)]
  omega
theorem jH {P : Aa → Prop} (S : Hl P) (h0 : ∀ bs : List Int, bs.length ≤ 1 → F6 1 bs = 0 → P ⟨1, bs, (CN 1 bs).map J9, [], []⟩) {code : List U8} (H : PN code) : ∃ c, m6 code = some (c, true) ∧ P c := by
 obtain ⟨y1, a1, b1, _⟩ := HF H (i := 0) (n := 6) (by omega) (by omega)
 have key : ∀ bs : List Int, bs.length ≤ 1 → F6 1 bs = 0 → (CN 1 bs).length + bs.length = 4 → ∃ c, ((some (LO.norm bs) : Option (LO (List Int))).bind (Ah (fun s2 =>
 (m12 1 s2).bind fun y2 =>
 (Az (KO) NN ((wi .i64 ((y2.Cluster.Replicas.length : Int) + (s2.length : Int))) == 4, 0, y2.Cluster.F, y2.Cluster.Bad, y2.Cluster.Replicas, y2.Cluster.Ledger, y2.Cluster.Requests)).bind (Ah (fun _ => none) (fun i4 s8 =>
  if i4 = 0 then
  (Az (J8 code) NN (s8.1, 0, s8.2.2.1, s8.2.2.2.1, s8.2.2.2.2.1, s8.2.2.2.2.2.1, s8.2.2.2.2.2.2)).bind (Ah (fun _ => none) (fun i23 s46 =>
   if i23 = 2 then
   some ((⟨s46.2.2.1, s46.2.2.2.1, s46.2.2.2.2.1, s46.2.2.2.2.2.1, s46.2.2.2.2.2.2⟩ : Aa), s46.1)
   else
   none) (fun s46 =>
   some ((⟨0, [], [], [], []⟩ : Aa), false)))
  else
  none) (fun s8 =>
  some ((⟨0, [], [], [], []⟩ : Aa), false)))) (fun i1 s2 =>
 none) (fun s2 =>
 some ((⟨0, [], [], [], []⟩ : Aa), false)))) = some (c, true) ∧ P c := fun bs h1 h2 h3 => by
  have e : (wi .i64 ((((CN 1 bs).map J9).length : Int) + (bs.length : Int)) == 4) = true := by
   rw [List.length_map, Dp (by omega) (by omega), beq_iff_eq]; omega
  obtain ⟨k, c, q1, q2⟩ := eC S (h0 bs h1 h2) rfl
  obtain ⟨k2, c2, q3, q4⟩ := eE S H q2
  have q1 : Az KO NN (true, 0, 1, bs, (CN 1 bs).map J9, [], []) = _ := q1
  simp only [obs, Ah, TK h1 h2, e, q1, if_true, q3]
  exact ⟨c2, rfl, q4⟩
 unfold m6
 rw [a1]
 simp only [obs]
 by_cases h1 : y1 > 0
 rotate_left
 ·simp only [h1, decide_false, cond_false]
  exact key [] (by decide) rfl rfl
 by_cases h2 : y1 < 5
 rotate_left
 ·simp only [h1, h2, decide_true, decide_false, cond_true, cond_false]
  exact key [] (by decide) rfl rfl
 have h5 : y1 = 1 ∨ y1 = 2 ∨ y1 = 3 ∨ y1 = 4 := by omega
 have ha : B0 8 [] [y1] = some [y1] := PY (by show 1 ≤ 1048576; omega) (by decide)
 simp only [h1, h2, decide_true, cond_true, ha, obs]
 rcases h5 with rfl | rfl | rfl | rfl <;> exact key _ (by decide) rfl rfl
open Go Go.Rf
theorem K7 (c : Aa) (id : Int) (h : c.Replicas.length ≤ 1048576) : (M1 c id = none ∧ m23 c id = some none) ∨ ∃ (i : Nat) (hi : i < c.Replicas.length), M1 c id = some i ∧ m23 c id = some (some c.Replicas[i]) := by
 unfold m23
 rw [show m57 c.Replicas (fun x0_ => some (m58 x0_ id)) = some (ixI (M1 c id)) from Ih (Bl h) (BS h) (fun x _ => rfl), obs]
 cases e : M1 c id with
 | none => exact .inl ⟨rfl, rfl⟩
 | some i =>
  have hi := (IK.1 e).1
  refine .inr ⟨i, hi, rfl, ?_⟩
  have h1 : ¬ (ixI (some i) < 0) := by simp [ixI]
  simp only [h1, decide_false, cond_false]
  rw [show ixI (some i) = (i : Int) from rfl, AW hi]; rfl
theorem K8 {c : Aa} (O : JG c) {id : Int} (h : 1 ≤ id ∧ id ≤ 3 * c.F + 1) : (M1 c id).isNone = !EK c.Bad id := by
 unfold M1
 rw [LJ]
 congr 1
 have hf := O.led.f12
 have e : (c.Replicas.any fun r => r.Id == id) = decide (id ∈ c.Replicas.map (·.Id)) := by
  rw [Bool.eq_iff_iff]; simp
 rw [e, O.ids]
 unfold CN
 rw [Bool.eq_iff_iff, decide_eq_true_eq, List.mem_filter, K0]
 constructor
 ·exact fun h => h.2
 ·exact fun h' => ⟨by omega, h'⟩
def GN (x y : Ai) : Bool := (y.Kind == x.Kind) && ((y.From == x.From) && ((y.View == x.View) && (y.Slot == x.Slot)))
def QH (c : Aa) (i : Nat) (x : Ai) : Bool := EK c.Bad x.From && (((x.Kind == 4) && !BE c.F c.Ledger (i : Int)) || (inR x.Kind 1 3 && (c.Ledger.take i).any (GN x)))
def Ie (c : Aa) (i : Nat) : Bool := (c.Ledger[i]?).any (QH c i)
theorem Fe {c : Aa} {i : Nat} (h : i < c.Ledger.length) : Ie c i = QH c i c.Ledger[i] := by
 unfold Ie; rw [List.getElem?_eq_getElem h]; rfl
theorem Io (a b c d : Bool) : (bif a then
   bif b then
   bif c then
    some (LO.norm d)
   else
    some (LO.norm false)
   else
   some (LO.norm false)
  else
   some (LO.norm false)) = some (LO.norm (a && (b && (c && d)))) := by
 cases a <;> cases b <;> cases c <;> rfl
theorem Nh (c : Aa) (x : Ai) (i : Nat) (hi : i ≤ c.Ledger.length) (hl : c.Ledger.length ≤ 1048576) (hk : 1 ≤ x.Kind) : ∃ j, Az (J7 c (false, (i : Int)) x) NN (false, 0) = some (bif (inR x.Kind 1 3 && (c.Ledger.take i).any (GN x)) then .ret (false, j) else .exit 2 (false, j)) := by
 have e3 : decide (x.Kind ≤ 3) = inR x.Kind 1 3 := by
  unfold inR
  exact decide_eq_decide.2 ⟨fun h => ⟨hk, h⟩, fun h => h.2⟩
 cases hs : inR x.Kind 1 3
 ·refine ⟨0, EU (by have := Bl (n := 0) (by omega); omega) ?_ rfl⟩
  unfold J7
  rw [e3, hs]
  cases decide ((0 : Int) < (i : Int)) <;> rfl
 ·rw [Bool.true_and]
  have hle : (c.Ledger.take i).length = i := by rw [List.length_take]; omega
  rw [AG (f := J7 c (false, (i : Int)) x) (s0 := (false, 0)) (fun j => (false, (j : Int))) (c.Ledger.take i).length (pAt (GN x) (c.Ledger.take i)) (fun j => .ret (false, (j : Int))) (.exit 2 (false, ((c.Ledger.take i).length : Int))) (fun j hj _ hp => ?_) (fun j hj _ hp => ?_) (fun _ => ?_) (Bl (by omega)) rfl]
  ·rw [← C0]
   cases BN (pAt (GN x) (c.Ledger.take i)) (c.Ledger.take i).length <;> exact ⟨_, rfl⟩
  ·rw [AQ hj, List.getElem_take] at hp
   have hc' : (j : Int) < (i : Int) := by omega
   unfold J7
   unfold GN at hp
   simp only [e3, hs, hc', decide_true, cond_true, obs, Ah, AW (show j < c.Ledger.length by omega), Io, hp, cond_false, wi1 (show j ≤ 1099511627776 by omega)]
  ·rw [AQ hj, List.getElem_take] at hp
   have hc' : (j : Int) < (i : Int) := by omega
   unfold J7
   unfold GN at hp
   simp only [e3, hs, hc', decide_true, cond_true, obs, Ah, AW (show j < c.Ledger.length by omega), Io, hp]
   exact ⟨trivial, rfl⟩
  ·have hc' : ¬ (((c.Ledger.take i).length : Int) < (i : Int)) := by omega
   unfold J7
   simp only [hc', decide_false, cond_false, obs, Ah]
   exact ⟨trivial, rfl⟩
theorem Xi (c : Aa) (g : Eu c) (O : JG c) : Az (KL c) NN (false, 0) = some (orF (BN (Ie c) c.Ledger.length) (fun i => .ret (false, (i : Int))) (.exit 0 (false, (c.Ledger.length : Int)))) := by
 have H := O.led
 refine AG (f := KL c) (s0 := (false, 0)) (fun i => (false, (i : Int))) c.Ledger.length (Ie c) (fun i => .ret (false, (i : Int))) (.exit 0 (false, (c.Ledger.length : Int))) (fun i hi _ hp => ?_) (fun i hi _ hp => ?_) (fun _ => ?_) (Bl g.led) rfl
 ·rw [Fe hi] at hp
  have hk := (H.msg _ (List.getElem_mem hi)).kind
  have hc' : (i : Int) < (c.Ledger.length : Int) := by omega
  obtain ⟨j, hj⟩ := Nh c c.Ledger[i] i (Nat.le_of_lt hi) g.led hk.1
  unfold KL
  unfold QH at hp
  simp only [hc', decide_true, cond_true, AW hi, obs, Kt _ _ g.bad, F5 H]
  cases ho : EK c.Bad c.Ledger[i].From
  ·simp only [Bool.not_false, cond_true, obs, Ah, wi1 (show i ≤ 1099511627776 by have := g.led; omega)]
  ·rw [ho, Bool.true_and, Bool.or_eq_false_iff] at hp
   rw [hp.2] at hj
   simp only [Bool.not_true, cond_false]
   cases h4 : c.Ledger[i].Kind == 4
   ·simp only [cond_false, obs, Ah, hj, if_true, wi1 (show i ≤ 1099511627776 by have := g.led; omega)]
   ·rw [h4, Bool.true_and] at hp
    simp only [cond_true, hp.1, cond_false, obs, Ah, hj, if_true, wi1 (show i ≤ 1099511627776 by have := g.led; omega)]
 ·rw [Fe hi] at hp
  have hk := (H.msg _ (List.getElem_mem hi)).kind
  have hc' : (i : Int) < (c.Ledger.length : Int) := by omega
  obtain ⟨j, hj⟩ := Nh c c.Ledger[i] i (Nat.le_of_lt hi) g.led hk.1
  unfold KL
  unfold QH at hp
  rw [Bool.and_eq_true] at hp
  simp only [hc', decide_true, cond_true, AW hi, obs, Kt _ _ g.bad, F5 H, hp.1, Bool.not_true, cond_false]
  have hp2 := hp.2
  cases h4 : c.Ledger[i].Kind == 4
  ·rw [h4, Bool.false_and, Bool.false_or] at hp2
   rw [hp2] at hj
   simp only [cond_false, obs, Ah, hj, cond_true]
   exact ⟨trivial, rfl⟩
  ·cases h5 : BE c.F c.Ledger (i : Int)
   ·exact ⟨rfl, rfl⟩
   ·rw [h4, h5, Bool.not_true, Bool.and_false, Bool.false_or] at hp2
    rw [hp2] at hj
    simp only [cond_true, Bool.not_true, cond_false, obs, Ah, hj]
    exact ⟨trivial, rfl⟩
 ·unfold KL
  simp only [Int.lt_irrefl, decide_false, cond_false]
  exact ⟨trivial, rfl⟩
theorem Xj (c : Aa) (g : Eu c) (O : JG c) : Az (KN c) NN (false, 0) = some (orF (BN (Ie c) c.Ledger.length) (fun i => .ret (false, (i : Int))) (.exit 0 (false, (c.Ledger.length : Int)))) := by
 have H := O.led
 have hm := Cf H.f12
 refine AG (f := KN c) (s0 := (false, 0)) (fun i => (false, (i : Int))) c.Ledger.length (Ie c) (fun i => .ret (false, (i : Int))) (.exit 0 (false, (c.Ledger.length : Int))) (fun i hi _ hp => ?_) (fun i hi _ hp => ?_) (fun _ => ?_) (Bl g.led) rfl
 ·rw [Fe hi] at hp
  have hfr := (H.msg _ (List.getElem_mem hi)).frm
  rw [hm] at hfr
  have hn := K8 O hfr
  have hc' : (i : Int) < (c.Ledger.length : Int) := by omega
  have e3 : m26 (c.Ledger.take i) (fun x0_ => m27 x0_ c.Ledger[i]) = some ((c.Ledger.take i).any (GN c.Ledger[i])) := G0 (Bl (by rw [List.length_take]; have := g.led; omega)) (BS (by rw [List.length_take]; have := g.led; omega)) (fun x _ => by
   unfold m27
   rw [Io]; rfl)
  unfold KN
  unfold QH at hp
  simp only [hc', decide_true, cond_true, AW hi, obs, EH H, FX, Ef (Nat.le_of_lt hi), e3]
  rcases K7 c c.Ledger[i].From g.rep with ⟨r1, r2⟩ | ⟨k, hk, r1, r2⟩
  ·rw [r2]
   simp only [obs, Gm, Ah, wi1 (show i ≤ 1099511627776 by have := g.led; omega)]
  ·rw [r2]
   rw [r1] at hn
   have ho : EK c.Bad c.Ledger[i].From = true := by
    cases h : EK c.Bad c.Ledger[i].From
    ·rw [h] at hn; cases hn
    ·rfl
   rw [ho, Bool.true_and, Bool.or_eq_false_iff] at hp
   simp only [obs, Gm]
   have tail : (bif inR c.Ledger[i].Kind 1 3 then
    bif (c.Ledger.take i).any (GN c.Ledger[i]) then
     some (LO.ret false)
    else
     some (LO.norm false)
   else
    some (LO.norm false)) = (some (LO.norm false) : Option (LO Bool)) := by
    have hp2 := hp.2
    cases h1 : inR c.Ledger[i].Kind 1 3
    ·rfl
    ·rw [h1, Bool.true_and] at hp2
     rw [hp2]; rfl
   cases h4 : c.Ledger[i].Kind == 4
   ·simp only [cond_false, obs, Ah, tail, wi1 (show i ≤ 1099511627776 by have := g.led; omega)]
   ·rw [h4, Bool.true_and] at hp
    simp only [cond_true, hp.1, cond_false, obs, Ah, tail, wi1 (show i ≤ 1099511627776 by have := g.led; omega)]
 ·rw [Fe hi] at hp
  have hfr := (H.msg _ (List.getElem_mem hi)).frm
  rw [hm] at hfr
  have hn := K8 O hfr
  have hc' : (i : Int) < (c.Ledger.length : Int) := by omega
  have e3 : m26 (c.Ledger.take i) (fun x0_ => m27 x0_ c.Ledger[i]) = some ((c.Ledger.take i).any (GN c.Ledger[i])) := G0 (Bl (by rw [List.length_take]; have := g.led; omega)) (BS (by rw [List.length_take]; have := g.led; omega)) (fun x _ => by
   unfold m27
   rw [Io]; rfl)
  unfold KN
  unfold QH at hp
  rw [Bool.and_eq_true] at hp
  simp only [hc', decide_true, cond_true, AW hi, obs, EH H, FX, Ef (Nat.le_of_lt hi), e3]
  rcases K7 c c.Ledger[i].From g.rep with ⟨r1, r2⟩ | ⟨k, hk, r1, r2⟩
  ·rw [r1, hp.1] at hn; cases hn
  ·rw [r2]
   simp only [obs, Gm]
   have hp2 := hp.2
   cases h4 : c.Ledger[i].Kind == 4
   ·rw [h4, Bool.false_and, Bool.false_or, Bool.and_eq_true] at hp2
    simp only [cond_false, obs, Ah, hp2.1, hp2.2, cond_true]
    exact ⟨trivial, rfl⟩
   ·cases h5 : BE c.F c.Ledger (i : Int)
    ·exact ⟨rfl, rfl⟩
    ·rw [h4, h5, Bool.not_true, Bool.and_false, Bool.false_or, Bool.and_eq_true] at hp2
     simp only [cond_true, Bool.not_true, cond_false, obs, Ah, hp2.1, hp2.2]
     exact ⟨trivial, rfl⟩
 ·unfold KN
  simp only [Int.lt_irrefl, decide_false, cond_false]
  exact ⟨trivial, rfl⟩
theorem SZ : Hl Inv := ⟨fun _ h => h, fun c r I gr hr hn hl => YF c r I gr hr hn hl, fun c id s v I => YA c id s v I, fun c id i I => Y9 c id i I, fun c id s v I => Zx c id s v I, fun c id v I => Z3 c id v I, fun c id I => YG c id I, fun c id pl I => ZH c id pl I, fun c id I => Zp c id I, fun c m I gm => Zm c m I gm⟩
theorem Pj {c : Aa} (I : Inv c) : BN (Ie c) c.Ledger.length = none := by
 refine BM fun i hi => ?_
 rw [Fe hi]
 unfold QH
 have hm : c.Ledger[i] ∈ c.Ledger := List.getElem_mem hi
 by_cases hb : c.Ledger[i].From ∈ c.Bad
 ·have : EK c.Bad c.Ledger[i].From = false := by unfold EK; rw [decide_eq_true hb]; rfl
  rw [this, Bool.false_and]
 have e1 : ((c.Ledger[i].Kind == 4) && !BE c.F c.Ledger (i : Int)) = false := by
  by_cases h4 : c.Ledger[i].Kind = 4
  ·have h5 : BE c.F c.Ledger (i : Int) = true := by
    unfold BE
    rw [AW hi]
    exact I.chg _ hm hb h4
   rw [h5, Bool.not_true, Bool.and_false]
  ·have : (c.Ledger[i].Kind == 4) = false := by simpa using h4
   rw [this, Bool.false_and]
 have e2 : (inR c.Ledger[i].Kind 1 3 && (c.Ledger.take i).any (GN c.Ledger[i])) = false := by
  cases h3 : inR c.Ledger[i].Kind 1 3
  ·rfl
  ·rw [Bool.true_and, List.any_eq_false]
   intro y hy
   obtain ⟨j, hj, rfl⟩ := List.mem_iff_getElem.1 hy
   have hji : j < i := by simp at hj; omega
   rw [List.getElem_take]
   have := List.pairwise_iff_getElem.1 I.one j i (by omega) hi hji hb (Bv.1 h3).2
   have this : GN c.Ledger[i] c.Ledger[j] = false := this
   rw [this]
   decide
 rw [e1, e2]
 simp
theorem Zg (code : List U8) (h : ∀ x ∈ code, 0 ≤ x.v ∧ x.v ≤ 255) : m3 code = some true := by
 unfold m3 m5
 by_cases hl : (code.length : Int) > 1048576
 ·simp only [hl, decide_true, cond_true]
 have H : PN code := ⟨by omega, h⟩
 obtain ⟨c, h1, I⟩ := jH SZ (fun bs h1 h2 => YJ h1 h2) H
 have q1 := Us I.good I.full
 have q2 := Nu I.good I.full (NX I)
 have a1 : m7 c = some true := by
  unfold m7
  rw [q2]
  simp only [obs, bne_self_eq_false, cond_false]
  rw [Xj c I.good I.full.toJG, Pj I]
  rfl
 have a2 : m8 c = some true := by
  unfold m8
  rw [q1]
  simp only [obs, bne_self_eq_false, cond_false]
  rw [Xi c I.good I.full.toJG, Pj I]
  rfl
 simp only [hl, decide_false, cond_false, h1, obs, cond_true, a1, a2, Ah]
end Go.Proofs.YtjlecnhninhmnaaGreatDoor
