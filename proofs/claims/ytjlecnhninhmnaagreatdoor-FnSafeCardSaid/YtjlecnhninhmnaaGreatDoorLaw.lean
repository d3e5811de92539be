/- Clusters: one replica, copies, what is put, what may be sent: the program's side. -/
import Derived.Test.YtjlecnhninhmnaaGreatDoorClu
import Derived.Test.YtjlecnhninhmnaaGreatDoorRh10
import Derived.KernelRfl
namespace Go.Proofs.YtjlecnhninhmnaaGreatDoor
open Go Go.Rf
set_option linter.unusedVariables false
set_option linter.unusedSimpArgs false
def YL (c : Aa) (id : Int) : Option Nat := BQ (pAt (fun r => r.Id == id) c.Replicas) c.Replicas.length
theorem VP {f : Int} {xs : List Ah} {r : Af} (h : BV f xs r = 0) : 0 ≤ r.View ∧ r.View ≤ 20 := by
 unfold BV at h
 cases h1 : Dw f r
 rotate_left
 ·rw [h1] at h; cases h
 unfold Dw at h1
 simp only [Bool.or_eq_false_iff, Bool.not_eq_false', B9] at h1
 exact h1.2.1
theorem ZQ {α : Type} {b : Nat} {L ys : List α} (h : L.length + ys.length ≤ 2097152) (hb : b ≤ 1000) : B7 b L ys = some (L ++ ys) := by
 unfold B7
 rw [if_pos (Nat.le_trans (Nat.mul_le_mul h (show b + 1 ≤ 1001 by omega)) (by decide))]
theorem Qj {α : Type} {b : Nat} {ys : List α} (h : ys.length ≤ 1048576) (hb : b ≤ 1000) : B7 b [] ys = some ys := by
 rw [ZQ (by simp only [List.length_nil]; omega) hb]; rfl
theorem XO {α : Type} {f : Int × List α → Option (LO (Int × List α))} {xs : List α} {b : Nat} {e : Nat} (hl : xs.length ≤ 1048576) (hb : b ≤ 1000)
  (h1 : ∀ (i : Nat) (hi : i < xs.length) (s : List α), f ((i : Int), s) = (B7 b s [xs[i]]).bind fun z => some (.norm (wi .i64 ((i : Int) + 1), z))) (h0 : ∀ s, f ((xs.length : Int), s) = some (.exit e ((xs.length : Int), s))) :
  Ax f NN (0, []) = some (.exit e ((xs.length : Int), xs)) := by
 rw [Di (f := f) (s0 := (0, [])) (fun i => ((i : Int), xs.take i)) xs.length (.exit e ((xs.length : Int), xs.take xs.length)) (fun i hi => ?_) ?_ rfl (Bo hl) rfl]
 ·rw [List.take_length]
 ·rw [h0]
 ·rw [h1 i hi, ZQ (by simp; omega) hb, obs, wi1 (show i ≤ 1099511627776 by omega), List.take_succ_eq_append_getElem hi]
theorem TV (r : Ag) (h : IO r) : Uo r = some r := by
 unfold Uo
 rw [show WW r.Ops = some r.Ops from Qj h (by decide)]; rfl
theorem Nb (m : Ah) (h : Ba m) : Ph m = some m := by
 unfold Ph
 rw [show WJ m.Certs = some m.Certs from Qj h.1 (by decide), obs, show m35 m.Refs = some m.Refs from Qj h.2 (by decide)]; rfl
theorem TW (xs : List Ah) (h : xs.length ≤ 1048576) (g : ∀ m ∈ xs, Ba m) : Ur xs = some xs := by
 unfold Ur
 rw [XO (b := 88) h (by decide) (fun i hi s => by
  have hc' : (i : Int) < (xs.length : Int) := by omega
  unfold Kt
  simp only [hc', decide_true, cond_true, AZ hi, obs, Nb _ (g _ (List.getElem_mem hi))]) (fun s => by
  unfold Kt
  simp only [Int.lt_irrefl, decide_false, cond_false]
  rfl)]
 rfl
theorem BM (c : Aa) (g : EX c) : m76 c = some c := by
 unfold m76
 rw [show m35 c.Bad = some c.Bad from Qj g.bad (by decide), obs, show Xh c.Replicas = some c.Replicas from Qj g.rep (by decide), obs, TW _ g.led g.msg, obs]
 rw [XO (b := 48) g.req (by decide) (fun i hi s => by
  have hc' : (i : Int) < (c.Requests.length : Int) := by omega
  unfold NW
  simp only [hc', decide_true, cond_true, AZ hi, obs, TV _ (g.ops _ (List.getElem_mem hi))]) (fun s => by
  unfold NW
  simp only [Int.lt_irrefl, decide_false, cond_false]
  rfl)]
 rfl
noncomputable def Eh (xs : List Ah) (m : Ah) : List Ah × Int := bif decide (atM xs m ≥ 0) then (xs, 0) else bif (xs.length : Int) == 240 then ([], 2) else (xs ++ [m], 0)
theorem OQ (xs : List Ah) (m : Ah) (h : xs.length ≤ 240) (g : ∀ x ∈ xs, Ba x) (gm : Ba m) : Um xs m = some (bif BE xs.length m then ([], 4) else Eh xs m) := by
 unfold Um Eh
 rw [Jd m xs.length gm, K1 xs m (by omega) g, Nb m gm, show eK xs = some xs from Qj (by omega) (by decide)]
 simp only [obs]
 rw [ZQ (show xs.length + [m].length ≤ 2097152 by simp; omega) (by decide)]
 cases BE xs.length m <;> cases decide (atM xs m ≥ 0) <;> cases ((xs.length : Int) == 240) <;> rfl
theorem Wc {xs : List Ah} {m : Ah} (h : xs.length ≤ 240) (g : ∀ x ∈ xs, Ba x) (gm : Ba m) : (Eh xs m).1.length ≤ 241 ∧ ∀ x ∈ (Eh xs m).1, Ba x := by
 unfold Eh
 cases decide (atM xs m ≥ 0)
 ·cases ((xs.length : Int) == 240)
  ·exact ⟨by show (xs ++ [m]).length ≤ 241; simp; omega, fun x hx => by
    rcases List.mem_append.1 (show x ∈ xs ++ [m] from hx) with h | h
    ·exact g x h
    ·rw [List.mem_singleton.1 h]; exact gm⟩
  ·exact ⟨Nat.zero_le _, fun x hx => by cases hx⟩
 ·exact ⟨by show xs.length ≤ 241; omega, g⟩
noncomputable def D8 (c : Aa) (m : Ah) : Aa := ⟨c.F, c.Bad, c.Replicas, (Eh c.Ledger m).1, c.Requests⟩
theorem MV {c : Aa} {m : Ah} (g : EX c) (h : c.Ledger.length ≤ 240) (gm : Ba m) : EX (D8 c m) :=
 have p := Wc h g.msg gm
 ⟨g.bad, g.rep, Nat.le_trans p.1 (by omega), p.2, g.req, g.ops⟩
noncomputable def Iw (c : Aa) (m : Ah) : Ac := bif (Eh c.Ledger m).2 != 0 then ⟨(Eh c.Ledger m).2, ⟨0, [], [], [], []⟩⟩ else ⟨0, D8 c m⟩
theorem Hy (c : Aa) (m : Ah) (g : EX c) (h : c.Ledger.length ≤ 240) (gm : Ba m) (hr : BE c.Ledger.length m = false) : m89 c m = some ((Eh c.Ledger m).2, bif (Eh c.Ledger m).2 != 0 then c else D8 c m) := by
 unfold m89 D8
 rw [OQ c.Ledger m h g.msg gm, hr]
 simp only [obs, cond_false, bne]
 cases ((Eh c.Ledger m).2 == 0) <;> rfl
theorem IS {c : Aa} {m : Ah} (g : EX c) (h : c.Ledger.length ≤ 240) (gm : Ba m) : (bif (Eh c.Ledger m).2 != 0 then some (⟨(Eh c.Ledger m).2, (⟨0, [], [], [], []⟩ : Aa)⟩ : Ac) else (m76 (bif (Eh c.Ledger m).2 != 0 then c else D8 c m)).bind fun y4 => some (⟨0, y4⟩ : Ac)) = some (Iw c m) := by
 unfold Iw
 cases (Eh c.Ledger m).2 != 0
 ·simp only [cond_false, BM _ (MV g h gm), obs]
 ·rfl
def U6 (m : Ah) : List (Int × Int × Int) := m.Certs.map fun c => (c.Slot, c.View, c.Value)
def lM (c : Int × Int × Int) : Prop := (1 ≤ c.1 ∧ c.1 ≤ 30) ∧ 0 ≤ c.2.1
def FB (xs : List Ah) (rs : List Int) : List (List (Int × Int × Int)) := rs.map fun r => ((Aq xs r).map U6).getD []
structure R7 (xs : List Ah) (rs : List Int) : Prop where
 get : ∀ r ∈ rs, ∃ x, Aq xs r = some x
 len : rs.length ≤ 1000
theorem PV {f : Int} {xs : List Ah} (H : BK f xs) {rs : List Int} (R : R7 xs rs) : (∀ cs ∈ FB xs rs, cs.length ≤ 1000 ∧ ∀ c ∈ cs, lM c) := by
 intro cs hcs
 unfold FB at hcs
 obtain ⟨r, hr, rfl⟩ := List.mem_map.1 hcs
 obtain ⟨x, gx⟩ := R.get r hr
 rw [gx]
 have M := H.msg x (Dj gx)
 have hcl := M.certsl
 refine ⟨by simp [U6]; omega, fun c hc => ?_⟩
 simp only [Option.map_some, Option.getD_some, U6] at hc
 obtain ⟨d, hd, rfl⟩ := List.mem_map.1 hc
 obtain ⟨k1, k2, k3⟩ := M.cert d hd
 exact ⟨k1, k2.1⟩
theorem PR {α β : Type} {f : α → Option β} {g : α → β} : ∀ {xs : List α}, (∀ x ∈ xs, f x = some (g x)) → G6 f xs = some (xs.map g)
 | [], _ => rfl
 | x :: xs, h => by simp only [G6, h x (by simp), PR (xs := xs) (fun y hy => h y (List.mem_cons_of_mem _ hy)), List.map_cons]
theorem MX {f : Int} {xs : List Ah} (H : BK f xs) {rs : List Int} (R : R7 xs rs) : Un xs rs = some (EJ (FB xs rs)) := by
 unfold Un
 rw [PR (g := fun r => ((Aq xs r).map U6).getD []) (fun r hr => by
  obtain ⟨x, gx⟩ := R.get r hr
  rw [gx]; rfl)]
 show MY rs (some (FB xs rs)) = _
 unfold MY
 dsimp only
 have hg : Ww (FB xs rs) := fun cs hcs => ⟨fun c hc => by
  have := ((PV H R cs hcs).2 c hc).1
  omega, (PV H R cs hcs).1⟩
 rw [if_pos ⟨R.len, hg⟩]
theorem RJ {f : Int} {xs : List Ah} (H : BK f xs) {i : Int} {x : Ah} (hx : Aq xs i = some x) : R7 xs x.Refs := by
 have M := H.msg x (Dj hx)
 have hm := Ce H.f12
 have hf := H.f12
 have hl := H.len
 have hrl := M.refsl
 obtain ⟨h0, h1, h2⟩ := DU hx
 have hxe : xs[i.toNat] = x := by
  rw [List.getElem?_eq_getElem h1] at h2
  injection h2
 refine ⟨fun r hr => ?_, by omega⟩
 have hr2 := H.refs i.toNat h1 r (by rw [hxe]; exact hr)
 have hr1 := M.ref r hr
 obtain ⟨q, rfl⟩ : ∃ q : Nat, r = q := ⟨r.toNat, by omega⟩
 exact ⟨_, AZ (show q < xs.length by omega)⟩
def Ek (xs : List Ah) (st : Int) : List Int := ((Aq xs st).map (·.Refs)).getD []
def OB (xs : List Ah) (st s v : Int) : Bool := bif decide (s ≤ ((EJ (FB xs (Ek xs st))).length : Int)) then v == ((Aq (EJ (FB xs (Ek xs st))) (s - 1)).getD 0) else decide (v > 0)
def KI (f : Int) (xs : List Ah) (m : Ah) (st : Int) : Bool := (m.Kind == 1) && ((m.From == Dz f m.View) && bif m.View == 0 then (st == -1) && decide (m.Value > 0) else EK f xs st && ((Bw xs st == m.View) && OB xs st m.Slot m.Value))
def I7 (f : Int) (xs : List Ah) (i st : Int) : Bool := match Aq xs i with
 | some m => KI f xs m st
 | none => false
theorem SS {ys : List Int} {s : Int} (h1 : 1 ≤ s ∧ s ≤ 30) (h2 : s ≤ (ys.length : Int)) : Aq ys (wi .i64 (s - 1)) = some ((Aq ys (s - 1)).getD 0) := by
 rw [Dt (by omega) (by omega)]
 obtain ⟨q, hq⟩ : ∃ q : Nat, s - 1 = q := ⟨(s - 1).toNat, by omega⟩
 rw [hq, AZ (show q < ys.length by omega)]; rfl
theorem TL {f : Int} {xs : List Ah} (H : BK f xs) (i st : Int) : Xf f xs i st = some (I7 f xs i st) := by
 unfold Xf I7
 rw [in2, Oi H.len']
 cases hg : Aq xs i with
 | none => rfl
 | some m =>
  have M := H.msg m (Dj hg)
  simp only [Option.isSome_some, Bool.not_true, cond_false, obs, FT H.f12]
  unfold KI
  cases e1 : m.Kind == 1
  ·have : (m.Kind != 1) = true := by unfold bne; rw [e1]; rfl
   rw [this]; rfl
  have : (m.Kind != 1) = false := by unfold bne; rw [e1]; rfl
  rw [this]
  have hk : m.Kind = 1 := by simpa using e1
  have hs := M.slot (by omega)
  cases e2 : m.From == Dz f m.View
  ·have : (m.From != Dz f m.View) = true := by unfold bne; rw [e2]; rfl
   rw [this]; rfl
  have : (m.From != Dz f m.View) = false := by unfold bne; rw [e2]; rfl
  rw [this]
  simp only [cond_false, obs, Ai, Bool.true_and]
  cases e3 : m.View == 0
  rotate_left
  ·cases st == -1 <;> rfl
  simp only [cond_false, KP H, obs]
  cases e4 : EK f xs st
  ·rfl
  obtain ⟨x, gx, _⟩ := Es e4
  have ev : Bw xs st = x.View := by simp [Bw, gx]
  have er : Ek xs st = x.Refs := by simp [Ek, gx]
  rw [ev]
  cases e5 : x.View == m.View
  ·have : (x.View != m.View) = true := by unfold bne; rw [e5]; rfl
   simp only [gx, this, Bool.not_true, cond_false, cond_true, obs, Ai, Bool.false_and, Bool.and_false]
  have : (x.View != m.View) = false := by unfold bne; rw [e5]; rfl
  unfold OB
  rw [er]
  simp only [gx, this, Bool.not_true, cond_false, obs, Ai, MX H (RJ H gx), Bool.true_and]
  by_cases hl : m.Slot ≤ ((EJ (FB xs x.Refs)).length : Int)
  ·simp only [hl, decide_true, cond_true, SS hs hl, obs]
  ·simp only [hl, decide_false, cond_false]
def DG (r : Af) (k s : Int) (m : Ah) : Bool := (m.From == r.Id) && ((m.Kind == k) && ((m.View == r.View) && (m.Slot == s)))
theorem Hu (xs : List Ah) (r : Af) (k s : Int) (h : xs.length ≤ 1048576) : Pj r xs k s = some (xs.any (DG r k s)) := by
 unfold Pj Zg
 rw [show m26 xs (fun x0_ => QK x0_ r k s) = some (xs.any (DG r k s)) from Il (Bo h) (C7 h) (fun x _ => by
  unfold QK WV DG
  cases x.From == r.Id <;> cases x.Kind == k <;> cases x.View == r.View <;> rfl)]
 rfl
noncomputable def G7 (f : Int) (xs : List Ah) (r : Af) (s v : Int) : Int := bif !(inR s 1 30 && inR v 0 12) then 3 else bif !M7 r then 8 else bif !Bl f xs 2 r.View s v then 10 else bif xs.any (DG r 3 s) then 6 else 0
theorem XQ {f : Int} {xs : List Ah} (H : BK f xs) (r : Af) (s v : Int) (hv : 0 ≤ r.View ∧ r.View ≤ 20) : m86 r f xs s v = some (G7 f xs r s v) := by
 have hl := H.len
 unfold m86 G7
 rw [It, GP, Hu xs r 3 s (by omega)]
 cases e1 : inR s 1 30
 ·rfl
 cases e2 : inR v 0 12
 ·rfl
 rw [N3 H ⟨s, r.View, v⟩ (B9.1 e1) hv (B9.1 e2)]
 unfold FD
 cases M7 r <;> cases Bl f xs 2 r.View s v <;> cases xs.any (DG r 3 s) <;> rfl
noncomputable def EU (f : Int) (xs : List Ah) (r : Af) (i : Int) : Int := bif !I7 f xs i r.Start then 1 else match Aq xs i with
 | some m => bif m.View != r.View then 1 else bif xs.any (DG r 2 m.Slot) then 6 else 0
 | none => 1
theorem Ji {f : Int} {xs : List Ah} {i st : Int} (h : I7 f xs i st = true) : ∃ m, Aq xs i = some m ∧ m.Kind = 1 := by
 unfold I7 at h
 cases hg : Aq xs i with
 | none => rw [hg] at h; cases h
 | some m =>
  rw [hg] at h
  refine ⟨m, rfl, ?_⟩
  have h : KI f xs m st = true := h
  unfold KI at h
  simp only [Bool.and_eq_true, beq_iff_eq] at h
  exact h.1
theorem Wh {f : Int} {xs : List Ah} (H : BK f xs) (r : Af) (i : Int) : m84 r f xs i = some (EU f xs r i) := by
 have hl := H.len
 unfold m84 EU
 rw [TL H]
 simp only [obs]
 cases hp : I7 f xs i r.Start
 ·rfl
 obtain ⟨m, gm, hk⟩ := Ji hp
 simp only [Bool.not_true, cond_false, gm, obs]
 cases m.View != r.View
 ·simp only [cond_false, obs, Ai, Hu xs r 2 m.Slot (by omega)]
  cases xs.any (DG r 2 m.Slot) <;> rfl
 ·rfl
def UQ (r : Af) (v : Int) (m : Ah) : Bool := (m.From == r.Id) && ((m.Kind == 1) && ((m.View == r.View) && (m.Value == v)))
theorem Q0 (xs : List Ah) (r : Af) (v : Int) (h : xs.length ≤ 1048576) : LE r xs 1 v = some (xs.any (UQ r v)) := by
 unfold LE
 rw [show m26 xs (fun x0_ => Ig x0_ r 1 v) = some (xs.any (UQ r v)) from Il (Bo h) (C7 h) (fun x _ => by
  unfold Ig Xg UQ
  cases x.From == r.Id <;> cases x.Kind == 1 <;> cases x.View == r.View <;> rfl)]
 rfl
noncomputable def MG (xs : List Ah) (r : Af) : List Int := bif r.Start != -1 then EJ (FB xs (Ek xs r.Start)) else []
noncomputable def Gt (f : Int) (xs : List Ah) (r : Af) (s v : Int) : Int := bif !(inR s 1 30 && inR v 0 12) then 3 else bif !M7 r || r.Id != Dz f r.View then 8 else bif xs.any (DG r 1 s) then 6 else bif decide (s > 1) && !xs.any (DG r 1 (s - 1)) then 4 else bif decide (s ≤ ((MG xs r).length : Int)) then (bif v != ((Aq (MG xs r) (s - 1)).getD 0) then 1 else 0) else bif (v == 0) || xs.any (UQ r v) then 1 else 0
theorem T8 {f : Int} {xs : List Ah} {r : Af} (h : BV f xs r = 0) : r.Start = -1 ∨ ∃ x, Aq xs r.Start = some x := by
 unfold BV at h
 cases h1 : Dw f r
 rotate_left
 ·rw [h1] at h; cases h
 cases h2 : CO f xs r
 rotate_left
 ·rw [h1, h2] at h; cases h
 unfold CO at h2
 cases e : r.Start != -1
 ·left; simpa using e
 ·rw [e] at h2
  simp only [Bool.true_and, Bool.or_eq_false_iff, Bool.not_eq_false'] at h2
  obtain ⟨x, gx, _⟩ := Es h2.2.1
  exact .inr ⟨x, gx⟩
theorem Wj {f : Int} {xs : List Ah} (H : BK f xs) {r : Af} (hr : r.Start = -1 ∨ ∃ x, Aq xs r.Start = some x) (s v : Int) : m80 r f xs s v = some (Gt f xs r s v) := by
 have hl := H.len
 unfold m80 Gt
 rw [It, GP, Hu xs r 1 s (by omega), FT H.f12]
 cases e1 : inR s 1 30
 ·rfl
 have hs := B9.1 e1
 rw [show wi .i64 (s - 1) = s - 1 from Dt (by omega) (by omega), Hu xs r 1 (s - 1) (by omega), Q0 xs r v (by omega)]
 cases inR v 0 12
 ·rfl
 cases M7 r
 ·rfl
 simp only [Bool.not_true, cond_false, obs, Bool.false_or, Bool.and_self]
 cases r.Id != Dz f r.View
 rotate_left
 ·rfl
 cases xs.any (DG r 1 s)
 rotate_left
 ·rfl
 have hb : ∀ L : List Int, s ≤ (L.length : Int) → Aq L (s - 1) = some ((Aq L (s - 1)).getD 0) := fun L h => by
  have := SS hs h
  rwa [show wi .i64 (s - 1) = s - 1 from Dt (by omega) (by omega)] at this
 have tail : ∀ z : Int, (((bif r.Start != -1 then (Aq xs r.Start).bind fun x1 => (Un xs x1.Refs).bind fun y4 => some (LO.norm y4) else some (LO.norm [])) : Option (LO (List Int))) = some (.norm (MG xs r))) := fun z => by
  unfold MG
  rcases hr with hr | ⟨x, gx⟩
  ·rw [hr]; rfl
  ·have er : Ek xs r.Start = x.Refs := by simp [Ek, gx]
   rw [er, gx]
   cases r.Start != -1
   ·rfl
   ·simp only [cond_true, obs, MX H (RJ H gx)]
 cases e2 : decide (s > 1) && !xs.any (DG r 1 (s - 1))
 rotate_left
 ·rw [Bool.and_eq_true] at e2
  simp only [e2.1, e2.2, cond_true, cond_false, obs, Ai]
 have e3 : ((bif decide (s > 1) then (bif !xs.any (DG r 1 (s - 1)) then some (LO.ret 4) else some (LO.norm 0)) else some (LO.norm 0)) : Option (LO Int)) = some (.norm 0) := by
  cases h1 : decide (s > 1)
  ·rfl
  ·rw [h1] at e2
   simp only [Bool.true_and] at e2
   rw [e2]; rfl
 simp only [cond_false, obs, e3, Ai, tail 0]
 by_cases hL : s ≤ ((MG xs r).length : Int)
 ·obtain ⟨z, hz⟩ : ∃ z, Aq (MG xs r) (s - 1) = some z := ⟨_, hb _ hL⟩
  simp only [hL, decide_true, cond_true, hz, Option.getD_some, obs]
  cases v != z <;> rfl
 ·simp only [hL, decide_false, cond_false]
  cases v == 0 <;> cases xs.any (UQ r v) <;> rfl
def F5 (id s v : Int) (m : Ah) : Bool := (m.Kind == 3) && ((m.From == id) && ((m.Slot == s) && decide (m.View < v)))
def EL (id s v : Int) (b : Int × Int) (m : Ah) : Int × Int := bif F5 id s v m && decide (m.View > b.1) then (m.View, m.Value) else b
def Dq (xs : List Ah) (id s v : Int) : Int × Int := xs.foldl (EL id s v) (-1, 0)
theorem Qe {id s v : Int} : ∀ (xs : List Ah) (b : Int × Int), (∀ m ∈ xs, 0 ≤ m.View) → (b = (-1, 0) ∨ 0 ≤ b.1) → (xs.foldl (EL id s v) b = (-1, 0) ∨ 0 ≤ (xs.foldl (EL id s v) b).1)
 | [], b, _, hb => hb
 | m :: xs, b, h, hb => by
  rw [List.foldl_cons]
  refine Qe xs _ (fun y hy => h y (by simp [hy])) ?_
  unfold EL
  cases F5 id s v m && decide (m.View > b.1)
  ·exact hb
  ·exact .inr (h m (by simp))
theorem Rw (xs : List Ah) (id s v : Int) {i : Nat} (h : i < xs.length) : Dq (xs.take (i + 1)) id s v = EL id s v (Dq (xs.take i) id s v) xs[i] := by
 unfold Dq
 rw [EA h, List.foldl_append]; rfl
def stI (s : Int) (b : Int × Int) (i : Nat) : Bool × Int × Int × Int × Int := bif decide (b.1 ≥ 0) then (true, (i : Int), s, b.1, b.2) else (false, (i : Int), 0, 0, 0)
theorem Zt (xs : List Ah) (id v : Int) (s1 : Int × List AE) (h : xs.length ≤ 1048576) (hv : ∀ m ∈ xs, 0 ≤ m.View) : Ax (G3 xs id v s1) NN (false, 0, 0, 0, 0) = some (.exit 2 (stI s1.1 (Dq xs id s1.1 v) xs.length)) := by
 rw [Di (f := G3 xs id v s1) (s0 := (false, 0, 0, 0, 0)) (fun i => stI s1.1 (Dq (xs.take i) id s1.1 v) i) xs.length (.exit 2 (stI s1.1 (Dq xs id s1.1 v) xs.length)) (fun i hi => ?_) ?_ rfl (Bo h) rfl]
 ·unfold G3 stI
  rw [List.take_length]
  cases decide ((Dq xs id s1.1 v).1 ≥ 0) <;> simp only [cond_true, cond_false, Int.lt_irrefl, decide_false]
 ·have hc' : (i : Int) < (xs.length : Int) := by omega
  have h0 := hv _ (List.getElem_mem hi)
  rw [Rw xs id s1.1 v hi]
  rcases Qe (id := id) (s := s1.1) (v := v) (xs.take i) (-1, 0) (fun m hm => hv m (List.mem_of_mem_take hm)) (.inl rfl) with hb | hb
  ·have hb : Dq (xs.take i) id s1.1 v = (-1, 0) := hb
   rw [hb]
   have e1 : decide (xs[i].View > (-1 : Int)) = true := decide_eq_true (by omega)
   have e2 : decide (xs[i].View ≥ 0) = true := decide_eq_true h0
   unfold G3 EL F5 stI
   simp only [show decide ((-1 : Int) ≥ 0) = false from rfl, cond_false, hc', decide_true, cond_true, AZ hi, obs, wi1 (show i ≤ 1099511627776 by omega), e1]
   cases xs[i].Kind == 3 <;> cases xs[i].From == id <;> cases xs[i].Slot == s1.1 <;> cases decide (xs[i].View < v) <;> simp [e2, Ai]
  ·have hb : 0 ≤ (Dq (xs.take i) id s1.1 v).1 := hb
   generalize Dq (xs.take i) id s1.1 v = b at hb
   have e2 : decide (b.1 ≥ 0) = true := decide_eq_true hb
   have e3 : decide (xs[i].View ≥ 0) = true := decide_eq_true h0
   unfold G3 EL F5 stI
   simp only [e2, cond_true, hc', decide_true, AZ hi, obs, wi1 (show i ≤ 1099511627776 by omega), Bool.not_true, cond_false]
   cases xs[i].Kind == 3 <;> cases xs[i].From == id <;> cases xs[i].Slot == s1.1 <;> cases decide (xs[i].View < v) <;> cases decide (xs[i].View > b.1) <;> simp [e2, e3, Ai]
def Db (xs : List Ah) (id v : Int) : Nat → List AE
 | 0 => []
 | i + 1 => Db xs id v i ++ (bif decide ((Dq xs id ((i : Int) + 1) v).1 ≥ 0) then [(⟨(i : Int) + 1, (Dq xs id ((i : Int) + 1) v).1, (Dq xs id ((i : Int) + 1) v).2⟩ : AE)] else [])
theorem G9 (xs : List Ah) (id v : Int) : ∀ i, (Db xs id v i).length ≤ i
 | 0 => Nat.le_refl _
 | i + 1 => by
  have := G9 xs id v i
  unfold Db
  cases decide ((Dq xs id ((i : Int) + 1) v).1 ≥ 0) <;> simp <;> omega
theorem appC {L : List AE} {k : AE} (h : L.length ≤ 1000) : B7 24 L [k] = some (L ++ [k]) := by
 unfold B7; rw [if_pos (by simp; omega)]
theorem Rq (xs : List Ah) (id v : Int) (h : xs.length ≤ 1048576) (hv : ∀ m ∈ xs, 0 ≤ m.View) : Xe xs id v = some (Db xs id v 30) := by
 unfold Xe
 rw [Di (f := Ks xs id v) (s0 := (1, [])) (fun i => ((i : Int) + 1, Db xs id v i)) 30 (.exit 0 (31, Db xs id v 30)) (fun i hi => ?_) ?_ rfl (Bo (by omega)) rfl]
 ·rfl
 ·rfl
 ·have hc : (i : Int) + 1 ≤ 30 := by omega
  have hl := G9 xs id v i
  unfold Ks
  simp only [hc, decide_true, cond_true, Zt xs id v _ h hv, obs, Ai, if_true, Gi (show i ≤ 1048576 by omega)]
  show _ = some (LO.norm (_, Db xs id v i ++ _))
  unfold stI
  cases decide ((Dq xs id ((i : Int) + 1) v).1 ≥ 0)
  ·simp [Ai]
  ·simp only [cond_true, appC (show (Db xs id v i).length ≤ 1000 by omega), obs, Ai]
noncomputable def Fv (c : Aa) (r : Af) (v : Int) : Bz := bif !inR v 0 20 then ⟨3, ⟨0, 0, 0, 0, 0, [], []⟩⟩ else bif decide (v ≤ r.View) then ⟨8, ⟨0, 0, 0, 0, 0, [], []⟩⟩ else ⟨0, ⟨4, v, r.Id, 0, 0, Db c.Ledger r.Id v 30, []⟩⟩
theorem XU {c : Aa} (O : NE c) (r : Af) (g : EX c) (v : Int) : m88 r c.Ledger v = some (Fv c r v) := by
 unfold m88 Fv
 rw [JS, Rq c.Ledger r.Id v g.led fun m hm => (O.led.msg m hm).view.1]
 cases inR v 0 20 <;> cases decide (v ≤ r.View) <;> rfl
theorem XV (c : Aa) (r : Af) (v : Int) : Ba (Fv c r v).Msg ∧ BE c.Ledger.length (Fv c r v).Msg = false := by
 have := G9 c.Ledger r.Id v 30
 unfold Fv
 cases inR v 0 20
 ·exact ⟨⟨Nat.zero_le _, Nat.zero_le _⟩, rfl⟩
 ·cases decide (v ≤ r.View)
  ·exact ⟨⟨Nat.le_trans this (by omega), Nat.zero_le _⟩, rfl⟩
  ·exact ⟨⟨Nat.zero_le _, Nat.zero_le _⟩, rfl⟩
def Ro (f : Int) (xs : List Ah) (v : Int) (L : List Int) (i : Nat) : Bool := decide ((L.length : Int) < D4 f) && ((Bw xs i == v) && (!decide (AQ xs i ∈ L.map (AQ xs)) && BH f xs i))
def chN (f : Int) (xs : List Ah) (v : Int) : Nat → List Int
 | 0 => []
 | i + 1 => bif Ro f xs v (chN f xs v i) i then chN f xs v i ++ [(i : Int)] else chN f xs v i
theorem Ou (f : Int) (xs : List Ah) (v : Int) : ∀ i, (chN f xs v i).length ≤ i
 | 0 => Nat.le_refl _
 | i + 1 => by
  have := Ou f xs v i
  unfold chN
  cases Ro f xs v (chN f xs v i) i
  ·exact Nat.le_succ_of_le this
  ·simp; omega
theorem SY (f : Int) (xs : List Ah) (v : Int) : ∀ i, ∀ r ∈ chN f xs v i, 0 ≤ r ∧ r < i
 | 0, r, h => by cases h
 | i + 1, r, h => by
  have ih := SY f xs v i
  unfold chN at h
  cases hc : Ro f xs v (chN f xs v i) i
  ·rw [hc] at h
   have := ih r h
   omega
  ·rw [hc] at h
   rcases List.mem_append.1 (show r ∈ chN f xs v i ++ [(i : Int)] from h) with h | h
   ·have := ih r h; omega
   ·rw [List.mem_singleton.1 h]; omega
theorem ZJ {f : Int} {xs : List Ah} (H : BK f xs) (v : Int) : Xd f xs v = some (chN f xs v xs.length) := by
 have hl := H.len
 unfold Xd
 rw [Di (f := IG f xs v) (s0 := (0, [], [])) (fun i => ((i : Int), (chN f xs v i).map (AQ xs), chN f xs v i)) xs.length (.exit 0 ((xs.length : Int), (chN f xs v xs.length).map (AQ xs), chN f xs v xs.length)) (fun i hi => ?_) ?_ rfl (Bo (by omega)) rfl]
 ·rfl
 ·unfold IG
  simp only [Int.lt_irrefl, decide_false, cond_false]
 ·have hc' : (i : Int) < (xs.length : Int) := by omega
  have e1 : Bw xs (i : Int) = xs[i].View := by simp [Bw, AZ hi]
  have e2 : AQ xs (i : Int) = xs[i].From := by simp [AQ, AZ hi]
  have hL := Ou f xs v i
  have hfl : ((chN f xs v i).map (AQ xs)).length ≤ 1000 := by simp; omega
  have hL' : (chN f xs v i).length ≤ 1000 := by omega
  have es : chN f xs v (i + 1) = bif Ro f xs v (chN f xs v i) i then chN f xs v i ++ [(i : Int)] else chN f xs v i := rfl
  have hco : m72 ((chN f xs v i).map (AQ xs)) xs[i].From = some (decide (xs[i].From ∈ (chN f xs v i).map (AQ xs))) := Jw (Bo (by omega)) (C7 (by omega))
  rw [es]
  unfold IG
  simp only [hc', decide_true, cond_true, AZ hi, obs, Hl H, hco, wi1 (show i ≤ 1099511627776 by omega)]
  rw [show decide (((chN f xs v i).length : Int) < wi .i64 ((wi .i64 (2 * f)) + 1)) = decide (((chN f xs v i).length : Int) < D4 f) from rfl]
  unfold Ro
  rw [e1, e2]
  have a1 : B7 8 (chN f xs v i) [(i : Int)] = some (chN f xs v i ++ [(i : Int)]) := ME hL'
  have a2 : B7 8 ((chN f xs v i).map (AQ xs)) [xs[i].From] = some ((chN f xs v i).map (AQ xs) ++ [xs[i].From]) := ME hfl
  have e3 : (chN f xs v i).map (AQ xs) ++ [xs[i].From] = (chN f xs v i ++ [(i : Int)]).map (AQ xs) := by rw [List.map_append, List.map_cons, e2]; rfl
  rw [e3] at a2
  cases decide (((chN f xs v i).length : Int) < D4 f)
  ·rfl
  cases xs[i].View == v
  ·rfl
  cases decide (xs[i].From ∈ (chN f xs v i).map (AQ xs))
  rotate_left
  ·rfl
  cases BH f xs i
  ·rfl
  simp only [cond_true, Bool.not_false, obs, Ai, a1, a2, Bool.and_self]
noncomputable def F4 (c : Aa) (r : Af) : Bz := bif (r.View == 0) || ((r.Id != Dz c.F r.View) || (r.Start != (-1))) then ⟨8, ⟨0, 0, 0, 0, 0, [], []⟩⟩ else bif decide (((chN c.F c.Ledger r.View c.Ledger.length).length : Int) < D4 c.F) then ⟨10, ⟨0, 0, 0, 0, 0, [], []⟩⟩ else ⟨0, ⟨5, r.View, r.Id, 0, 0, [], chN c.F c.Ledger r.View c.Ledger.length⟩⟩
theorem YX {c : Aa} (O : NE c) (r : Af) : m90 r c.F c.Ledger = some (F4 c r) := by
 unfold m90 F4
 simp only [obs, FT O.led.f12, dH, Ai, ZJ O.led]
 rw [show decide (((chN c.F c.Ledger r.View c.Ledger.length).length : Int) < wi .i64 ((wi .i64 (2 * c.F)) + 1)) = decide (((chN c.F c.Ledger r.View c.Ledger.length).length : Int) < D4 c.F) from rfl]
 cases ((r.View == 0) || ((r.Id != Dz c.F r.View) || (r.Start != (-1))))
 ·cases decide (((chN c.F c.Ledger r.View c.Ledger.length).length : Int) < D4 c.F) <;> rfl
 ·rfl
theorem RZ {c : Aa} (O : NE c) (r : Af) : Ba (F4 c r).Msg ∧ BE c.Ledger.length (F4 c r).Msg = false := by
 have hl := O.led.len
 have := Ou c.F c.Ledger r.View c.Ledger.length
 unfold F4
 cases ((r.View == 0) || ((r.Id != Dz c.F r.View) || (r.Start != (-1))))
 ·cases decide (((chN c.F c.Ledger r.View c.Ledger.length).length : Int) < D4 c.F)
  ·refine ⟨⟨Nat.zero_le _, by show (chN c.F c.Ledger r.View c.Ledger.length).length ≤ _; omega⟩, ?_⟩
   show BE c.Ledger.length (⟨5, r.View, r.Id, 0, 0, [], chN c.F c.Ledger r.View c.Ledger.length⟩ : Ah) = false
   unfold BE
   rw [List.any_eq_false]
   intro q hq
   have := SY _ _ _ _ q hq
   simp; omega
  ·exact ⟨⟨Nat.zero_le _, Nat.zero_le _⟩, rfl⟩
 ·exact ⟨⟨Nat.zero_le _, Nat.zero_le _⟩, rfl⟩
open Go Go.Rf
theorem Nw {α : Type} {p q : α → Bool} (l : List α) (h : ∀ x ∈ l, p x = true → q x = true) : (l.filter p).length ≤ (l.filter q).length := by
 rw [← List.countP_eq_length_filter, ← List.countP_eq_length_filter]
 exact List.countP_mono_left h
theorem DT {α : Type} {xs : List α} {m x : α} {i : Int} (h : Aq xs i = some x) : Aq (xs ++ [m]) i = some x := by
 unfold Aq at h ⊢
 by_cases h0 : 0 ≤ i
 ·rw [if_pos h0] at h ⊢
  have hi := (List.getElem?_eq_some_iff.1 h).1
  rw [List.getElem?_append_left hi]; exact h
 ·rw [if_neg h0] at h; cases h
theorem ZR {α : Type} {xs : List α} {m : α} {p : α → Bool} (h : xs.any p = true) : (xs ++ [m]).any p = true := by
 rw [List.any_append, h, Bool.true_or]
theorem FA {f : Int} {xs : List Ah} {k v s a : Int} (m : Ah) (h : Bl f xs k v s a = true) : Bl f (xs ++ [m]) k v s a = true := by
 unfold Bl at h ⊢
 have h := of_decide_eq_true h
 refine decide_eq_true ?_
 have := Nw (p := GB xs k v s a) (q := GB (xs ++ [m]) k v s a) (CN (3 * f + 1).toNat) fun x _ hx => ZR hx
 unfold HM at h ⊢
 omega
theorem G8 {f : Int} {xs : List Ah} {x : Ah} (m : Ah) (h : Eu f xs x = true) : Eu f (xs ++ [m]) x = true := by
 unfold Eu at h ⊢
 rw [Bool.and_eq_true, Bool.and_eq_true, Bool.not_eq_true', List.any_eq_false] at h ⊢
 refine ⟨h.1, h.2.1, fun c hc => ?_⟩
 have h3 : FD f xs c = true := by simpa using h.2.2 c hc
 have h4 : FD f (xs ++ [m]) c = true := FA m h3
 rw [h4]; decide
theorem Ot {f : Int} {xs : List Ah} {i : Int} (m : Ah) (h : BH f xs i = true) : BH f (xs ++ [m]) i = true := by
 obtain ⟨x, gx, _⟩ := CW h
 unfold BH at h ⊢
 rw [gx] at h
 rw [DT gx]
 exact G8 m h
theorem Ni {f : Int} {xs : List Ah} {x : Ah} (m : Ah) (h : HF f xs x = true) : HF f (xs ++ [m]) x = true := by
 unfold HF at h ⊢
 simp only [Bool.and_eq_true] at h ⊢
 refine ⟨h.1, h.2.1, h.2.2.1, ?_⟩
 have h2 := h.2.2.2
 have hall : ∀ j, j < x.Refs.length → Fg f xs x j = false := by
  rcases BC (Fg f xs x) x.Refs.length with k | ⟨i, k1, k2, k3⟩
  ·exact k
  ·rw [Bt k1 k2 k3] at h2; cases h2
 have hr : ∀ j (hj : j < x.Refs.length), BH f xs x.Refs[j] = true ∧ Bw (xs ++ [m]) x.Refs[j] = Bw xs x.Refs[j] ∧ AQ (xs ++ [m]) x.Refs[j] = AQ xs x.Refs[j] := fun j hj => by
  have := hall j hj
  rw [D3 hj] at this
  simp only [Bool.or_eq_false_iff, Bool.not_eq_false'] at this
  obtain ⟨y, gy, _⟩ := CW this.1
  exact ⟨this.1, by simp [Bw, gy, DT gy], by simp [AQ, gy, DT gy]⟩
 rw [BO]
 ·rfl
 ·intro j hj
  have := hall j hj
  have r := hr j hj
  rw [D3 hj] at this ⊢
  have e : (x.Refs.take j).map (AQ (xs ++ [m])) = (x.Refs.take j).map (AQ xs) := by
   refine List.map_congr_left fun a ha => ?_
   obtain ⟨q, hq, rfl⟩ := List.mem_iff_getElem.1 (List.mem_of_mem_take ha)
   exact (hr q hq).2.2
  rw [r.2.1, r.2.2, e, Ot m r.1]
  rw [r.1] at this
  exact this
theorem Nk {f : Int} {xs : List Ah} {i : Int} (m : Ah) (h : EK f xs i = true) : EK f (xs ++ [m]) i = true := by
 obtain ⟨x, gx, _⟩ := Es h
 unfold EK at h ⊢
 rw [gx] at h
 rw [DT gx]
 exact Ni m h
theorem XD {f : Int} {xs : List Ah} {s v : Int} (m : Ah) (h : GL f xs s v = true) : GL f (xs ++ [m]) s v = true := by
 unfold GL at h ⊢
 rw [List.any_eq_true] at h ⊢
 obtain ⟨x, hx, h⟩ := h
 refine ⟨x, by simp [hx], ?_⟩
 unfold HJ at h ⊢
 rw [Bool.and_eq_true] at h ⊢
 exact ⟨h.1, FA m h.2⟩
theorem TY {f : Int} {xs : List Ah} {i : Nat} (m : Ah) (h : DY f xs i = false) : DY f (xs ++ [m]) i = false := by
 unfold DY at h ⊢
 have := Nw (p := GL f xs ((i : Int) + 1)) (q := GL f (xs ++ [m]) ((i : Int) + 1)) (Fq 13) fun v _ hv => XD m hv
 unfold D6 at h ⊢
 rw [List.isEmpty_eq_false_iff_exists_mem] at h
 obtain ⟨v, hv⟩ := h
 have h2 := List.length_pos_of_mem hv
 have h3 : 0 < (List.filter (GL f (xs ++ [m]) ((i : Int) + 1)) (Fq 13)).length := by omega
 cases e : List.filter (GL f (xs ++ [m]) ((i : Int) + 1)) (Fq 13) with
 | nil => rw [e] at h3; cases h3
 | cons a b => rfl
theorem Pv (f : Int) (xs : List Ah) {n : Nat} (hn : n ≤ 30) : n ≤ (E7 f xs).length ↔ ∀ j, j < n → DY f xs j = false := by
 unfold E7
 rcases BC (DY f xs) 30 with k | ⟨i, k1, k2, k3⟩
 ·rw [BO k]
  show n ≤ (Hf f xs 30).length ↔ _
  rw [HA]
  exact ⟨fun _ j hj => k j (by omega), fun _ => hn⟩
 ·rw [Bt k1 k2 k3]
  show n ≤ (Hf f xs i).length ↔ _
  rw [HA]
  refine ⟨fun h j hj => k2 j (by omega), fun h => ?_⟩
  rcases Nat.lt_or_ge i n with hi | hi
  ·rw [h i hi] at k3; cases k3
  ·exact hi
theorem Xq (f : Int) (xs : List Ah) (m : Ah) : (E7 f xs).length ≤ (E7 f (xs ++ [m])).length :=
 (Pv f (xs ++ [m]) (Ob f xs)).2 fun j hj => TY m ((Pv f xs (Ob f xs)).1 (Nat.le_refl _) j hj)
theorem VQ {f : Int} {xs : List Ah} {r : Af} (m : Ah) (h : BV f xs r = 0) : BV f (xs ++ [m]) r = 0 := by
 have hl := Xq f xs m
 unfold BV at h ⊢
 cases h1 : Dw f r
 rotate_left
 ·rw [h1] at h; cases h
 cases h2 : CO f xs r
 rotate_left
 ·rw [h1, h2] at h; cases h
 rw [h1, h2] at h
 have h3 : CO f (xs ++ [m]) r = false := by
  unfold CO at h2 ⊢
  cases e : r.Start != (-1)
  ·rfl
  rw [e] at h2
  simp only [Bool.true_and, Bool.or_eq_false_iff, Bool.not_eq_false'] at h2 ⊢
  obtain ⟨x, gx, _⟩ := Es h2.2.1
  refine ⟨h2.1, Nk m h2.2.1, ?_⟩
  have : Bw (xs ++ [m]) r.Start = Bw xs r.Start := by simp [Bw, gx, DT gx]
  rw [this]; exact h2.2.2
 rw [h3]
 simp only [cond_false] at h ⊢
 cases h4 : decide (r.Done > ((E7 f xs).length : Int))
 ·have h5 : ¬ r.Done > ((E7 f (xs ++ [m])).length : Int) := by
   have := of_decide_eq_false h4
   omega
  rw [decide_eq_false h5]; rfl
 ·rw [h4] at h; cases h
theorem Zq {f : Int} {xs : List Ah} {m : Ah} (h : Hk f xs = 0) (hm : CB f m = 0) (hr : BE xs.length m = false) (hn : m ∉ xs) (hl : xs.length < 240) : Hk f (xs ++ [m]) = 0 := by
 unfold Hk at h ⊢
 cases h1 : inR f 1 2
 ·rw [h1] at h; cases h
 have e2 : ¬ ((xs.length : Int) > 240) := by omega
 have e3 : ¬ (((xs ++ [m]).length : Int) > 240) := by simp; omega
 rw [h1, decide_eq_false e2] at h
 rw [decide_eq_false e3]
 simp only [Bool.not_true, cond_false] at h ⊢
 have hall : ∀ j, j < xs.length → Fh f xs j = false := by
  rcases BC (Fh f xs) xs.length with h' | ⟨i, k1, k2, k3⟩
  ·exact h'
  ·rw [Bt k1 k2 k3] at h
   simp only [orF] at h
   rw [G5 k1] at h
   cases e1 : CB f xs[i] != 0
   ·rw [e1] at h
    cases e2 : BE i xs[i] <;> rw [e2] at h <;> cases h
   ·rw [e1] at h
    simp only [cond_true] at h
    rw [h] at e1
    cases e1
 rw [BO]
 ·rfl
 intro j hj
 have hj' : j < xs.length + 1 := by simpa using hj
 rw [DZ hj]
 by_cases hjx : j < xs.length
 ·have := hall j hjx
  rw [DZ hjx] at this
  have e : (xs ++ [m])[j] = xs[j] := List.getElem_append_left hjx
  rw [e, List.take_append_of_le_length (by omega)]
  exact this
 ·have ej : j = xs.length := by omega
  subst ej
  have e : (xs ++ [m])[xs.length] = m := by simp
  rw [e, List.take_left, hm, hr, decide_eq_false hn]; rfl
open Go Go.Rf
theorem Hz {c : Aa} {m : Ah} (hp : (Eh c.Ledger m).2 = 0) : (D8 c m = c ∧ m ∈ c.Ledger) ∨ (D8 c m = ⟨c.F, c.Bad, c.Replicas, c.Ledger ++ [m], c.Requests⟩ ∧ m ∉ c.Ledger ∧ c.Ledger.length ≠ 240) := by
 have hm : decide (atM c.Ledger m ≥ 0) = decide (m ∈ c.Ledger) := by
  unfold atM
  rw [He, C9, Bool.eq_iff_iff, List.any_eq_true, decide_eq_true_eq]
  exact ⟨fun ⟨x, hx, h⟩ => by have := of_decide_eq_true h; subst this; exact hx, fun h => ⟨m, h, decide_eq_true rfl⟩⟩
 unfold D8
 unfold Eh at hp ⊢
 rw [hm] at hp ⊢
 by_cases h : m ∈ c.Ledger
 ·rw [decide_eq_true h]
  exact .inl ⟨rfl, h⟩
 ·rw [decide_eq_false h] at hp ⊢
  cases h2 : (c.Ledger.length : Int) == 240
  ·refine .inr ⟨rfl, h, fun h3 => ?_⟩
   rw [h3] at h2; cases h2
  ·rw [h2] at hp; cases hp
theorem We {c : Aa} {m : Ah} (F : HE c) (hm : CB c.F m = 0) (hr : BE c.Ledger.length m = false) (hp : (Eh c.Ledger m).2 = 0) : HE (D8 c m) := by
 rcases Hz hp with ⟨e, _⟩ | ⟨e, hn, hl⟩
 ·rw [e]; exact F
 have hl' := F.led.len
 have hc := Zq F.cl hm hr hn (by omega)
 rw [e]
 exact ⟨⟨PW hc, F.badl, F.reql, F.bad, F.ids, fun r hr => VQ m (F.reps r hr)⟩, hc, F.reqs⟩
theorem bN {p : Int → Bool} (h : 3 ≤ ((CN 4).filter p).length) : ∃ a, ∀ id, 1 ≤ id ∧ id ≤ 4 → id ≠ a → p id = true := by
 rw [show CN 4 = [1, 2, 3, 4] from rfl] at h
 have key : ∀ a : Int, (∀ id ∈ [(1 : Int), 2, 3, 4], id ≠ a → p id = true) → ∃ a, ∀ id, 1 ≤ id ∧ id ≤ 4 → id ≠ a → p id = true := fun a k => ⟨a, fun id hid hne => k id (by simp; omega) hne⟩
 cases h1 : p 1 <;> cases h2 : p 2 <;> cases h3 : p 3 <;> cases h4 : p 4 <;> simp [List.filter, h1, h2, h3, h4] at h <;> first
  | (refine key 0 ?_; simp [h1, h2, h3, h4]; done)
  | (refine key 1 ?_; simp [h1, h2, h3, h4]; done)
  | (refine key 2 ?_; simp [h1, h2, h3, h4]; done)
  | (refine key 3 ?_; simp [h1, h2, h3, h4]; done)
  | (refine key 4 ?_; simp [h1, h2, h3, h4]; done)
theorem meet {p q : Int → Bool} {bs : List Int} (hb : bs.length ≤ 1) (hp : 3 ≤ ((CN 4).filter p).length) (hq : 3 ≤ ((CN 4).filter q).length) : ∃ id, (1 ≤ id ∧ id ≤ 4) ∧ id ∉ bs ∧ p id = true ∧ q id = true := by
 obtain ⟨a, ha⟩ := bN hp
 obtain ⟨a', ha'⟩ := bN hq
 obtain ⟨b, hbb⟩ : ∃ b, ∀ x ∈ bs, x = b := by
  match bs, hb with
  | [], _ => exact ⟨0, by simp⟩
  | [b], _ => exact ⟨b, by simp⟩
  | _ :: _ :: _, h => simp at h
 obtain ⟨id, h1, h2, h3, h4⟩ : ∃ id : Int, (1 ≤ id ∧ id ≤ 4) ∧ id ≠ a ∧ id ≠ a' ∧ id ≠ b := by
  have : ((1 : Int) ≠ a ∧ (1 : Int) ≠ a' ∧ (1 : Int) ≠ b) ∨ ((2 : Int) ≠ a ∧ (2 : Int) ≠ a' ∧ (2 : Int) ≠ b) ∨ ((3 : Int) ≠ a ∧ (3 : Int) ≠ a' ∧ (3 : Int) ≠ b) ∨ ((4 : Int) ≠ a ∧ (4 : Int) ≠ a' ∧ (4 : Int) ≠ b) := by omega
  rcases this with h | h | h | h
  ·exact ⟨1, by omega, h⟩
  ·exact ⟨2, by omega, h⟩
  ·exact ⟨3, by omega, h⟩
  ·exact ⟨4, by omega, h⟩
 exact ⟨id, h1, fun h => h4 (hbb id h), ha id h1 h2, ha' id h1 h3⟩
def N2 (x m : Ah) : Bool := (x.Kind == m.Kind) && ((x.From == m.From) && ((x.View == m.View) && (x.Slot == m.Slot)))
structure Inv (c : Aa) : Prop where
 full : HE c
 good : EX c
 one : c.Ledger.Pairwise fun x m => m.From ∉ c.Bad → m.Kind ≤ 3 → N2 x m = false
 chg : ∀ m ∈ c.Ledger, m.From ∉ c.Bad → m.Kind = 4 → Eu c.F c.Ledger m = true
 com : ∀ m ∈ c.Ledger, m.From ∉ c.Bad → m.Kind = 3 → Bl c.F c.Ledger 2 m.View m.Slot m.Value = true
 prv : ∀ m ∈ c.Ledger, m.From ∉ c.Bad → m.Kind = 2 → m.Value ≤ 5
 f1 : c.F = 1
 five : c.Requests.length ≤ 5
structure NC (c : Aa) (m : Ah) : Prop where
 code : CB c.F m = 0
 refs : BE c.Ledger.length m = false
 one : m.From ∉ c.Bad → m.Kind ≤ 3 → ∀ x ∈ c.Ledger, N2 x m = false
 chg : m.From ∉ c.Bad → m.Kind = 4 → Eu c.F c.Ledger m = true
 com : m.From ∉ c.Bad → m.Kind = 3 → Bl c.F c.Ledger 2 m.View m.Slot m.Value = true
 prv : m.From ∉ c.Bad → m.Kind = 2 → m.Value ≤ 5
theorem Og {c : Aa} {m : Ah} (I : Inv c) (S : NC c m) (gm : Ba m) (hp : (Eh c.Ledger m).2 = 0) : Inv (D8 c m) := by
 have P := We I.full S.code S.refs hp
 have G := MV I.good I.full.led.len gm
 rcases Hz hp with ⟨e, _⟩ | ⟨e, hn, hl⟩
 ·rw [e]; exact I
 rw [e] at P G ⊢
 refine ⟨P, G, List.pairwise_append.2 ⟨I.one, List.pairwise_singleton _ _, fun x hx y hy => ?_⟩, fun x hx h1 h2 => ?_, fun x hx h1 h2 => ?_, fun x hx h1 h2 => ?_, I.f1, I.five⟩
 ·rw [List.mem_singleton.1 hy]
  exact fun h1 h2 => S.one h1 h2 x hx
 ·rcases List.mem_append.1 hx with hx | hx
  ·exact G8 m (I.chg x hx h1 h2)
  ·rw [List.mem_singleton.1 hx] at h1 h2 ⊢
   exact G8 m (S.chg h1 h2)
 ·rcases List.mem_append.1 hx with hx | hx
  ·exact FA m (I.com x hx h1 h2)
  ·rw [List.mem_singleton.1 hx] at h1 h2 ⊢
   exact FA m (S.com h1 h2)
 ·rcases List.mem_append.1 hx with hx | hx
  ·exact I.prv x hx h1 h2
  ·rw [List.mem_singleton.1 hx] at h1 h2 ⊢
   exact S.prv h1 h2
theorem Xz {c : Aa} {m : Ah} (I : Inv c) (S : NC c m) (gm : Ba m) (h : (Iw c m).Code = 0) : Inv (Iw c m).Cluster := by
 unfold Iw at h ⊢
 cases hp : (Eh c.Ledger m).2 != 0
 ·exact Og I S gm (by simpa using hp)
 ·rw [hp] at h
  exact absurd h (by simpa using hp)
theorem Kx {c : Aa} (I : Inv c) {k : Nat} (hk : k < c.Replicas.length) {r : Af} (hid : r.Id = c.Replicas[k].Id) (hr : BV c.F c.Ledger r = 0) : Inv ⟨c.F, c.Bad, c.Replicas.set k r, c.Ledger, c.Requests⟩ := by
 have F := I.full
 have g := I.good
 refine ⟨⟨⟨F.led, F.badl, F.reql, F.bad, ?_, fun x hx => ?_⟩, F.cl, F.reqs⟩, ⟨g.bad, by simp only [List.length_set]; exact g.rep, g.led, g.msg, g.req, g.ops⟩, I.one, I.chg, I.com, I.prv, I.f1, I.five⟩
 ·show (c.Replicas.set k r).map (·.Id) = _
  rw [← F.ids]
  refine List.ext_getElem (by simp) fun i h1 h2 => ?_
  simp only [List.getElem_map, List.getElem_set]
  split
  ·rename_i e
   subst e
   exact hid
  ·rfl
 ·rcases List.mem_or_eq_of_mem_set hx with h | h
  ·exact F.reps x h
  ·rw [h]; exact hr
theorem EC {f : Int} {xs : List Ah} {r : Af} (h : BV f xs r = 0) : Dw f r = false ∧ CO f xs r = false ∧ r.Done ≤ ((E7 f xs).length : Int) := by
 unfold BV at h
 cases h1 : Dw f r
 rotate_left
 ·rw [h1] at h; cases h
 cases h2 : CO f xs r
 rotate_left
 ·rw [h1, h2] at h; cases h
 rw [h1, h2] at h
 cases h3 : decide (r.Done > ((E7 f xs).length : Int))
 ·exact ⟨rfl, rfl, by have := of_decide_eq_false h3; omega⟩
 ·rw [h3] at h; cases h
theorem Iz {f : Int} {xs : List Ah} {r : Af} (h1 : Dw f r = false) (h2 : CO f xs r = false) (h3 : r.Done ≤ ((E7 f xs).length : Int)) : BV f xs r = 0 := by
 unfold BV
 rw [h1, h2, decide_eq_false (show ¬ r.Done > ((E7 f xs).length : Int) by omega)]; rfl
theorem Ef {f : Int} {r : Af} (h : Dw f r = false) : (1 ≤ r.Id ∧ r.Id ≤ BG f) ∧ (0 ≤ r.View ∧ r.View ≤ 20) ∧ (0 ≤ r.Done ∧ r.Done ≤ 30) := by
 unfold Dw at h
 simp only [Bool.or_eq_false_iff, Bool.not_eq_false', B9] at h
 exact h
theorem O2 {f : Int} {r : Af} (h1 : 1 ≤ r.Id ∧ r.Id ≤ BG f) (h2 : 0 ≤ r.View ∧ r.View ≤ 20) (h3 : 0 ≤ r.Done ∧ r.Done ≤ 30) : Dw f r = false := by
 unfold Dw
 rw [B9.2 h1, B9.2 h2, B9.2 h3]; rfl
theorem U7 {f : Int} {m : Ah} (hk : 1 ≤ m.Kind ∧ m.Kind ≤ 3) (hc : m.Certs = []) (hr : m.Refs = []) (hv : 0 ≤ m.View ∧ m.View ≤ 20) (hf : 1 ≤ m.From ∧ m.From ≤ BG f) (hm : 1 ≤ f ∧ f ≤ 2) (hs : 1 ≤ m.Slot ∧ m.Slot ≤ 30) (ha : 0 ≤ m.Value ∧ m.Value ≤ 12) : CB f m = 0 := by
 have e1 : GG m = true := by
  unfold GG
  rw [B9.2 (show 1 ≤ m.Kind ∧ m.Kind ≤ 5 by omega), B9.2 hk, hc, hr]
  simp
 have e2 : ED f m = false := by
  unfold ED
  rw [B9.2 hv, B9.2 hf, B9.2 hs, B9.2 ha]
  simp
 have e3 : ¬ (0 : Int) > BG f := by rw [Ce hm]; omega
 unfold CB
 rw [e1, e2, hc, hr]
 simp only [cond_true, cond_false, List.length_nil, List.map_nil, List.any_nil]
 have e4 : DI [] = true := rfl
 rw [e4]
 simp [e3]
theorem Nn {c : Aa} (O : NE c) {k : Nat} (hk : k < c.Replicas.length) : c.Replicas[k].Id ∉ c.Bad := by
 have h : c.Replicas[k].Id ∈ c.Replicas.map (·.Id) := List.mem_map.2 ⟨_, List.getElem_mem hk, rfl⟩
 rw [O.ids] at h
 have := (List.mem_filter.1 h).2
 unfold GI at this
 simpa using this
theorem W0 {r : Af} {k s : Int} {xs : List Ah} {m : Ah} (h : xs.any (DG r k s) = false) (h1 : m.Kind = k) (h2 : m.From = r.Id) (h3 : m.View = r.View) (h4 : m.Slot = s) : ∀ x ∈ xs, N2 x m = false := fun x hx => by
 have := List.any_eq_false.1 h x hx
 unfold DG at this
 unfold N2
 rw [h1, h2, h3, h4]
 revert this
 cases x.Kind == k <;> cases x.From == r.Id <;> cases x.View == r.View <;> cases x.Slot == s <;> simp
theorem HQ {c : Aa} (I : Inv c) {k : Nat} (hk : k < c.Replicas.length) {q s v : Int} (hq : 1 ≤ q ∧ q ≤ 3) (hs : 1 ≤ s ∧ s ≤ 30) (hv : 0 ≤ v ∧ v ≤ 12) (ha : c.Ledger.any (DG c.Replicas[k] q s) = false) (hc : q = 3 → Bl c.F c.Ledger 2 c.Replicas[k].View s v = true) (hp : q = 2 → v ≤ 5) : NC c ⟨q, c.Replicas[k].View, c.Replicas[k].Id, s, v, [], []⟩ := by
 obtain ⟨b1, b2, _⟩ := Ef (EC (I.full.reps _ (List.getElem_mem hk))).1
 refine ⟨U7 hq rfl rfl b2 b1 I.full.led.f12 hs hv, rfl, fun _ _ => W0 ha rfl rfl rfl rfl, fun _ h => ?_, fun _ h => hc h, fun _ h => hp h⟩
 exfalso
 have h : q = 4 := h
 omega
theorem Fa {xs : List Ah} {k v s a id : Int} (h : GB xs k v s a id = true) : ∃ x ∈ xs, x.Kind = k ∧ x.View = v ∧ x.Slot = s ∧ x.Value = a ∧ x.From = id := by
 unfold GB FQ at h
 rw [List.any_eq_true] at h
 obtain ⟨x, hx, h⟩ := h
 simp only [Bool.and_eq_true, beq_iff_eq] at h
 exact ⟨x, hx, h.1.1, h.1.2.1, h.1.2.2.1, h.1.2.2.2, h.2⟩
theorem Fb {c : Aa} (I : Inv c) {k v s a : Int} (h : Bl c.F c.Ledger k v s a = true) : 3 ≤ ((CN 4).filter (GB c.Ledger k v s a)).length := by
 unfold Bl HM D4 at h
 rw [I.f1] at h
 have h := of_decide_eq_true h
 have e : wi .i64 (wi .i64 (2 * 1) + 1) = 3 := rfl
 rw [e] at h
 have h : (3 : Int) ≤ (((CN 4).filter (GB c.Ledger k v s a)).length : Int) := h
 omega
theorem ML {c : Aa} (I : Inv c) {p q : Int → Bool} (hp : 3 ≤ ((CN 4).filter p).length) (hq : 3 ≤ ((CN 4).filter q).length) : ∃ id, (1 ≤ id ∧ id ≤ 4) ∧ id ∉ c.Bad ∧ p id = true ∧ q id = true :=
 meet (by have := I.full.badl; rw [I.f1] at this; omega) hp hq
theorem FZ {c : Aa} (I : Inv c) {v s a : Int} (h : Bl c.F c.Ledger 3 v s a = true) : Bl c.F c.Ledger 2 v s a = true := by
 obtain ⟨id, _, hb, h1, _⟩ := ML I (Fb I h) (Fb I h)
 obtain ⟨x, hx, k1, k2, k3, k4, k5⟩ := Fa h1
 have := I.com x hx (by rw [k5]; exact hb) k1
 rw [k2, k3, k4] at this
 exact this
theorem TN {c : Aa} (I : Inv c) {v s a : Int} (h : Bl c.F c.Ledger 2 v s a = true) : 0 ≤ a ∧ a ≤ 5 := by
 obtain ⟨id, _, hb, h1, _⟩ := ML I (Fb I h) (Fb I h)
 obtain ⟨x, hx, k1, k2, k3, k4, k5⟩ := Fa h1
 have h2 := I.prv x hx (by rw [k5]; exact hb) k1
 have h3 := (I.full.led.msg x hx).value (by omega)
 omega
theorem Ky {c : Aa} (I : Inv c) : ZY c.F c.Ledger := fun s n => by
 refine Nat.le_trans ((On _ _ _ List.nodup_nil).length_le_of_subset (l₂ := [0, 1, 2, 3, 4, 5]) fun v hv => ?_) (by decide)
 rw [LP] at hv
 rcases hv with hv | ⟨x, hx, h, rfl⟩
 ·cases hv
 ·unfold Ft at h
  rw [Bool.and_eq_true, Bool.and_eq_true] at h
  have := TN I (FZ I h.2.2)
  simp
  omega
open Go Go.Rf
theorem RI {xs : List Int} (h : xs.Pairwise (· < ·)) : DI xs = true := by
 unfold DI
 rw [BO]
 ·rfl
 intro i hi
 unfold Dp
 by_cases h0 : 0 < i
 ·have := List.pairwise_iff_getElem.1 h (i - 1) i (by omega) hi (by omega)
  have e1 : A xs i = xs[i] := by simp [A, hi]
  have e2 : A xs (i - 1) = xs[i - 1] := by simp [A, show i - 1 < xs.length by omega]
  rw [e1, e2, decide_eq_false (show ¬ xs[i] ≤ xs[i - 1] by omega), Bool.and_false]
 ·rw [decide_eq_false h0, Bool.false_and]
theorem Qd {id s v : Int} : ∀ (xs : List Ah) (b : Int × Int), xs.foldl (EL id s v) b = b ∨ ∃ m ∈ xs, F5 id s v m = true ∧ xs.foldl (EL id s v) b = (m.View, m.Value)
 | [], b => .inl rfl
 | m :: xs, b => by
  rw [List.foldl_cons]
  rcases Qd xs (EL id s v b m) with h | ⟨x, hx, h1, h2⟩
  ·rw [h]
   unfold EL
   cases e : F5 id s v m
   ·exact .inl rfl
   ·cases decide (m.View > b.1)
    ·exact .inl rfl
    ·exact .inr ⟨m, by simp, e, rfl⟩
  ·exact .inr ⟨x, by simp [hx], h1, h2⟩
theorem Jy {xs : List Ah} {id v : Int} : ∀ (i : Nat), ∀ c ∈ Db xs id v i, (1 ≤ c.Slot ∧ c.Slot ≤ i) ∧ ∃ m ∈ xs, F5 id c.Slot v m = true ∧ c.View = m.View ∧ c.Value = m.Value
 | 0, c, h => by cases h
 | i + 1, c, h => by
  unfold Db at h
  rcases List.mem_append.1 h with h | h
  ·obtain ⟨h1, h2⟩ := Jy i c h
   exact ⟨by omega, h2⟩
  ·cases e : decide ((Dq xs id ((i : Int) + 1) v).1 ≥ 0)
   ·rw [e] at h; cases h
   ·rw [e, cond_true, List.mem_singleton] at h
    rcases Qd (id := id) (s := (i : Int) + 1) (v := v) xs (-1, 0) with hb | ⟨m, hm, h1, h2⟩
    ·have hb : Dq xs id ((i : Int) + 1) v = (-1, 0) := hb
     rw [hb] at e; cases e
    ·have h2 : Dq xs id ((i : Int) + 1) v = (m.View, m.Value) := h2
     rw [h2] at h
     subst h
     exact ⟨by show 1 ≤ (i : Int) + 1 ∧ (i : Int) + 1 ≤ ((i + 1 : Nat) : Int); omega, m, hm, h1, rfl, rfl⟩
theorem PX (xs : List Ah) (id v : Int) : ∀ i, ((Db xs id v i).map (·.Slot)).Pairwise (· < ·)
 | 0 => List.Pairwise.nil
 | i + 1 => by
  unfold Db
  rw [List.map_append]
  refine List.pairwise_append.2 ⟨PX xs id v i, ?_, fun a ha b hb => ?_⟩
  ·cases decide ((Dq xs id ((i : Int) + 1) v).1 ≥ 0)
   ·exact List.Pairwise.nil
   ·exact List.pairwise_singleton _ _
  ·obtain ⟨c, hc, rfl⟩ := List.mem_map.1 ha
   have := (Jy i c hc).1
   cases e : decide ((Dq xs id ((i : Int) + 1) v).1 ≥ 0)
   ·rw [e] at hb; cases hb
   ·rw [e] at hb
    have hb : b = (i : Int) + 1 := by simpa using hb
    omega
theorem Qu {id s v : Int} {m : Ah} (h : F5 id s v m = true) : m.Kind = 3 ∧ m.From = id ∧ m.Slot = s ∧ m.View < v := by
 unfold F5 at h
 simpa using h
theorem UA {c : Aa} (I : Inv c) {k : Nat} (hk : k < c.Replicas.length) {v : Int} (h : (Fv c c.Replicas[k] v).Code = 0) : (Fv c c.Replicas[k] v).Msg = ⟨4, v, c.Replicas[k].Id, 0, 0, Db c.Ledger c.Replicas[k].Id v 30, []⟩ ∧ (0 ≤ v ∧ v ≤ 20) ∧ NC c (Fv c c.Replicas[k] v).Msg := by
 have O := I.full.toNE
 have H := O.led
 obtain ⟨b1, b2, _⟩ := Ef (EC (O.reps _ (List.getElem_mem hk))).1
 have hid := Nn O hk
 generalize c.Replicas[k] = r at b1 b2 hid h ⊢
 unfold Fv at h ⊢
 cases e1 : inR v 0 20
 ·rw [e1] at h; cases h
 have hv := B9.1 e1
 rw [e1] at h
 by_cases e2 : v ≤ r.View
 ·rw [decide_eq_true e2] at h; cases h
 rw [decide_eq_false e2]
 clear h
 have hc : ∀ x ∈ Db c.Ledger r.Id v 30, ((1 ≤ x.Slot ∧ x.Slot ≤ 30) ∧ (0 ≤ x.View ∧ x.View ≤ v - 1) ∧ (0 ≤ x.Value ∧ x.Value ≤ 12)) ∧ FD c.F c.Ledger x = true := fun x hx => by
  obtain ⟨q1, m, hm, q2, q3, q4⟩ := Jy 30 x hx
  obtain ⟨t1, t2, t3, t4⟩ := Qu q2
  have M := H.msg m hm
  have := M.view
  have := M.value (by omega)
  refine ⟨⟨q1, by omega, by omega⟩, ?_⟩
  unfold FD
  rw [q3, q4, ← t3]
  exact I.com m hm (by rw [t2]; exact hid) t1
 have hl := G9 c.Ledger r.Id v 30
 have hp := PX c.Ledger r.Id v 30
 generalize Db c.Ledger r.Id v 30 = C at hl hp hc ⊢
 simp only [Bool.not_true, cond_false]
 refine ⟨trivial, hv, ?_, rfl, fun _ hq => ?_, fun _ _ => ?_, fun _ hq => ?_, fun _ hq => ?_⟩
 ·have e3 : ED c.F ⟨4, v, r.Id, 0, 0, C, []⟩ = false := by
   unfold ED
   dsimp only
   rw [e1, B9.2 b1]; rfl
  have e4 : C.any (CM v) = false := by
   rw [List.any_eq_false]
   intro x hx
   obtain ⟨⟨h1, h2, h3⟩, _⟩ := hc x hx
   unfold CM
   rw [B9.2 h1, Dt (by omega) (by omega), B9.2 h2, B9.2 h3]
   simp
  have e5 : ¬ (C.length : Int) > 30 := by omega
  have e6 : ¬ ((([] : List Int).length : Nat) : Int) > BG c.F := by have hf := H.f12; rw [Ce hf]; simp; omega
  unfold CB
  rw [show GG (⟨4, v, r.Id, 0, 0, C, []⟩ : Ah) = true from rfl, e3]
  dsimp only
  rw [decide_eq_false e5, decide_eq_false e6, RI hp, e4]
  rfl
 ·exfalso
  have hq : (4 : Int) ≤ 3 := hq
  omega
 ·unfold Eu
  dsimp only
  rw [decide_eq_true (show v > 0 by omega)]
  simp only [beq_self_eq_true, Bool.true_and, Bool.not_eq_true', List.any_eq_false]
  intro x hx
  rw [(hc x hx).2]
  decide
 ·exfalso
  have hq : (4 : Int) = 3 := hq
  omega
 ·exfalso
  have hq : (4 : Int) = 2 := hq
  omega
theorem KQ {f : Int} (h : 1 ≤ f ∧ f ≤ 2) : D4 f = 2 * f + 1 := by
 unfold D4
 rw [Dt (x := 2 * f) (by omega) (by omega), Dt (by omega) (by omega)]
structure gM (f : Int) (xs : List Ah) (v : Int) (L : List Int) (i : Nat) : Prop where
 pw : L.Pairwise (· < ·)
 lt : ∀ r ∈ L, 0 ≤ r ∧ r < i
 ok : ∀ r ∈ L, BH f xs r = true ∧ Bw xs r = v
 nd : (L.map (AQ xs)).Nodup
 few : (L.length : Int) ≤ D4 f
theorem XW {f : Int} (hf : 1 ≤ f ∧ f ≤ 2) (xs : List Ah) (v : Int) : ∀ i, gM f xs v (chN f xs v i) i
 | 0 => ⟨List.Pairwise.nil, fun r h => (by cases h), fun r h => (by cases h), List.nodup_nil, (by rw [KQ hf]; show (0 : Int) ≤ _; omega)⟩
 | i + 1 => by
  have K := XW hf xs v i
  unfold chN
  cases e : Ro f xs v (chN f xs v i) i
  ·exact ⟨K.pw, fun r h => (by have := K.lt r h; omega), K.ok, K.nd, K.few⟩
  unfold Ro at e
  rw [Bool.and_eq_true, Bool.and_eq_true, Bool.and_eq_true] at e
  obtain ⟨e1, e2, e3, e4⟩ := e
  have e1 := of_decide_eq_true e1
  have e3 : AQ xs (i : Int) ∉ (chN f xs v i).map (AQ xs) := by simpa using e3
  refine ⟨List.pairwise_append.2 ⟨K.pw, List.pairwise_singleton _ _, fun a ha b hb => ?_⟩, fun r h => ?_, fun r h => ?_, ?_, ?_⟩
  ·rw [List.mem_singleton.1 hb]; exact (K.lt a ha).2
  ·rcases List.mem_append.1 h with h | h
   ·have := K.lt r h; omega
   ·rw [List.mem_singleton.1 h]; omega
  ·rcases List.mem_append.1 h with h | h
   ·exact K.ok r h
   ·rw [List.mem_singleton.1 h]; exact ⟨e4, by simpa using e2⟩
  ·show ((chN f xs v i ++ [(i : Int)]).map (AQ xs)).Nodup
   rw [List.map_append, List.nodup_append]
   refine ⟨K.nd, by simp, fun a ha b hb hab => ?_⟩
   have hb : b = AQ xs (i : Int) := by simpa using hb
   rw [hab, hb] at ha
   exact e3 ha
  ·show ((chN f xs v i ++ [(i : Int)]).length : Int) ≤ D4 f
   simp; omega
theorem TZ {f : Int} {xs : List Ah} (hf : 1 ≤ f ∧ f ≤ 2) {v id : Int} {L : List Int} {i : Nat} (K : gM f xs v L i) (hv : 0 < v) (hid : id = Dz f v) (hn : D4 f ≤ (L.length : Int)) : HF f xs ⟨5, v, id, 0, 0, [], L⟩ = true := by
 unfold HF
 dsimp only
 rw [decide_eq_true (show v > 0 from hv), hid, decide_eq_false (show ¬ ((L.length : Nat) : Int) < D4 f by omega), BO]
 ·simp
 intro j hj
 have hj : j < L.length := hj
 rw [D3 (m := (⟨5, v, Dz f v, 0, 0, [], L⟩ : Ah)) hj]
 dsimp only
 obtain ⟨h1, h2⟩ := K.ok _ (List.getElem_mem hj)
 have h3 : AQ xs L[j] ∉ (L.take j).map (AQ xs) := fun h => by
  obtain ⟨a, ha, hab⟩ := List.mem_map.1 h
  obtain ⟨q, hq, rfl⟩ := List.mem_iff_getElem.1 ha
  have hq' : q < j := by simp at hq; omega
  have := List.pairwise_iff_getElem.1 K.nd q j (by simp; omega) (by simpa using hj) hq'
  simp only [List.getElem_map] at this
  rw [List.getElem_take] at hab
  exact this hab
 rw [h1, h2, decide_eq_false h3]
 simp
theorem W5 {f : Int} {xs : List Ah} (hf : 1 ≤ f ∧ f ≤ 2) {v id : Int} {L : List Int} {i : Nat} (K : gM f xs v L i) (hi : i ≤ 240) (hv : 0 ≤ v ∧ v ≤ 20) (hid : 1 ≤ id ∧ id ≤ BG f) : CB f ⟨5, v, id, 0, 0, [], L⟩ = 0 := by
 have e3 : ED f ⟨5, v, id, 0, 0, [], L⟩ = false := by
  unfold ED
  dsimp only
  rw [B9.2 hv, B9.2 hid]; rfl
 have e6 : ¬ ((L.length : Nat) : Int) > BG f := by
  have := K.few
  rw [KQ hf] at this
  rw [Ce hf]; omega
 have e4 : L.any DX = false := by
  rw [List.any_eq_false]
  intro r hr
  have := K.lt r hr
  unfold DX
  rw [B9.2 (show 0 ≤ r ∧ r ≤ 239 by omega)]
  simp
 unfold CB
 rw [show GG (⟨5, v, id, 0, 0, [], L⟩ : Ah) = true from rfl, e3]
 dsimp only
 rw [decide_eq_false e6, RI K.pw, e4]
 rfl
theorem Yf {xs : List Ah} {m : Ah} (h : m ∈ xs) : Aq xs (atM xs m) = some m := by
 unfold atM
 obtain ⟨j, hj, rfl⟩ := List.mem_iff_getElem.1 h
 rcases BC (pAt (fun x => decide (x = xs[j])) xs) xs.length with k | ⟨i, k1, k2, k3⟩
 ·have := k j hj
  rw [AU hj] at this
  simp at this
 ·rw [Bt k1 k2 k3]
  rw [AU k1] at k3
  have k3 := of_decide_eq_true k3
  show Aq xs ((i : Nat) : Int) = _
  rw [AZ k1, k3]
theorem OE {f : Int} {xs : List Ah} {r : Af} (hn : EK f xs r.Start = true) (hv : Bw xs r.Start = r.View) : CO f xs r = false := by
 obtain ⟨x, gx, hx⟩ := Es hn
 have h0 : x.View > 0 := by
  unfold EK at hn
  rw [gx] at hn
  have hn : HF f xs x = true := hn
  unfold HF at hn
  rw [Bool.and_eq_true, Bool.and_eq_true] at hn
  exact of_decide_eq_true hn.1.2
 have e : (r.View == 0) = false := by
  rw [beq_eq_false_iff_ne]; omega
 unfold CO
 rw [hn, hv, e]
 simp
theorem Wx {c : Aa} (I : Inv c) {k : Nat} (hk : k < c.Replicas.length) (h : (F4 c c.Replicas[k]).Code = 0) : ((F4 c c.Replicas[k]).Msg.View = c.Replicas[k].View ∧ HF c.F c.Ledger (F4 c c.Replicas[k]).Msg = true) ∧ NC c (F4 c c.Replicas[k]).Msg := by
 have O := I.full.toNE
 have H := O.led
 have hl := H.len
 obtain ⟨b1, b2, _⟩ := Ef (EC (O.reps _ (List.getElem_mem hk))).1
 have K := XW H.f12 c.Ledger c.Replicas[k].View c.Ledger.length
 have hrf := (RZ O c.Replicas[k]).2
 unfold F4 at h hrf ⊢
 cases e1 : ((c.Replicas[k].View == 0) || ((c.Replicas[k].Id != Dz c.F c.Replicas[k].View) || (c.Replicas[k].Start != (-1))))
 rotate_left
 ·rw [e1] at h; cases h
 rw [e1] at h hrf
 by_cases e2 : (((chN c.F c.Ledger c.Replicas[k].View c.Ledger.length).length : Nat) : Int) < D4 c.F
 ·rw [decide_eq_true e2] at h; cases h
 rw [decide_eq_false e2] at hrf ⊢
 simp only [Bool.or_eq_false_iff, bne_eq_false_iff_eq, beq_eq_false_iff_ne, ne_eq] at e1
 have hM := TZ H.f12 K (show 0 < c.Replicas[k].View by omega) e1.2.1 (by omega)
 refine ⟨⟨rfl, hM⟩, W5 H.f12 K hl b2 b1, hrf, fun _ hq => ?_, fun _ hq => ?_, fun _ hq => ?_, fun _ hq => ?_⟩
 ·exfalso
  have hq : (5 : Int) ≤ 3 := hq
  omega
 ·exfalso
  have hq : (5 : Int) = 4 := hq
  omega
 ·exfalso
  have hq : (5 : Int) = 3 := hq
  omega
 ·exfalso
  have hq : (5 : Int) = 2 := hq
  omega
theorem YY {c : Aa} (I : Inv c) {m : Ah} (I1 : Inv (D8 c m)) {k : Nat} (hk : k < c.Replicas.length) (hM : m.View = c.Replicas[k].View ∧ HF c.F c.Ledger m = true) (hp : (Eh c.Ledger m).2 = 0) : Inv ⟨(D8 c m).F, (D8 c m).Bad, (D8 c m).Replicas.set k { c.Replicas[k] with Start := atM (D8 c m).Ledger m }, (D8 c m).Ledger, (D8 c m).Requests⟩ := by
 obtain ⟨q1, q2, q3⟩ := EC (I1.full.reps _ (List.getElem_mem hk))
 have hg : Aq (D8 c m).Ledger (atM (D8 c m).Ledger m) = some m ∧ HF c.F (D8 c m).Ledger m = true := by
  rcases Hz hp with ⟨e, h⟩ | ⟨e, _⟩
  ·rw [e]; exact ⟨Yf h, hM.2⟩
  ·rw [e]; exact ⟨Yf (by simp), Ni m hM.2⟩
 refine Kx I1 hk rfl (Iz q1 (OE ?_ ?_) q3)
 ·show EK c.F (D8 c m).Ledger (atM (D8 c m).Ledger m) = true
  unfold EK
  rw [hg.1]
  exact hg.2
 ·show Bw (D8 c m).Ledger (atM (D8 c m).Ledger m) = c.Replicas[k].View
  unfold Bw
  rw [hg.1]
  exact hM.1
theorem VN {xs : List Ag} (h : DJ xs = 0) : ∀ i, i < xs.length → Ej xs i = false := by
 unfold DJ at h
 rcases BC (Ej xs) xs.length with k | ⟨i, k1, k2, k3⟩
 ·exact k
 ·rw [Bt k1 k2 k3] at h
  have h : Jc xs i = 0 := h
  rw [HU k1] at h
  cases e : Cj xs[i] != 0
  ·rw [e] at h; cases h
  ·rw [e] at h
   exact absurd h (by simpa using e)
theorem VM {xs : List Ag} {r : Ag} (h : DJ xs = 0) (hr : Cj r = 0) (hn : xs.any (E9 r) = false) : DJ (xs ++ [r]) = 0 := by
 have hall := VN h
 unfold DJ
 rw [BO]
 ·rfl
 intro j hj
 have hj' : j < xs.length + 1 := by simpa using hj
 rw [D7 hj]
 by_cases hjx : j < xs.length
 ·have := hall j hjx
  rw [D7 hjx] at this
  have e : (xs ++ [r])[j] = xs[j] := List.getElem_append_left hjx
  rw [e, List.take_append_of_le_length (by omega)]
  exact this
 ·have ej : j = xs.length := by omega
  subst ej
  have e : (xs ++ [r])[xs.length] = r := by simp
  rw [e, List.take_left, hr, hn]; rfl
theorem Uu {c : Aa} {r : Ag} (I : Inv c) (gr : IO r) (hr : Cj r = 0) (hn : c.Requests.any (E9 r) = false) (hl : c.Requests.length < 5) : Inv ⟨c.F, c.Bad, c.Replicas, c.Ledger, c.Requests ++ [r]⟩ := by
 have F := I.full
 have g := I.good
 refine ⟨⟨⟨F.led, F.badl, by show (c.Requests ++ [r]).length ≤ 12; simp; omega, F.bad, F.ids, F.reps⟩, F.cl, VM F.reqs hr hn⟩, ⟨g.bad, g.rep, g.led, g.msg, by show (c.Requests ++ [r]).length ≤ _; simp; omega, fun x hx => ?_⟩, I.one, I.chg, I.com, I.prv, I.f1, by show (c.Requests ++ [r]).length ≤ 5; simp; omega⟩
 rcases List.mem_append.1 hx with h | h
 ·exact g.ops x h
 ·rw [List.mem_singleton.1 h]; exact gr
open Go Go.Rf
def IY (f : Int) (xs : List Ah) (m : Ah) : Prop := ∃ st, EK f xs st = true ∧ Bw xs st = m.View ∧ OB xs st m.Slot m.Value = true
def gK (c : Aa) (m : Ah) : Prop := m.From ∉ c.Bad → m.Kind = 1 ∨ m.Kind = 5 ∨ (m.Kind = 2 ∧ (m.View ≠ 0 → IY c.F c.Ledger m)) ∨ (m.Kind = 3 ∧ ∃ r ∈ c.Replicas, r.Id = m.From ∧ r.View = m.View)
def fN (c : Aa) (r : Af) (v : Int) : Ah := ⟨4, v, r.Id, 0, 0, Db c.Ledger r.Id v 30, []⟩
def gJ (c c' : Aa) : Prop := ∀ r' ∈ c'.Replicas, ∃ r ∈ c.Replicas, r.Id = r'.Id ∧ r.View = r'.View
def Eff (c c' : Aa) : Prop := (c'.F = c.F ∧ c'.Bad = c.Bad) ∧ ((gJ c c' ∧ (c'.Ledger = c.Ledger ∨ ∃ m, c'.Ledger = c.Ledger ++ [m] ∧ gK c m)) ∨ ∃ (k : Nat) (hk : k < c.Replicas.length) (v : Int), c.Replicas[k].View < v ∧ (∃ r : Af, r.Id = c.Replicas[k].Id ∧ r.View = v ∧ c'.Replicas = c.Replicas.set k r) ∧ (c'.Ledger = c.Ledger ∨ c'.Ledger = c.Ledger ++ [fN c c.Replicas[k] v]))
theorem MH {c : Aa} {xs : List Ah} {qs : List Ag} : gJ c ⟨c.F, c.Bad, c.Replicas, xs, qs⟩ := fun r hr => ⟨r, hr, rfl, rfl⟩
theorem K7 {c : Aa} {k : Nat} (hk : k < c.Replicas.length) {r : Af} (h1 : r.Id = c.Replicas[k].Id) (h2 : r.View = c.Replicas[k].View) {xs : List Ah} {qs : List Ag} : gJ c ⟨c.F, c.Bad, c.Replicas.set k r, xs, qs⟩ := fun r' hr => by
 rcases List.mem_or_eq_of_mem_set hr with h | h
 ·exact ⟨r', h, rfl, rfl⟩
 ·rw [h]; exact ⟨_, List.getElem_mem hk, h1.symm, h2.symm⟩
theorem NS {c : Aa} {m : Ah} (hp : (Eh c.Ledger m).2 = 0) : (D8 c m).Ledger = c.Ledger ∨ (D8 c m).Ledger = c.Ledger ++ [m] := by
 rcases Hz hp with ⟨e, _⟩ | ⟨e, _⟩
 ·rw [e]; exact .inl rfl
 ·rw [e]; exact .inr rfl
theorem XC {c : Aa} {m : Ah} (hs : gK c m) (h : (Iw c m).Code = 0) : Eff c (Iw c m).Cluster := by
 unfold Iw at h ⊢
 cases hp : (Eh c.Ledger m).2 != 0
 ·refine ⟨⟨rfl, rfl⟩, .inl ⟨MH, ?_⟩⟩
  rcases NS (c := c) (m := m) (by simpa using hp) with e | e
  ·exact .inl e
  ·exact .inr ⟨m, e, hs⟩
 ·rw [hp] at h
  exact absurd h (by simpa using hp)
theorem QB {f : Int} {xs : List Ah} {i : Int} {r : Af} (h : EU f xs r i = 0) : ∃ m, Aq xs i = some m ∧ m.View = r.View ∧ KI f xs m r.Start = true := by
 unfold EU at h
 cases hp : I7 f xs i r.Start
 ·rw [hp] at h; cases h
 obtain ⟨m, gm, hk⟩ := Ji hp
 rw [hp, gm] at h
 unfold I7 at hp
 rw [gm] at hp
 refine ⟨m, gm, ?_, hp⟩
 cases e : m.View != r.View
 ·simpa using e
 ·simp [e] at h
theorem NT {f : Int} {xs : List Ah} {m : Ah} {st : Int} (h : KI f xs m st = true) (hv : m.View ≠ 0) (x : Ah) (h1 : x.View = m.View) (h2 : x.Slot = m.Slot) (h3 : x.Value = m.Value) : IY f xs x := by
 unfold KI at h
 have e : (m.View == 0) = false := by simpa using hv
 rw [e] at h
 simp only [Bool.and_eq_true, cond_false, beq_iff_eq] at h
 exact ⟨st, h.2.2.1, by rw [h1]; exact h.2.2.2.1, by rw [h2, h3]; exact h.2.2.2.2⟩
open Go Go.Rf
theorem Gn (c : Aa) (id : Int) (h : c.Replicas.length ≤ 1048576) : (YL c id = none ∧ G4 c id = some none) ∨ ∃ (i : Nat) (hi : i < c.Replicas.length), YL c id = some i ∧ G4 c id = some (some (i : Int)) := by
 unfold G4
 rw [show m57 c.Replicas (fun x0_ => some (m58 x0_ id)) = some (ixI (YL c id)) from Jv (Bo h) (C7 h) (fun x _ => rfl), obs]
 cases e : YL c id with
 | none => exact .inl ⟨rfl, rfl⟩
 | some i =>
  have hi := (Oj.1 e).1
  refine .inr ⟨i, hi, rfl, ?_⟩
  have h1 : ¬ (ixI (some i) < 0) := by simp [ixI]
  simp only [h1, decide_false, cond_false]
  rw [show ixI (some i) = (i : Int) from rfl, AZ hi]; rfl
theorem LQ {c : Aa} (I : Inv c) : m22 c = some 0 := by
 exact N1 I.good I.full (Ky I)
theorem Wi {f : Int} {xs : List Ah} {r : Af} {s v : Int} (h : Gt f xs r s v = 0) : (1 ≤ s ∧ s ≤ 30) ∧ (0 ≤ v ∧ v ≤ 12) ∧ xs.any (DG r 1 s) = false := by
 unfold Gt at h
 cases e1 : inR s 1 30 && inR v 0 12
 ·rw [e1] at h; cases h
 cases e2 : (!M7 r || r.Id != Dz f r.View)
 rotate_left
 ·rw [e1, e2] at h; cases h
 cases e3 : xs.any (DG r 1 s)
 rotate_left
 ·rw [e1, e2, e3] at h; cases h
 rw [Bool.and_eq_true, B9, B9] at e1
 exact ⟨e1.1, e1.2, rfl⟩
theorem Wg {f : Int} {xs : List Ah} {r : Af} {i : Int} (h : EU f xs r i = 0) : ∃ m, Aq xs i = some m ∧ m.Kind = 1 ∧ xs.any (DG r 2 m.Slot) = false := by
 unfold EU at h
 cases hp : I7 f xs i r.Start
 ·rw [hp] at h; cases h
 obtain ⟨m, gm, hk⟩ := Ji hp
 rw [hp, gm] at h
 refine ⟨m, gm, hk, ?_⟩
 cases e : m.View != r.View
 ·cases e3 : xs.any (DG r 2 m.Slot)
  ·rfl
  ·simp [e, e3] at h
 ·simp [e] at h
theorem XP {f : Int} {xs : List Ah} {r : Af} {s v : Int} (h : G7 f xs r s v = 0) : (1 ≤ s ∧ s ≤ 30) ∧ (0 ≤ v ∧ v ≤ 12) ∧ Bl f xs 2 r.View s v = true ∧ xs.any (DG r 3 s) = false := by
 unfold G7 at h
 cases e1 : inR s 1 30 && inR v 0 12
 ·rw [e1] at h; cases h
 cases e2 : M7 r
 ·rw [e1, e2] at h; cases h
 cases e4 : Bl f xs 2 r.View s v
 ·rw [e1, e2, e4] at h; cases h
 cases e3 : xs.any (DG r 3 s)
 rotate_left
 ·rw [e1, e2, e4, e3] at h; cases h
 rw [Bool.and_eq_true, B9, B9] at e1
 exact ⟨e1.1, e1.2, rfl, rfl⟩
def Hq (c : Aa) (y : Ac) : Prop := y.Code = 0 → Inv y.Cluster ∧ Eff c y.Cluster
theorem EV {c : Aa} {k : Int} (h : k ≠ 0) : Hq c ⟨k, ⟨0, [], [], [], []⟩⟩ := fun h0 => absurd h0 h
theorem RF {c : Aa} {m : Ah} (I : Inv c) (S : NC c m) (gm : Ba m) (hs : gK c m) : Hq c (Iw c m) := fun h => ⟨Xz I S gm h, XC hs h⟩
theorem YQ (c : Aa) (id s v : Int) (I : Inv c) : ∃ y, m14 c id s v = some y ∧ Hq c y := by
 have O := I.full.toNE
 have g := I.good
 have H := O.led
 have hl := H.len
 unfold m14 m40 m37 m41
 simp only [LQ I, obs, bne_self_eq_false, cond_false, BM c g]
 unfold m77 m78
 have e0 : ((0 : Int) != 0) = false := rfl
 rcases Gn c id g.rep with ⟨r1, r2⟩ | ⟨k, hk, r1, r2⟩
 ·rw [r2]; exact ⟨⟨4, ⟨0, [], [], [], []⟩⟩, rfl, EV (by decide)⟩
 rw [r2]
 simp only [HW, obs]
 unfold m79
 simp only [AZ hk, obs, Wj H (T8 (O.reps _ (List.getElem_mem hk)))]
 by_cases hc : Gt c.F c.Ledger c.Replicas[k] s v = 0
 rotate_left
 ·have e : (Gt c.F c.Ledger c.Replicas[k] s v != 0) = true := by simpa using hc
  simp only [e, cond_true, obs]
  exact ⟨⟨Gt c.F c.Ledger c.Replicas[k] s v, ⟨0, [], [], [], []⟩⟩, rfl, EV hc⟩
 obtain ⟨hs, hv, ha⟩ := Wi hc
 rw [hc]
 simp only [e0, cond_false, obs]
 rw [show m81 c v = decide (v ≤ (c.Requests.length : Int)) from rfl]
 by_cases ho : v ≤ (c.Requests.length : Int)
 rotate_left
 ·simp only [ho, decide_false, cond_true, Bool.not_false, obs]
  exact ⟨⟨4, ⟨0, [], [], [], []⟩⟩, rfl, EV (by decide)⟩
 unfold m82
 have gm : Ba (⟨1, c.Replicas[k].View, c.Replicas[k].Id, s, v, [], []⟩ : Ah) := ⟨Nat.zero_le _, Nat.zero_le _⟩
 simp only [ho, decide_true, Bool.not_true, cond_false, AZ hk, obs, Hy c _ g hl gm rfl]
 rw [IS g hl gm]
 exact ⟨_, rfl, RF I (HQ I hk (by omega) hs hv ha (fun h => by omega) (fun h => by omega)) gm fun _ => .inl rfl⟩
theorem YP (c : Aa) (id i : Int) (I : Inv c) : ∃ y, m15 c id i = some y ∧ Hq c y := by
 have O := I.full.toNE
 have g := I.good
 have H := O.led
 have hl := H.len
 unfold m15 LC LD m42
 simp only [LQ I, obs, bne_self_eq_false, cond_false, BM c g]
 unfold LA L9
 have e0 : ((0 : Int) != 0) = false := rfl
 rcases Gn c id g.rep with ⟨r1, r2⟩ | ⟨k, hk, r1, r2⟩
 ·rw [r2]; exact ⟨⟨4, ⟨0, [], [], [], []⟩⟩, rfl, EV (by decide)⟩
 rw [r2]
 simp only [HW, obs]
 unfold m83
 simp only [AZ hk, obs, Wh H]
 by_cases hc : EU c.F c.Ledger c.Replicas[k] i = 0
 rotate_left
 ·have e : (EU c.F c.Ledger c.Replicas[k] i != 0) = true := by simpa using hc
  simp only [e, cond_true, obs]
  exact ⟨⟨EU c.F c.Ledger c.Replicas[k] i, ⟨0, [], [], [], []⟩⟩, rfl, EV hc⟩
 obtain ⟨m, gx, hk1, ha⟩ := Wg hc
 have M := H.msg m (Dj gx)
 have hc0 := hc
 rw [hc]
 simp only [e0, cond_false, gx, obs]
 rw [show m81 c m.Value = decide (m.Value ≤ (c.Requests.length : Int)) from rfl]
 by_cases ho : m.Value ≤ (c.Requests.length : Int)
 rotate_left
 ·simp only [ho, decide_false, cond_true, Bool.not_false, obs]
  exact ⟨⟨4, ⟨0, [], [], [], []⟩⟩, rfl, EV (by decide)⟩
 unfold m82
 have gm : Ba (⟨2, c.Replicas[k].View, c.Replicas[k].Id, m.Slot, m.Value, [], []⟩ : Ah) := ⟨Nat.zero_le _, Nat.zero_le _⟩
 simp only [ho, decide_true, Bool.not_true, cond_false, AZ hk, obs, Hy c _ g hl gm rfl]
 rw [IS g hl gm]
 refine ⟨_, rfl, RF I (HQ I hk (by omega) (M.slot (by omega)) (M.value (by omega)) ha (fun h => by omega) (fun _ => by have := I.five; omega)) gm fun _ => .inr (.inr (.inl ⟨rfl, fun hv => ?_⟩))⟩
 obtain ⟨m', g', hv', hp'⟩ := QB hc0
 rw [gx] at g'
 injection g' with g'
 subst g'
 exact NT hp' (by rw [hv']; exact hv) _ hv'.symm rfl rfl
theorem ZE (c : Aa) (id s v : Int) (I : Inv c) : ∃ y, m16 c id s v = some y ∧ Hq c y := by
 have O := I.full.toNE
 have g := I.good
 have H := O.led
 have hl := H.len
 unfold m16 L6 L8 m43
 simp only [LQ I, obs, bne_self_eq_false, cond_false, BM c g]
 unfold L1 Ly
 have e0 : ((0 : Int) != 0) = false := rfl
 rcases Gn c id g.rep with ⟨r1, r2⟩ | ⟨k, hk, r1, r2⟩
 ·rw [r2]; exact ⟨⟨4, ⟨0, [], [], [], []⟩⟩, rfl, EV (by decide)⟩
 rw [r2]
 simp only [HW, obs]
 unfold m85
 simp only [AZ hk, obs, XQ H _ _ _ (VP (O.reps _ (List.getElem_mem hk)))]
 by_cases hc : G7 c.F c.Ledger c.Replicas[k] s v = 0
 rotate_left
 ·have e : (G7 c.F c.Ledger c.Replicas[k] s v != 0) = true := by simpa using hc
  simp only [e, cond_true, obs]
  exact ⟨⟨G7 c.F c.Ledger c.Replicas[k] s v, ⟨0, [], [], [], []⟩⟩, rfl, EV hc⟩
 obtain ⟨hs, hv, he, ha⟩ := XP hc
 rw [hc]
 unfold m82
 have gm : Ba (⟨3, c.Replicas[k].View, c.Replicas[k].Id, s, v, [], []⟩ : Ah) := ⟨Nat.zero_le _, Nat.zero_le _⟩
 simp only [e0, cond_false, AZ hk, obs, Hy c _ g hl gm rfl]
 rw [IS g hl gm]
 exact ⟨_, rfl, RF I (HQ I hk (by omega) hs hv ha (fun _ => he) (fun h => by omega)) gm fun _ => .inr (.inr (.inr ⟨rfl, _, List.getElem_mem hk, rfl, rfl⟩))⟩
theorem fK {c : Aa} {r : Af} {v : Int} (h : (Fv c r v).Code = 0) : r.View < v := by
 unfold Fv at h
 cases e1 : inR v 0 20
 ·rw [e1] at h; cases h
 rw [e1] at h
 by_cases e2 : v ≤ r.View
 ·rw [decide_eq_true e2] at h; cases h
 ·omega
theorem ZI (c : Aa) (id v : Int) (I : Inv c) : ∃ y, m17 c id v = some y ∧ Hq c y := by
 have O := I.full.toNE
 have g := I.good
 have H := O.led
 have hl := H.len
 unfold m17 Lu Lx m44
 simp only [LQ I, obs, bne_self_eq_false, cond_false, BM c g]
 unfold Lt Ls
 have e0 : ((0 : Int) != 0) = false := rfl
 rcases Gn c id g.rep with ⟨r1, r2⟩ | ⟨k, hk, r1, r2⟩
 ·rw [r2]; exact ⟨⟨4, ⟨0, [], [], [], []⟩⟩, rfl, EV (by decide)⟩
 rw [r2]
 have hr := O.reps _ (List.getElem_mem hk)
 simp only [HW, obs]
 unfold m87
 simp only [AZ hk, obs, XU O _ g v]
 obtain ⟨gm, hrf⟩ := XV c c.Replicas[k] v
 cases hc : (Fv c c.Replicas[k] v).Code != 0
 rotate_left
 ·simp only [cond_true, obs, hc]
  exact ⟨⟨(Fv c c.Replicas[k] v).Code, ⟨0, [], [], [], []⟩⟩, rfl, EV (by simpa using hc)⟩
 obtain ⟨em, hv, S⟩ := UA I hk (v := v) (by simpa using hc)
 simp only [cond_false, obs, Hy c _ g hl gm hrf]
 cases hp : (Eh c.Ledger (Fv c c.Replicas[k] v).Msg).2 != 0
 rotate_left
 ·have hp' : ((Eh c.Ledger (Fv c c.Replicas[k] v).Msg).2 == 0) = false := by
   rw [bne] at hp
   simpa using hp
  simp only [cond_true, obs, hp', cond_false, Ai, hp]
  exact ⟨⟨(Eh c.Ledger (Fv c c.Replicas[k] v).Msg).2, ⟨0, [], [], [], []⟩⟩, rfl, EV (by simpa using hp)⟩
 have I1 := Og I S gm (by simpa using hp)
 have er : (D8 c (Fv c c.Replicas[k] v).Msg).Replicas = c.Replicas := rfl
 have hg : Aq c.Replicas (k : Int) = some c.Replicas[k] := AZ hk
 have hs : Aq (c.Replicas.set k { c.Replicas[k] with View := v }) (k : Int) = some { c.Replicas[k] with View := v } := X3 (i := (k : Int)) hg _
 obtain ⟨q1, q2, q3⟩ := EC (I1.full.reps _ (List.getElem_mem hk))
 obtain ⟨b1, b2, b3⟩ := Ef q1
 have I2 : Inv ⟨(D8 c (Fv c c.Replicas[k] v).Msg).F, (D8 c (Fv c c.Replicas[k] v).Msg).Bad, (D8 c (Fv c c.Replicas[k] v).Msg).Replicas.set k { { c.Replicas[k] with View := v } with Start := -1 }, (D8 c (Fv c c.Replicas[k] v).Msg).Ledger, (D8 c (Fv c c.Replicas[k] v).Msg).Requests⟩ := Kx I1 hk rfl (Iz (O2 b1 hv b3) rfl q3)
 rw [er] at I2
 have g2 := I2.good
 simp only [cond_false, beq_self_eq_true, cond_true, er, hg, hs, Kw, obs, Int.toNat_natCast, Ai, e0, List.set_set, BM _ g2]
 refine ⟨_, rfl, fun _ => ⟨I2, ⟨rfl, rfl⟩, .inr ⟨k, hk, v, fK (by simpa using hc), ⟨{ { c.Replicas[k] with View := v } with Start := -1 }, rfl, rfl, rfl⟩, ?_⟩⟩⟩
 have el := NS (c := c) (m := (Fv c c.Replicas[k] v).Msg) (by simpa using hp)
 rw [em] at el ⊢
 exact el
theorem W4 {c : Aa} {r : Af} (h : (F4 c r).Code = 0) : (F4 c r).Msg.Kind = 5 := by
 unfold F4 at h ⊢
 cases e1 : ((r.View == 0) || ((r.Id != Dz c.F r.View) || (r.Start != (-1))))
 rotate_left
 ·rw [e1] at h; cases h
 rw [e1] at h
 by_cases e2 : (((chN c.F c.Ledger r.View c.Ledger.length).length : Nat) : Int) < D4 c.F
 ·rw [decide_eq_true e2] at h; cases h
 ·rw [decide_eq_false e2]; rfl
theorem YW (c : Aa) (id : Int) (I : Inv c) : ∃ y, m18 c id = some y ∧ Hq c y := by
 have O := I.full.toNE
 have g := I.good
 have H := O.led
 have hl := H.len
 unfold m18 Lq Lr
 simp only [LQ I, obs, bne_self_eq_false, cond_false, BM c g]
 unfold Lp Lo
 have e0 : ((0 : Int) != 0) = false := rfl
 rcases Gn c id g.rep with ⟨r1, r2⟩ | ⟨k, hk, r1, r2⟩
 ·rw [r2]; exact ⟨⟨4, ⟨0, [], [], [], []⟩⟩, rfl, EV (by decide)⟩
 rw [r2]
 have hr := O.reps _ (List.getElem_mem hk)
 simp only [HW, obs]
 unfold m45
 simp only [AZ hk, obs, YX O _]
 obtain ⟨gm, hrf⟩ := RZ O c.Replicas[k]
 cases hc : (F4 c c.Replicas[k]).Code != 0
 rotate_left
 ·simp only [cond_true, obs, hc]
  exact ⟨⟨(F4 c c.Replicas[k]).Code, ⟨0, [], [], [], []⟩⟩, rfl, EV (by simpa using hc)⟩
 obtain ⟨hM, S⟩ := Wx I hk (by simpa using hc)
 simp only [cond_false, obs, Hy c _ g hl gm hrf]
 cases hp : (Eh c.Ledger (F4 c c.Replicas[k]).Msg).2 != 0
 rotate_left
 ·have hp' : ((Eh c.Ledger (F4 c c.Replicas[k]).Msg).2 == 0) = false := by
   rw [bne] at hp
   simpa using hp
  simp only [cond_true, obs, hp', cond_false, Ai, hp]
  exact ⟨⟨(Eh c.Ledger (F4 c c.Replicas[k]).Msg).2, ⟨0, [], [], [], []⟩⟩, rfl, EV (by simpa using hp)⟩
 have hp0 : (Eh c.Ledger (F4 c c.Replicas[k]).Msg).2 = 0 := by simpa using hp
 have I1 := Og I S gm hp0
 have er : (D8 c (F4 c c.Replicas[k]).Msg).Replicas = c.Replicas := rfl
 have hg : Aq c.Replicas (k : Int) = some c.Replicas[k] := AZ hk
 have hat2 := K1 (D8 c (F4 c c.Replicas[k]).Msg).Ledger (F4 c c.Replicas[k]).Msg I1.good.led I1.good.msg
 have I2 := YY I I1 hk hM hp0
 rw [er] at I2
 have g2 := I2.good
 simp only [cond_false, beq_self_eq_true, cond_true, er, hg, Kw, obs, Int.toNat_natCast, Ai, e0, hat2, BM _ g2]
 refine ⟨_, rfl, fun _ => ⟨I2, ⟨rfl, rfl⟩, .inl ⟨(by refine K7 hk ?_ ?_ <;> rfl), ?_⟩⟩⟩
 rcases NS hp0 with e | e
 ·exact .inl e
 ·exact .inr ⟨_, e, fun _ => .inr (.inl (W4 (by simpa using hc)))⟩
theorem ZW (c : Aa) (id pl : Int) (I : Inv c) : ∃ y, m19 c id pl = some y ∧ Hq c y := by
 have O := I.full.toNE
 have g := I.good
 have H := O.led
 unfold m19 Lm Ln m46
 simp only [LQ I, obs, bne_self_eq_false, cond_false, BM c g]
 unfold Ll Lj
 have e0 : ((0 : Int) != 0) = false := rfl
 rcases Gn c id g.rep with ⟨r1, r2⟩ | ⟨k, hk, r1, r2⟩
 ·rw [r2]; exact ⟨⟨4, ⟨0, [], [], [], []⟩⟩, rfl, EV (by decide)⟩
 rw [r2]
 simp only [HW, obs]
 unfold m92
 simp only [AZ hk, obs]
 cases hs : c.Replicas[k].Start != -1
 rotate_left
 ·simp only [cond_true, obs, Ai]
  exact ⟨⟨8, ⟨0, [], [], [], []⟩⟩, rfl, EV (by decide)⟩
 simp only [cond_false, KP H, obs]
 cases hn : EK c.F c.Ledger pl
 ·simp only [Bool.not_false, cond_true, obs, Ai]
  exact ⟨⟨10, ⟨0, [], [], [], []⟩⟩, rfl, EV (by decide)⟩
 obtain ⟨x, hx, hxv⟩ := Es hn
 simp only [Bool.not_true, cond_false, hx, obs]
 cases hv : x.View != c.Replicas[k].View
 rotate_left
 ·simp only [cond_true, obs, Ai]
  exact ⟨⟨10, ⟨0, [], [], [], []⟩⟩, rfl, EV (by decide)⟩
 have hv' : x.View = c.Replicas[k].View := by simpa using hv
 obtain ⟨q1, q2, q3⟩ := EC (O.reps _ (List.getElem_mem hk))
 have I2 := Kx I hk (r := { c.Replicas[k] with Start := pl }) rfl (Iz (O2 (Ef q1).1 (Ef q1).2.1 (Ef q1).2.2) (OE hn (hxv.trans hv')) q3)
 have g2 := I2.good
 simp only [cond_false, Ai, AZ hk, Kw, obs, Int.toNat_natCast, e0, BM _ g2]
 exact ⟨_, rfl, fun _ => ⟨I2, ⟨rfl, rfl⟩, .inl ⟨(by refine K7 hk ?_ ?_ <;> rfl), .inl rfl⟩⟩⟩
theorem Z6 (c : Aa) (id : Int) (I : Inv c) : ∃ y, m20 c id = some y ∧ Hq c y := by
 have O := I.full.toNE
 have g := I.good
 have H := O.led
 unfold m20 Le Lh
 simp only [LQ I, obs, bne_self_eq_false, cond_false, BM c g]
 unfold Ld Lc
 have e0 : ((0 : Int) != 0) = false := rfl
 rcases Gn c id g.rep with ⟨r1, r2⟩ | ⟨k, hk, r1, r2⟩
 ·rw [r2]; exact ⟨⟨4, ⟨0, [], [], [], []⟩⟩, rfl, EV (by decide)⟩
 rw [r2]
 obtain ⟨q1, q2, q3⟩ := EC (O.reps _ (List.getElem_mem hk))
 obtain ⟨b1, b2, b3⟩ := Ef q1
 obtain ⟨d, hd⟩ : ∃ d : Nat, c.Replicas[k].Done = d := ⟨c.Replicas[k].Done.toNat, by omega⟩
 simp only [HW, obs]
 unfold m47
 simp only [Px H (Ky I), AZ hk, obs, ge_iff_le]
 by_cases hl : ((E7 c.F c.Ledger).length : Int) ≤ c.Replicas[k].Done
 ·simp only [hl, decide_true, cond_true, obs]
  exact ⟨⟨8, ⟨0, [], [], [], []⟩⟩, rfl, EV (by decide)⟩
 have hdl : d < (E7 c.F c.Ledger).length := by omega
 have hll := Ob c.F c.Ledger
 rw [hd] at hl
 simp only [hd, hl, decide_false, cond_false, AZ hdl, obs]
 unfold m81
 by_cases ho : (E7 c.F c.Ledger)[d] ≤ (c.Requests.length : Int)
 rotate_left
 ·simp only [ho, decide_false, Bool.not_false, cond_true, obs]
  exact ⟨⟨4, ⟨0, [], [], [], []⟩⟩, rfl, EV (by decide)⟩
 have e1 : wi .i64 ((d : Int) + 1) = (d : Int) + 1 := Dt (by omega) (by omega)
 have I2 := Kx I hk (r := { c.Replicas[k] with Done := wi .i64 ((d : Int) + 1) }) rfl (Iz (O2 b1 b2 (by show 0 ≤ wi .i64 ((d : Int) + 1) ∧ wi .i64 ((d : Int) + 1) ≤ 30; omega)) q2 (by show wi .i64 ((d : Int) + 1) ≤ _; omega))
 have g2 := I2.good
 simp only [ho, decide_true, Bool.not_true, cond_false, AZ hk, Kw, obs, Int.toNat_natCast, e0, BM _ g2]
 exact ⟨_, rfl, fun _ => ⟨I2, ⟨rfl, rfl⟩, .inl ⟨(by refine K7 hk ?_ ?_ <;> rfl), .inl rfl⟩⟩⟩
theorem Z3 (c : Aa) (m : Ah) (I : Inv c) (gm : Ba m) : ∃ y, m21 c m = some y ∧ Hq c y := by
 have O := I.full.toNE
 have g := I.good
 have hl := O.led.len
 unfold m21 KZ
 simp only [LQ I, obs, bne_self_eq_false, cond_false, BM c g]
 unfold m48 m49
 rw [KR c.F m gm]
 simp only [obs]
 by_cases hc : CB c.F m = 0
 rotate_left
 ·have e : (CB c.F m != 0) = true := by simpa using hc
  simp only [e, cond_true, obs]
  exact ⟨⟨CB c.F m, ⟨0, [], [], [], []⟩⟩, rfl, EV hc⟩
 have e : (CB c.F m != 0) = false := by simpa using hc
 simp only [e, cond_false]
 rw [show m72 c.Bad m.From = some (decide (m.From ∈ c.Bad)) from Jw (Bo g.bad) (C7 g.bad)]
 simp only [obs]
 by_cases hb : m.From ∈ c.Bad
 rotate_left
 ·simp only [hb, decide_false, Bool.not_false, cond_true, obs]
  exact ⟨⟨10, ⟨0, [], [], [], []⟩⟩, rfl, EV (by decide)⟩
 simp only [hb, decide_true, Bool.not_true, cond_false]
 cases hr : BE c.Ledger.length m
 rotate_left
 ·unfold m89
  rw [OQ c.Ledger m hl g.msg gm, hr]
  simp only [cond_true, obs]
  exact ⟨⟨4, ⟨0, [], [], [], []⟩⟩, rfl, EV (by decide)⟩
 rw [Hy c m g hl gm hr]
 simp only [cond_false, obs]
 rw [IS g hl gm]
 exact ⟨_, rfl, RF I ⟨hc, hr, fun h => absurd hb h, fun h => absurd hb h, fun h => absurd hb h, fun h => absurd hb h⟩ gm fun h => absurd hb h⟩
theorem YV (c : Aa) (r : Ag) (I : Inv c) (gr : IO r) (hr : Cj r = 0) (hn : c.Requests.any (E9 r) = false) (hl : c.Requests.length < 5) : m13 c r = some ⟨0, ⟨c.F, c.Bad, c.Replicas, c.Ledger, c.Requests ++ [r]⟩⟩ ∧ Inv ⟨c.F, c.Bad, c.Replicas, c.Ledger, c.Requests ++ [r]⟩ := by
 have g := I.good
 have I2 := Uu I gr hr hn hl
 have g2 := I2.good
 have e0 : ((0 : Int) != 0) = false := rfl
 have ht : decide (ixI (BQ (pAt (E9 r) c.Requests) c.Requests.length) ≥ 0) = false := by rw [He, C9, hn]
 have e1 : ((c.Requests.length : Int) == 12) = false := by
  rw [beq_eq_false_iff_ne]; omega
 refine ⟨?_, I2⟩
 unfold m13 La
 simp only [LQ I, obs, bne_self_eq_false, cond_false, BM c g]
 unfold m38 m39
 rw [dS, KC _ _ g.req, hr]
 simp only [obs, e0, cond_false, ht, e1]
 rw [ZQ (show c.Requests.length + [r].length ≤ 2097152 by simp; omega) (by decide)]
 simp only [obs, bne_self_eq_false, cond_false, BM _ g2]
open Go Go.Rf
theorem Vd {ys : List Int} (h : ys.Nodup) (hl : 3 ≤ ys.length) (hy : ∀ y ∈ ys, 1 ≤ y ∧ y ≤ 4) : 3 ≤ ((CN 4).filter fun id => decide (id ∈ ys)).length := by
 refine Nat.le_trans hl (h.length_le_of_subset fun y hm => ?_)
 rw [List.mem_filter, K4]
 exact ⟨hy y hm, decide_eq_true hm⟩
theorem Nu {s : Int} {Q : Int × Int × Int → Prop} : ∀ (cs : List (Int × Int × Int)) (st : (Int → Option (Int × Int × Int)) × Int), (∀ o, st.1 s = some o → Q o) → (∀ c ∈ cs, c.1 = s → Q c) → ∀ o, (cs.foldl BR st).1 s = some o → Q o
 | [], st, h, _, o, ho => h o ho
 | c :: cs, st, h, hc, o, ho => by
  rw [List.foldl_cons] at ho
  refine Nu cs (BR st c) (fun o' ho' => ?_) (fun x hx => hc x (by simp [hx])) o ho
  unfold BR at ho'
  cases hn : JA st.1 c
  ·rw [hn] at ho'; exact h o' ho'
  ·rw [hn] at ho'
   have ho' : OC st.1 c s = some o' := ho'
   unfold OC at ho'
   by_cases e : s = c.1
   ·rw [if_pos e] at ho'
    injection ho' with ho'
    rw [← ho']
    exact hc c (by simp) e.symm
   ·rw [if_neg e] at ho'; exact h o' ho'
theorem SU {s u : Int} : ∀ (cs : List (Int × Int × Int)) (st : (Int → Option (Int × Int × Int)) × Int), (((∃ o, st.1 s = some o ∧ u ≤ o.2.1) ∧ s ≤ st.2) ∨ ∃ c ∈ cs, c.1 = s ∧ u ≤ c.2.1) → (∃ o, (cs.foldl BR st).1 s = some o ∧ u ≤ o.2.1) ∧ s ≤ (cs.foldl BR st).2
 | [], st, h => by
  rcases h with h | ⟨c, hc, _⟩
  ·exact h
  ·cases hc
 | c :: cs, st, h => by
  rw [List.foldl_cons]
  refine SU cs (BR st c) ?_
  have e2 : (BR st c).2 = if c.1 > st.2 then c.1 else st.2 := rfl
  have keep : (∃ o, st.1 s = some o ∧ u ≤ o.2.1) → ∃ o, (BR st c).1 s = some o ∧ u ≤ o.2.1 := fun ⟨o, h1, h2⟩ => by
   unfold BR JA OC
   by_cases e : s = c.1
   ·subst e
    by_cases hn : c.2.1 > o.2.1
    ·exact ⟨c, by simp [h1, hn], by omega⟩
    ·exact ⟨o, by simp [h1, hn], h2⟩
   ·refine ⟨o, ?_, h2⟩
    cases st.1 c.1 with
    | none => simp [e, h1]
    | some x => by_cases hn : c.2.1 > x.2.1 <;> simp [e, h1, hn]
  rcases h with ⟨h1, h2⟩ | ⟨x, hx, h1, h2⟩
  ·exact .inl ⟨keep h1, by rw [e2]; split <;> omega⟩
  ·rcases List.mem_cons.1 hx with rfl | hx
   ·refine .inl ⟨?_, by rw [e2]; split <;> omega⟩
    subst h1
    unfold BR JA OC
    cases hs : st.1 x.1 with
    | none => exact ⟨x, by simp, h2⟩
    | some o =>
     by_cases hn : x.2.1 > o.2.1
     ·exact ⟨x, by simp [hn], h2⟩
     ·exact ⟨o, by simp [hn, hs], by omega⟩
   ·exact .inr ⟨x, hx, h1, h2⟩
theorem TR {css : List (List (Int × Int × Int))} {s u y : Int} (hs : 1 ≤ s) (h : (s, u, y) ∈ css.flatten) : ∃ o ∈ css.flatten, o.1 = s ∧ u ≤ o.2.1 ∧ s ≤ ((EJ css).length : Int) ∧ (Aq (EJ css) (s - 1)).getD 0 = o.2.2 := by
 obtain ⟨⟨o, h1, h2⟩, h3⟩ := SU (s := s) (u := u) css.flatten (fun _ => none, 0) (.inr ⟨_, h, rfl, Int.le_refl _⟩)
 obtain ⟨q1, q2⟩ := Nu (s := s) (Q := fun o => o ∈ css.flatten ∧ o.1 = s) css.flatten (fun _ => none, 0) (fun o ho => by cases ho) (fun c hc e => ⟨hc, e⟩) o h1
 have h1 : (F9 css).1 s = some o := h1
 have h3 : s ≤ (F9 css).2 := h3
 have hl : (EJ css).length = (F9 css).2.toNat := by simp [EJ, GQ]
 refine ⟨o, q1, q2, h2, by omega, ?_⟩
 have hi : (s - 1).toNat < (F9 css).2.toNat := by omega
 unfold Aq
 rw [if_pos (by omega)]
 unfold EJ GQ
 rw [List.getElem?_map, List.getElem?_range hi]
 have e : (((s - 1).toNat : Nat) : Int) + 1 = s := by omega
 simp only [Option.map_some, Option.getD_some, e, h1]
structure O7 (c : Aa) : Prop where
 inv : Inv c
 prep : ∀ m ∈ c.Ledger, m.From ∉ c.Bad → m.Kind = 2 → m.View ≠ 0 → IY c.F c.Ledger m
 view : ∀ m ∈ c.Ledger, m.From ∉ c.Bad → m.Kind = 4 → ∀ r ∈ c.Replicas, r.Id = m.From → m.View ≤ r.View
 cert : ∀ m ∈ c.Ledger, m.From ∉ c.Bad → m.Kind = 4 → ∀ x ∈ c.Ledger, x.Kind = 3 → x.From = m.From → x.View < m.View → ∃ k ∈ m.Certs, k.Slot = x.Slot ∧ x.View ≤ k.View
theorem Nh {f : Int} {xs : List Ah} {m : Ah} (h : HF f xs m = true) : D4 f ≤ (m.Refs.length : Int) ∧ (∀ r ∈ m.Refs, BH f xs r = true ∧ Bw xs r = m.View) ∧ (m.Refs.map (AQ xs)).Nodup := by
 unfold HF at h
 simp only [Bool.and_eq_true, Bool.not_eq_true', decide_eq_false_iff_not] at h
 have h2 := h.2.2.2
 have hall : ∀ j, j < m.Refs.length → Fg f xs m j = false := by
  rcases BC (Fg f xs m) m.Refs.length with k | ⟨i, k1, k2, k3⟩
  ·exact k
  ·rw [Bt k1 k2 k3] at h2; cases h2
 have hg : ∀ j (hj : j < m.Refs.length), (BH f xs m.Refs[j] = true ∧ Bw xs m.Refs[j] = m.View) ∧ AQ xs m.Refs[j] ∉ (m.Refs.take j).map (AQ xs) := fun j hj => by
  have := hall j hj
  rw [D3 hj] at this
  simp only [Bool.or_eq_false_iff, Bool.not_eq_false', bne_eq_false_iff_eq, decide_eq_false_iff_not] at this
  exact ⟨⟨this.1, this.2.1⟩, this.2.2⟩
 refine ⟨by omega, fun r hr => ?_, ?_⟩
 ·obtain ⟨j, hj, rfl⟩ := List.mem_iff_getElem.1 hr
  exact (hg j hj).1
 ·rw [List.Nodup, List.pairwise_iff_getElem]
  intro i j hi hj hij e
  have hi' : i < m.Refs.length := by simpa using hi
  have hj' : j < m.Refs.length := by simpa using hj
  refine (hg j hj').2 (List.mem_map.2 ⟨m.Refs[i], List.mem_iff_getElem.2 ⟨i, by simp; omega, by rw [List.getElem_take]⟩, ?_⟩)
  simpa using e
theorem Si {f : Int} {xs : List Ah} {st : Int} (h : EK f xs st = true) : ∃ n, Aq xs st = some n ∧ Bw xs st = n.View ∧ HF f xs n = true := by
 obtain ⟨n, gn, hv⟩ := Es h
 refine ⟨n, gn, hv, ?_⟩
 unfold EK at h
 rw [gn] at h
 exact h
theorem Ir {f : Int} {xs : List Ah} {r : Int} (h : BH f xs r = true) : ∃ z, Aq xs r = some z ∧ z.Kind = 4 ∧ Bw xs r = z.View ∧ AQ xs r = z.From ∧ ∀ k ∈ z.Certs, FD f xs k = true := by
 obtain ⟨z, gz, h1, h2⟩ := CW h
 unfold BH at h
 rw [gz] at h
 have h : Eu f xs z = true := h
 unfold Eu at h
 rw [Bool.and_eq_true, Bool.and_eq_true, Bool.not_eq_true', List.any_eq_false] at h
 exact ⟨z, gz, by simpa using h.1, h1, h2, fun k hk => by simpa using h.2.2 k hk⟩
theorem ZC {f : Int} {xs : List Ah} {rs : List Int} (m : Ah) (h : ∀ r ∈ rs, BH f xs r = true) : FB (xs ++ [m]) rs = FB xs rs := by
 unfold FB
 refine List.map_congr_left fun r hr => ?_
 obtain ⟨z, gz, _⟩ := CW (h r hr)
 rw [gz, DT gz]
theorem JK {f : Int} {xs : List Ah} {x : Ah} (m : Ah) (h : IY f xs x) : IY f (xs ++ [m]) x := by
 obtain ⟨st, h1, h2, h3⟩ := h
 obtain ⟨n, gn, hv, hn⟩ := Si h1
 have e1 : Ek (xs ++ [m]) st = Ek xs st := by simp [Ek, gn, DT gn]
 have e2 : Ek xs st = n.Refs := by simp [Ek, gn]
 refine ⟨st, Nk m h1, ?_, ?_⟩
 ·rw [← h2]
  simp [Bw, gn, DT gn]
 ·unfold OB at h3 ⊢
  rw [e1, ZC m (by rw [e2]; exact fun r hr => ((Nh hn).2.1 r hr).1)]
  exact h3
theorem Ta {id s v : Int} : ∀ (xs : List Ah) (b : Int × Int), b.1 ≤ (xs.foldl (EL id s v) b).1 ∧ ∀ m ∈ xs, F5 id s v m = true → m.View ≤ (xs.foldl (EL id s v) b).1
 | [], b => ⟨Int.le_refl _, fun m hm => by cases hm⟩
 | x :: xs, b => by
  rw [List.foldl_cons]
  obtain ⟨h1, h2⟩ := Ta (id := id) (s := s) (v := v) xs (EL id s v b x)
  have h3 : b.1 ≤ (EL id s v b x).1 ∧ (F5 id s v x = true → x.View ≤ (EL id s v b x).1) := by
   unfold EL
   cases F5 id s v x
   ·exact ⟨Int.le_refl _, fun h => by cases h⟩
   ·by_cases h : x.View > b.1
    ·rw [decide_eq_true h]
     exact ⟨by show b.1 ≤ x.View; omega, fun _ => Int.le_refl _⟩
    ·rw [decide_eq_false h]
     exact ⟨Int.le_refl _, fun _ => by show x.View ≤ b.1; omega⟩
  refine ⟨Int.le_trans h3.1 h1, fun m hm ht => ?_⟩
  rcases List.mem_cons.1 hm with rfl | hm
  ·exact Int.le_trans (h3.2 ht) h1
  ·exact h2 m hm ht
theorem JH {xs : List Ah} {id v : Int} {x : Ah} (hx : x ∈ xs) (ht : F5 id x.Slot v x = true) (hv : 0 ≤ x.View) : ∀ (i : Nat), 1 ≤ x.Slot ∧ x.Slot ≤ i → ∃ k ∈ Db xs id v i, k.Slot = x.Slot ∧ x.View ≤ k.View
 | 0, h => by omega
 | i + 1, h => by
  unfold Db
  by_cases hs : x.Slot ≤ i
  ·obtain ⟨k, hk, h1⟩ := JH hx ht hv i ⟨h.1, hs⟩
   exact ⟨k, List.mem_append.2 (.inl hk), h1⟩
  ·have e : x.Slot = (i : Int) + 1 := by omega
   have hb := (Ta (id := id) (s := x.Slot) (v := v) xs (-1, 0)).2 x hx ht
   have hb : x.View ≤ (Dq xs id x.Slot v).1 := hb
   rw [e] at hb
   rw [decide_eq_true (show (Dq xs id ((i : Int) + 1) v).1 ≥ 0 by omega)]
   exact ⟨⟨(i : Int) + 1, (Dq xs id ((i : Int) + 1) v).1, (Dq xs id ((i : Int) + 1) v).2⟩, by simp, e.symm, hb⟩
theorem fB {c : Aa} (O : NE c) {i j : Nat} (hi : i < c.Replicas.length) (hj : j < c.Replicas.length) (h : c.Replicas[i].Id = c.Replicas[j].Id) : i = j := by
 have hp : (c.Replicas.map (·.Id)).Pairwise (· < ·) := by
  rw [O.ids]
  exact (RB _).filter _
 rcases Nat.lt_trichotomy i j with k | k | k
 ·have := List.pairwise_iff_getElem.1 hp i j (by simpa using hi) (by simpa using hj) k
  simp only [List.getElem_map] at this
  omega
 ·exact k
 ·have := List.pairwise_iff_getElem.1 hp j i (by simpa using hj) (by simpa using hi) k
  simp only [List.getElem_map] at this
  omega
theorem OK {c c' : Aa} (S : O7 c) (I : Inv c') (E : Eff c c') : O7 c' := by
 obtain ⟨⟨ef, eb⟩, h⟩ := E
 have O := S.inv.full.toNE
 rcases h with ⟨st, h⟩ | ⟨k, hk, v, hv, ⟨r0, r1, r2, r3⟩, h⟩
 ·have view0 : ∀ m ∈ c.Ledger, m.From ∉ c'.Bad → m.Kind = 4 → ∀ r ∈ c'.Replicas, r.Id = m.From → m.View ≤ r.View := fun m hm h1 h2 r hr h3 => by
   obtain ⟨q, hq, q1, q2⟩ := st r hr
   rw [← q2]
   exact S.view m hm (by rw [← eb]; exact h1) h2 q hq (q1.trans h3)
  rcases h with h | ⟨m, h, hs⟩
  ·refine ⟨I, ?_, ?_, ?_⟩
   ·rw [ef, eb, h]; exact S.prep
   ·rw [h]; exact view0
   ·rw [eb, h]; exact S.cert
  ·refine ⟨I, fun x hx h1 h2 h3 => ?_, fun x hx h1 h2 r hr h3 => ?_, fun z hz h1 h2 x hx h3 h4 h5 => ?_⟩
   ·rw [eb] at h1
    rw [h] at hx
    rw [ef, h]
    refine JK m ?_
    rcases List.mem_append.1 hx with hx | hx
    ·exact S.prep x hx h1 h2 h3
    ·rw [List.mem_singleton.1 hx] at h1 h2 h3 ⊢
     rcases hs h1 with e | e | e | e
     ·omega
     ·omega
     ·exact e.2 h3
     ·omega
   ·rw [h] at hx
    rcases List.mem_append.1 hx with hx | hx
    ·exact view0 x hx h1 h2 r hr h3
    ·rw [List.mem_singleton.1 hx] at h1 h2
     rw [eb] at h1
     rcases hs h1 with e | e | e | e <;> omega
   ·rw [eb] at h1
    rw [h] at hz hx
    rcases List.mem_append.1 hz with hz | hz
    ·rcases List.mem_append.1 hx with hx | hx
     ·exact S.cert z hz h1 h2 x hx h3 h4 h5
     ·rw [List.mem_singleton.1 hx] at h3 h4 h5
      exfalso
      rcases hs (by rw [h4]; exact h1) with e | e | e | ⟨_, r, hr, e1, e2⟩
      ·omega
      ·omega
      ·omega
      ·have := S.view z hz h1 h2 r hr (e1.trans h4)
       omega
    ·rw [List.mem_singleton.1 hz] at h1 h2
     exfalso
     rcases hs h1 with e | e | e | e <;> omega
 ·have hid := Nn O hk
  have view0 : ∀ m ∈ c.Ledger, m.From ∉ c'.Bad → m.Kind = 4 → ∀ r ∈ c'.Replicas, r.Id = m.From → m.View ≤ r.View := fun m hm h1 h2 r hr h3 => by
   rw [eb] at h1
   rw [r3] at hr
   rcases List.mem_or_eq_of_mem_set hr with hr | hr
   ·exact S.view m hm h1 h2 r hr h3
   ·subst hr
    have := S.view m hm h1 h2 _ (List.getElem_mem hk) (r1.symm.trans h3)
    omega
  rcases h with h | h
  ·refine ⟨I, ?_, ?_, ?_⟩
   ·rw [ef, eb, h]; exact S.prep
   ·rw [h]; exact view0
   ·rw [eb, h]; exact S.cert
  ·refine ⟨I, fun x hx h1 h2 h3 => ?_, fun x hx h1 h2 r hr h3 => ?_, fun z hz h1 h2 x hx h3 h4 h5 => ?_⟩
   ·rw [eb] at h1
    rw [h] at hx
    rw [ef, h]
    refine JK _ ?_
    rcases List.mem_append.1 hx with hx | hx
    ·exact S.prep x hx h1 h2 h3
    ·rw [List.mem_singleton.1 hx] at h2
     exfalso
     have h2 : (4 : Int) = 2 := h2
     omega
   ·rw [h] at hx
    rcases List.mem_append.1 hx with hx | hx
    ·exact view0 x hx h1 h2 r hr h3
    ·rw [List.mem_singleton.1 hx] at h3 ⊢
     have h3 : r.Id = c.Replicas[k].Id := h3
     show v ≤ r.View
     rw [r3] at hr
     obtain ⟨j, hj, rfl⟩ := List.mem_iff_getElem.1 hr
     rw [List.getElem_set] at h3 ⊢
     by_cases e : k = j
     ·rw [if_pos e, r2]; exact Int.le_refl _
     ·rw [if_neg e] at h3
      exact absurd (fB O hk (by simpa using hj) h3.symm) e
   ·rw [eb] at h1
    rw [h] at hz hx
    have hx : x ∈ c.Ledger := by
     rcases List.mem_append.1 hx with hx | hx
     ·exact hx
     ·rw [List.mem_singleton.1 hx] at h3
      have h3 : (4 : Int) = 3 := h3
      omega
    rcases List.mem_append.1 hz with hz | hz
    ·exact S.cert z hz h1 h2 x hx h3 h4 h5
    ·rw [List.mem_singleton.1 hz] at h4 h5 ⊢
     have M := O.led.msg x hx
     have h4 : x.From = c.Replicas[k].Id := h4
     have h5 : x.View < v := h5
     refine JH hx ?_ M.view.1 30 (M.slot (by omega))
     unfold F5
     rw [h3, h4, decide_eq_true h5]
     simp
theorem MN {c : Aa} (I : Inv c) {w s a b : Int} (h1 : Bl c.F c.Ledger 2 w s a = true) (h2 : Bl c.F c.Ledger 2 w s b = true) : a = b := by
 obtain ⟨id, _, hb, p1, p2⟩ := ML I (Fb I h1) (Fb I h2)
 obtain ⟨x, hx, k1, k2, k3, k4, k5⟩ := Fa p1
 obtain ⟨y, hy, q1, q2, q3, q4, q5⟩ := Fa p2
 obtain ⟨i, hi, rfl⟩ := List.mem_iff_getElem.1 hx
 obtain ⟨j, hj, rfl⟩ := List.mem_iff_getElem.1 hy
 have cl : ∀ m n : Ah, m.Kind = 2 → m.View = w → m.Slot = s → m.From = id → n.Kind = 2 → n.View = w → n.Slot = s → n.From = id → N2 m n = true := fun m n a1 a2 a3 a4 b1 b2 b3 b4 => by
  unfold N2
  rw [a1, a2, a3, a4, b1, b2, b3, b4]
  simp
 rcases Nat.lt_trichotomy i j with e | e | e
 ·have := List.pairwise_iff_getElem.1 I.one i j hi hj e (by rw [q5]; exact hb) (by omega)
  rw [cl _ _ k1 k2 k3 k5 q1 q2 q3 q5] at this
  cases this
 ·subst e
  rw [← k4, ← q4]
 ·have := List.pairwise_iff_getElem.1 I.one j i hj hi e (by rw [k5]; exact hb) (by omega)
  rw [cl _ _ q1 q2 q3 q5 k1 k2 k3 k5] at this
  cases this
theorem Xw {c : Aa} (S : O7 c) {w1 s v : Int} (hc : Bl c.F c.Ledger 3 w1 s v = true) : ∀ (n : Nat) (w2 v2 : Int), w2 ≤ n → w1 < w2 → Bl c.F c.Ledger 2 w2 s v2 = true → v2 = v
 | n, w2, v2, hn, hw, h2 => by
  have I := S.inv
  have H := I.full.led
  have hf := I.f1
  have h0 : 0 ≤ w1 := by
   obtain ⟨id, _, _, p1, _⟩ := ML I (Fb I hc) (Fb I hc)
   obtain ⟨x, hx, _, k2, _⟩ := Fa p1
   have := (H.msg x hx).view
   omega
  obtain ⟨id, _, hb, p1, _⟩ := ML I (Fb I h2) (Fb I h2)
  obtain ⟨x, hx, k1, k2, k3, k4, k5⟩ := Fa p1
  obtain ⟨st, g1, g2, g3⟩ := S.prep x hx (by rw [k5]; exact hb) k1 (by omega)
  obtain ⟨nm, gn, gv, gm⟩ := Si g1
  obtain ⟨f1, f2, f3⟩ := Nh gm
  have hlen : 3 ≤ (nm.Refs.map (AQ c.Ledger)).length := by
   rw [KQ (by omega), hf] at f1
   simp; omega
  have hin : ∀ y ∈ nm.Refs.map (AQ c.Ledger), 1 ≤ y ∧ y ≤ 4 := fun y hy => by
   obtain ⟨r, hr, rfl⟩ := List.mem_map.1 hy
   obtain ⟨z, gz, _, _, z3, _⟩ := Ir (f2 r hr).1
   have := (H.msg z (Dj gz)).frm
   rw [Ce (by omega), hf] at this
   rw [z3]; omega
  obtain ⟨i0, _, b0, p0, q0⟩ := ML I (Fb I hc) (Vd f3 hlen hin)
  obtain ⟨x0, hx0, a1, a2, a3, a4, a5⟩ := Fa p0
  have q0 := of_decide_eq_true q0
  obtain ⟨r0, hr0, er⟩ := List.mem_map.1 q0
  obtain ⟨z0, gz0, z1, z2, z3, z4⟩ := Ir (f2 r0 hr0).1
  have ev : z0.View = w2 := by rw [← z2, (f2 r0 hr0).2, ← gv, g2, k2]
  obtain ⟨k0, hk0, s1, s2⟩ := S.cert z0 (Dj gz0) (by rw [← z3, er]; exact b0) z1 x0 hx0 a1 (by rw [a5, ← er, z3]) (by omega)
  have all : ∀ o ∈ (FB c.Ledger nm.Refs).flatten, o.1 = s → w1 ≤ o.2.1 → o.2.2 = v := fun o ho e1 e2 => by
   obtain ⟨cs, hcs, hoc⟩ := List.mem_flatten.1 ho
   obtain ⟨r, hr, rfl⟩ := List.mem_map.1 hcs
   obtain ⟨z, gz, y1, y2, y3, y4⟩ := Ir (f2 r hr).1
   rw [gz] at hoc
   have hoc : o ∈ U6 z := hoc
   obtain ⟨k, hk, rfl⟩ := List.mem_map.1 hoc
   have e1 : k.Slot = s := e1
   have e2 : w1 ≤ k.View := e2
   have hz : z.View = w2 := by rw [← y2, (f2 r hr).2, ← gv, g2, k2]
   have M := (H.msg z (Dj gz)).cert k hk
   have hq : Bl c.F c.Ledger 2 k.View s k.Value = true := by
    have := y4 k hk
    unfold FD at this
    rw [e1] at this
    exact this
   show k.Value = v
   by_cases e : k.View = w1
   ·rw [e] at hq
    exact MN I hq (FZ I hc)
   ·match n, hn with
    | 0, hn => omega
    | n + 1, hn => exact Xw S hc n k.View k.Value (by omega) (by omega) hq
  have hmem : (s, k0.View, k0.Value) ∈ (FB c.Ledger nm.Refs).flatten := by
   refine List.mem_flatten.2 ⟨U6 z0, List.mem_map.2 ⟨r0, hr0, by rw [gz0]; rfl⟩, List.mem_map.2 ⟨k0, hk0, ?_⟩⟩
   rw [s1, a3]
  have hs : 1 ≤ s := by
   have := (H.msg x hx).slot (by omega)
   omega
  obtain ⟨o, o1, o2, o3, o4, o5⟩ := TR hs hmem
  have ov := all o o1 o2 (by omega)
  have er2 : Ek c.Ledger st = nm.Refs := by simp [Ek, gn]
  unfold OB at g3
  rw [er2, k3, k4, decide_eq_true o4, cond_true, beq_iff_eq, o5] at g3
  rw [g3, ov]
termination_by n => n
theorem TX {c : Aa} (S : O7 c) {w1 w2 s a b : Int} (h1 : Bl c.F c.Ledger 3 w1 s a = true) (h2 : Bl c.F c.Ledger 3 w2 s b = true) : a = b := by
 rcases Int.lt_trichotomy w1 w2 with e | e | e
 ·exact (Xw S h1 w2.toNat w2 b (by omega) e (FZ S.inv h2)).symm
 ·subst e
  exact MN S.inv (FZ S.inv h1) (FZ S.inv h2)
 ·exact Xw S h2 w1.toNat w1 a (by omega) e (FZ S.inv h1)
theorem Qr {c : Aa} (S : O7 c) (s : Int) : (D6 c.F c.Ledger s).length ≤ 1 := by
 have hp : (D6 c.F c.Ledger s).Pairwise (· < ·) := (PK _).filter _
 have hd : ∀ v ∈ D6 c.F c.Ledger s, ∃ w, Bl c.F c.Ledger 3 w s v = true := fun v hv => by
  have hv := (List.mem_filter.1 hv).2
  unfold GL at hv
  rw [List.any_eq_true] at hv
  obtain ⟨x, hx, h⟩ := hv
  unfold HJ at h
  rw [Bool.and_eq_true] at h
  exact ⟨_, h.2⟩
 match h : D6 c.F c.Ledger s with
 | [] => exact Nat.zero_le _
 | [a] => exact Nat.le_refl _
 | a :: b :: l =>
  rw [h] at hp hd
  obtain ⟨w1, h1⟩ := hd a (by simp)
  obtain ⟨w2, h2⟩ := hd b (by simp)
  have := TX S h1 h2
  have hab := (List.pairwise_cons.1 hp).1 b (by simp)
  omega
open Go Go.Rf
def PZ (code : List U8) : Prop := code.length ≤ 1048576 ∧ ∀ x ∈ code, 0 ≤ x.v ∧ x.v ≤ 255
theorem eX (f : Int) : m33 f = inR f 1 2 := in1 _ _ _
def IK (id : Int) : Af := ⟨id, 0, -1, 0⟩
theorem appR {L : List Af} {k : Af} (h : L.length ≤ 1000) : B7 32 L [k] = some (L ++ [k]) := by
 unfold B7
 rw [if_pos (by simp; omega)]
theorem QG (ids : List Int) (h : ids.length ≤ 1000) : Ax (Jr ids) NN (0, []) = some (.exit 0 ((ids.length : Int), ids.map IK)) := by
 refine Di (f := Jr ids) (s0 := (0, [])) (fun i => ((i : Int), (ids.take i).map IK)) ids.length _ (fun i hi => ?_) ?_ rfl (Bo (by omega)) rfl
 ·have hc' : (i : Int) < (ids.length : Int) := by omega
  unfold Jr
  simp only [hc', decide_true, cond_true, AZ hi, obs]
  rw [appR (by simp; omega), wi1 (by omega), obs, List.take_succ_eq_append_getElem hi, List.map_append]
  rfl
 ·unfold Jr
  simp only [Int.lt_irrefl, decide_false, cond_false, List.take_length]
theorem HK {code : List U8} (H : PZ code) {i n : Int} (hi : 0 ≤ i ∧ i ≤ 1000) (hn : n ≤ 1000) : ∃ r, m11 code i n = some r ∧ 0 ≤ r ∧ (r < n ∨ r = 0) := by
 obtain ⟨hl, hb⟩ := H
 unfold m11
 by_cases h1 : n ≤ 1
 ·simp only [h1, decide_true, cond_true]
  exact ⟨0, rfl, by omega, .inr rfl⟩
 have hn0 : n ≠ 0 := by omega
 simp only [h1, decide_false, cond_false]
 cases hc : ((code.length : Int) == 0)
 rotate_left
 ·simp only [cond_true, I0, if_neg hn0, obs]
  exact ⟨_, rfl, Int.tmod_nonneg _ (by rw [Dt (by omega) (by omega)]; omega), .inl (Int.tmod_lt_of_pos _ (by omega))⟩
 have hp : 0 < (code.length : Int) := by
  have : (code.length : Int) ≠ 0 := by simpa using hc
  omega
 have hp0 : (code.length : Int) ≠ 0 := by omega
 have hx : ∀ a : Int, 0 ≤ a → ∃ x ∈ code, Aq code (Int.tmod a (code.length : Int)) = some x := fun a ha => by
  have q1 := Int.tmod_nonneg (a := a) (code.length : Int) ha
  have q2 := Int.tmod_lt_of_pos a hp
  have hi : (Int.tmod a (code.length : Int)).toNat < code.length := by omega
  refine ⟨code[(Int.tmod a (code.length : Int)).toNat], List.getElem_mem hi, ?_⟩
  unfold Aq
  rw [if_pos q1, List.getElem?_eq_getElem hi]
 have e2 : wi .i64 (i + 1) = i + 1 := Dt (by omega) (by omega)
 obtain ⟨x, hxm, hx1⟩ := hx i hi.1
 obtain ⟨y, hym, hy1⟩ := hx (i + 1) (by omega)
 have hxb := hb x hxm
 have hyb := hb y hym
 have t1 : 0 ≤ Int.tdiv i (code.length : Int) := Int.tdiv_nonneg hi.1 (by omega)
 have t2 : Int.tdiv i (code.length : Int) ≤ i := Int.tdiv_le_self _ hi.1
 have e4 : IntKind.i64.wrap (Int.tdiv i (code.length : Int)) = Int.tdiv i (code.length : Int) := Dt (by omega) (by omega)
 simp only [cond_false, I0, Q8, if_neg hp0, if_neg hn0, obs, hx1, e2, hy1, e4]
 generalize Int.tdiv i (code.length : Int) = d at t1 t2
 have e6 : wi .i64 (wi .i64 x.v + wi .i64 (d * 3)) = x.v + d * 3 := by
  rw [Dt (x := x.v) (by omega) (by omega), Dt (x := d * 3) (by omega) (by omega), Dt (by omega) (by omega)]
 rw [e6]
 by_cases h5 : n > 200
 ·have e7 : wi .i64 (wi .i64 ((x.v + d * 3) * 251) + wi .i64 y.v) = (x.v + d * 3) * 251 + y.v := by
   rw [Dt (x := y.v) (by omega) (by omega), Dt (x := (x.v + d * 3) * 251) (by omega) (by omega), Dt (by omega) (by omega)]
  simp only [h5, decide_true, cond_true, Ai, obs, e7, if_neg hn0]
  exact ⟨_, rfl, Int.tmod_nonneg _ (by omega), .inl (Int.tmod_lt_of_pos _ (by omega))⟩
 ·simp only [h5, decide_false, cond_false, Ai, obs, if_neg hn0]
  exact ⟨_, rfl, Int.tmod_nonneg _ (by omega), .inl (Int.tmod_lt_of_pos _ (by omega))⟩
structure Ho (P : Aa → Prop) : Prop where
 inv : ∀ c, P c → Inv c
 off : ∀ (c : Aa) (r : Ag), P c → IO r → Cj r = 0 → c.Requests.any (E9 r) = false → c.Requests.length < 5 → m13 c r = some ⟨0, ⟨c.F, c.Bad, c.Replicas, c.Ledger, c.Requests ++ [r]⟩⟩ ∧ P ⟨c.F, c.Bad, c.Replicas, c.Ledger, c.Requests ++ [r]⟩
 pro : ∀ (c : Aa) (id s v : Int), P c → ∃ y, m14 c id s v = some y ∧ (y.Code = 0 → P y.Cluster)
 prp : ∀ (c : Aa) (id i : Int), P c → ∃ y, m15 c id i = some y ∧ (y.Code = 0 → P y.Cluster)
 com : ∀ (c : Aa) (id s v : Int), P c → ∃ y, m16 c id s v = some y ∧ (y.Code = 0 → P y.Cluster)
 chg : ∀ (c : Aa) (id v : Int), P c → ∃ y, m17 c id v = some y ∧ (y.Code = 0 → P y.Cluster)
 nwc : ∀ (c : Aa) (id : Int), P c → ∃ y, m18 c id = some y ∧ (y.Code = 0 → P y.Cluster)
 ado : ∀ (c : Aa) (id pl : Int), P c → ∃ y, m19 c id pl = some y ∧ (y.Code = 0 → P y.Cluster)
 don : ∀ (c : Aa) (id : Int), P c → ∃ y, m20 c id = some y ∧ (y.Code = 0 → P y.Cluster)
 frg : ∀ (c : Aa) (m : Ah), P c → Ba m → ∃ y, m21 c m = some y ∧ (y.Code = 0 → P y.Cluster)
def opsL : List TOp := [(⟨1, [], 0, 0, false, false⟩ : TOp), (⟨3, ([47, 97] : Str), 7, 0, false, false⟩ : TOp), (⟨5, ([47, 97] : Str), 9, (-1), false, false⟩ : TOp), (⟨3, ([47, 97, 47, 98] : Str), 1, 0, true, true⟩ : TOp), (⟨6, ([47, 97] : Str), 0, 0, false, false⟩ : TOp)]
theorem YU : ∀ (i : Nat), i < 5 → ∃ x, Aq opsL (i : Int) = some x ∧ Cj (⟨wi .i64 (1 + (wi .i64 (Int.tdiv (i : Int) 3))), wi .i64 ((i : Int) + 1), (i : Int), [x]⟩ : Ag) = 0
 | 0, _ => ⟨⟨1, [], 0, 0, false, false⟩, rfl, by kernel_rfl⟩
 | 1, _ => ⟨⟨3, ([47, 97] : Str), 7, 0, false, false⟩, rfl, by kernel_rfl⟩
 | 2, _ => ⟨⟨5, ([47, 97] : Str), 9, (-1), false, false⟩, rfl, by kernel_rfl⟩
 | 3, _ => ⟨⟨3, ([47, 97, 47, 98] : Str), 1, 0, true, true⟩, rfl, by kernel_rfl⟩
 | 4, _ => ⟨⟨6, ([47, 97] : Str), 0, 0, false, false⟩, rfl, by kernel_rfl⟩
 | n + 5, h => absurd h (by omega)
section
variable {P : Aa → Prop} (S : Ho P)
include S
theorem eS {c0 : Aa} (h0 : P c0) (hr : c0.Requests = []) : ∃ (k : Int) (c : Aa), Ax KT NN (true, 0, c0.F, c0.Bad, c0.Replicas, c0.Ledger, c0.Requests) = some (.exit 0 (true, k, c.F, c.Bad, c.Replicas, c.Ledger, c.Requests)) ∧ P c := by
 obtain ⟨o, h1, k, c, rfl, h2⟩ := Dh (f := KT) (fun i t => ∃ c : Aa, t = (true, (i : Int), c.F, c.Bad, c.Replicas, c.Ledger, c.Requests) ∧ P c ∧ c.Requests.length = i ∧ ∀ x ∈ c.Requests, x.Number ≤ i) 5 (fun o => ∃ (k : Int) (c : Aa), o = .exit 0 (true, k, c.F, c.Bad, c.Replicas, c.Ledger, c.Requests) ∧ P c) (fun i t hi ht => by
  obtain ⟨c, rfl, h1, h2, h3⟩ := ht
  unfold KT
  dsimp only
  by_cases hc : i < 5
  ·have hc' : (i : Int) < 5 := by omega
   obtain ⟨x, q1, q2⟩ := YU i hc
   have q1 : Aq [(⟨1, [], 0, 0, false, false⟩ : TOp), (⟨3, ([47, 97] : Str), 7, 0, false, false⟩ : TOp), (⟨5, ([47, 97] : Str), 9, (-1), false, false⟩ : TOp), (⟨3, ([47, 97, 47, 98] : Str), 1, 0, true, true⟩ : TOp), (⟨6, ([47, 97] : Str), 0, 0, false, false⟩ : TOp)] (i : Int) = some x := q1
   have e1 : wi .i64 ((i : Int) + 1) = ((i + 1 : Nat) : Int) := wi1 (by omega)
   obtain ⟨h4, h5⟩ := S.off c (⟨wi .i64 (1 + (wi .i64 (Int.tdiv (i : Int) 3))), wi .i64 ((i : Int) + 1), (i : Int), [x]⟩ : Ag) h1 (by show 1 ≤ 1048576; omega) q2 (by
    rw [List.any_eq_false]
    intro y hy
    have := h3 y hy
    unfold E9
    have e : (y.Number == wi .i64 ((i : Int) + 1)) = false := by
     rw [beq_eq_false_iff_ne, e1]; omega
    rw [e, Bool.and_false]
    decide) (by omega)
   have h4 : m13 (⟨c.F, c.Bad, c.Replicas, c.Ledger, c.Requests⟩ : Aa) _ = _ := h4
   simp only [hc', decide_true, cond_true, obs, Ai, q1, h4]
   refine .inl ⟨hc, _, by rw [e1]; rfl, _, rfl, h5, by simp; omega, fun y hy => ?_⟩
   rcases List.mem_append.1 hy with hy | hy
   ·have := h3 y hy; omega
   ·rw [List.mem_singleton.1 hy, e1]
    exact Int.le_refl _
  ·have hc' : ¬ (i : Int) < 5 := by omega
   simp only [hc', decide_false, cond_false, obs, Ai]
   exact .inr (.inl ⟨_, _, rfl, _, c, rfl, h1⟩)) NN 0 (true, 0, c0.F, c0.Bad, c0.Replicas, c0.Ledger, c0.Requests) (by omega) (Bo (by omega)) ⟨c0, rfl, h0, by rw [hr]; rfl, fun x hx => by rw [hr] at hx; cases hx⟩
 exact ⟨k, c, h1, h2⟩
theorem eR (y4 : Int) {c0 : Aa} (h0 : P c0) : ∃ (k : Int) (c : Aa), Ax (Pe y4) NN (0, c0.F, c0.Bad, c0.Replicas, c0.Ledger, c0.Requests) = some (.exit 5 (k, c.F, c.Bad, c.Replicas, c.Ledger, c.Requests)) ∧ P c := by
 obtain ⟨o, h1, k, c, rfl, h2⟩ := Dh (f := Pe y4) (fun i t => ∃ c : Aa, t = ((i : Int), c.F, c.Bad, c.Replicas, c.Ledger, c.Requests) ∧ P c) 240 (fun o => ∃ (k : Int) (c : Aa), o = .exit 5 (k, c.F, c.Bad, c.Replicas, c.Ledger, c.Requests) ∧ P c) (fun i t hi ht => by
  obtain ⟨c, rfl, h1⟩ := ht
  have hl := (S.inv c h1).full.led.len
  unfold Pe
  dsimp only
  by_cases hc : i < c.Ledger.length
  ·have hc' : (i : Int) < (c.Ledger.length : Int) := by omega
   have e1 : wi .i64 ((i : Int) + 1) = ((i + 1 : Nat) : Int) := wi1 (by omega)
   have e0 : ((0 : Int) == 0) = true := rfl
   simp only [hc', decide_true, cond_true, e0, obs, Ai, AZ hc]
   cases c.Ledger[i].Kind == 1
   ·simp only [cond_false, obs, Ai, e1]
    exact .inl ⟨by omega, _, rfl, c, rfl, h1⟩
   ·obtain ⟨y, h3, h4⟩ := S.prp c (wi .i64 (1 + y4)) (i : Int) h1
    have h3 : m15 (⟨c.F, c.Bad, c.Replicas, c.Ledger, c.Requests⟩ : Aa) (wi .i64 (1 + y4)) (i : Int) = some y := h3
    simp only [cond_true, h3, obs]
    by_cases hy : y.Code = 0
    ·have e : (y.Code == 0) = true := by simpa using hy
     simp only [e, cond_true, obs, Ai, e1]
     exact .inl ⟨by omega, _, rfl, y.Cluster, rfl, h4 hy⟩
    ·have e : (y.Code == 0) = false := by simpa using hy
     simp only [e, cond_false, obs, Ai, e1]
     exact .inl ⟨by omega, _, rfl, c, rfl, h1⟩
  ·have hc' : ¬ (i : Int) < (c.Ledger.length : Int) := by omega
   simp only [hc', decide_false, cond_false, obs, Ai]
   exact .inr (.inl ⟨_, _, rfl, _, c, rfl, h1⟩)) NN 0 (0, c0.F, c0.Bad, c0.Replicas, c0.Ledger, c0.Requests) (by omega) (Bo (by omega)) ⟨c0, rfl, h0⟩
 exact ⟨k, c, h1, h2⟩
theorem eT (y4 y5 : Int) {c0 : Aa} (h0 : P c0) : ∃ (k : Int) (c : Aa), Ax (OZ y4 y5) NN (0, c0.F, c0.Bad, c0.Replicas, c0.Ledger, c0.Requests) = some (.exit 7 (k, c.F, c.Bad, c.Replicas, c.Ledger, c.Requests)) ∧ P c := by
 obtain ⟨o, h1, k, c, rfl, h2⟩ := Dh (f := OZ y4 y5) (fun i t => ∃ c : Aa, t = ((i : Int), c.F, c.Bad, c.Replicas, c.Ledger, c.Requests) ∧ P c) 6 (fun o => ∃ (k : Int) (c : Aa), o = .exit 7 (k, c.F, c.Bad, c.Replicas, c.Ledger, c.Requests) ∧ P c) (fun i t hi ht => by
  obtain ⟨c, rfl, h1⟩ := ht
  unfold OZ
  dsimp only
  by_cases hc : i < 6
  ·have hc' : (i : Int) < 6 := by omega
   have e1 : wi .i64 ((i : Int) + 1) = ((i + 1 : Nat) : Int) := wi1 (by omega)
   obtain ⟨y, h3, h4⟩ := S.com c (wi .i64 (1 + y4)) (wi .i64 (1 + y5)) (i : Int) h1
   have h3 : m16 (⟨c.F, c.Bad, c.Replicas, c.Ledger, c.Requests⟩ : Aa) (wi .i64 (1 + y4)) (wi .i64 (1 + y5)) (i : Int) = some y := h3
   simp only [hc', decide_true, cond_true, h3, obs]
   by_cases hy : y.Code = 0
   ·have e : (y.Code == 0) = true := by simpa using hy
    simp only [e, cond_true, obs, Ai, e1]
    exact .inl ⟨hc, _, rfl, y.Cluster, rfl, h4 hy⟩
   ·have e : (y.Code == 0) = false := by simpa using hy
    simp only [e, cond_false, obs, Ai, e1]
    exact .inl ⟨hc, _, rfl, c, rfl, h1⟩
  ·have hc' : ¬ (i : Int) < 6 := by omega
   simp only [hc', decide_false, cond_false]
   exact .inr (.inl ⟨_, _, rfl, _, c, rfl, h1⟩)) NN 0 (0, c0.F, c0.Bad, c0.Replicas, c0.Ledger, c0.Requests) (by omega) (Bo (by omega)) ⟨c0, rfl, h0⟩
 exact ⟨k, c, h1, h2⟩
theorem eV (b : Bool) (k0 y4 : Int) {c : Aa} (h0 : P c) {y0 : Ac} (hy0 : y0.Code = 0 → P y0.Cluster) : ∃ (k : Int) (y : Ac), Ax (OY (b, k0, c.F, c.Bad, c.Replicas, c.Ledger, c.Requests) y4) NN (0, y0.Code, y0.Cluster.F, y0.Cluster.Bad, y0.Cluster.Replicas, y0.Cluster.Ledger, y0.Cluster.Requests) = some (.exit 9 (k, y.Code, y.Cluster.F, y.Cluster.Bad, y.Cluster.Replicas, y.Cluster.Ledger, y.Cluster.Requests)) ∧ (y.Code = 0 → P y.Cluster) := by
 have hl := (S.inv c h0).full.led.len
 obtain ⟨o, h1, k, y, rfl, h2⟩ := Dh (f := OY (b, k0, c.F, c.Bad, c.Replicas, c.Ledger, c.Requests) y4) (fun i t => ∃ y : Ac, t = ((i : Int), y.Code, y.Cluster.F, y.Cluster.Bad, y.Cluster.Replicas, y.Cluster.Ledger, y.Cluster.Requests) ∧ (y.Code = 0 → P y.Cluster)) c.Ledger.length (fun o => ∃ (k : Int) (y : Ac), o = .exit 9 (k, y.Code, y.Cluster.F, y.Cluster.Bad, y.Cluster.Replicas, y.Cluster.Ledger, y.Cluster.Requests) ∧ (y.Code = 0 → P y.Cluster)) (fun i t hi ht => by
  obtain ⟨y, rfl, h1⟩ := ht
  unfold OY
  dsimp only
  by_cases hc : i < c.Ledger.length
  ·have hc' : (i : Int) < (c.Ledger.length : Int) := by omega
   have e1 : wi .i64 ((i : Int) + 1) = ((i + 1 : Nat) : Int) := wi1 (by omega)
   simp only [hc', decide_true, cond_true, obs, Ai]
   cases y.Code != 0
   ·simp only [cond_false, obs, Ai]
    exact .inr (.inl ⟨_, _, rfl, _, y, rfl, h1⟩)
   ·obtain ⟨z, h3, h4⟩ := S.ado c (wi .i64 (1 + y4)) (i : Int) h0
    have h3 : m19 (⟨c.F, c.Bad, c.Replicas, c.Ledger, c.Requests⟩ : Aa) (wi .i64 (1 + y4)) (i : Int) = some z := h3
    simp only [cond_true, obs, Ai, h3, e1]
    exact .inl ⟨hc, _, rfl, z, rfl, h4⟩
  ·have hc' : ¬ (i : Int) < (c.Ledger.length : Int) := by omega
   simp only [hc', decide_false, cond_false, obs, Ai]
   exact .inr (.inl ⟨_, _, rfl, _, y, rfl, h1⟩)) NN 0 (0, y0.Code, y0.Cluster.F, y0.Cluster.Bad, y0.Cluster.Replicas, y0.Cluster.Ledger, y0.Cluster.Requests) (by omega) (Bo (by omega)) ⟨y0, rfl, hy0⟩
 exact ⟨k, y, h1, h2⟩
end
theorem bW {σ τ : Type} {E : Option (LO σ)} {K : LO σ → Option (LO τ)} (G : σ → Prop) {Q : τ → Prop} (hE : ∃ v, E = some (.norm v) ∧ G v) (hK : ∀ v, G v → ∃ w, K (.norm v) = some (.norm w) ∧ Q w) : ∃ w, E.bind K = some (.norm w) ∧ Q w := by
 obtain ⟨v, rfl, h⟩ := hE
 exact hK v h
theorem or2 (a b : Bool) : (bif a then some (LO.norm a) else some (LO.norm b) : Option (LO Bool)) = some (.norm (a || b)) := by cases a <;> rfl
theorem or3 (a b c : Bool) : (bif a then some (LO.norm a) else bif b then some (LO.norm b) else some (LO.norm c) : Option (LO Bool)) = some (.norm (a || (b || c))) := by cases a <;> cases b <;> rfl
theorem or4 (a b c d : Bool) : (bif a then some (LO.norm a) else bif b then some (LO.norm b) else bif c then some (LO.norm c) else some (LO.norm d) : Option (LO Bool)) = some (.norm (a || (b || (c || d)))) := by cases a <;> cases b <;> cases c <;> rfl
section
variable {P : Aa → Prop} (S : Ho P)
include S
theorem Zo {code : List U8} (H : PZ code) {k : Nat} (hk : k < 60) {c : Aa} (h0 : P c) : ∃ w, JB code (true, (k : Int), c.F, c.Bad, c.Replicas, c.Ledger, c.Requests) = some (.norm w) ∧ ∃ c' : Aa, w = (true, ((k + 1 : Nat) : Int), c'.F, c'.Bad, c'.Replicas, c'.Ledger, c'.Requests) ∧ P c' := by
 have hl := (S.inv c h0).full.led.len
 have hk' : (k : Int) < 60 := by omega
 have ew : ∀ j : Nat, j ≤ 100 → wi .i64 ((k : Int) + (j : Int)) = (k : Int) + j := fun j hj => Dt (by omega) (by omega)
 have w9 : wi .i64 ((k : Int) + 9) = (k : Int) + 9 := ew 9 (by omega)
 have w20 : wi .i64 ((k : Int) + 20) = (k : Int) + 20 := ew 20 (by omega)
 have w30 : wi .i64 ((k : Int) + 30) = (k : Int) + 30 := ew 30 (by omega)
 have w40 : wi .i64 ((k : Int) + 40) = (k : Int) + 40 := ew 40 (by omega)
 have w50 : wi .i64 ((k : Int) + 50) = (k : Int) + 50 := ew 50 (by omega)
 have w60 : wi .i64 ((k : Int) + 60) = (k : Int) + 60 := ew 60 (by omega)
 have w70 : wi .i64 ((k : Int) + 70) = (k : Int) + 70 := ew 70 (by omega)
 have w80 : wi .i64 ((k : Int) + 80) = (k : Int) + 80 := ew 80 (by omega)
 have w1 : wi .i64 ((k : Int) + 1) = ((k + 1 : Nat) : Int) := wi1 (by omega)
 have wl : wi .i64 ((c.Ledger.length : Int) + 1) = (c.Ledger.length : Int) + 1 := Dt (by omega) (by omega)
 obtain ⟨y4, a4, _⟩ := HK H (i := (k : Int) + 9) (n := 4) (by omega) (by omega)
 obtain ⟨y5, a5, _⟩ := HK H (i := (k : Int) + 20) (n := 3) (by omega) (by omega)
 obtain ⟨y6, a6, _⟩ := HK H (i := (k : Int) + 30) (n := 6) (by omega) (by omega)
 obtain ⟨y7, a7, _⟩ := HK H (i := (k : Int) + 40) (n := (c.Ledger.length : Int) + 1) (by omega) (by omega)
 obtain ⟨y8, a8, _⟩ := HK H (i := (k : Int) + 50) (n := 14) (by omega) (by omega)
 obtain ⟨y12, a12, _⟩ := HK H (i := (k : Int) + 60) (n := 3) (by omega) (by omega)
 obtain ⟨y18, a18, _⟩ := HK H (i := (k : Int) + 60) (n := 4) (by omega) (by omega)
 obtain ⟨y19, a19, _⟩ := HK H (i := (k : Int) + 70) (n := 3) (by omega) (by omega)
 obtain ⟨y20, a20, _⟩ := HK H (i := (k : Int) + 80) (n := 2) (by omega) (by omega)
 unfold JB
 simp only [hk', decide_true, cond_true, obs, Ai, w9, w20, w30, w40, w50, w60, w70, w80, w1, wl, a4, a5, a6, a7, a8, a12, a18, a19, a20, or2, or3, or4]
 refine bW (fun w => ∃ c' : Aa, w = (true, c'.F, c'.Bad, c'.Replicas, c'.Ledger, c'.Requests) ∧ P c') (bW (fun v => ∃ (y : Ac) (c' : Aa), v = (y.Code, y.Cluster.F, y.Cluster.Bad, y.Cluster.Replicas, y.Cluster.Ledger, y.Cluster.Requests, c'.F, c'.Bad, c'.Replicas, c'.Ledger, c'.Requests) ∧ P c' ∧ (y.Code = 0 → P y.Cluster)) ?_ ?_) ?_
 ·have no : ∀ c' : Aa, P c' → ∃ (y : Ac) (c'' : Aa), ((1, 0, [], [], [], [], c'.F, c'.Bad, c'.Replicas, c'.Ledger, c'.Requests) : Int × Int × (List Int) × (List Af) × (List Ah) × (List Ag) × Int × (List Int) × (List Af) × (List Ah) × (List Ag)) = (y.Code, y.Cluster.F, y.Cluster.Bad, y.Cluster.Replicas, y.Cluster.Ledger, y.Cluster.Requests, c''.F, c''.Bad, c''.Replicas, c''.Ledger, c''.Requests) ∧ P c'' ∧ (y.Code = 0 → P y.Cluster) := fun c' hc => ⟨⟨1, ⟨0, [], [], [], []⟩⟩, c', rfl, hc, fun h => by cases h⟩
  cases (y8 == 0) || (y8 == 1)
  rotate_left
  ·obtain ⟨y, h1, h2⟩ := S.pro c (wi .i64 (1 + y4)) (wi .i64 (1 + y5)) y6 h0
   have h1 : m14 (⟨c.F, c.Bad, c.Replicas, c.Ledger, c.Requests⟩ : Aa) (wi .i64 (1 + y4)) (wi .i64 (1 + y5)) y6 = some y := h1
   simp only [cond_true, h1, obs]
   exact ⟨_, rfl, y, c, rfl, h0, h2⟩
  simp only [cond_false]
  cases (y8 == 2) || ((y8 == 3) || ((y8 == 4) || (y8 == 5)))
  rotate_left
  ·obtain ⟨j, c', h1, h2⟩ := eR S y4 h0
   simp only [cond_true, h1, obs, if_true]
   exact ⟨_, rfl, no c' h2⟩
  simp only [cond_false]
  cases (y8 == 6) || ((y8 == 7) || (y8 == 8))
  rotate_left
  ·obtain ⟨j, c', h1, h2⟩ := eT S y4 y5 h0
   simp only [cond_true, h1, obs, if_true]
   exact ⟨_, rfl, no c' h2⟩
  simp only [cond_false]
  cases y8 == 9
  rotate_left
  ·obtain ⟨y, h1, h2⟩ := S.chg c (wi .i64 (1 + y4)) (wi .i64 (1 + y12)) h0
   have h1 : m17 (⟨c.F, c.Bad, c.Replicas, c.Ledger, c.Requests⟩ : Aa) (wi .i64 (1 + y4)) (wi .i64 (1 + y12)) = some y := h1
   simp only [cond_true, h1, obs]
   exact ⟨_, rfl, y, c, rfl, h0, h2⟩
  simp only [cond_false]
  cases y8 == 10
  rotate_left
  ·obtain ⟨y, h1, h2⟩ := S.nwc c (wi .i64 (1 + y4)) h0
   have h1 : m18 (⟨c.F, c.Bad, c.Replicas, c.Ledger, c.Requests⟩ : Aa) (wi .i64 (1 + y4)) = some y := h1
   simp only [cond_true, h1, obs]
   exact ⟨_, rfl, y, c, rfl, h0, h2⟩
  simp only [cond_false]
  cases y8 == 11
  rotate_left
  ·obtain ⟨y, h1, h2⟩ := S.ado c (wi .i64 (1 + y4)) y7 h0
   have h1 : m19 (⟨c.F, c.Bad, c.Replicas, c.Ledger, c.Requests⟩ : Aa) (wi .i64 (1 + y4)) y7 = some y := h1
   obtain ⟨j, z, h3, h4⟩ := eV S true (k : Int) y4 h0 h2
   simp only [cond_true, h1, h3, obs, if_true]
   exact ⟨_, rfl, z, c, rfl, h0, h4⟩
  simp only [cond_false]
  cases y8 == 12
  rotate_left
  ·obtain ⟨y, h1, h2⟩ := S.don c (wi .i64 (1 + y4)) h0
   have h1 : m20 (⟨c.F, c.Bad, c.Replicas, c.Ledger, c.Requests⟩ : Aa) (wi .i64 (1 + y4)) = some y := h1
   simp only [cond_true, h1, obs]
   exact ⟨_, rfl, y, c, rfl, h0, h2⟩
  simp only [cond_false]
  have frg : ∀ (a b d e : Int) (cs : List AE), cs.length ≤ 1 → ∃ y, m21 (⟨c.F, c.Bad, c.Replicas, c.Ledger, c.Requests⟩ : Aa) (⟨a, b, wi .i64 (1 + y4), d, e, cs, []⟩ : Ah) = some y ∧ (y.Code = 0 → P y.Cluster) := fun a b d e cs hcs => S.frg c _ h0 ⟨Nat.le_trans hcs (by omega), Nat.zero_le _⟩
  cases (wi .i64 (1 + y18)) == 4
  ·obtain ⟨y, h1, h2⟩ := frg (wi .i64 (1 + y18)) y19 (wi .i64 (1 + y5)) y6 [] (Nat.zero_le _)
   simp only [cond_false, obs, Ai, h1]
   exact ⟨_, rfl, y, c, rfl, h0, h2⟩
  ·simp only [cond_true]
   cases y20 == 0
   ·obtain ⟨y, h1, h2⟩ := frg 4 (wi .i64 (1 + y19)) 0 0 [] (Nat.zero_le _)
    simp only [cond_false, obs, Ai, h1]
    exact ⟨_, rfl, y, c, rfl, h0, h2⟩
   ·obtain ⟨y, h1, h2⟩ := frg 4 (wi .i64 (1 + y19)) 0 0 [(⟨wi .i64 (1 + y5), 0, y6⟩ : AE)] (Nat.le_refl _)
    simp only [cond_true, obs, Ai, h1]
    exact ⟨_, rfl, y, c, rfl, h0, h2⟩
 ·rintro _ ⟨y, c', rfl, h1, h2⟩
  by_cases hy : y.Code = 0
  ·have e : (y.Code == 0) = true := by simpa using hy
   have f : m22 (⟨y.Cluster.F, y.Cluster.Bad, y.Cluster.Replicas, y.Cluster.Ledger, y.Cluster.Requests⟩ : Aa) = some 0 := LQ (S.inv _ (h2 hy))
   simp only [e, cond_true, obs, Ai, f]
   exact ⟨_, rfl, y.Cluster, rfl, h2 hy⟩
  ·have e : (y.Code == 0) = false := by simpa using hy
   have f : m22 (⟨c'.F, c'.Bad, c'.Replicas, c'.Ledger, c'.Requests⟩ : Aa) = some 0 := LQ (S.inv _ h1)
   simp only [e, cond_false, obs, Ai, f]
   exact ⟨_, rfl, c', rfl, h1⟩
 ·rintro _ ⟨c', rfl, h1⟩
  exact ⟨_, rfl, c', rfl, h1⟩
theorem eU {code : List U8} (H : PZ code) {c0 : Aa} (h0 : P c0) : ∃ (k : Int) (c : Aa), Ax (JB code) NN (true, 0, c0.F, c0.Bad, c0.Replicas, c0.Ledger, c0.Requests) = some (.exit 2 (true, k, c.F, c.Bad, c.Replicas, c.Ledger, c.Requests)) ∧ P c := by
 obtain ⟨o, h1, k, c, rfl, h2⟩ := Dh (f := JB code) (fun i t => ∃ c : Aa, t = (true, (i : Int), c.F, c.Bad, c.Replicas, c.Ledger, c.Requests) ∧ P c) 60 (fun o => ∃ (k : Int) (c : Aa), o = .exit 2 (true, k, c.F, c.Bad, c.Replicas, c.Ledger, c.Requests) ∧ P c) (fun i t hi ht => by
  obtain ⟨c, rfl, h1⟩ := ht
  by_cases hc : i < 60
  ·obtain ⟨w, h2, c', rfl, h3⟩ := Zo S H hc h1
   exact .inl ⟨hc, _, h2, c', rfl, h3⟩
  ·have hc' : ¬ (i : Int) < 60 := by omega
   unfold JB
   simp only [hc', decide_false, cond_false, obs, Ai]
   exact .inr (.inl ⟨_, _, rfl, _, c, rfl, h1⟩)) NN 0 (true, 0, c0.F, c0.Bad, c0.Replicas, c0.Ledger, c0.Requests) (by omega) (Bo (by omega)) ⟨c0, rfl, h0⟩
 exact ⟨k, c, h1, h2⟩
end
theorem Ua {bs : List Int} (h : bs.length ≤ 1) (hb : EW 1 bs = 0) : m12 1 bs = some ⟨0, ⟨1, bs, (CL 1 bs).map IK, [], []⟩⟩ := by
 have e1 : m34 1 bs = some 0 := by
  unfold m34
  have e : ¬ ((bs.length : Int) > 1) := by omega
  rw [M5 1 bs (by omega), hb, decide_eq_false e]; rfl
 have hol : (CL 1 bs).length ≤ 1000 := DR (f := 1) (by omega) (by omega)
 have e3 : m35 bs = some bs := Qj (by omega) (by decide)
 unfold m12
 rw [eX, e1, e3, J7 (by omega) bs (by omega), show inR 1 1 2 = true from rfl]
 simp only [Bool.not_true, cond_false, obs, bne_self_eq_false]
 rw [QG _ hol]
 rfl
theorem YZ {bs : List Int} (h : bs.length ≤ 1) (hb : EW 1 bs = 0) : Inv ⟨1, bs, (CL 1 bs).map IK, [], []⟩ := by
 have hol : (CL 1 bs).length ≤ 1000 := DR (f := 1) (by omega) (by omega)
 have hc : Hk 1 [] = 0 := rfl
 refine ⟨⟨⟨PW hc, (by show (bs.length : Int) ≤ 1; omega), Nat.zero_le _, hb, ?_, fun r hr => ?_⟩, hc, rfl⟩, ⟨(by show bs.length ≤ 1048576; omega), (by simp only [List.length_map]; omega), Nat.zero_le _, fun x hx => (by cases hx), Nat.zero_le _, fun x hx => (by cases hx)⟩, List.Pairwise.nil, fun x hx => (by cases hx), fun x hx => (by cases hx), fun x hx => (by cases hx), rfl, Nat.zero_le _⟩
 ·show ((CL 1 bs).map IK).map (·.Id) = CL 1 bs
  rw [List.map_map]
  exact List.map_id _
 ·obtain ⟨id, hid, rfl⟩ := List.mem_map.1 hr
  have hu := (K4 _ _).1 (List.mem_filter.1 hid).1
  refine Iz (O2 ?_ (by show (0 : Int) ≤ 0 ∧ (0 : Int) ≤ 20; omega) (by show (0 : Int) ≤ 0 ∧ (0 : Int) ≤ 30; omega)) rfl (by show (0 : Int) ≤ _; omega)
  show 1 ≤ id ∧ id ≤ BG 1
  rw [Ce (by omega)]
  omega
theorem jZ {P : Aa → Prop} (S : Ho P) (h0 : ∀ bs : List Int, bs.length ≤ 1 → EW 1 bs = 0 → P ⟨1, bs, (CL 1 bs).map IK, [], []⟩) {code : List U8} (H : PZ code) : ∃ c, m6 code = some (c, true) ∧ P c := by
 obtain ⟨y1, a1, b1, _⟩ := HK H (i := 0) (n := 6) (by omega) (by omega)
 have key : ∀ bs : List Int, bs.length ≤ 1 → EW 1 bs = 0 → (CL 1 bs).length + bs.length = 4 → ∃ c, ((some (LO.norm bs) : Option (LO (List Int))).bind (Ai (fun s2 =>
 (m12 1 s2).bind fun y2 =>
 (Ax (KT) NN ((wi .i64 ((y2.Cluster.Replicas.length : Int) + (s2.length : Int))) == 4, 0, y2.Cluster.F, y2.Cluster.Bad, y2.Cluster.Replicas, y2.Cluster.Ledger, y2.Cluster.Requests)).bind (Ai (fun _ => none) (fun i4 s8 =>
  if i4 = 0 then
  (Ax (JB code) NN (s8.1, 0, s8.2.2.1, s8.2.2.2.1, s8.2.2.2.2.1, s8.2.2.2.2.2.1, s8.2.2.2.2.2.2)).bind (Ai (fun _ => none) (fun i23 s46 =>
   if i23 = 2 then
   some ((⟨s46.2.2.1, s46.2.2.2.1, s46.2.2.2.2.1, s46.2.2.2.2.2.1, s46.2.2.2.2.2.2⟩ : Aa), s46.1)
   else
   none) (fun s46 =>
   some ((⟨0, [], [], [], []⟩ : Aa), false)))
  else
  none) (fun s8 =>
  some ((⟨0, [], [], [], []⟩ : Aa), false)))) (fun i1 s2 =>
 none) (fun s2 =>
 some ((⟨0, [], [], [], []⟩ : Aa), false)))) = some (c, true) ∧ P c := fun bs h1 h2 h3 => by
  have e : (wi .i64 ((((CL 1 bs).map IK).length : Int) + (bs.length : Int)) == 4) = true := by
   rw [List.length_map, Dt (by omega) (by omega), beq_iff_eq]; omega
  obtain ⟨k, c, q1, q2⟩ := eS S (h0 bs h1 h2) rfl
  obtain ⟨k2, c2, q3, q4⟩ := eU S H q2
  have q1 : Ax KT NN (true, 0, 1, bs, (CL 1 bs).map IK, [], []) = _ := q1
  simp only [obs, Ai, Ua h1 h2, e, q1, if_true, q3]
  exact ⟨c2, rfl, q4⟩
 unfold m6
 rw [a1]
 simp only [obs]
 by_cases h1 : y1 > 0
 rotate_left
 ·simp only [h1, decide_false, cond_false]
  exact key [] (by decide) rfl rfl
 by_cases h2 : y1 < 5
 rotate_left
 ·simp only [h1, h2, decide_true, decide_false, cond_true, cond_false]
  exact key [] (by decide) rfl rfl
 have h5 : y1 = 1 ∨ y1 = 2 ∨ y1 = 3 ∨ y1 = 4 := by omega
 have ha : B7 8 [] [y1] = some [y1] := Qj (by show 1 ≤ 1048576; omega) (by decide)
 simp only [h1, h2, decide_true, cond_true, ha, obs]
 rcases h5 with rfl | rfl | rfl | rfl <;> exact key _ (by decide) rfl rfl
open Go Go.Rf
theorem JC {c : Aa} {o : Option Ac} (S : O7 c) (h : ∃ y, o = some y ∧ Hq c y) : ∃ y, o = some y ∧ (y.Code = 0 → O7 y.Cluster) := by
 obtain ⟨y, h1, h2⟩ := h
 exact ⟨y, h1, fun h => OK S (h2 h).1 (h2 h).2⟩
theorem Qv : Ho O7 := ⟨fun _ S => S.inv, fun c r S gr hr hn hl => by
  obtain ⟨h1, h2⟩ := YV c r S.inv gr hr hn hl
  exact ⟨h1, OK S h2 ⟨⟨rfl, rfl⟩, .inl ⟨MH, .inl rfl⟩⟩⟩,
 fun c id s v S => JC S (YQ c id s v S.inv), fun c id i S => JC S (YP c id i S.inv), fun c id s v S => JC S (ZE c id s v S.inv), fun c id v S => JC S (ZI c id v S.inv), fun c id S => JC S (YW c id S.inv), fun c id pl S => JC S (ZW c id pl S.inv), fun c id S => JC S (Z6 c id S.inv), fun c m S gm => JC S (Z3 c m S.inv gm)⟩
theorem W3 {bs : List Int} (h : bs.length ≤ 1) (hb : EW 1 bs = 0) : O7 ⟨1, bs, (CL 1 bs).map IK, [], []⟩ := ⟨YZ h hb, fun m hm => (by cases hm), fun m hm => (by cases hm), fun m hm => (by cases hm)⟩
theorem dN (code : List U8) (h : ∀ x ∈ code, 0 ≤ x.v ∧ x.v ≤ 255) : m4 code = some true := by
 unfold m4 m5
 by_cases hl : (code.length : Int) > 1048576
 ·simp only [hl, decide_true, cond_true]
 have H : PZ code := ⟨by omega, h⟩
 obtain ⟨c, h1, S⟩ := jZ Qv (fun bs h1 h2 => W3 h1 h2) H
 have I := S.inv
 have L := I.full.led
 have q1 := U9 I.good I.full
 have q2 := N1 I.good I.full (Ky I)
 have hst : Sl c = If c := by
  funext s
  unfold Sl If
  rw [LU L (Ky I), IT L]
 have hlo : Ax (If c) NN (false, 1) = some (.exit 0 (false, 31)) := by
  rw [Di (f := If c) (s0 := (false, 1)) (fun i => (false, (i : Int) + 1)) 30 (.exit 0 (false, 31)) (fun i hi => ?_) ?_ rfl (Bo (by omega)) rfl]
  ·rfl
  ·have hc : (i : Int) + 1 ≤ 30 := by omega
   have hv := Qr S ((i : Int) + 1)
   have hn : ¬ ((D6 c.F c.Ledger ((i : Int) + 1)).length : Int) > 1 := by omega
   unfold If
   simp only [hc, decide_true, cond_true, IT L, obs, hn, decide_false, cond_false, Gi (show i ≤ 1048576 by omega)]
 have a1 : m9 c = some true := by
  unfold m9
  rw [q2]
  simp only [obs, bne_self_eq_false, cond_false]
  rw [hst, hlo]
  rfl
 have a2 : m10 c = some true := by
  unfold m10
  rw [q1]
  simp only [obs, bne_self_eq_false, cond_false]
  rw [hlo]
  rfl
 simp only [hl, decide_false, cond_false, h1, obs, cond_true, a1, a2, Ai]
end Go.Proofs.YtjlecnhninhmnaaGreatDoor
