/- Plain functions, and that the evaluator computes them. -/
import Derived.Test.YtgjplfeejfeioaaGreatDoorW1
namespace Go.Proofs.YtgjplfeejfeioaaGreatDoor
open Go Go.Rf
set_option linter.unusedVariables false
noncomputable section
def ms159_0 (a0 : List Int) (a1 : Int) (s1 : Int × Int) : Option (LO (Int × Int)) :=
 bif decide (s1.2 < (a0.length : Int)) then
  (getI a0 s1.2).bind fun x1 =>
  bif a1 == x1 then
   some (LO.ret (s1.2, s1.2))
  else
   some (LO.norm (s1.1, wi .i64 (s1.2 + 1)))
 else
  some (LO.exit 0 (s1.1, s1.2))
def m159 (a0 : List Int) (a1 : Int) : Option (Int) :=
 (loopO (ms159_0 a0 a1) NN (0, 0)).bind (contO (fun _ => none) (fun i1 s2 =>
  if i1 = 0 then
   some (-1)
  else
   none) (fun s2 =>
  some s2.1))
theorem w159 {d : Nat} (hd : 1 ≤ d) (k0 : Bool) (a0 : List Int) (a1 : Int) : Fit (R NN d 159 [.rsl k0 false (a0.map (Enc.cs k0)), .int .i64 a1] []) (m159 a0 a1) (P0 (fun (t : Int) => AV.int .i64 t)) := by
  obtain ⟨d, rfl, g⟩ := up hd
  refine q_in (t159 NN d _ _) ?_
  unfold b159 m159
  refine q_len <| q_loop (I := (fun (s : Int × Int) l L => l = [.int .i64 s.1, .int .i64 s.2] ∧ L = [])) 0 ⟨rfl, rfl⟩ ?_ ?_ ?_
  ·rintro s1 _ _ ⟨rfl, rfl⟩
   unfold s159_0 ms159_0
   refine q_p fr <| q_if (fun h2 => ?_) (fun h2 => ?_)
   ·refine q_ix rfl fun x1 hx1 => q_p fr <| q_p fr <| q_if (fun h1 => ?_) (fun h1 => ?_)
    ·exact q_lret 0 ⟨rfl, rfl⟩
    ·exact q_p fr <| q_norm 0 ⟨rfl, rfl⟩
   ·exact q_exit 0 ⟨rfl, rfl⟩
  ·rintro i1 s2 _ _ ⟨rfl, rfl⟩
   refine q_ite (fun _ => ?_) (fun _ => ?_)
   ·exact q_ret (cv_p rfl) rfl
   ·exact q_none
  ·rintro s2 _ _ ⟨rfl, rfl⟩
   exact q_ret (cv_p rfl) rfl
def m92 (a0 : List Int) (a1 : Int) : Option (Bool) :=
 (m159 a0 a1).bind fun y1 =>
 some (decide (y1 ≥ 0))
theorem w92 {d : Nat} (hd : 2 ≤ d) (k0 : Bool) (a0 : List Int) (a1 : Int) : Fit (R NN d 92 [.rsl k0 false (a0.map (Enc.cs k0)), .int .i64 a1] []) (m92 a0 a1) (P0 (fun (t : Bool) => AV.bool t)) := by
  obtain ⟨d, rfl, g⟩ := up hd
  refine q_in (t92 NN d _ _) ?_
  unfold b92 m92
  exact q_c0 (fun S hS => argF2 cv_r (cv_p rfl) hS fun l0_ l1_ => w159 (by omega) l0_ a0 a1) fun y1 hy1 => q_p fr <| q_ret (cv_p rfl) rfl
def ms67_0 (a0 : Int) (a1 : List Int) (s1 : Int × (List Int)) : Option (LO (Int × (List Int))) :=
 bif decide (s1.1 ≤ (m130 a0)) then
  (
   (m92 a1 s1.1).bind fun y1 =>
   bif !y1 then
    (appO 8 s1.2 [s1.1]).bind fun z1 =>
    some (LO.norm z1)
   else
    some (LO.norm s1.2)).bind (contO (fun s3 =>
   some (LO.norm (wi .i64 (s1.1 + 1), s3))) (fun i1 s3 =>
   some (LO.exit i1 (s1.1, s3))) (fun s3 =>
   some (LO.ret (s1.1, s3))))
 else
  some (LO.exit 0 (s1.1, s1.2))
def m67 (a0 : Int) (a1 : List Int) : Option ((List Int)) :=
 (loopO (ms67_0 a0 a1) NN (1, [])).bind (contO (fun _ => none) (fun i2 s4 =>
  if i2 = 0 then
   some s4.2
  else
   none) (fun s4 =>
  some []))
theorem w67 {d : Nat} (hd : 3 ≤ d) (a0 : Int) (k1 : Bool) (a1 : List Int) : Fit (R NN d 67 [.int .i64 a0, .rsl k1 false (a1.map (Enc.cs k1))] []) (m67 a0 a1) (P0 (fun (t : List Int) => AV.rsl false false (t.map (Enc.cs false)))) := by
  obtain ⟨d, rfl, g⟩ := up hd
  refine q_in (t67 NN d _ _) ?_
  unfold b67 m67
  refine q_e (fun _ => bs22_0 _) <| q_nil (α := Int) false <| q_loop (I := (fun (s : Int × (List Int)) l L => ∃ (v1 : AV), l = [v1, .int .i64 s.1] ∧ L = [sl false v1 (s.2 : List Int)])) 0 ⟨(.rsl false true []), rfl, rfl⟩ ?_ ?_ ?_
  ·rintro s1 _ _ ⟨v1, rfl, rfl⟩
   unfold s67_0 ms67_0
   refine q_c0t (fun S hS => argF1 (cv_p rfl) hS fun l0_ => w130 (by omega) a0) <| q_p fr <| q_if (fun h2 => ?_) (fun h2 => ?_)
   ·refine q_cut (I := (fun (s : (List Int)) l L => ∃ (v2 : AV), l = [v2] ∧ L = [sl false v2 (s : List Int)])) ?_ ?_ ?_ ?_
    ·refine q_c0 (fun S hS => argF2 cv_r (cv_p rfl) hS fun l0_ l1_ => w92 (by omega) l0_ a1 s1.1) fun y1 hy1 => q_p fr <| q_if (fun h1 => ?_) (fun h1 => ?_)
     ·exact q_e (fun _ => bs22_1 rfl) <| q_app (ys := [s1.1]) 0 rfl rfl (fun _ _ => rfl) fun v2 z1 hz1 => q_norm 0 ⟨v2, rfl, rfl⟩
     ·exact q_norm 0 ⟨v1, rfl, rfl⟩
    ·rintro s3 _ _ ⟨v3, rfl, rfl⟩
     exact q_p fr <| q_norm 0 ⟨v3, rfl, rfl⟩
    ·rintro i1 s3 _ _ ⟨v4, rfl, rfl⟩
     exact q_exit 0 ⟨v4, rfl, rfl⟩
    ·rintro s3 _ _ ⟨v5, rfl, rfl⟩
     exact q_lret 0 ⟨v5, rfl, rfl⟩
   ·exact q_exit 0 ⟨v1, rfl, rfl⟩
  ·rintro i2 s4 _ _ ⟨v6, rfl, rfl⟩
   refine q_ite (fun _ => ?_) (fun _ => ?_)
   ·exact q_ret (cv_o 0 rfl) rfl
   ·exact q_none
  ·rintro s4 _ _ ⟨v7, rfl, rfl⟩
   exact q_ret (cv_r (α := Int) (l0 := false) (fl := true) (xs := [])) rfl
def m270 (a0 : Int) : Bool :=
 a0 != a0
theorem w270 {d : Nat} (hd : 1 ≤ d) (a0 : Int) : Fit (R NN d 270 [.int .i64 a0] []) (some (m270 a0)) (P0 (fun (t : Bool) => AV.bool t)) := by
  obtain ⟨d, rfl, g⟩ := up hd
  refine q_in (t270 NN d _) ?_
  unfold b270 m270
  exact q_p fr <| q_ret (cv_p rfl) rfl
def m246 (a0 : Int) (a1 : Int) : Option (Bool) :=
 (
  bif (m270 a0) then
   bif !(m270 a1) then
    some (LO.norm true)
   else
    some (LO.norm (decide (a0 < a1)))
  else
   some (LO.norm (decide (a0 < a1)))).bind (contO (fun s2 =>
  some s2) (fun i1 s2 =>
  none) (fun s2 =>
  some s2))
theorem w246 {d : Nat} (hd : 2 ≤ d) (a0 : Int) (a1 : Int) : Fit (R NN d 246 [.int .i64 a0, .int .i64 a1] []) (m246 a0 a1) (P0 (fun (t : Bool) => AV.bool t)) := by
  obtain ⟨d, rfl, g⟩ := up hd
  refine q_in (t246 NN d _ _) ?_
  unfold b246 m246
  refine q_cut (I := (fun (s : Bool) l L => l = [.bool s] ∧ L = [])) ?_ ?_ ?_ ?_
  ·refine q_c0t (fun S hS => argF1 (cv_p rfl) hS fun l0_ => w270 (by omega) a0) <| q_gT (fun h2 => ?_) (fun h2 => ?_)
   ·refine q_c0t (fun S hS => argF1 (cv_p rfl) hS fun l0_ => w270 (by omega) a1) <| q_p fr <| q_gF (fun h1 => ?_) (fun h1 => ?_)
    ·exact q_norm 0 ⟨rfl, rfl⟩
    ·exact q_p fr <| q_norm 0 ⟨rfl, rfl⟩
   ·exact q_p fr <| q_norm 0 ⟨rfl, rfl⟩
  ·rintro s2 _ _ ⟨rfl, rfl⟩
   exact q_ret (cv_p rfl) rfl
  ·rintro i1 s2 _ _ ⟨rfl, rfl⟩
   exact q_none
  ·rintro s2 _ _ ⟨rfl, rfl⟩
   exact q_ret (cv_p rfl) rfl
def ms240_0 (a1 : Int) (s2 : Int × (List Int)) : Option (LO (Int × (List Int))) :=
 (
  (
   bif decide (s2.1 > a1) then
    (getI s2.2 s2.1).bind fun x1 =>
    (getI s2.2 (wi .i64 (s2.1 - 1))).bind fun x2 =>
    (m246 x1 x2).bind fun y1 =>
    some (LO.norm y1)
   else
    some (LO.norm false)).bind (contO (fun s5 =>
   bif s5 then
    some (LO.norm s5)
   else
    some (LO.exit 2 s5)) (fun i1 s5 =>
   some (LO.exit i1 s5)) (fun s5 =>
   some (LO.ret s5)))).bind (contO (fun s6 =>
  (getI s2.2 (wi .i64 (s2.1 - 1))).bind fun x3 =>
  (getI s2.2 s2.1).bind fun x4 =>
  (getI s2.2 s2.1).bind fun x5 =>
  (getI (s2.2.set (Int.toNat s2.1) x3) (wi .i64 (s2.1 - 1))).bind fun x6 =>
  some (LO.norm (wi .i64 (s2.1 - 1), (s2.2.set (Int.toNat s2.1) x3).set (Int.toNat (wi .i64 (s2.1 - 1))) x4))) (fun i2 s6 =>
  some (LO.exit i2 (s2.1, s2.2))) (fun s6 =>
  some (LO.ret (s2.1, s2.2))))
def ms240_1 (a1 : Int) (a2 : Int) (s1 : Int × (List Int)) : Option (LO (Int × (List Int))) :=
 bif decide (s1.1 < a2) then
  (loopO (ms240_0 a1) NN (s1.1, s1.2)).bind (contO (fun _ => none) (fun i3 s7 =>
   if i3 = 2 then
    some (LO.norm (wi .i64 (s1.1 + 1), s7.2))
   else
    if i3 = 1 then
     some (LO.norm (wi .i64 (s1.1 + 1), s7.2))
    else
     some (LO.exit i3 (s1.1, s7.2))) (fun s7 =>
   some (LO.ret (s1.1, s7.2))))
 else
  some (LO.exit 0 (s1.1, s1.2))
def m240 (a0 : List Int) (a1 : Int) (a2 : Int) : Option ((List Int)) :=
 (loopO (ms240_1 a1 a2) NN (wi .i64 (a1 + 1), a0)).bind (contO (fun _ => none) (fun i4 s8 =>
  if i4 = 0 then
   some s8.2
  else
   none) (fun s8 =>
  some s8.2))
theorem w240 {d : Nat} (hd : 3 ≤ d) (L0 : List En) (v0_ : AV) (a0 : List Int) (a1 : Int) (a2 : Int) : Okh (sl false v0_ (a0 : List Int) :: L0) (fun S => R NN d 240 [v0_, .int .i64 a1, .int .i64 a2] S) (m240 a0 a1 a2) (P2 (fun (t : (List Int)) => und) (fun (t : (List Int)) => sl false v0_ t :: L0)) := by
  obtain ⟨d, rfl, g⟩ := up hd
  refine q_to (t240 NN d _ _ _) ?_
  unfold b240 m240
  refine q_p fr <| q_loop (I := (fun (s : Int × (List Int)) l L => l = [.int .i64 s.1] ∧ L = sl false v0_ (s.2 : List Int) :: L0)) 0 ⟨rfl, rfl⟩ ?_ ?_ ?_
  ·rintro s1 _ _ ⟨rfl, rfl⟩
   unfold s240_1 ms240_1
   refine q_p fr <| q_if (fun h3 => ?_) (fun h3 => ?_)
   ·refine q_loop (I := (fun (s : Int × (List Int)) l L => l = [.int .i64 s.1] ∧ L = sl false v0_ (s.2 : List Int) :: L0)) 0 ⟨rfl, rfl⟩ ?_ ?_ ?_
    ·rintro s2 _ _ ⟨rfl, rfl⟩
     unfold s240_0 ms240_0
     refine q_cut (I := (fun (s : Bool) l L => l = [.bool s] ∧ L = sl false v0_ (s2.2 : List Int) :: L0)) ?_ ?_ ?_ ?_
     ·refine q_cut (I := (fun (s : Bool) l L => l = [.bool s] ∧ L = sl false v0_ (s2.2 : List Int) :: L0)) ?_ ?_ ?_ ?_
      ·refine q_p fr <| q_gT (fun h1 => ?_) (fun h1 => ?_)
       ·exact q_ixo 0 rfl rfl fun x1 hx1 => q_ldo 0 rfl hx1 rfl <| q_p fr <| q_ixo 0 rfl rfl fun x2 hx2 => q_ldo 0 rfl hx2 rfl <| q_c0 (fun S hS => argF2 (cv_p rfl) (cv_p rfl) hS fun l0_ l1_ => w246 (by omega) x1 x2) fun y1 hy1 => q_norm 0 ⟨rfl, rfl⟩
       ·exact q_norm 0 ⟨rfl, rfl⟩
      ·rintro s5 _ _ ⟨rfl, rfl⟩
       refine q_if (fun h2 => ?_) (fun h2 => ?_)
       ·exact q_norm 0 ⟨rfl, rfl⟩
       ·exact q_exit 0 ⟨rfl, rfl⟩
      ·rintro i1 s5 _ _ ⟨rfl, rfl⟩
       exact q_exit 0 ⟨rfl, rfl⟩
      ·rintro s5 _ _ ⟨rfl, rfl⟩
       exact q_lret 0 ⟨rfl, rfl⟩
     ·rintro s6 _ _ ⟨rfl, rfl⟩
      exact q_p fr <| q_p fr <| q_ixo 0 rfl rfl fun x3 hx3 => q_ldo 0 rfl hx3 rfl <| q_ixo 0 rfl rfl fun x4 hx4 => q_ldo 0 rfl hx4 rfl <| q_ixo 0 rfl rfl fun x5 hx5 => q_stoe (y := x3) 0 rfl rfl hx5 rfl (by decide) <| q_ixo 0 rfl rfl fun x6 hx6 => q_stoe (y := x4) 0 rfl rfl hx6 rfl (by decide) <| q_p fr <| q_norm 0 ⟨rfl, rfl⟩
     ·rintro i2 s6 _ _ ⟨rfl, rfl⟩
      exact q_exit 0 ⟨rfl, rfl⟩
     ·rintro s6 _ _ ⟨rfl, rfl⟩
      exact q_lret 0 ⟨rfl, rfl⟩
    ·rintro i3 s7 _ _ ⟨rfl, rfl⟩
     refine q_ite (fun _ => ?_) (fun _ => ?_)
     ·exact q_p fr <| q_norm 0 ⟨rfl, rfl⟩
     ·refine q_ite (fun _ => ?_) (fun _ => ?_)
      ·exact q_p fr <| q_norm 0 ⟨rfl, rfl⟩
      ·exact q_exit 0 ⟨rfl, rfl⟩
    ·rintro s7 _ _ ⟨rfl, rfl⟩
     exact q_lret 0 ⟨rfl, rfl⟩
   ·exact q_exit 0 ⟨rfl, rfl⟩
  ·rintro i4 s8 _ _ ⟨rfl, rfl⟩
   refine q_ite (fun _ => ?_) (fun _ => ?_)
   ·exact q_ret2 0 rfl rfl
   ·exact q_none
  ·rintro s8 _ _ ⟨rfl, rfl⟩
   exact q_ret2 0 rfl rfl
def ms265_0 (a2 : Int) (a3 : Int) (s1 : Int × (List Int)) : Option (LO (Int × (List Int))) :=
 bif decide ((wi .i64 ((wi .i64 (2 * s1.1)) + 1)) ≥ a2) then
  some (LO.exit 0 (s1.1, s1.2))
 else
  (
   bif decide ((wi .i64 ((wi .i64 ((wi .i64 (2 * s1.1)) + 1)) + 1)) < a2) then
    (getI s1.2 (wi .i64 (a3 + (wi .i64 ((wi .i64 (2 * s1.1)) + 1))))).bind fun x1 =>
    (getI s1.2 (wi .i64 ((wi .i64 (a3 + (wi .i64 ((wi .i64 (2 * s1.1)) + 1)))) + 1))).bind fun x2 =>
    (m246 x1 x2).bind fun y1 =>
    bif y1 then
     some (LO.norm (wi .i64 ((wi .i64 ((wi .i64 (2 * s1.1)) + 1)) + 1)))
    else
     some (LO.norm (wi .i64 ((wi .i64 (2 * s1.1)) + 1)))
   else
    some (LO.norm (wi .i64 ((wi .i64 (2 * s1.1)) + 1)))).bind (contO (fun s3 =>
   (getI s1.2 (wi .i64 (a3 + s1.1))).bind fun x3 =>
   (getI s1.2 (wi .i64 (a3 + s3))).bind fun x4 =>
   (m246 x3 x4).bind fun y2 =>
   bif !y2 then
    some (LO.ret (s1.1, s1.2))
   else
    (getI s1.2 (wi .i64 (a3 + s3))).bind fun x5 =>
    (getI s1.2 (wi .i64 (a3 + s1.1))).bind fun x6 =>
    (getI s1.2 (wi .i64 (a3 + s1.1))).bind fun x7 =>
    (getI (s1.2.set (Int.toNat (wi .i64 (a3 + s1.1))) x5) (wi .i64 (a3 + s3))).bind fun x8 =>
    some (LO.norm (s3, (s1.2.set (Int.toNat (wi .i64 (a3 + s1.1))) x5).set (Int.toNat (wi .i64 (a3 + s3))) x6))) (fun i1 s3 =>
   if i1 = 1 then
    some (LO.norm (s1.1, s1.2))
   else
    some (LO.exit i1 (s1.1, s1.2))) (fun s3 =>
   some (LO.ret (s1.1, s1.2))))
def m265 (a0 : List Int) (a1 : Int) (a2 : Int) (a3 : Int) : Option ((List Int)) :=
 (loopO (ms265_0 a2 a3) NN (a1, a0)).bind (contO (fun _ => none) (fun i2 s4 =>
  if i2 = 0 then
   some s4.2
  else
   none) (fun s4 =>
  some s4.2))
theorem w265 {d : Nat} (hd : 3 ≤ d) (L0 : List En) (v0_ : AV) (a0 : List Int) (a1 : Int) (a2 : Int) (a3 : Int) : Okh (sl false v0_ (a0 : List Int) :: L0) (fun S => R NN d 265 [v0_, .int .i64 a1, .int .i64 a2, .int .i64 a3] S) (m265 a0 a1 a2 a3) (P2 (fun (t : (List Int)) => und) (fun (t : (List Int)) => sl false v0_ t :: L0)) := by
  obtain ⟨d, rfl, g⟩ := up hd
  refine q_to (t265 NN d _ _ _ _) ?_
  unfold b265 m265
  refine q_loop (I := (fun (s : Int × (List Int)) l L => l = [.int .i64 s.1] ∧ L = sl false v0_ (s.2 : List Int) :: L0)) 0 ⟨rfl, rfl⟩ ?_ ?_ ?_
  ·rintro s1 _ _ ⟨rfl, rfl⟩
   unfold s265_0 ms265_0
   refine q_p fr <| q_p fr <| q_p fr <| q_if (fun h4 => ?_) (fun h4 => ?_)
   ·exact q_exit 0 ⟨rfl, rfl⟩
   ·refine q_cut (I := (fun (s : Int) l L => l = [.int .i64 s] ∧ L = sl false v0_ (s1.2 : List Int) :: L0)) ?_ ?_ ?_ ?_
    ·refine q_p fr <| q_p fr <| q_gT (fun h2 => ?_) (fun h2 => ?_)
     ·refine q_p fr <| q_ixo 0 rfl rfl fun x1 hx1 => q_ldo 0 rfl hx1 rfl <| q_p fr <| q_p fr <| q_ixo 0 rfl rfl fun x2 hx2 => q_ldo 0 rfl hx2 rfl <| q_c0 (fun S hS => argF2 (cv_p rfl) (cv_p rfl) hS fun l0_ l1_ => w246 (by omega) x1 x2) fun y1 hy1 => q_if (fun h1 => ?_) (fun h1 => ?_)
      ·exact q_p fr <| q_norm 0 ⟨rfl, rfl⟩
      ·exact q_norm 0 ⟨rfl, rfl⟩
     ·first | refine q_ifF1 ?_ | skip
      exact q_norm 0 ⟨rfl, rfl⟩
    ·rintro s3 _ _ ⟨rfl, rfl⟩
     refine q_p fr <| q_ixo 0 rfl rfl fun x3 hx3 => q_ldo 0 rfl hx3 rfl <| q_p fr <| q_ixo 0 rfl rfl fun x4 hx4 => q_ldo 0 rfl hx4 rfl <| q_c0 (fun S hS => argF2 (cv_p rfl) (cv_p rfl) hS fun l0_ l1_ => w246 (by omega) x3 x4) fun y2 hy2 => q_p fr <| q_if (fun h3 => ?_) (fun h3 => ?_)
     ·exact q_lret 0 ⟨rfl, rfl⟩
     ·exact q_p fr <| q_p fr <| q_p fr <| q_ixo 0 rfl rfl fun x5 hx5 => q_ldo 0 rfl hx5 rfl <| q_p fr <| q_ixo 0 rfl rfl fun x6 hx6 => q_ldo 0 rfl hx6 rfl <| q_ixo 0 rfl rfl fun x7 hx7 => q_stoe (y := x5) 0 rfl rfl hx7 rfl (by decide) <| q_ixo 0 rfl rfl fun x8 hx8 => q_stoe (y := x6) 0 rfl rfl hx8 rfl (by decide) <| q_norm 0 ⟨rfl, rfl⟩
    ·rintro i1 s3 _ _ ⟨rfl, rfl⟩
     refine q_ite (fun _ => ?_) (fun _ => ?_)
     ·exact q_norm 0 ⟨rfl, rfl⟩
     ·exact q_exit 0 ⟨rfl, rfl⟩
    ·rintro s3 _ _ ⟨rfl, rfl⟩
     exact q_lret 0 ⟨rfl, rfl⟩
  ·rintro i2 s4 _ _ ⟨rfl, rfl⟩
   refine q_ite (fun _ => ?_) (fun _ => ?_)
   ·exact q_ret2 0 rfl rfl
   ·exact q_none
  ·rintro s4 _ _ ⟨rfl, rfl⟩
   exact q_ret2 0 rfl rfl
def ms241_0 (a1 : Int) (a2 : Int) (s1 : Int × (List Int)) : Option (LO (Int × (List Int))) :=
 bif decide (s1.1 ≥ 0) then
  (m265 s1.2 s1.1 (wi .i64 (a2 - a1)) a1).bind fun y1 =>
  some (LO.norm (wi .i64 (s1.1 - 1), y1))
 else
  some (LO.exit 0 (s1.1, s1.2))
def ms241_1 (a1 : Int) (s3 : Int × (List Int)) : Option (LO (Int × (List Int))) :=
 bif decide (s3.1 ≥ 0) then
  (getI s3.2 (wi .i64 (a1 + s3.1))).bind fun x1 =>
  (getI s3.2 a1).bind fun x2 =>
  (getI s3.2 a1).bind fun x3 =>
  (getI (s3.2.set (Int.toNat a1) x1) (wi .i64 (a1 + s3.1))).bind fun x4 =>
  (m265 ((s3.2.set (Int.toNat a1) x1).set (Int.toNat (wi .i64 (a1 + s3.1))) x2) 0 s3.1 a1).bind fun y2 =>
  some (LO.norm (wi .i64 (s3.1 - 1), y2))
 else
  some (LO.exit 2 (s3.1, s3.2))
def m241 (a0 : List Int) (a1 : Int) (a2 : Int) : Option ((List Int)) :=
 (loopO (ms241_0 a1 a2) NN (wi .i64 (Int.tdiv (wi .i64 ((wi .i64 (a2 - a1)) - 1)) 2), a0)).bind (contO (fun _ => none) (fun i1 s2 =>
  if i1 = 0 then
   (loopO (ms241_1 a1) NN (wi .i64 ((wi .i64 (a2 - a1)) - 1), s2.2)).bind (contO (fun _ => none) (fun i2 s4 =>
    if i2 = 2 then
     some s4.2
    else
     none) (fun s4 =>
    some s4.2))
  else
   none) (fun s2 =>
  some s2.2))
theorem w241 {d : Nat} (hd : 4 ≤ d) (L0 : List En) (v0_ : AV) (a0 : List Int) (a1 : Int) (a2 : Int) : Okh (sl false v0_ (a0 : List Int) :: L0) (fun S => R NN d 241 [v0_, .int .i64 a1, .int .i64 a2] S) (m241 a0 a1 a2) (P2 (fun (t : (List Int)) => und) (fun (t : (List Int)) => sl false v0_ t :: L0)) := by
  obtain ⟨d, rfl, g⟩ := up hd
  refine q_to (t241 NN d _ _ _) ?_
  unfold b241 m241
  refine q_p fr <| q_p fr <| q_p fr <| q_loop (I := (fun (s : Int × (List Int)) l L => l = [.int .i64 s.1] ∧ L = sl false v0_ (s.2 : List Int) :: L0)) 0 ⟨rfl, rfl⟩ ?_ ?_ ?_
  ·rintro s1 _ _ ⟨rfl, rfl⟩
   unfold s241_0 ms241_0
   refine q_p fr <| q_if (fun h1 => ?_) (fun h1 => ?_)
   ·exact q_s (mg := m265 s1.2 s1.1 (wi .i64 (a2 - a1)) a1) (w265 (by omega) _ _ s1.2 s1.1 (wi .i64 (a2 - a1)) a1) fun y1 hy1 => q_p fr <| q_norm 0 ⟨rfl, rfl⟩
   ·exact q_exit 0 ⟨rfl, rfl⟩
  ·rintro i1 s2 _ _ ⟨rfl, rfl⟩
   refine q_ite (fun _ => ?_) (fun _ => ?_)
   ·refine q_p fr <| q_loop (I := (fun (s : Int × (List Int)) l L => l = [.int .i64 s.1] ∧ L = sl false v0_ (s.2 : List Int) :: L0)) 0 ⟨rfl, rfl⟩ ?_ ?_ ?_
    ·rintro s3 _ _ ⟨rfl, rfl⟩
     unfold s241_1 ms241_1
     refine q_p fr <| q_if (fun h2 => ?_) (fun h2 => ?_)
     ·exact q_p fr <| q_p fr <| q_ixo 0 rfl rfl fun x1 hx1 => q_ldo 0 rfl hx1 rfl <| q_ixo 0 rfl rfl fun x2 hx2 => q_ldo 0 rfl hx2 rfl <| q_ixo 0 rfl rfl fun x3 hx3 => q_stoe (y := x1) 0 rfl rfl hx3 rfl (by decide) <| q_ixo 0 rfl rfl fun x4 hx4 => q_stoe (y := x2) 0 rfl rfl hx4 rfl (by decide) <| q_s (mg := m265 ((s3.2.set (Int.toNat a1) x1).set (Int.toNat (wi .i64 (a1 + s3.1))) x2) 0 s3.1 a1) (w265 (by omega) _ _ ((s3.2.set (Int.toNat a1) x1).set (Int.toNat (wi .i64 (a1 + s3.1))) x2) 0 s3.1 a1) fun y2 hy2 => q_p fr <| q_norm 0 ⟨rfl, rfl⟩
     ·exact q_exit 0 ⟨rfl, rfl⟩
    ·rintro i2 s4 _ _ ⟨rfl, rfl⟩
     refine q_ite (fun _ => ?_) (fun _ => ?_)
     ·exact q_ret2 0 rfl rfl
     ·exact q_none
    ·rintro s4 _ _ ⟨rfl, rfl⟩
     exact q_ret2 0 rfl rfl
   ·exact q_none
  ·rintro s2 _ _ ⟨rfl, rfl⟩
   exact q_ret2 0 rfl rfl
def m249 (a0 : Int) : Option (Int) :=
 (
  bif decide (a0 ≥ 65536) then
   some (LO.norm (shrI .u32 a0 16, 16))
  else
   some (LO.norm (a0, 0))).bind (contO (fun s2 =>
  (
   bif decide (s2.1 ≥ 256) then
    some (LO.norm (shrI .u32 s2.1 8, wi .i64 (s2.2 + 8)))
   else
    some (LO.norm (s2.1, s2.2))).bind (contO (fun s4 =>
   (getI ([0, 1, 2, 2, 3, 3, 3, 3, 4, 4, 4, 4, 4, 4, 4, 4, 5, 5, 5, 5, 5, 5, 5, 5, 5, 5, 5, 5, 5, 5, 5, 5, 6, 6, 6, 6, 6, 6, 6, 6, 6, 6, 6, 6, 6, 6, 6, 6, 6, 6, 6, 6, 6, 6, 6, 6, 6, 6, 6, 6, 6, 6, 6, 6, 7, 7, 7, 7, 7, 7, 7, 7, 7, 7, 7, 7, 7, 7, 7, 7, 7, 7, 7, 7, 7, 7, 7, 7, 7, 7, 7, 7, 7, 7, 7, 7, 7, 7, 7, 7, 7, 7, 7, 7, 7, 7, 7, 7, 7, 7, 7, 7, 7, 7, 7, 7, 7, 7, 7, 7, 7, 7, 7, 7, 7, 7, 7, 7, 8, 8, 8, 8, 8, 8, 8, 8, 8, 8, 8, 8, 8, 8, 8, 8, 8, 8, 8, 8, 8, 8, 8, 8, 8, 8, 8, 8, 8, 8, 8, 8, 8, 8, 8, 8, 8, 8, 8, 8, 8, 8, 8, 8, 8, 8, 8, 8, 8, 8, 8, 8, 8, 8, 8, 8, 8, 8, 8, 8, 8, 8, 8, 8, 8, 8, 8, 8, 8, 8, 8, 8, 8, 8, 8, 8, 8, 8, 8, 8, 8, 8, 8, 8, 8, 8, 8, 8, 8, 8, 8, 8, 8, 8, 8, 8, 8, 8, 8, 8, 8, 8, 8, 8, 8, 8, 8, 8, 8, 8, 8, 8, 8, 8, 8, 8, 8, 8, 8, 8, 8, 8, 8, 8, 8, 8, 8, 8] : Str) (wi .u8 s4.1)).bind fun c1 =>
   some (wi .i64 (s4.2 + (wi .i64 (c1.toNat : Int))))) (fun i2 s4 =>
   none) (fun s4 =>
   some s4.2))) (fun i1 s2 =>
  none) (fun s2 =>
  some s2.2))
theorem w249 {d : Nat} (hd : 1 ≤ d) (a0 : Int) : Fit (R NN d 249 [.int .u32 a0] []) (m249 a0) (P0 (fun (t : Int) => AV.int .i64 t)) := by
  obtain ⟨d, rfl, g⟩ := up hd
  refine q_in (t249 NN d _) ?_
  unfold b249 m249
  refine q_cut (I := (fun (s : Int × Int) l L => l = [.int .u32 s.1, .int .i64 s.2] ∧ L = [])) ?_ ?_ ?_ ?_
  ·refine q_p fr <| q_if (fun h1 => ?_) (fun h1 => ?_)
   ·exact q_p fr <| q_norm 0 ⟨rfl, rfl⟩
   ·exact q_norm 0 ⟨rfl, rfl⟩
  ·rintro s2 _ _ ⟨rfl, rfl⟩
   refine q_cut (I := (fun (s : Int × Int) l L => l = [.int .u32 s.1, .int .i64 s.2] ∧ L = [])) ?_ ?_ ?_ ?_
   ·refine q_p fr <| q_if (fun h2 => ?_) (fun h2 => ?_)
    ·exact q_p fr <| q_p fr <| q_norm 0 ⟨rfl, rfl⟩
    ·exact q_norm 0 ⟨rfl, rfl⟩
   ·rintro s4 _ _ ⟨rfl, rfl⟩
    exact q_p (fun _ => cvt241_5 _ _) <| q_sx fun c1 hc1 => q_p (fun _ => cvt5_3 _ _) <| q_p fr <| q_ret (cv_p rfl) rfl
   ·rintro i2 s4 _ _ ⟨rfl, rfl⟩
    exact q_none
   ·rintro s4 _ _ ⟨rfl, rfl⟩
    exact q_ret (cv_p rfl) rfl
  ·rintro i1 s2 _ _ ⟨rfl, rfl⟩
   exact q_none
  ·rintro s2 _ _ ⟨rfl, rfl⟩
   exact q_ret (cv_p rfl) rfl
def m250 (a0 : Int) : Option (Int) :=
 (
  bif decide (a0 ≥ 4294967296) then
   some (LO.norm (shrI .u64 a0 32, 32))
  else
   some (LO.norm (a0, 0))).bind (contO (fun s2 =>
  (
   bif decide (s2.1 ≥ 65536) then
    some (LO.norm (shrI .u64 s2.1 16, wi .i64 (s2.2 + 16)))
   else
    some (LO.norm (s2.1, s2.2))).bind (contO (fun s4 =>
   (
    bif decide (s4.1 ≥ 256) then
     some (LO.norm (shrI .u64 s4.1 8, wi .i64 (s4.2 + 8)))
    else
     some (LO.norm (s4.1, s4.2))).bind (contO (fun s6 =>
    (getI ([0, 1, 2, 2, 3, 3, 3, 3, 4, 4, 4, 4, 4, 4, 4, 4, 5, 5, 5, 5, 5, 5, 5, 5, 5, 5, 5, 5, 5, 5, 5, 5, 6, 6, 6, 6, 6, 6, 6, 6, 6, 6, 6, 6, 6, 6, 6, 6, 6, 6, 6, 6, 6, 6, 6, 6, 6, 6, 6, 6, 6, 6, 6, 6, 7, 7, 7, 7, 7, 7, 7, 7, 7, 7, 7, 7, 7, 7, 7, 7, 7, 7, 7, 7, 7, 7, 7, 7, 7, 7, 7, 7, 7, 7, 7, 7, 7, 7, 7, 7, 7, 7, 7, 7, 7, 7, 7, 7, 7, 7, 7, 7, 7, 7, 7, 7, 7, 7, 7, 7, 7, 7, 7, 7, 7, 7, 7, 7, 8, 8, 8, 8, 8, 8, 8, 8, 8, 8, 8, 8, 8, 8, 8, 8, 8, 8, 8, 8, 8, 8, 8, 8, 8, 8, 8, 8, 8, 8, 8, 8, 8, 8, 8, 8, 8, 8, 8, 8, 8, 8, 8, 8, 8, 8, 8, 8, 8, 8, 8, 8, 8, 8, 8, 8, 8, 8, 8, 8, 8, 8, 8, 8, 8, 8, 8, 8, 8, 8, 8, 8, 8, 8, 8, 8, 8, 8, 8, 8, 8, 8, 8, 8, 8, 8, 8, 8, 8, 8, 8, 8, 8, 8, 8, 8, 8, 8, 8, 8, 8, 8, 8, 8, 8, 8, 8, 8, 8, 8, 8, 8, 8, 8, 8, 8, 8, 8, 8, 8, 8, 8, 8, 8, 8, 8, 8, 8] : Str) (wi .u8 s6.1)).bind fun c1 =>
    some (wi .i64 (s6.2 + (wi .i64 (c1.toNat : Int))))) (fun i3 s6 =>
    none) (fun s6 =>
    some s6.2))) (fun i2 s4 =>
   none) (fun s4 =>
   some s4.2))) (fun i1 s2 =>
  none) (fun s2 =>
  some s2.2))
theorem w250 {d : Nat} (hd : 1 ≤ d) (a0 : Int) : Fit (R NN d 250 [.int .u64 a0] []) (m250 a0) (P0 (fun (t : Int) => AV.int .i64 t)) := by
  obtain ⟨d, rfl, g⟩ := up hd
  refine q_in (t250 NN d _) ?_
  unfold b250 m250
  refine q_cut (I := (fun (s : Int × Int) l L => l = [.int .u64 s.1, .int .i64 s.2] ∧ L = [])) ?_ ?_ ?_ ?_
  ·refine q_p fr <| q_if (fun h1 => ?_) (fun h1 => ?_)
   ·exact q_p fr <| q_norm 0 ⟨rfl, rfl⟩
   ·exact q_norm 0 ⟨rfl, rfl⟩
  ·rintro s2 _ _ ⟨rfl, rfl⟩
   refine q_cut (I := (fun (s : Int × Int) l L => l = [.int .u64 s.1, .int .i64 s.2] ∧ L = [])) ?_ ?_ ?_ ?_
   ·refine q_p fr <| q_if (fun h2 => ?_) (fun h2 => ?_)
    ·exact q_p fr <| q_p fr <| q_norm 0 ⟨rfl, rfl⟩
    ·exact q_norm 0 ⟨rfl, rfl⟩
   ·rintro s4 _ _ ⟨rfl, rfl⟩
    refine q_cut (I := (fun (s : Int × Int) l L => l = [.int .u64 s.1, .int .i64 s.2] ∧ L = [])) ?_ ?_ ?_ ?_
    ·refine q_p fr <| q_if (fun h3 => ?_) (fun h3 => ?_)
     ·exact q_p fr <| q_p fr <| q_norm 0 ⟨rfl, rfl⟩
     ·exact q_norm 0 ⟨rfl, rfl⟩
    ·rintro s6 _ _ ⟨rfl, rfl⟩
     exact q_p (fun _ => cvt243_5 _ _) <| q_sx fun c1 hc1 => q_p (fun _ => cvt5_3 _ _) <| q_p fr <| q_ret (cv_p rfl) rfl
    ·rintro i3 s6 _ _ ⟨rfl, rfl⟩
     exact q_none
    ·rintro s6 _ _ ⟨rfl, rfl⟩
     exact q_ret (cv_p rfl) rfl
   ·rintro i2 s4 _ _ ⟨rfl, rfl⟩
    exact q_none
   ·rintro s4 _ _ ⟨rfl, rfl⟩
    exact q_ret (cv_p rfl) rfl
  ·rintro i1 s2 _ _ ⟨rfl, rfl⟩
   exact q_none
  ·rintro s2 _ _ ⟨rfl, rfl⟩
   exact q_ret (cv_p rfl) rfl
def m210 (a0 : Int) : Option (Int) :=
 (m250 a0).bind fun y1 =>
 some y1
theorem w210 {d : Nat} (hd : 2 ≤ d) (a0 : Int) : Fit (R NN d 210 [.int .u64 a0] []) (m210 a0) (P0 (fun (t : Int) => AV.int .i64 t)) := by
  obtain ⟨d, rfl, g⟩ := up hd
  refine q_in (t210 NN d _) ?_
  unfold b210 m210
  first | refine q_ifF1 ?_ | skip
  exact q_c0 (fun S hS => argF1 (cv_p rfl) hS fun l0_ => w250 (by omega) a0) fun y1 hy1 => q_ret (cv_p rfl) rfl
def m266 (a0 : Int) : Option (Int) :=
 (m210 (wi .u64 a0)).bind fun y1 =>
 (shlO .u64 1 y1).bind fun q1 =>
 some q1
theorem w266 {d : Nat} (hd : 3 ≤ d) (a0 : Int) : Fit (R NN d 266 [.int .i64 a0] []) (m266 a0) (P0 (fun (t : Int) => AV.int .u64 t)) := by
  obtain ⟨d, rfl, g⟩ := up hd
  refine q_in (t266 NN d _) ?_
  unfold b266 m266
  exact q_p (fun _ => cvt3_208 _ _) <| q_c0 (fun S hS => argF1 (cv_p rfl) hS fun l0_ => w210 (by omega) (wi .u64 a0)) fun y1 hy1 => q_shl fun q1 hq1 => q_ret (cv_p rfl) rfl
def m267 (a0 : Int) : Int × Int :=
 (xorI .u64 (xorI .u64 (xorI .u64 a0 (shlI .u64 a0 13)) (shrI .u64 (xorI .u64 a0 (shlI .u64 a0 13)) 7)) (shlI .u64 (xorI .u64 (xorI .u64 a0 (shlI .u64 a0 13)) (shrI .u64 (xorI .u64 a0 (shlI .u64 a0 13)) 7)) 17), xorI .u64 (xorI .u64 (xorI .u64 a0 (shlI .u64 a0 13)) (shrI .u64 (xorI .u64 a0 (shlI .u64 a0 13)) 7)) (shlI .u64 (xorI .u64 (xorI .u64 a0 (shlI .u64 a0 13)) (shrI .u64 (xorI .u64 a0 (shlI .u64 a0 13)) 7)) 17))
theorem w267 {d : Nat} (hd : 1 ≤ d) (L0 : List En) (b0_ : Nat) (a0 : Int) : Okh (bx b0_ [.int .u64 a0] :: L0) (fun S => R NN d 267 [.bp b0_ 0 0 1 1] S) (some (m267 a0)) (P2 (fun (t : Int × Int) => AV.int .u64 t.1) (fun (t : Int × Int) => bx b0_ [.int .u64 t.2] :: L0)) := by
  obtain ⟨d, rfl, g⟩ := up hd
  refine q_to (t267 NN d _) ?_
  unfold b267 m267
  refine q_q fr <| q_ld 0 rfl rfl <| q_q fr <| q_ld 0 rfl rfl <| q_p fr <| q_p fr <| q_q fr <| q_st 0 rfl rfl rfl (by decide) rfl <| q_q fr <| q_ld 0 rfl rfl <| q_q fr <| q_ld 0 rfl rfl <| q_p fr ?_
  refine q_p fr <| q_q fr <| q_st 0 rfl rfl rfl (by decide) rfl <| q_q fr <| q_ld 0 rfl rfl <| q_q fr <| q_ld 0 rfl rfl <| q_p fr <| q_p fr <| q_q fr <| q_st 0 rfl rfl rfl (by decide) rfl <| q_q fr <| q_ld 0 rfl rfl ?_
  exact q_ret2 0 rfl rfl
def ms242_0 (a1 : Int) (a2 : Int) (y1 : Int) (s1 : Int × Int × (List Int)) : Option (LO (Int × Int × (List Int))) :=
 bif decide (s1.1 ≤ (wi .i64 ((wi .i64 (a1 + (wi .i64 ((wi .i64 (Int.tdiv (wi .i64 (a2 - a1)) 4)) * 2)))) + 1))) then
  (
   (some (m267 s1.2.1)).bind fun y2 =>
   (
    bif decide ((wi .i64 (andI .u64 y2.1 (wi .u64 (y1 - 1)))) ≥ (wi .i64 (a2 - a1))) then
     some (LO.norm (wi .i64 ((wi .i64 (andI .u64 y2.1 (wi .u64 (y1 - 1)))) - (wi .i64 (a2 - a1)))))
    else
     some (LO.norm (wi .i64 (andI .u64 y2.1 (wi .u64 (y1 - 1)))))).bind (contO (fun s4 =>
    (getI s1.2.2 (wi .i64 (a1 + s4))).bind fun x1 =>
    (getI s1.2.2 s1.1).bind fun x2 =>
    (getI s1.2.2 s1.1).bind fun x3 =>
    (getI (s1.2.2.set (Int.toNat s1.1) x1) (wi .i64 (a1 + s4))).bind fun x4 =>
    some (LO.norm (y2.2, (s1.2.2.set (Int.toNat s1.1) x1).set (Int.toNat (wi .i64 (a1 + s4))) x2))) (fun i1 s4 =>
    if i1 = 1 then
     some (LO.norm (y2.2, s1.2.2))
    else
     some (LO.exit i1 (y2.2, s1.2.2))) (fun s4 =>
    some (LO.ret (y2.2, s1.2.2))))).bind (contO (fun s5 =>
   some (LO.norm (wi .i64 (s1.1 + 1), s5.1, s5.2))) (fun i2 s5 =>
   some (LO.exit i2 (s1.1, s5.1, s5.2))) (fun s5 =>
   some (LO.ret (s1.1, s5.1, s5.2))))
 else
  some (LO.exit 0 (s1.1, s1.2.1, s1.2.2))
def m242 (a0 : List Int) (a1 : Int) (a2 : Int) : Option ((List Int)) :=
 bif decide ((wi .i64 (a2 - a1)) ≥ 8) then
  (m266 (wi .i64 (a2 - a1))).bind fun y1 =>
  (loopO (ms242_0 a1 a2 y1) NN (wi .i64 ((wi .i64 (a1 + (wi .i64 ((wi .i64 (Int.tdiv (wi .i64 (a2 - a1)) 4)) * 2)))) - 1), wi .u64 (wi .i64 (a2 - a1)), a0)).bind (contO (fun _ => none) (fun i3 s6 =>
   if i3 = 0 then
    some s6.2.2
   else
    none) (fun s6 =>
   some s6.2.2))
 else
  some a0
theorem w242 {d : Nat} (hd : 4 ≤ d) (L0 : List En) (v0_ : AV) (a0 : List Int) (a1 : Int) (a2 : Int) : Okh (sl false v0_ (a0 : List Int) :: L0) (fun S => R NN d 242 [v0_, .int .i64 a1, .int .i64 a2] S) (m242 a0 a1 a2) (P2 (fun (t : (List Int)) => und) (fun (t : (List Int)) => sl false v0_ t :: L0)) := by
  obtain ⟨d, rfl, g⟩ := up hd
  refine q_to (t242 NN d _ _ _) ?_
  unfold b242 m242
  refine q_p fr <| q_p fr <| q_if (fun h3 => ?_) (fun h3 => ?_)
  ·refine q_p (fun _ => cvt3_255 _ _) <| q_new rfl fun b1 => q_st 0 rfl rfl rfl (by decide) rfl <| q_c0 (fun S hS => argF1 (cv_p rfl) hS fun l0_ => w266 (by omega) (wi .i64 (a2 - a1))) fun y1 hy1 => q_p fr <| q_p fr <| q_p fr <| q_p fr <| q_loop (I := (fun (s : Int × Int × (List Int)) l L => l = [.int .i64 s.1] ∧ L = bx b1 [.int .u64 s.2.1] :: sl false v0_ (s.2.2 : List Int) :: L0)) 0 ⟨rfl, rfl⟩ ?_ ?_ ?_
   ·rintro s1 _ _ ⟨rfl, rfl⟩
    unfold s242_0 ms242_0
    refine q_p fr <| q_p fr <| q_p fr <| q_p fr <| q_p fr <| q_if (fun h2 => ?_) (fun h2 => ?_)
    ·refine q_cut (I := (fun (s : Int × (List Int)) l L => l = [] ∧ L = bx b1 [.int .u64 s.1] :: sl false v0_ (s.2 : List Int) :: L0)) ?_ ?_ ?_ ?_
     ·refine q_s (mg := some (m267 s1.2.1)) (w267 (by omega) _ _ s1.2.1) fun y2 hy2 => q_p fr <| q_p fr <| q_p (fun _ => cvt208_3 _ _) <| q_cut (I := (fun (s : Int) l L => l = [.int .i64 s] ∧ L = bx b1 [.int .u64 y2.2] :: sl false v0_ (s1.2.2 : List Int) :: L0)) ?_ ?_ ?_ ?_
      ·refine q_p fr <| q_if (fun h1 => ?_) (fun h1 => ?_)
       ·exact q_p fr <| q_norm 0 ⟨rfl, rfl⟩
       ·exact q_norm 0 ⟨rfl, rfl⟩
      ·rintro s4 _ _ ⟨rfl, rfl⟩
       exact q_p fr <| q_p fr <| q_ixo 1 rfl rfl fun x1 hx1 => q_ldo 1 rfl hx1 rfl <| q_ixo 1 rfl rfl fun x2 hx2 => q_ldo 1 rfl hx2 rfl <| q_ixo 1 rfl rfl fun x3 hx3 => q_stoe (y := x1) 1 rfl rfl hx3 rfl (by decide) <| q_ixo 1 rfl rfl fun x4 hx4 => q_stoe (y := x2) 1 rfl rfl hx4 rfl (by decide) <| q_norm 0 ⟨rfl, rfl⟩
      ·rintro i1 s4 _ _ ⟨rfl, rfl⟩
       refine q_ite (fun _ => ?_) (fun _ => ?_)
       ·exact q_norm 0 ⟨rfl, rfl⟩
       ·exact q_exit 0 ⟨rfl, rfl⟩
      ·rintro s4 _ _ ⟨rfl, rfl⟩
       exact q_lret 0 ⟨rfl, rfl⟩
     ·rintro s5 _ _ ⟨rfl, rfl⟩
      exact q_p fr <| q_norm 0 ⟨rfl, rfl⟩
     ·rintro i2 s5 _ _ ⟨rfl, rfl⟩
      exact q_exit 0 ⟨rfl, rfl⟩
     ·rintro s5 _ _ ⟨rfl, rfl⟩
      exact q_lret 0 ⟨rfl, rfl⟩
    ·exact q_exit 0 ⟨rfl, rfl⟩
   ·rintro i3 s6 _ _ ⟨rfl, rfl⟩
    refine q_ite (fun _ => ?_) (fun _ => ?_)
    ·exact q_ret2 1 rfl rfl
    ·exact q_none
   ·rintro s6 _ _ ⟨rfl, rfl⟩
    exact q_ret2 1 rfl rfl
  ·exact q_ret2 0 rfl rfl
def m284 (a0 : List Int) (a1 : Int) (a2 : Int) (a3 : Int) : Option (Int × Int × Int) :=
 (getI a0 a2).bind fun x1 =>
 (getI a0 a1).bind fun x2 =>
 (m246 x1 x2).bind fun y1 =>
 bif y1 then
  some (a2, a1, wi .i64 (a3 + 1))
 else
  some (a1, a2, a3)
theorem w284 {d : Nat} (hd : 3 ≤ d) (L0 : List En) (k0 : Bool) (f0_ : Bool) (a0 : List Int) (a1 : Int) (a2 : Int) (b3_ : Nat) (a3 : Int) : Okh (bx b3_ [.int .i64 a3] :: L0) (fun S => R NN d 284 [.rsl k0 f0_ (a0.map (Enc.cs k0)), .int .i64 a1, .int .i64 a2, .bp b3_ 0 0 1 1] S) (m284 a0 a1 a2 a3) (P2 (fun (t : Int × Int × Int) => AV.tup [.int .i64 t.1, .int .i64 t.2.1]) (fun (t : Int × Int × Int) => bx b3_ [.int .i64 t.2.2] :: L0)) := by
  obtain ⟨d, rfl, g⟩ := up hd
  refine q_to (t284 NN d _ _ _ _) ?_
  unfold b284 m284
  refine q_ix rfl fun x1 hx1 => q_p fr <| q_ix rfl fun x2 hx2 => q_p fr <| q_c0 (fun S hS => argF2 (cv_p rfl) (cv_p rfl) hS fun l0_ l1_ => w246 (by omega) x1 x2) fun y1 hy1 => q_if (fun h1 => ?_) (fun h1 => ?_)
  ·exact q_q fr <| q_ld 0 rfl rfl <| q_p fr <| q_q fr <| q_st 0 rfl rfl rfl (by decide) rfl <| q_ret2 0 rfl rfl
  ·exact q_ret2 0 rfl rfl
def m269 (a0 : List Int) (a1 : Int) (a2 : Int) (a3 : Int) (a4 : Int) : Option (Int × Int) :=
 (m284 a0 a1 a2 a4).bind fun y1 =>
 (m284 a0 y1.2.1 a3 y1.2.2).bind fun y2 =>
 (m284 a0 y1.1 y2.1 y2.2.2).bind fun y3 =>
 some (y3.2.1, y3.2.2)
theorem w269 {d : Nat} (hd : 4 ≤ d) (L0 : List En) (k0 : Bool) (f0_ : Bool) (a0 : List Int) (a1 : Int) (a2 : Int) (a3 : Int) (b4_ : Nat) (a4 : Int) : Okh (bx b4_ [.int .i64 a4] :: L0) (fun S => R NN d 269 [.rsl k0 f0_ (a0.map (Enc.cs k0)), .int .i64 a1, .int .i64 a2, .int .i64 a3, .bp b4_ 0 0 1 1] S) (m269 a0 a1 a2 a3 a4) (P2 (fun (t : Int × Int) => AV.int .i64 t.1) (fun (t : Int × Int) => bx b4_ [.int .i64 t.2] :: L0)) := by
  obtain ⟨d, rfl, g⟩ := up hd
  refine q_to (t269 NN d _ _ _ _ _) ?_
  unfold b269 m269
  exact q_s (mg := m284 a0 a1 a2 a4) (w284 (by omega) _ _ _ a0 a1 a2 _ a4) fun y1 hy1 => q_q fr <| q_q fr <| q_s (mg := m284 a0 y1.2.1 a3 y1.2.2) (w284 (by omega) _ _ _ a0 y1.2.1 a3 _ y1.2.2) fun y2 hy2 => q_q fr <| q_q fr <| q_s (mg := m284 a0 y1.1 y2.1 y2.2.2) (w284 (by omega) _ _ _ a0 y1.1 y2.1 _ y2.2.2) fun y3 hy3 => q_q fr <| q_q fr <| q_ret2 0 rfl rfl
def m268 (a0 : List Int) (a1 : Int) (a2 : Int) : Option (Int × Int) :=
 (m269 a0 (wi .i64 (a1 - 1)) a1 (wi .i64 (a1 + 1)) a2).bind fun y1 =>
 some (y1.1, y1.2)
theorem w268 {d : Nat} (hd : 5 ≤ d) (L0 : List En) (k0 : Bool) (f0_ : Bool) (a0 : List Int) (a1 : Int) (b2_ : Nat) (a2 : Int) : Okh (bx b2_ [.int .i64 a2] :: L0) (fun S => R NN d 268 [.rsl k0 f0_ (a0.map (Enc.cs k0)), .int .i64 a1, .bp b2_ 0 0 1 1] S) (m268 a0 a1 a2) (P2 (fun (t : Int × Int) => AV.int .i64 t.1) (fun (t : Int × Int) => bx b2_ [.int .i64 t.2] :: L0)) := by
  obtain ⟨d, rfl, g⟩ := up hd
  refine q_to (t268 NN d _ _ _) ?_
  unfold b268 m268
  exact q_p fr <| q_p fr <| q_s (mg := m269 a0 (wi .i64 (a1 - 1)) a1 (wi .i64 (a1 + 1)) a2) (w269 (by omega) _ _ _ a0 (wi .i64 (a1 - 1)) a1 (wi .i64 (a1 + 1)) _ a2) fun y1 hy1 => q_ret2 0 rfl rfl
def m243 (a0 : List Int) (a1 : Int) (a2 : Int) : Option (Int × Int) :=
 (
  bif decide ((wi .i64 (a2 - a1)) ≥ 8) then
   (
    bif decide ((wi .i64 (a2 - a1)) ≥ 50) then
     (m268 a0 (wi .i64 (a1 + (wi .i64 ((wi .i64 (Int.tdiv (wi .i64 (a2 - a1)) 4)) * 1)))) 0).bind fun y1 =>
     (m268 a0 (wi .i64 (a1 + (wi .i64 ((wi .i64 (Int.tdiv (wi .i64 (a2 - a1)) 4)) * 2)))) y1.2).bind fun y2 =>
     (m268 a0 (wi .i64 (a1 + (wi .i64 ((wi .i64 (Int.tdiv (wi .i64 (a2 - a1)) 4)) * 3)))) y2.2).bind fun y3 =>
     some (LO.norm (y1.1, y2.1, y3.1, y3.2))
    else
     some (LO.norm (wi .i64 (a1 + (wi .i64 ((wi .i64 (Int.tdiv (wi .i64 (a2 - a1)) 4)) * 1))), wi .i64 (a1 + (wi .i64 ((wi .i64 (Int.tdiv (wi .i64 (a2 - a1)) 4)) * 2))), wi .i64 (a1 + (wi .i64 ((wi .i64 (Int.tdiv (wi .i64 (a2 - a1)) 4)) * 3))), 0))).bind (contO (fun s3 =>
    (m269 a0 s3.1 s3.2.1 s3.2.2.1 s3.2.2.2).bind fun y4 =>
    some (LO.norm (y4.1, y4.2))) (fun i1 s3 =>
    some (LO.exit i1 (s3.2.1, s3.2.2.2))) (fun s3 =>
    some (LO.ret (s3.2.1, s3.2.2.2))))
  else
   some (LO.norm (wi .i64 (a1 + (wi .i64 ((wi .i64 (Int.tdiv (wi .i64 (a2 - a1)) 4)) * 2))), 0))).bind (contO (fun s4 =>
  bif s4.2 == 0 then
   some (s4.1, 1)
  else
   bif s4.2 == 12 then
    some (s4.1, 2)
   else
    some (s4.1, 0)) (fun i2 s4 =>
  none) (fun s4 =>
  some (0, 0)))
theorem w243 {d : Nat} (hd : 6 ≤ d) (k0 : Bool) (a0 : List Int) (a1 : Int) (a2 : Int) : Fit (R NN d 243 [.rsl k0 false (a0.map (Enc.cs k0)), .int .i64 a1, .int .i64 a2] []) (m243 a0 a1 a2) (P0 (fun (t : Int × Int) => AV.tup [.int .i64 t.1, .int .i64 t.2])) := by
  obtain ⟨d, rfl, g⟩ := up hd
  refine q_in (t243 NN d _ _ _) ?_
  unfold b243 m243
  refine q_p fr <| q_new rfl fun b1 => q_p fr <| q_p fr <| q_p fr <| q_p fr <| q_p fr <| q_p fr <| q_p fr <| q_p fr <| q_p fr <| q_cut (I := (fun (s : Int × Int) l L => l = [.int .i64 s.1] ∧ L = [bx b1 [.int .i64 s.2]])) ?_ ?_ ?_ ?_
  ·refine q_p fr <| q_if (fun h2 => ?_) (fun h2 => ?_)
   ·refine q_cut (I := (fun (s : Int × Int × Int × Int) l L => l = [.int .i64 s.1, .int .i64 s.2.1, .int .i64 s.2.2.1] ∧ L = [bx b1 [.int .i64 s.2.2.2]])) ?_ ?_ ?_ ?_
    ·refine q_p fr <| q_if (fun h1 => ?_) (fun h1 => ?_)
     ·exact q_s (mg := m268 a0 (wi .i64 (a1 + (wi .i64 ((wi .i64 (Int.tdiv (wi .i64 (a2 - a1)) 4)) * 1)))) 0) (w268 (by omega) _ _ _ a0 (wi .i64 (a1 + (wi .i64 ((wi .i64 (Int.tdiv (wi .i64 (a2 - a1)) 4)) * 1)))) _ 0) fun y1 hy1 => q_s (mg := m268 a0 (wi .i64 (a1 + (wi .i64 ((wi .i64 (Int.tdiv (wi .i64 (a2 - a1)) 4)) * 2)))) y1.2) (w268 (by omega) _ _ _ a0 (wi .i64 (a1 + (wi .i64 ((wi .i64 (Int.tdiv (wi .i64 (a2 - a1)) 4)) * 2)))) _ y1.2) fun y2 hy2 => q_s (mg := m268 a0 (wi .i64 (a1 + (wi .i64 ((wi .i64 (Int.tdiv (wi .i64 (a2 - a1)) 4)) * 3)))) y2.2) (w268 (by omega) _ _ _ a0 (wi .i64 (a1 + (wi .i64 ((wi .i64 (Int.tdiv (wi .i64 (a2 - a1)) 4)) * 3)))) _ y2.2) fun y3 hy3 => q_norm 0 ⟨rfl, rfl⟩
     ·exact q_norm 0 ⟨rfl, rfl⟩
    ·rintro s3 _ _ ⟨rfl, rfl⟩
     exact q_s (mg := m269 a0 s3.1 s3.2.1 s3.2.2.1 s3.2.2.2) (w269 (by omega) _ _ _ a0 s3.1 s3.2.1 s3.2.2.1 _ s3.2.2.2) fun y4 hy4 => q_norm 0 ⟨rfl, rfl⟩
    ·rintro i1 s3 _ _ ⟨rfl, rfl⟩
     exact q_exit 0 ⟨rfl, rfl⟩
    ·rintro s3 _ _ ⟨rfl, rfl⟩
     exact q_lret 0 ⟨rfl, rfl⟩
   ·exact q_norm 0 ⟨rfl, rfl⟩
  ·rintro s4 _ _ ⟨rfl, rfl⟩
   refine q_ld 0 rfl rfl <| q_p fr <| q_if (fun h4 => ?_) (fun h4 => ?_)
   ·exact q_ret (cv_t (cvs_cons (cv_p rfl) (cvs_cons (cv_p rfl) cvs_nil))) rfl
   ·refine q_p fr <| q_if (fun h3 => ?_) (fun h3 => ?_)
    ·exact q_ret (cv_t (cvs_cons (cv_p rfl) (cvs_cons (cv_p rfl) cvs_nil))) rfl
    ·exact q_ret (cv_t (cvs_cons (cv_p rfl) (cvs_cons (cv_p rfl) cvs_nil))) rfl
  ·rintro i2 s4 _ _ ⟨rfl, rfl⟩
   exact q_none
  ·rintro s4 _ _ ⟨rfl, rfl⟩
   exact q_ret (cv_t (cvs_cons (cv_p rfl) (cvs_cons (cv_p rfl) cvs_nil))) rfl
def ms244_0 (s1 : Int × Int × (List Int)) : Option (LO (Int × Int × (List Int))) :=
 bif decide (s1.1 < s1.2.1) then
  (getI s1.2.2 s1.2.1).bind fun x1 =>
  (getI s1.2.2 s1.1).bind fun x2 =>
  (getI s1.2.2 s1.1).bind fun x3 =>
  (getI (s1.2.2.set (Int.toNat s1.1) x1) s1.2.1).bind fun x4 =>
  some (LO.norm (wi .i64 (s1.1 + 1), wi .i64 (s1.2.1 - 1), (s1.2.2.set (Int.toNat s1.1) x1).set (Int.toNat s1.2.1) x2))
 else
  some (LO.exit 0 (s1.1, s1.2.1, s1.2.2))
def m244 (a0 : List Int) (a1 : Int) (a2 : Int) : Option ((List Int)) :=
 (loopO (ms244_0) NN (a1, wi .i64 (a2 - 1), a0)).bind (contO (fun _ => none) (fun i1 s2 =>
  if i1 = 0 then
   some s2.2.2
  else
   none) (fun s2 =>
  some s2.2.2))
theorem w244 {d : Nat} (hd : 1 ≤ d) (L0 : List En) (v0_ : AV) (a0 : List Int) (a1 : Int) (a2 : Int) : Okh (sl false v0_ (a0 : List Int) :: L0) (fun S => R NN d 244 [v0_, .int .i64 a1, .int .i64 a2] S) (m244 a0 a1 a2) (P2 (fun (t : (List Int)) => und) (fun (t : (List Int)) => sl false v0_ t :: L0)) := by
  obtain ⟨d, rfl, g⟩ := up hd
  refine q_to (t244 NN d _ _ _) ?_
  unfold b244 m244
  refine q_p fr <| q_loop (I := (fun (s : Int × Int × (List Int)) l L => l = [.int .i64 s.1, .int .i64 s.2.1] ∧ L = sl false v0_ (s.2.2 : List Int) :: L0)) 0 ⟨rfl, rfl⟩ ?_ ?_ ?_
  ·rintro s1 _ _ ⟨rfl, rfl⟩
   unfold s244_0 ms244_0
   refine q_p fr <| q_if (fun h1 => ?_) (fun h1 => ?_)
   ·exact q_ixo 0 rfl rfl fun x1 hx1 => q_ldo 0 rfl hx1 rfl <| q_ixo 0 rfl rfl fun x2 hx2 => q_ldo 0 rfl hx2 rfl <| q_ixo 0 rfl rfl fun x3 hx3 => q_stoe (y := x1) 0 rfl rfl hx3 rfl (by decide) <| q_ixo 0 rfl rfl fun x4 hx4 => q_stoe (y := x2) 0 rfl rfl hx4 rfl (by decide) <| q_p fr <| q_p fr <| q_norm 0 ⟨rfl, rfl⟩
   ·exact q_exit 0 ⟨rfl, rfl⟩
  ·rintro i1 s2 _ _ ⟨rfl, rfl⟩
   refine q_ite (fun _ => ?_) (fun _ => ?_)
   ·exact q_ret2 0 rfl rfl
   ·exact q_none
  ·rintro s2 _ _ ⟨rfl, rfl⟩
   exact q_ret2 0 rfl rfl
def ms245_0 (a2 : Int) (s1 : Bool × Int × Int × (List Int)) (s3 : Int) : Option (LO (Int)) :=
 (
  (
   bif decide (s3 < a2) then
    (getI s1.2.2.2 s3).bind fun x1 =>
    (getI s1.2.2.2 (wi .i64 (s3 - 1))).bind fun x2 =>
    (m246 x1 x2).bind fun y1 =>
    some (LO.norm (!y1))
   else
    some (LO.norm false)).bind (contO (fun s6 =>
   bif s6 then
    some (LO.norm s6)
   else
    some (LO.exit 2 s6)) (fun i1 s6 =>
   some (LO.exit i1 s6)) (fun s6 =>
   some (LO.ret s6)))).bind (contO (fun s7 =>
  some (LO.norm (wi .i64 (s3 + 1)))) (fun i2 s7 =>
  some (LO.exit i2 s3)) (fun s7 =>
  some (LO.ret s3)))
def ms245_1 (s10 : Int × (List Int)) : Option (LO (Int × (List Int))) :=
 bif decide (s10.1 ≥ 1) then
  (getI s10.2 s10.1).bind fun x7 =>
  (getI s10.2 (wi .i64 (s10.1 - 1))).bind fun x8 =>
  (m246 x7 x8).bind fun y2 =>
  bif !y2 then
   some (LO.exit 4 (s10.1, s10.2))
  else
   (getI s10.2 (wi .i64 (s10.1 - 1))).bind fun x9 =>
   (getI s10.2 s10.1).bind fun x10 =>
   (getI s10.2 s10.1).bind fun x11 =>
   (getI (s10.2.set (Int.toNat s10.1) x9) (wi .i64 (s10.1 - 1))).bind fun x12 =>
   some (LO.norm (wi .i64 (s10.1 - 1), (s10.2.set (Int.toNat s10.1) x9).set (Int.toNat (wi .i64 (s10.1 - 1))) x10))
 else
  some (LO.exit 4 (s10.1, s10.2))
def ms245_2 (a2 : Int) (s13 : Int × (List Int)) : Option (LO (Int × (List Int))) :=
 bif decide (s13.1 < a2) then
  (getI s13.2 s13.1).bind fun x13 =>
  (getI s13.2 (wi .i64 (s13.1 - 1))).bind fun x14 =>
  (m246 x13 x14).bind fun y3 =>
  bif !y3 then
   some (LO.exit 6 (s13.1, s13.2))
  else
   (getI s13.2 (wi .i64 (s13.1 - 1))).bind fun x15 =>
   (getI s13.2 s13.1).bind fun x16 =>
   (getI s13.2 s13.1).bind fun x17 =>
   (getI (s13.2.set (Int.toNat s13.1) x15) (wi .i64 (s13.1 - 1))).bind fun x18 =>
   some (LO.norm (wi .i64 (s13.1 + 1), (s13.2.set (Int.toNat s13.1) x15).set (Int.toNat (wi .i64 (s13.1 - 1))) x16))
 else
  some (LO.exit 6 (s13.1, s13.2))
def ms245_3 (a1 : Int) (a2 : Int) (s1 : Bool × Int × Int × (List Int)) : Option (LO (Bool × Int × Int × (List Int))) :=
 bif decide (s1.2.2.1 < 5) then
  (
   (loopO (ms245_0 a2 s1) NN s1.2.1).bind (contO (fun _ => none) (fun i3 s8 =>
    if i3 = 2 then
     bif s8 == a2 then
      some (LO.ret (true, s8, s1.2.2.2))
     else
      bif decide ((wi .i64 (a2 - a1)) < 50) then
       some (LO.ret (false, s8, s1.2.2.2))
      else
       (getI s1.2.2.2 (wi .i64 (s8 - 1))).bind fun x3 =>
       (getI s1.2.2.2 s8).bind fun x4 =>
       (getI s1.2.2.2 s8).bind fun x5 =>
       (getI (s1.2.2.2.set (Int.toNat s8) x3) (wi .i64 (s8 - 1))).bind fun x6 =>
       (
        bif decide ((wi .i64 (s8 - a1)) ≥ 2) then
         (loopO (ms245_1) NN (wi .i64 (s8 - 1), (s1.2.2.2.set (Int.toNat s8) x3).set (Int.toNat (wi .i64 (s8 - 1))) x4)).bind (contO (fun _ => none) (fun i4 s11 =>
          if i4 = 4 then
           some (LO.norm s11.2)
          else
           some (LO.exit i4 s11.2)) (fun s11 =>
          some (LO.ret s11.2)))
        else
         some (LO.norm ((s1.2.2.2.set (Int.toNat s8) x3).set (Int.toNat (wi .i64 (s8 - 1))) x4))).bind (contO (fun s12 =>
        bif decide ((wi .i64 (a2 - s8)) ≥ 2) then
         (loopO (ms245_2 a2) NN (wi .i64 (s8 + 1), s12)).bind (contO (fun _ => none) (fun i6 s14 =>
          if i6 = 6 then
           some (LO.norm (s1.1, s8, s14.2))
          else
           if i6 = 1 then
            some (LO.norm (s1.1, s8, s14.2))
           else
            some (LO.exit i6 (s1.1, s8, s14.2))) (fun s14 =>
          some (LO.ret (s1.1, s8, s14.2))))
        else
         some (LO.norm (s1.1, s8, s12))) (fun i5 s12 =>
        if i5 = 1 then
         some (LO.norm (s1.1, s8, s12))
        else
         some (LO.exit i5 (s1.1, s8, s12))) (fun s12 =>
        some (LO.ret (s1.1, s8, s12))))
    else
     if i3 = 1 then
      some (LO.norm (s1.1, s8, s1.2.2.2))
     else
      some (LO.exit i3 (s1.1, s8, s1.2.2.2))) (fun s8 =>
    some (LO.ret (s1.1, s8, s1.2.2.2))))).bind (contO (fun s15 =>
   some (LO.norm (s15.1, s15.2.1, wi .i64 (s1.2.2.1 + 1), s15.2.2))) (fun i7 s15 =>
   some (LO.exit i7 (s15.1, s15.2.1, s1.2.2.1, s15.2.2))) (fun s15 =>
   some (LO.ret (s15.1, s15.2.1, s1.2.2.1, s15.2.2))))
 else
  some (LO.exit 0 (s1.1, s1.2.1, s1.2.2.1, s1.2.2.2))
def m245 (a0 : List Int) (a1 : Int) (a2 : Int) : Option (Bool × (List Int)) :=
 (loopO (ms245_3 a1 a2) NN (false, wi .i64 (a1 + 1), 0, a0)).bind (contO (fun _ => none) (fun i8 s16 =>
  if i8 = 0 then
   some (false, s16.2.2.2)
  else
   none) (fun s16 =>
  some (s16.1, s16.2.2.2)))
theorem w245 {d : Nat} (hd : 3 ≤ d) (L0 : List En) (v0_ : AV) (a0 : List Int) (a1 : Int) (a2 : Int) : Okh (sl false v0_ (a0 : List Int) :: L0) (fun S => R NN d 245 [v0_, .int .i64 a1, .int .i64 a2] S) (m245 a0 a1 a2) (P2 (fun (t : Bool × (List Int)) => AV.bool t.1) (fun (t : Bool × (List Int)) => sl false v0_ t.2 :: L0)) := by
  obtain ⟨d, rfl, g⟩ := up hd
  refine q_to (t245 NN d _ _ _) ?_
  unfold b245 m245
  refine q_p fr <| q_loop (I := (fun (s : Bool × Int × Int × (List Int)) l L => l = [.bool s.1, .int .i64 s.2.1, .int .i64 s.2.2.1] ∧ L = sl false v0_ (s.2.2.2 : List Int) :: L0)) 0 ⟨rfl, rfl⟩ ?_ ?_ ?_
  ·rintro s1 _ _ ⟨rfl, rfl⟩
   unfold s245_3 ms245_3
   refine q_p fr <| q_if (fun h11 => ?_) (fun h11 => ?_)
   ·refine q_cut (I := (fun (s : Bool × Int × (List Int)) l L => l = [.bool s.1, .int .i64 s.2.1] ∧ L = sl false v0_ (s.2.2 : List Int) :: L0)) ?_ ?_ ?_ ?_
    ·refine q_loop (I := (fun (s : Int) l L => l = [.int .i64 s] ∧ L = sl false v0_ (s1.2.2.2 : List Int) :: L0)) 0 ⟨rfl, rfl⟩ ?_ ?_ ?_
     ·rintro s3 _ _ ⟨rfl, rfl⟩
      unfold s245_0 ms245_0
      refine q_cut (I := (fun (s : Bool) l L => l = [.bool s] ∧ L = sl false v0_ (s1.2.2.2 : List Int) :: L0)) ?_ ?_ ?_ ?_
      ·refine q_cut (I := (fun (s : Bool) l L => l = [.bool s] ∧ L = sl false v0_ (s1.2.2.2 : List Int) :: L0)) ?_ ?_ ?_ ?_
       ·refine q_p fr <| q_gT (fun h1 => ?_) (fun h1 => ?_)
        ·exact q_ixo 0 rfl rfl fun x1 hx1 => q_ldo 0 rfl hx1 rfl <| q_p fr <| q_ixo 0 rfl rfl fun x2 hx2 => q_ldo 0 rfl hx2 rfl <| q_c0 (fun S hS => argF2 (cv_p rfl) (cv_p rfl) hS fun l0_ l1_ => w246 (by omega) x1 x2) fun y1 hy1 => q_p fr <| q_norm 0 ⟨rfl, rfl⟩
        ·exact q_norm 0 ⟨rfl, rfl⟩
       ·rintro s6 _ _ ⟨rfl, rfl⟩
        refine q_if (fun h2 => ?_) (fun h2 => ?_)
        ·exact q_norm 0 ⟨rfl, rfl⟩
        ·exact q_exit 0 ⟨rfl, rfl⟩
       ·rintro i1 s6 _ _ ⟨rfl, rfl⟩
        exact q_exit 0 ⟨rfl, rfl⟩
       ·rintro s6 _ _ ⟨rfl, rfl⟩
        exact q_lret 0 ⟨rfl, rfl⟩
      ·rintro s7 _ _ ⟨rfl, rfl⟩
       exact q_p fr <| q_norm 0 ⟨rfl, rfl⟩
      ·rintro i2 s7 _ _ ⟨rfl, rfl⟩
       exact q_exit 0 ⟨rfl, rfl⟩
      ·rintro s7 _ _ ⟨rfl, rfl⟩
       exact q_lret 0 ⟨rfl, rfl⟩
     ·rintro i3 s8 _ _ ⟨rfl, rfl⟩
      refine q_ite (fun _ => ?_) (fun _ => ?_)
      ·refine q_p fr <| q_if (fun h10 => ?_) (fun h10 => ?_)
       ·exact q_lret 0 ⟨rfl, rfl⟩
       ·refine q_p fr <| q_p fr <| q_if (fun h9 => ?_) (fun h9 => ?_)
        ·exact q_lret 0 ⟨rfl, rfl⟩
        ·refine q_p fr <| q_p fr <| q_ixo 0 rfl rfl fun x3 hx3 => q_ldo 0 rfl hx3 rfl <| q_ixo 0 rfl rfl fun x4 hx4 => q_ldo 0 rfl hx4 rfl <| q_ixo 0 rfl rfl fun x5 hx5 => q_stoe (y := x3) 0 rfl rfl hx5 rfl (by decide) <| q_ixo 0 rfl rfl fun x6 hx6 => q_stoe (y := x4) 0 rfl rfl hx6 rfl (by decide) <| q_cut (I := (fun (s : (List Int)) l L => l = [] ∧ L = sl false v0_ (s : List Int) :: L0)) ?_ ?_ ?_ ?_
         ·refine q_p fr <| q_p fr <| q_if (fun h5 => ?_) (fun h5 => ?_)
          ·refine q_p fr <| q_loop (I := (fun (s : Int × (List Int)) l L => l = [.int .i64 s.1] ∧ L = sl false v0_ (s.2 : List Int) :: L0)) 0 ⟨rfl, rfl⟩ ?_ ?_ ?_
           ·rintro s10 _ _ ⟨rfl, rfl⟩
            unfold s245_1 ms245_1
            refine q_p fr <| q_if (fun h4 => ?_) (fun h4 => ?_)
            ·refine q_ixo 0 rfl rfl fun x7 hx7 => q_ldo 0 rfl hx7 rfl <| q_p fr <| q_ixo 0 rfl rfl fun x8 hx8 => q_ldo 0 rfl hx8 rfl <| q_c0 (fun S hS => argF2 (cv_p rfl) (cv_p rfl) hS fun l0_ l1_ => w246 (by omega) x7 x8) fun y2 hy2 => q_p fr <| q_if (fun h3 => ?_) (fun h3 => ?_)
             ·exact q_exit 0 ⟨rfl, rfl⟩
             ·exact q_p fr <| q_p fr <| q_ixo 0 rfl rfl fun x9 hx9 => q_ldo 0 rfl hx9 rfl <| q_ixo 0 rfl rfl fun x10 hx10 => q_ldo 0 rfl hx10 rfl <| q_ixo 0 rfl rfl fun x11 hx11 => q_stoe (y := x9) 0 rfl rfl hx11 rfl (by decide) <| q_ixo 0 rfl rfl fun x12 hx12 => q_stoe (y := x10) 0 rfl rfl hx12 rfl (by decide) <| q_p fr <| q_norm 0 ⟨rfl, rfl⟩
            ·exact q_exit 0 ⟨rfl, rfl⟩
           ·rintro i4 s11 _ _ ⟨rfl, rfl⟩
            refine q_ite (fun _ => ?_) (fun _ => ?_)
            ·exact q_norm 0 ⟨rfl, rfl⟩
            ·exact q_exit 0 ⟨rfl, rfl⟩
           ·rintro s11 _ _ ⟨rfl, rfl⟩
            exact q_lret 0 ⟨rfl, rfl⟩
          ·exact q_norm 0 ⟨rfl, rfl⟩
         ·rintro s12 _ _ ⟨rfl, rfl⟩
          refine q_p fr <| q_p fr <| q_if (fun h8 => ?_) (fun h8 => ?_)
          ·refine q_p fr <| q_loop (I := (fun (s : Int × (List Int)) l L => l = [.int .i64 s.1] ∧ L = sl false v0_ (s.2 : List Int) :: L0)) 0 ⟨rfl, rfl⟩ ?_ ?_ ?_
           ·rintro s13 _ _ ⟨rfl, rfl⟩
            unfold s245_2 ms245_2
            refine q_p fr <| q_if (fun h7 => ?_) (fun h7 => ?_)
            ·refine q_ixo 0 rfl rfl fun x13 hx13 => q_ldo 0 rfl hx13 rfl <| q_p fr <| q_ixo 0 rfl rfl fun x14 hx14 => q_ldo 0 rfl hx14 rfl <| q_c0 (fun S hS => argF2 (cv_p rfl) (cv_p rfl) hS fun l0_ l1_ => w246 (by omega) x13 x14) fun y3 hy3 => q_p fr <| q_if (fun h6 => ?_) (fun h6 => ?_)
             ·exact q_exit 0 ⟨rfl, rfl⟩
             ·exact q_p fr <| q_p fr <| q_ixo 0 rfl rfl fun x15 hx15 => q_ldo 0 rfl hx15 rfl <| q_ixo 0 rfl rfl fun x16 hx16 => q_ldo 0 rfl hx16 rfl <| q_ixo 0 rfl rfl fun x17 hx17 => q_stoe (y := x15) 0 rfl rfl hx17 rfl (by decide) <| q_ixo 0 rfl rfl fun x18 hx18 => q_stoe (y := x16) 0 rfl rfl hx18 rfl (by decide) <| q_p fr <| q_norm 0 ⟨rfl, rfl⟩
            ·exact q_exit 0 ⟨rfl, rfl⟩
           ·rintro i6 s14 _ _ ⟨rfl, rfl⟩
            refine q_ite (fun _ => ?_) (fun _ => ?_)
            ·exact q_norm 0 ⟨rfl, rfl⟩
            ·refine q_ite (fun _ => ?_) (fun _ => ?_)
             ·exact q_norm 0 ⟨rfl, rfl⟩
             ·exact q_exit 0 ⟨rfl, rfl⟩
           ·rintro s14 _ _ ⟨rfl, rfl⟩
            exact q_lret 0 ⟨rfl, rfl⟩
          ·exact q_norm 0 ⟨rfl, rfl⟩
         ·rintro i5 s12 _ _ ⟨rfl, rfl⟩
          refine q_ite (fun _ => ?_) (fun _ => ?_)
          ·exact q_norm 0 ⟨rfl, rfl⟩
          ·exact q_exit 0 ⟨rfl, rfl⟩
         ·rintro s12 _ _ ⟨rfl, rfl⟩
          exact q_lret 0 ⟨rfl, rfl⟩
      ·refine q_ite (fun _ => ?_) (fun _ => ?_)
       ·exact q_norm 0 ⟨rfl, rfl⟩
       ·exact q_exit 0 ⟨rfl, rfl⟩
     ·rintro s8 _ _ ⟨rfl, rfl⟩
      exact q_lret 0 ⟨rfl, rfl⟩
    ·rintro s15 _ _ ⟨rfl, rfl⟩
     exact q_p fr <| q_norm 0 ⟨rfl, rfl⟩
    ·rintro i7 s15 _ _ ⟨rfl, rfl⟩
     exact q_exit 0 ⟨rfl, rfl⟩
    ·rintro s15 _ _ ⟨rfl, rfl⟩
     exact q_lret 0 ⟨rfl, rfl⟩
   ·exact q_exit 0 ⟨rfl, rfl⟩
  ·rintro i8 s16 _ _ ⟨rfl, rfl⟩
   refine q_ite (fun _ => ?_) (fun _ => ?_)
   ·exact q_ret2 0 rfl rfl
   ·exact q_none
  ·rintro s16 _ _ ⟨rfl, rfl⟩
   exact q_ret2 0 rfl rfl
def ms247_0 (a1 : Int) (s1 : Int × Int × (List Int)) (s2 : Int) : Option (LO (Int)) :=
 (
  (
   bif decide (s2 ≤ s1.2.1) then
    (getI s1.2.2 a1).bind fun x5 =>
    (getI s1.2.2 s2).bind fun x6 =>
    (m246 x5 x6).bind fun y1 =>
    some (LO.norm (!y1))
   else
    some (LO.norm false)).bind (contO (fun s5 =>
   bif s5 then
    some (LO.norm s5)
   else
    some (LO.exit 2 s5)) (fun i1 s5 =>
   some (LO.exit i1 s5)) (fun s5 =>
   some (LO.ret s5)))).bind (contO (fun s6 =>
  some (LO.norm (wi .i64 (s2 + 1)))) (fun i2 s6 =>
  some (LO.exit i2 s2)) (fun s6 =>
  some (LO.ret s2)))
def ms247_1 (a1 : Int) (s1 : Int × Int × (List Int)) (s7 : Int) (s8 : Int) : Option (LO (Int)) :=
 (
  (
   bif decide (s7 ≤ s8) then
    (getI s1.2.2 a1).bind fun x7 =>
    (getI s1.2.2 s8).bind fun x8 =>
    (m246 x7 x8).bind fun y2 =>
    some (LO.norm y2)
   else
    some (LO.norm false)).bind (contO (fun s11 =>
   bif s11 then
    some (LO.norm s11)
   else
    some (LO.exit 4 s11)) (fun i4 s11 =>
   some (LO.exit i4 s11)) (fun s11 =>
   some (LO.ret s11)))).bind (contO (fun s12 =>
  some (LO.norm (wi .i64 (s8 - 1)))) (fun i5 s12 =>
  some (LO.exit i5 s8)) (fun s12 =>
  some (LO.ret s8)))
def ms247_2 (a1 : Int) (s1 : Int × Int × (List Int)) : Option (LO (Int × Int × (List Int))) :=
 (loopO (ms247_0 a1 s1) NN s1.1).bind (contO (fun _ => none) (fun i3 s7 =>
  if i3 = 2 then
   (loopO (ms247_1 a1 s1 s7) NN s1.2.1).bind (contO (fun _ => none) (fun i6 s13 =>
    if i6 = 4 then
     bif decide (s7 > s13) then
      some (LO.exit 0 (s7, s13, s1.2.2))
     else
      (getI s1.2.2 s13).bind fun x9 =>
      (getI s1.2.2 s7).bind fun x10 =>
      (getI s1.2.2 s7).bind fun x11 =>
      (getI (s1.2.2.set (Int.toNat s7) x9) s13).bind fun x12 =>
      some (LO.norm (wi .i64 (s7 + 1), wi .i64 (s13 - 1), (s1.2.2.set (Int.toNat s7) x9).set (Int.toNat s13) x10))
    else
     if i6 = 1 then
      some (LO.norm (s7, s13, s1.2.2))
     else
      some (LO.exit i6 (s7, s13, s1.2.2))) (fun s13 =>
    some (LO.ret (s7, s13, s1.2.2))))
  else
   if i3 = 1 then
    some (LO.norm (s7, s1.2.1, s1.2.2))
   else
    some (LO.exit i3 (s7, s1.2.1, s1.2.2))) (fun s7 =>
  some (LO.ret (s7, s1.2.1, s1.2.2))))
def m247 (a0 : List Int) (a1 : Int) (a2 : Int) (a3 : Int) : Option (Int × (List Int)) :=
 (getI a0 a3).bind fun x1 =>
 (getI a0 a1).bind fun x2 =>
 (getI a0 a1).bind fun x3 =>
 (getI (a0.set (Int.toNat a1) x1) a3).bind fun x4 =>
 (loopO (ms247_2 a1) NN (wi .i64 (a1 + 1), wi .i64 (a2 - 1), (a0.set (Int.toNat a1) x1).set (Int.toNat a3) x2)).bind (contO (fun _ => none) (fun i7 s14 =>
  if i7 = 0 then
   some (s14.1, s14.2.2)
  else
   none) (fun s14 =>
  some (0, s14.2.2)))
theorem w247 {d : Nat} (hd : 3 ≤ d) (L0 : List En) (v0_ : AV) (a0 : List Int) (a1 : Int) (a2 : Int) (a3 : Int) : Okh (sl false v0_ (a0 : List Int) :: L0) (fun S => R NN d 247 [v0_, .int .i64 a1, .int .i64 a2, .int .i64 a3] S) (m247 a0 a1 a2 a3) (P2 (fun (t : Int × (List Int)) => AV.int .i64 t.1) (fun (t : Int × (List Int)) => sl false v0_ t.2 :: L0)) := by
  obtain ⟨d, rfl, g⟩ := up hd
  refine q_to (t247 NN d _ _ _ _) ?_
  unfold b247 m247
  refine q_ixo 0 rfl rfl fun x1 hx1 => q_ldo 0 rfl hx1 rfl <| q_ixo 0 rfl rfl fun x2 hx2 => q_ldo 0 rfl hx2 rfl <| q_ixo 0 rfl rfl fun x3 hx3 => q_stoe (y := x1) 0 rfl rfl hx3 rfl (by decide) <| q_ixo 0 rfl rfl fun x4 hx4 => q_stoe (y := x2) 0 rfl rfl hx4 rfl (by decide) <| q_p fr <| q_p fr <| q_loop (I := (fun (s : Int × Int × (List Int)) l L => l = [.int .i64 s.1, .int .i64 s.2.1] ∧ L = sl false v0_ (s.2.2 : List Int) :: L0)) 0 ⟨rfl, rfl⟩ ?_ ?_ ?_
  ·rintro s1 _ _ ⟨rfl, rfl⟩
   unfold s247_2 ms247_2
   refine q_loop (I := (fun (s : Int) l L => l = [.int .i64 s] ∧ L = sl false v0_ (s1.2.2 : List Int) :: L0)) 0 ⟨rfl, rfl⟩ ?_ ?_ ?_
   ·rintro s2 _ _ ⟨rfl, rfl⟩
    unfold s247_0 ms247_0
    refine q_cut (I := (fun (s : Bool) l L => l = [.bool s] ∧ L = sl false v0_ (s1.2.2 : List Int) :: L0)) ?_ ?_ ?_ ?_
    ·refine q_cut (I := (fun (s : Bool) l L => l = [.bool s] ∧ L = sl false v0_ (s1.2.2 : List Int) :: L0)) ?_ ?_ ?_ ?_
     ·refine q_p fr <| q_gT (fun h1 => ?_) (fun h1 => ?_)
      ·exact q_ixo 0 rfl rfl fun x5 hx5 => q_ldo 0 rfl hx5 rfl <| q_ixo 0 rfl rfl fun x6 hx6 => q_ldo 0 rfl hx6 rfl <| q_c0 (fun S hS => argF2 (cv_p rfl) (cv_p rfl) hS fun l0_ l1_ => w246 (by omega) x5 x6) fun y1 hy1 => q_p fr <| q_norm 0 ⟨rfl, rfl⟩
      ·exact q_norm 0 ⟨rfl, rfl⟩
     ·rintro s5 _ _ ⟨rfl, rfl⟩
      refine q_if (fun h2 => ?_) (fun h2 => ?_)
      ·exact q_norm 0 ⟨rfl, rfl⟩
      ·exact q_exit 0 ⟨rfl, rfl⟩
     ·rintro i1 s5 _ _ ⟨rfl, rfl⟩
      exact q_exit 0 ⟨rfl, rfl⟩
     ·rintro s5 _ _ ⟨rfl, rfl⟩
      exact q_lret 0 ⟨rfl, rfl⟩
    ·rintro s6 _ _ ⟨rfl, rfl⟩
     exact q_p fr <| q_norm 0 ⟨rfl, rfl⟩
    ·rintro i2 s6 _ _ ⟨rfl, rfl⟩
     exact q_exit 0 ⟨rfl, rfl⟩
    ·rintro s6 _ _ ⟨rfl, rfl⟩
     exact q_lret 0 ⟨rfl, rfl⟩
   ·rintro i3 s7 _ _ ⟨rfl, rfl⟩
    refine q_ite (fun _ => ?_) (fun _ => ?_)
    ·refine q_loop (I := (fun (s : Int) l L => l = [.int .i64 s] ∧ L = sl false v0_ (s1.2.2 : List Int) :: L0)) 0 ⟨rfl, rfl⟩ ?_ ?_ ?_
     ·rintro s8 _ _ ⟨rfl, rfl⟩
      unfold s247_1 ms247_1
      refine q_cut (I := (fun (s : Bool) l L => l = [.bool s] ∧ L = sl false v0_ (s1.2.2 : List Int) :: L0)) ?_ ?_ ?_ ?_
      ·refine q_cut (I := (fun (s : Bool) l L => l = [.bool s] ∧ L = sl false v0_ (s1.2.2 : List Int) :: L0)) ?_ ?_ ?_ ?_
       ·refine q_p fr <| q_gT (fun h3 => ?_) (fun h3 => ?_)
        ·exact q_ixo 0 rfl rfl fun x7 hx7 => q_ldo 0 rfl hx7 rfl <| q_ixo 0 rfl rfl fun x8 hx8 => q_ldo 0 rfl hx8 rfl <| q_c0 (fun S hS => argF2 (cv_p rfl) (cv_p rfl) hS fun l0_ l1_ => w246 (by omega) x7 x8) fun y2 hy2 => q_norm 0 ⟨rfl, rfl⟩
        ·exact q_norm 0 ⟨rfl, rfl⟩
       ·rintro s11 _ _ ⟨rfl, rfl⟩
        refine q_if (fun h4 => ?_) (fun h4 => ?_)
        ·exact q_norm 0 ⟨rfl, rfl⟩
        ·exact q_exit 0 ⟨rfl, rfl⟩
       ·rintro i4 s11 _ _ ⟨rfl, rfl⟩
        exact q_exit 0 ⟨rfl, rfl⟩
       ·rintro s11 _ _ ⟨rfl, rfl⟩
        exact q_lret 0 ⟨rfl, rfl⟩
      ·rintro s12 _ _ ⟨rfl, rfl⟩
       exact q_p fr <| q_norm 0 ⟨rfl, rfl⟩
      ·rintro i5 s12 _ _ ⟨rfl, rfl⟩
       exact q_exit 0 ⟨rfl, rfl⟩
      ·rintro s12 _ _ ⟨rfl, rfl⟩
       exact q_lret 0 ⟨rfl, rfl⟩
     ·rintro i6 s13 _ _ ⟨rfl, rfl⟩
      refine q_ite (fun _ => ?_) (fun _ => ?_)
      ·refine q_p fr <| q_if (fun h5 => ?_) (fun h5 => ?_)
       ·exact q_exit 0 ⟨rfl, rfl⟩
       ·exact q_ixo 0 rfl rfl fun x9 hx9 => q_ldo 0 rfl hx9 rfl <| q_ixo 0 rfl rfl fun x10 hx10 => q_ldo 0 rfl hx10 rfl <| q_ixo 0 rfl rfl fun x11 hx11 => q_stoe (y := x9) 0 rfl rfl hx11 rfl (by decide) <| q_ixo 0 rfl rfl fun x12 hx12 => q_stoe (y := x10) 0 rfl rfl hx12 rfl (by decide) <| q_p fr <| q_p fr <| q_norm 0 ⟨rfl, rfl⟩
      ·refine q_ite (fun _ => ?_) (fun _ => ?_)
       ·exact q_norm 0 ⟨rfl, rfl⟩
       ·exact q_exit 0 ⟨rfl, rfl⟩
     ·rintro s13 _ _ ⟨rfl, rfl⟩
      exact q_lret 0 ⟨rfl, rfl⟩
    ·refine q_ite (fun _ => ?_) (fun _ => ?_)
     ·exact q_norm 0 ⟨rfl, rfl⟩
     ·exact q_exit 0 ⟨rfl, rfl⟩
   ·rintro s7 _ _ ⟨rfl, rfl⟩
    exact q_lret 0 ⟨rfl, rfl⟩
  ·rintro i7 s14 _ _ ⟨rfl, rfl⟩
   refine q_ite (fun _ => ?_) (fun _ => ?_)
   ·exact q_ret2 0 rfl rfl
   ·exact q_none
  ·rintro s14 _ _ ⟨rfl, rfl⟩
   exact q_ret2 0 rfl rfl
def ms248_0 (a0 : List Int) (a1 : Int) (a2 : Int) (a3 : Int) (x1 : Int) (x2 : Int) (s1 : Int) : Option (LO (Int)) :=
 (
  (
   bif decide (s1 ≤ (wi .i64 (a2 - 1))) then
    (getI ((a0.set (Int.toNat a1) x1).set (Int.toNat a3) x2) s1).bind fun x5 =>
    (getI ((a0.set (Int.toNat a1) x1).set (Int.toNat a3) x2) a1).bind fun x6 =>
    (m246 x5 x6).bind fun y1 =>
    some (LO.norm y1)
   else
    some (LO.norm false)).bind (contO (fun s4 =>
   bif s4 then
    some (LO.norm s4)
   else
    some (LO.exit 0 s4)) (fun i1 s4 =>
   some (LO.exit i1 s4)) (fun s4 =>
   some (LO.ret s4)))).bind (contO (fun s5 =>
  some (LO.norm (wi .i64 (s1 + 1)))) (fun i2 s5 =>
  some (LO.exit i2 s1)) (fun s5 =>
  some (LO.ret s1)))
def ms248_1 (a0 : List Int) (a1 : Int) (a3 : Int) (s6 : Int) (x1 : Int) (x2 : Int) (s7 : Int) : Option (LO (Int)) :=
 (
  (
   bif decide (s6 ≤ s7) then
    (getI ((a0.set (Int.toNat a1) x1).set (Int.toNat a3) x2) s7).bind fun x7 =>
    (getI ((a0.set (Int.toNat a1) x1).set (Int.toNat a3) x2) a1).bind fun x8 =>
    (m246 x7 x8).bind fun y2 =>
    some (LO.norm (!y2))
   else
    some (LO.norm false)).bind (contO (fun s10 =>
   bif s10 then
    some (LO.norm s10)
   else
    some (LO.exit 2 s10)) (fun i4 s10 =>
   some (LO.exit i4 s10)) (fun s10 =>
   some (LO.ret s10)))).bind (contO (fun s11 =>
  some (LO.norm (wi .i64 (s7 - 1)))) (fun i5 s11 =>
  some (LO.exit i5 s7)) (fun s11 =>
  some (LO.ret s7)))
def ms248_2 (a1 : Int) (s13 : Int × Int × (List Int)) (s14 : Int) : Option (LO (Int)) :=
 (
  (
   bif decide (s14 ≤ s13.2.1) then
    (getI s13.2.2 s14).bind fun x17 =>
    (getI s13.2.2 a1).bind fun x18 =>
    (m246 x17 x18).bind fun y3 =>
    some (LO.norm y3)
   else
    some (LO.norm false)).bind (contO (fun s17 =>
   bif s17 then
    some (LO.norm s17)
   else
    some (LO.exit 6 s17)) (fun i7 s17 =>
   some (LO.exit i7 s17)) (fun s17 =>
   some (LO.ret s17)))).bind (contO (fun s18 =>
  some (LO.norm (wi .i64 (s14 + 1)))) (fun i8 s18 =>
  some (LO.exit i8 s14)) (fun s18 =>
  some (LO.ret s14)))
def ms248_3 (a1 : Int) (s13 : Int × Int × (List Int)) (s19 : Int) (s20 : Int) : Option (LO (Int)) :=
 (
  (
   bif decide (s19 ≤ s20) then
    (getI s13.2.2 s20).bind fun x19 =>
    (getI s13.2.2 a1).bind fun x20 =>
    (m246 x19 x20).bind fun y4 =>
    some (LO.norm (!y4))
   else
    some (LO.norm false)).bind (contO (fun s23 =>
   bif s23 then
    some (LO.norm s23)
   else
    some (LO.exit 8 s23)) (fun i10 s23 =>
   some (LO.exit i10 s23)) (fun s23 =>
   some (LO.ret s23)))).bind (contO (fun s24 =>
  some (LO.norm (wi .i64 (s20 - 1)))) (fun i11 s24 =>
  some (LO.exit i11 s20)) (fun s24 =>
  some (LO.ret s20)))
def ms248_4 (a1 : Int) (s13 : Int × Int × (List Int)) : Option (LO (Int × Int × (List Int))) :=
 (loopO (ms248_2 a1 s13) NN s13.1).bind (contO (fun _ => none) (fun i9 s19 =>
  if i9 = 6 then
   (loopO (ms248_3 a1 s13 s19) NN s13.2.1).bind (contO (fun _ => none) (fun i12 s25 =>
    if i12 = 8 then
     bif decide (s19 > s25) then
      some (LO.exit 4 (s19, s25, s13.2.2))
     else
      (getI s13.2.2 s25).bind fun x21 =>
      (getI s13.2.2 s19).bind fun x22 =>
      (getI s13.2.2 s19).bind fun x23 =>
      (getI (s13.2.2.set (Int.toNat s19) x21) s25).bind fun x24 =>
      some (LO.norm (wi .i64 (s19 + 1), wi .i64 (s25 - 1), (s13.2.2.set (Int.toNat s19) x21).set (Int.toNat s25) x22))
    else
     if i12 = 5 then
      some (LO.norm (s19, s25, s13.2.2))
     else
      some (LO.exit i12 (s19, s25, s13.2.2))) (fun s25 =>
    some (LO.ret (s19, s25, s13.2.2))))
  else
   if i9 = 5 then
    some (LO.norm (s19, s13.2.1, s13.2.2))
   else
    some (LO.exit i9 (s19, s13.2.1, s13.2.2))) (fun s19 =>
  some (LO.ret (s19, s13.2.1, s13.2.2))))
def m248 (a0 : List Int) (a1 : Int) (a2 : Int) (a3 : Int) : Option (Int × Bool × (List Int)) :=
 (getI a0 a3).bind fun x1 =>
 (getI a0 a1).bind fun x2 =>
 (getI a0 a1).bind fun x3 =>
 (getI (a0.set (Int.toNat a1) x1) a3).bind fun x4 =>
 (loopO (ms248_0 a0 a1 a2 a3 x1 x2) NN (wi .i64 (a1 + 1))).bind (contO (fun _ => none) (fun i3 s6 =>
  if i3 = 0 then
   (loopO (ms248_1 a0 a1 a3 s6 x1 x2) NN (wi .i64 (a2 - 1))).bind (contO (fun _ => none) (fun i6 s12 =>
    if i6 = 2 then
     bif decide (s6 > s12) then
      (getI ((a0.set (Int.toNat a1) x1).set (Int.toNat a3) x2) a1).bind fun x9 =>
      (getI ((a0.set (Int.toNat a1) x1).set (Int.toNat a3) x2) s12).bind fun x10 =>
      (getI ((a0.set (Int.toNat a1) x1).set (Int.toNat a3) x2) s12).bind fun x11 =>
      (getI (((a0.set (Int.toNat a1) x1).set (Int.toNat a3) x2).set (Int.toNat s12) x9) a1).bind fun x12 =>
      some (s12, true, (((a0.set (Int.toNat a1) x1).set (Int.toNat a3) x2).set (Int.toNat s12) x9).set (Int.toNat a1) x10)
     else
      (getI ((a0.set (Int.toNat a1) x1).set (Int.toNat a3) x2) s12).bind fun x13 =>
      (getI ((a0.set (Int.toNat a1) x1).set (Int.toNat a3) x2) s6).bind fun x14 =>
      (getI ((a0.set (Int.toNat a1) x1).set (Int.toNat a3) x2) s6).bind fun x15 =>
      (getI (((a0.set (Int.toNat a1) x1).set (Int.toNat a3) x2).set (Int.toNat s6) x13) s12).bind fun x16 =>
      (loopO (ms248_4 a1) NN (wi .i64 (s6 + 1), wi .i64 (s12 - 1), (((a0.set (Int.toNat a1) x1).set (Int.toNat a3) x2).set (Int.toNat s6) x13).set (Int.toNat s12) x14)).bind (contO (fun _ => none) (fun i13 s26 =>
       if i13 = 4 then
        (getI s26.2.2 a1).bind fun x25 =>
        (getI s26.2.2 s26.2.1).bind fun x26 =>
        (getI s26.2.2 s26.2.1).bind fun x27 =>
        (getI (s26.2.2.set (Int.toNat s26.2.1) x25) a1).bind fun x28 =>
        some (s26.2.1, false, (s26.2.2.set (Int.toNat s26.2.1) x25).set (Int.toNat a1) x26)
       else
        none) (fun s26 =>
       some (0, false, s26.2.2)))
    else
     none) (fun s12 =>
    some (0, false, (a0.set (Int.toNat a1) x1).set (Int.toNat a3) x2)))
  else
   none) (fun s6 =>
  some (0, false, (a0.set (Int.toNat a1) x1).set (Int.toNat a3) x2)))
theorem w248 {d : Nat} (hd : 3 ≤ d) (L0 : List En) (v0_ : AV) (a0 : List Int) (a1 : Int) (a2 : Int) (a3 : Int) : Okh (sl false v0_ (a0 : List Int) :: L0) (fun S => R NN d 248 [v0_, .int .i64 a1, .int .i64 a2, .int .i64 a3] S) (m248 a0 a1 a2 a3) (P2 (fun (t : Int × Bool × (List Int)) => AV.tup [.int .i64 t.1, .bool t.2.1]) (fun (t : Int × Bool × (List Int)) => sl false v0_ t.2.2 :: L0)) := by
  obtain ⟨d, rfl, g⟩ := up hd
  refine q_to (t248 NN d _ _ _ _) ?_
  unfold b248 m248
  refine q_ixo 0 rfl rfl fun x1 hx1 => q_ldo 0 rfl hx1 rfl <| q_ixo 0 rfl rfl fun x2 hx2 => q_ldo 0 rfl hx2 rfl <| q_ixo 0 rfl rfl fun x3 hx3 => q_stoe (y := x1) 0 rfl rfl hx3 rfl (by decide) <| q_ixo 0 rfl rfl fun x4 hx4 => q_stoe (y := x2) 0 rfl rfl hx4 rfl (by decide) <| q_p fr <| q_p fr <| q_loop (I := (fun (s : Int) l L => l = [.int .i64 s] ∧ L = sl false v0_ ((a0.set (Int.toNat a1) x1).set (Int.toNat a3) x2 : List Int) :: L0)) 0 ⟨rfl, rfl⟩ ?_ ?_ ?_
  ·rintro s1 _ _ ⟨rfl, rfl⟩
   unfold s248_0 ms248_0
   refine q_cut (I := (fun (s : Bool) l L => l = [.bool s] ∧ L = sl false v0_ ((a0.set (Int.toNat a1) x1).set (Int.toNat a3) x2 : List Int) :: L0)) ?_ ?_ ?_ ?_
   ·refine q_cut (I := (fun (s : Bool) l L => l = [.bool s] ∧ L = sl false v0_ ((a0.set (Int.toNat a1) x1).set (Int.toNat a3) x2 : List Int) :: L0)) ?_ ?_ ?_ ?_
    ·refine q_p fr <| q_gT (fun h1 => ?_) (fun h1 => ?_)
     ·exact q_ixo 0 rfl rfl fun x5 hx5 => q_ldo 0 rfl hx5 rfl <| q_ixo 0 rfl rfl fun x6 hx6 => q_ldo 0 rfl hx6 rfl <| q_c0 (fun S hS => argF2 (cv_p rfl) (cv_p rfl) hS fun l0_ l1_ => w246 (by omega) x5 x6) fun y1 hy1 => q_norm 0 ⟨rfl, rfl⟩
     ·exact q_norm 0 ⟨rfl, rfl⟩
    ·rintro s4 _ _ ⟨rfl, rfl⟩
     refine q_if (fun h2 => ?_) (fun h2 => ?_)
     ·exact q_norm 0 ⟨rfl, rfl⟩
     ·exact q_exit 0 ⟨rfl, rfl⟩
    ·rintro i1 s4 _ _ ⟨rfl, rfl⟩
     exact q_exit 0 ⟨rfl, rfl⟩
    ·rintro s4 _ _ ⟨rfl, rfl⟩
     exact q_lret 0 ⟨rfl, rfl⟩
   ·rintro s5 _ _ ⟨rfl, rfl⟩
    exact q_p fr <| q_norm 0 ⟨rfl, rfl⟩
   ·rintro i2 s5 _ _ ⟨rfl, rfl⟩
    exact q_exit 0 ⟨rfl, rfl⟩
   ·rintro s5 _ _ ⟨rfl, rfl⟩
    exact q_lret 0 ⟨rfl, rfl⟩
  ·rintro i3 s6 _ _ ⟨rfl, rfl⟩
   refine q_ite (fun _ => ?_) (fun _ => ?_)
   ·refine q_loop (I := (fun (s : Int) l L => l = [.int .i64 s] ∧ L = sl false v0_ ((a0.set (Int.toNat a1) x1).set (Int.toNat a3) x2 : List Int) :: L0)) 0 ⟨rfl, rfl⟩ ?_ ?_ ?_
    ·rintro s7 _ _ ⟨rfl, rfl⟩
     unfold s248_1 ms248_1
     refine q_cut (I := (fun (s : Bool) l L => l = [.bool s] ∧ L = sl false v0_ ((a0.set (Int.toNat a1) x1).set (Int.toNat a3) x2 : List Int) :: L0)) ?_ ?_ ?_ ?_
     ·refine q_cut (I := (fun (s : Bool) l L => l = [.bool s] ∧ L = sl false v0_ ((a0.set (Int.toNat a1) x1).set (Int.toNat a3) x2 : List Int) :: L0)) ?_ ?_ ?_ ?_
      ·refine q_p fr <| q_gT (fun h3 => ?_) (fun h3 => ?_)
       ·exact q_ixo 0 rfl rfl fun x7 hx7 => q_ldo 0 rfl hx7 rfl <| q_ixo 0 rfl rfl fun x8 hx8 => q_ldo 0 rfl hx8 rfl <| q_c0 (fun S hS => argF2 (cv_p rfl) (cv_p rfl) hS fun l0_ l1_ => w246 (by omega) x7 x8) fun y2 hy2 => q_p fr <| q_norm 0 ⟨rfl, rfl⟩
       ·exact q_norm 0 ⟨rfl, rfl⟩
      ·rintro s10 _ _ ⟨rfl, rfl⟩
       refine q_if (fun h4 => ?_) (fun h4 => ?_)
       ·exact q_norm 0 ⟨rfl, rfl⟩
       ·exact q_exit 0 ⟨rfl, rfl⟩
      ·rintro i4 s10 _ _ ⟨rfl, rfl⟩
       exact q_exit 0 ⟨rfl, rfl⟩
      ·rintro s10 _ _ ⟨rfl, rfl⟩
       exact q_lret 0 ⟨rfl, rfl⟩
     ·rintro s11 _ _ ⟨rfl, rfl⟩
      exact q_p fr <| q_norm 0 ⟨rfl, rfl⟩
     ·rintro i5 s11 _ _ ⟨rfl, rfl⟩
      exact q_exit 0 ⟨rfl, rfl⟩
     ·rintro s11 _ _ ⟨rfl, rfl⟩
      exact q_lret 0 ⟨rfl, rfl⟩
    ·rintro i6 s12 _ _ ⟨rfl, rfl⟩
     refine q_ite (fun _ => ?_) (fun _ => ?_)
     ·refine q_p fr <| q_if (fun h10 => ?_) (fun h10 => ?_)
      ·exact q_ixo 0 rfl rfl fun x9 hx9 => q_ldo 0 rfl hx9 rfl <| q_ixo 0 rfl rfl fun x10 hx10 => q_ldo 0 rfl hx10 rfl <| q_ixo 0 rfl rfl fun x11 hx11 => q_stoe (y := x9) 0 rfl rfl hx11 rfl (by decide) <| q_ixo 0 rfl rfl fun x12 hx12 => q_stoe (y := x10) 0 rfl rfl hx12 rfl (by decide) <| q_ret2 0 rfl rfl
      ·refine q_ixo 0 rfl rfl fun x13 hx13 => q_ldo 0 rfl hx13 rfl <| q_ixo 0 rfl rfl fun x14 hx14 => q_ldo 0 rfl hx14 rfl <| q_ixo 0 rfl rfl fun x15 hx15 => q_stoe (y := x13) 0 rfl rfl hx15 rfl (by decide) <| q_ixo 0 rfl rfl fun x16 hx16 => q_stoe (y := x14) 0 rfl rfl hx16 rfl (by decide) <| q_p fr <| q_p fr <| q_loop (I := (fun (s : Int × Int × (List Int)) l L => l = [.int .i64 s.1, .int .i64 s.2.1] ∧ L = sl false v0_ (s.2.2 : List Int) :: L0)) 0 ⟨rfl, rfl⟩ ?_ ?_ ?_
       ·rintro s13 _ _ ⟨rfl, rfl⟩
        unfold s248_4 ms248_4
        refine q_loop (I := (fun (s : Int) l L => l = [.int .i64 s] ∧ L = sl false v0_ (s13.2.2 : List Int) :: L0)) 0 ⟨rfl, rfl⟩ ?_ ?_ ?_
        ·rintro s14 _ _ ⟨rfl, rfl⟩
         unfold s248_2 ms248_2
         refine q_cut (I := (fun (s : Bool) l L => l = [.bool s] ∧ L = sl false v0_ (s13.2.2 : List Int) :: L0)) ?_ ?_ ?_ ?_
         ·refine q_cut (I := (fun (s : Bool) l L => l = [.bool s] ∧ L = sl false v0_ (s13.2.2 : List Int) :: L0)) ?_ ?_ ?_ ?_
          ·refine q_p fr <| q_gT (fun h5 => ?_) (fun h5 => ?_)
           ·exact q_ixo 0 rfl rfl fun x17 hx17 => q_ldo 0 rfl hx17 rfl <| q_ixo 0 rfl rfl fun x18 hx18 => q_ldo 0 rfl hx18 rfl <| q_c0 (fun S hS => argF2 (cv_p rfl) (cv_p rfl) hS fun l0_ l1_ => w246 (by omega) x17 x18) fun y3 hy3 => q_norm 0 ⟨rfl, rfl⟩
           ·exact q_norm 0 ⟨rfl, rfl⟩
          ·rintro s17 _ _ ⟨rfl, rfl⟩
           refine q_if (fun h6 => ?_) (fun h6 => ?_)
           ·exact q_norm 0 ⟨rfl, rfl⟩
           ·exact q_exit 0 ⟨rfl, rfl⟩
          ·rintro i7 s17 _ _ ⟨rfl, rfl⟩
           exact q_exit 0 ⟨rfl, rfl⟩
          ·rintro s17 _ _ ⟨rfl, rfl⟩
           exact q_lret 0 ⟨rfl, rfl⟩
         ·rintro s18 _ _ ⟨rfl, rfl⟩
          exact q_p fr <| q_norm 0 ⟨rfl, rfl⟩
         ·rintro i8 s18 _ _ ⟨rfl, rfl⟩
          exact q_exit 0 ⟨rfl, rfl⟩
         ·rintro s18 _ _ ⟨rfl, rfl⟩
          exact q_lret 0 ⟨rfl, rfl⟩
        ·rintro i9 s19 _ _ ⟨rfl, rfl⟩
         refine q_ite (fun _ => ?_) (fun _ => ?_)
         ·refine q_loop (I := (fun (s : Int) l L => l = [.int .i64 s] ∧ L = sl false v0_ (s13.2.2 : List Int) :: L0)) 0 ⟨rfl, rfl⟩ ?_ ?_ ?_
          ·rintro s20 _ _ ⟨rfl, rfl⟩
           unfold s248_3 ms248_3
           refine q_cut (I := (fun (s : Bool) l L => l = [.bool s] ∧ L = sl false v0_ (s13.2.2 : List Int) :: L0)) ?_ ?_ ?_ ?_
           ·refine q_cut (I := (fun (s : Bool) l L => l = [.bool s] ∧ L = sl false v0_ (s13.2.2 : List Int) :: L0)) ?_ ?_ ?_ ?_
            ·refine q_p fr <| q_gT (fun h7 => ?_) (fun h7 => ?_)
             ·exact q_ixo 0 rfl rfl fun x19 hx19 => q_ldo 0 rfl hx19 rfl <| q_ixo 0 rfl rfl fun x20 hx20 => q_ldo 0 rfl hx20 rfl <| q_c0 (fun S hS => argF2 (cv_p rfl) (cv_p rfl) hS fun l0_ l1_ => w246 (by omega) x19 x20) fun y4 hy4 => q_p fr <| q_norm 0 ⟨rfl, rfl⟩
             ·exact q_norm 0 ⟨rfl, rfl⟩
            ·rintro s23 _ _ ⟨rfl, rfl⟩
             refine q_if (fun h8 => ?_) (fun h8 => ?_)
             ·exact q_norm 0 ⟨rfl, rfl⟩
             ·exact q_exit 0 ⟨rfl, rfl⟩
            ·rintro i10 s23 _ _ ⟨rfl, rfl⟩
             exact q_exit 0 ⟨rfl, rfl⟩
            ·rintro s23 _ _ ⟨rfl, rfl⟩
             exact q_lret 0 ⟨rfl, rfl⟩
           ·rintro s24 _ _ ⟨rfl, rfl⟩
            exact q_p fr <| q_norm 0 ⟨rfl, rfl⟩
           ·rintro i11 s24 _ _ ⟨rfl, rfl⟩
            exact q_exit 0 ⟨rfl, rfl⟩
           ·rintro s24 _ _ ⟨rfl, rfl⟩
            exact q_lret 0 ⟨rfl, rfl⟩
          ·rintro i12 s25 _ _ ⟨rfl, rfl⟩
           refine q_ite (fun _ => ?_) (fun _ => ?_)
           ·refine q_p fr <| q_if (fun h9 => ?_) (fun h9 => ?_)
            ·exact q_exit 0 ⟨rfl, rfl⟩
            ·exact q_ixo 0 rfl rfl fun x21 hx21 => q_ldo 0 rfl hx21 rfl <| q_ixo 0 rfl rfl fun x22 hx22 => q_ldo 0 rfl hx22 rfl <| q_ixo 0 rfl rfl fun x23 hx23 => q_stoe (y := x21) 0 rfl rfl hx23 rfl (by decide) <| q_ixo 0 rfl rfl fun x24 hx24 => q_stoe (y := x22) 0 rfl rfl hx24 rfl (by decide) <| q_p fr <| q_p fr <| q_norm 0 ⟨rfl, rfl⟩
           ·refine q_ite (fun _ => ?_) (fun _ => ?_)
            ·exact q_norm 0 ⟨rfl, rfl⟩
            ·exact q_exit 0 ⟨rfl, rfl⟩
          ·rintro s25 _ _ ⟨rfl, rfl⟩
           exact q_lret 0 ⟨rfl, rfl⟩
         ·refine q_ite (fun _ => ?_) (fun _ => ?_)
          ·exact q_norm 0 ⟨rfl, rfl⟩
          ·exact q_exit 0 ⟨rfl, rfl⟩
        ·rintro s19 _ _ ⟨rfl, rfl⟩
         exact q_lret 0 ⟨rfl, rfl⟩
       ·rintro i13 s26 _ _ ⟨rfl, rfl⟩
        refine q_ite (fun _ => ?_) (fun _ => ?_)
        ·exact q_ixo 0 rfl rfl fun x25 hx25 => q_ldo 0 rfl hx25 rfl <| q_ixo 0 rfl rfl fun x26 hx26 => q_ldo 0 rfl hx26 rfl <| q_ixo 0 rfl rfl fun x27 hx27 => q_stoe (y := x25) 0 rfl rfl hx27 rfl (by decide) <| q_ixo 0 rfl rfl fun x28 hx28 => q_stoe (y := x26) 0 rfl rfl hx28 rfl (by decide) <| q_ret2 0 rfl rfl
        ·exact q_none
       ·rintro s26 _ _ ⟨rfl, rfl⟩
        exact q_ret2 0 rfl rfl
     ·exact q_none
    ·rintro s12 _ _ ⟨rfl, rfl⟩
     exact q_ret2 0 rfl rfl
   ·exact q_none
  ·rintro s6 _ _ ⟨rfl, rfl⟩
   exact q_ret2 0 rfl rfl
def ms209_0 (rec_ : (List Int) → Int → Int → Int → Option ((List Int))) (s1 : Int × Int × Int × Bool × Bool × (List Int)) : Option (LO (Int × Int × Int × Bool × Bool × (List Int))) :=
 bif decide ((wi .i64 (s1.2.1 - s1.1)) ≤ 12) then
  (m240 s1.2.2.2.2.2 s1.1 s1.2.1).bind fun y1 =>
  some (LO.ret (s1.1, s1.2.1, s1.2.2.1, s1.2.2.2.1, s1.2.2.2.2.1, y1))
 else
  bif s1.2.2.1 == 0 then
   (m241 s1.2.2.2.2.2 s1.1 s1.2.1).bind fun y2 =>
   some (LO.ret (s1.1, s1.2.1, s1.2.2.1, s1.2.2.2.1, s1.2.2.2.2.1, y2))
  else
   (
    bif !s1.2.2.2.1 then
     (m242 s1.2.2.2.2.2 s1.1 s1.2.1).bind fun y3 =>
     some (LO.norm (wi .i64 (s1.2.2.1 - 1), y3))
    else
     some (LO.norm (s1.2.2.1, s1.2.2.2.2.2))).bind (contO (fun s3 =>
    (m243 s3.2 s1.1 s1.2.1).bind fun y4 =>
    (
     bif y4.2 == 2 then
      (m244 s3.2 s1.1 s1.2.1).bind fun y5 =>
      some (LO.norm (wi .i64 ((wi .i64 (s1.2.1 - 1)) - (wi .i64 (y4.1 - s1.1))), 1, y5))
     else
      some (LO.norm (y4.1, y4.2, s3.2))).bind (contO (fun s5 =>
     (
      (
       bif s1.2.2.2.1 then
        bif s1.2.2.2.2.1 then
         some (LO.norm (s5.2.1 == 1))
        else
         some (LO.norm false)
       else
        some (LO.norm false)).bind (contO (fun s8 =>
       bif s8 then
        (m245 s5.2.2 s1.1 s1.2.1).bind fun y6 =>
        bif y6.1 then
         some (LO.ret y6.2)
        else
         some (LO.norm y6.2)
       else
        some (LO.norm s5.2.2)) (fun i3 s8 =>
       some (LO.exit i3 s5.2.2)) (fun s8 =>
       some (LO.ret s5.2.2)))).bind (contO (fun s9 =>
      (
       bif decide (s1.1 > 0) then
        (getI s9 (wi .i64 (s1.1 - 1))).bind fun x1 =>
        (getI s9 s5.1).bind fun x2 =>
        (m246 x1 x2).bind fun y7 =>
        bif !y7 then
         (m247 s9 s1.1 s1.2.1 s5.1).bind fun y8 =>
         some (LO.exit 1 (y8.1, y8.2))
        else
         some (LO.norm (s1.1, s9))
       else
        some (LO.norm (s1.1, s9))).bind (contO (fun s11 =>
       (m248 s11.2 s11.1 s1.2.1 s5.1).bind fun y9 =>
       bif decide ((wi .i64 (y9.1 - s11.1)) < (wi .i64 (s1.2.1 - y9.1))) then
        (rec_ y9.2.2 s11.1 y9.1 s3.1).bind fun y10 =>
        some (LO.norm (wi .i64 (y9.1 + 1), s1.2.1, s3.1, decide ((wi .i64 (y9.1 - s11.1)) ≥ (wi .i64 (Int.tdiv (wi .i64 (s1.2.1 - s1.1)) 8))), y9.2.1, y10))
       else
        (rec_ y9.2.2 (wi .i64 (y9.1 + 1)) s1.2.1 s3.1).bind fun y11 =>
        some (LO.norm (s11.1, y9.1, s3.1, decide ((wi .i64 (s1.2.1 - y9.1)) ≥ (wi .i64 (Int.tdiv (wi .i64 (s1.2.1 - s1.1)) 8))), y9.2.1, y11))) (fun i5 s11 =>
       if i5 = 1 then
        some (LO.norm (s11.1, s1.2.1, s3.1, s1.2.2.2.1, s1.2.2.2.2.1, s11.2))
       else
        some (LO.exit i5 (s11.1, s1.2.1, s3.1, s1.2.2.2.1, s1.2.2.2.2.1, s11.2))) (fun s11 =>
       some (LO.ret (s11.1, s1.2.1, s3.1, s1.2.2.2.1, s1.2.2.2.2.1, s11.2))))) (fun i4 s9 =>
      if i4 = 1 then
       some (LO.norm (s1.1, s1.2.1, s3.1, s1.2.2.2.1, s1.2.2.2.2.1, s9))
      else
       some (LO.exit i4 (s1.1, s1.2.1, s3.1, s1.2.2.2.1, s1.2.2.2.2.1, s9))) (fun s9 =>
      some (LO.ret (s1.1, s1.2.1, s3.1, s1.2.2.2.1, s1.2.2.2.2.1, s9))))) (fun i2 s5 =>
     if i2 = 1 then
      some (LO.norm (s1.1, s1.2.1, s3.1, s1.2.2.2.1, s1.2.2.2.2.1, s5.2.2))
     else
      some (LO.exit i2 (s1.1, s1.2.1, s3.1, s1.2.2.2.1, s1.2.2.2.2.1, s5.2.2))) (fun s5 =>
     some (LO.ret (s1.1, s1.2.1, s3.1, s1.2.2.2.1, s1.2.2.2.2.1, s5.2.2))))) (fun i1 s3 =>
    if i1 = 1 then
     some (LO.norm (s1.1, s1.2.1, s3.1, s1.2.2.2.1, s1.2.2.2.2.1, s3.2))
    else
     some (LO.exit i1 (s1.1, s1.2.1, s3.1, s1.2.2.2.1, s1.2.2.2.2.1, s3.2))) (fun s3 =>
    some (LO.ret (s1.1, s1.2.1, s3.1, s1.2.2.2.1, s1.2.2.2.2.1, s3.2))))
def m209F (rec_ : (List Int) → Int → Int → Int → Option ((List Int))) (a0 : List Int) (a1 : Int) (a2 : Int) (a3 : Int) : Option ((List Int)) :=
 (loopO (ms209_0 rec_) NN (a1, a2, a3, true, true, a0)).bind (contO (fun _ => none) (fun i6 s12 =>
  if i6 = 0 then
   some s12.2.2.2.2.2
  else
   none) (fun s12 =>
  some s12.2.2.2.2.2))
def m209 (n : Nat) : (List Int) → Int → Int → Int → Option ((List Int)) := Nat.rec (fun _ _ _ _ => none) (fun _ ih => m209F ih) n
theorem w209 : ∀ (n d : Nat) (hd : n + 71 ≤ d) (L0 : List En) (v0_ : AV) (a0 : List Int) (a1 : Int) (a2 : Int) (a3 : Int), Okh (sl false v0_ (a0 : List Int) :: L0) (fun S => R NN d 209 [v0_, .int .i64 a1, .int .i64 a2, .int .i64 a3] S) (m209 n a0 a1 a2 a3) (P2 (fun (t : (List Int)) => und) (fun (t : (List Int)) => sl false v0_ t :: L0))
  | 0, _, _, L0, v0_, a0, a1, a2, a3 => q_none
  | n + 1, d, hd, L0, v0_, a0, a1, a2, a3 => by
    have ih := w209 n
    obtain ⟨d, rfl, g⟩ := up (n := n + 71) (d := d) (by omega)
    refine q_to (t209 NN d _ _ _ _) ?_
    rw [show m209 (n + 1) = m209F (m209 n) from rfl]
    unfold b209 m209F
    refine q_loop (I := (fun (s : Int × Int × Int × Bool × Bool × (List Int)) l L => l = [.int .i64 s.1, .int .i64 s.2.1, .int .i64 s.2.2.1, .bool s.2.2.2.1, .bool s.2.2.2.2.1] ∧ L = sl false v0_ (s.2.2.2.2.2 : List Int) :: L0)) 0 ⟨rfl, rfl⟩ ?_ ?_ ?_
    ·rintro s1 _ _ ⟨rfl, rfl⟩
     unfold s209_0 ms209_0
     refine q_p fr <| q_p fr <| q_if (fun h11 => ?_) (fun h11 => ?_)
     ·exact q_s (mg := m240 s1.2.2.2.2.2 s1.1 s1.2.1) (w240 (by omega) _ _ s1.2.2.2.2.2 s1.1 s1.2.1) fun y1 hy1 => q_lret 0 ⟨rfl, rfl⟩
     ·refine q_p fr <| q_if (fun h10 => ?_) (fun h10 => ?_)
      ·exact q_s (mg := m241 s1.2.2.2.2.2 s1.1 s1.2.1) (w241 (by omega) _ _ s1.2.2.2.2.2 s1.1 s1.2.1) fun y2 hy2 => q_lret 0 ⟨rfl, rfl⟩
      ·refine q_cut (I := (fun (s : Int × (List Int)) l L => l = [.int .i64 s.1] ∧ L = sl false v0_ (s.2 : List Int) :: L0)) ?_ ?_ ?_ ?_
       ·refine q_p fr <| q_if (fun h1 => ?_) (fun h1 => ?_)
        ·exact q_s (mg := m242 s1.2.2.2.2.2 s1.1 s1.2.1) (w242 (by omega) _ _ s1.2.2.2.2.2 s1.1 s1.2.1) fun y3 hy3 => q_p fr <| q_norm 0 ⟨rfl, rfl⟩
        ·exact q_norm 0 ⟨rfl, rfl⟩
       ·rintro s3 _ _ ⟨rfl, rfl⟩
        refine q_c0 (fun S hS => argF3 (cv_o 0 rfl) (cv_p rfl) (cv_p rfl) hS fun l0_ l1_ l2_ => w243 (by omega) l0_ s3.2 s1.1 s1.2.1) fun y4 hy4 => q_q fr <| q_q fr <| q_cut (I := (fun (s : Int × Int × (List Int)) l L => l = [.int .i64 s.1, .int .i64 s.2.1] ∧ L = sl false v0_ (s.2.2 : List Int) :: L0)) ?_ ?_ ?_ ?_
        ·refine q_p fr <| q_if (fun h2 => ?_) (fun h2 => ?_)
         ·exact q_s (mg := m244 s3.2 s1.1 s1.2.1) (w244 (by omega) _ _ s3.2 s1.1 s1.2.1) fun y5 hy5 => q_p fr <| q_p fr <| q_p fr <| q_norm 0 ⟨rfl, rfl⟩
         ·exact q_norm 0 ⟨rfl, rfl⟩
        ·rintro s5 _ _ ⟨rfl, rfl⟩
         refine q_cut (I := (fun (s : (List Int)) l L => l = [] ∧ L = sl false v0_ (s : List Int) :: L0)) ?_ ?_ ?_ ?_
         ·refine q_cut (I := (fun (s : Bool) l L => l = [.bool s] ∧ L = sl false v0_ (s5.2.2 : List Int) :: L0)) ?_ ?_ ?_ ?_
          ·refine q_gT (fun h4 => ?_) (fun h4 => ?_)
           ·refine q_gT (fun h3 => ?_) (fun h3 => ?_)
            ·exact q_p fr <| q_norm 0 ⟨rfl, rfl⟩
            ·exact q_norm 0 ⟨rfl, rfl⟩
           ·exact q_norm 0 ⟨rfl, rfl⟩
          ·rintro s8 _ _ ⟨rfl, rfl⟩
           refine q_if (fun h6 => ?_) (fun h6 => ?_)
           ·refine q_s (mg := m245 s5.2.2 s1.1 s1.2.1) (w245 (by omega) _ _ s5.2.2 s1.1 s1.2.1) fun y6 hy6 => q_if (fun h5 => ?_) (fun h5 => ?_)
            ·exact q_lret 0 ⟨rfl, rfl⟩
            ·exact q_norm 0 ⟨rfl, rfl⟩
           ·exact q_norm 0 ⟨rfl, rfl⟩
          ·rintro i3 s8 _ _ ⟨rfl, rfl⟩
           exact q_exit 0 ⟨rfl, rfl⟩
          ·rintro s8 _ _ ⟨rfl, rfl⟩
           exact q_lret 0 ⟨rfl, rfl⟩
         ·rintro s9 _ _ ⟨rfl, rfl⟩
          refine q_cut (I := (fun (s : Int × (List Int)) l L => l = [.int .i64 s.1] ∧ L = sl false v0_ (s.2 : List Int) :: L0)) ?_ ?_ ?_ ?_
          ·refine q_p fr <| q_gT (fun h8 => ?_) (fun h8 => ?_)
           ·refine q_p fr <| q_ixo 0 rfl rfl fun x1 hx1 => q_ldo 0 rfl hx1 rfl <| q_ixo 0 rfl rfl fun x2 hx2 => q_ldo 0 rfl hx2 rfl <| q_c0 (fun S hS => argF2 (cv_p rfl) (cv_p rfl) hS fun l0_ l1_ => w246 (by omega) x1 x2) fun y7 hy7 => q_p fr <| q_if (fun h7 => ?_) (fun h7 => ?_)
            ·exact q_s (mg := m247 s9 s1.1 s1.2.1 s5.1) (w247 (by omega) _ _ s9 s1.1 s1.2.1 s5.1) fun y8 hy8 => q_exit 0 ⟨rfl, rfl⟩
            ·exact q_norm 0 ⟨rfl, rfl⟩
           ·first | refine q_ifF1 ?_ | skip
            exact q_norm 0 ⟨rfl, rfl⟩
          ·rintro s11 _ _ ⟨rfl, rfl⟩
           refine q_s (mg := m248 s11.2 s11.1 s1.2.1 s5.1) (w248 (by omega) _ _ s11.2 s11.1 s1.2.1 s5.1) fun y9 hy9 => q_q fr <| q_q fr <| q_p fr <| q_p fr <| q_p fr <| q_p fr <| q_if (fun h9 => ?_) (fun h9 => ?_)
           ·exact q_p fr <| q_s (mg := (m209 n) y9.2.2 s11.1 y9.1 s3.1) (ih d (by omega) _ _ y9.2.2 s11.1 y9.1 s3.1) fun y10 hy10 => q_p fr <| q_norm 0 ⟨rfl, rfl⟩
           ·exact q_p fr <| q_p fr <| q_s (mg := (m209 n) y9.2.2 (wi .i64 (y9.1 + 1)) s1.2.1 s3.1) (ih d (by omega) _ _ y9.2.2 (wi .i64 (y9.1 + 1)) s1.2.1 s3.1) fun y11 hy11 => q_norm 0 ⟨rfl, rfl⟩
          ·rintro i5 s11 _ _ ⟨rfl, rfl⟩
           refine q_ite (fun _ => ?_) (fun _ => ?_)
           ·exact q_norm 0 ⟨rfl, rfl⟩
           ·exact q_exit 0 ⟨rfl, rfl⟩
          ·rintro s11 _ _ ⟨rfl, rfl⟩
           exact q_lret 0 ⟨rfl, rfl⟩
         ·rintro i4 s9 _ _ ⟨rfl, rfl⟩
          refine q_ite (fun _ => ?_) (fun _ => ?_)
          ·exact q_norm 0 ⟨rfl, rfl⟩
          ·exact q_exit 0 ⟨rfl, rfl⟩
         ·rintro s9 _ _ ⟨rfl, rfl⟩
          exact q_lret 0 ⟨rfl, rfl⟩
        ·rintro i2 s5 _ _ ⟨rfl, rfl⟩
         refine q_ite (fun _ => ?_) (fun _ => ?_)
         ·exact q_norm 0 ⟨rfl, rfl⟩
         ·exact q_exit 0 ⟨rfl, rfl⟩
        ·rintro s5 _ _ ⟨rfl, rfl⟩
         exact q_lret 0 ⟨rfl, rfl⟩
       ·rintro i1 s3 _ _ ⟨rfl, rfl⟩
        refine q_ite (fun _ => ?_) (fun _ => ?_)
        ·exact q_norm 0 ⟨rfl, rfl⟩
        ·exact q_exit 0 ⟨rfl, rfl⟩
       ·rintro s3 _ _ ⟨rfl, rfl⟩
        exact q_lret 0 ⟨rfl, rfl⟩
    ·rintro i6 s12 _ _ ⟨rfl, rfl⟩
     refine q_ite (fun _ => ?_) (fun _ => ?_)
     ·exact q_ret2 0 rfl rfl
     ·exact q_none
    ·rintro s12 _ _ ⟨rfl, rfl⟩
     exact q_ret2 0 rfl rfl
def m145 (a0 : List Int) : Option ((List Int)) :=
 (m210 (wi .u64 (a0.length : Int))).bind fun y1 =>
 (m209 64 a0 0 (a0.length : Int) y1).bind fun y2 =>
 some y2
theorem w145 {d : Nat} (hd : 136 ≤ d) (L0 : List En) (v0_ : AV) (a0 : List Int) : Okh (sl false v0_ (a0 : List Int) :: L0) (fun S => R NN d 145 [v0_] S) (m145 a0) (P2 (fun (t : (List Int)) => und) (fun (t : (List Int)) => sl false v0_ t :: L0)) := by
  obtain ⟨d, rfl, g⟩ := up hd
  refine q_to (t145 NN d _) ?_
  unfold b145 m145
  exact q_leno 0 rfl <| q_p (fun _ => cvt3_208 _ _) <| q_c0 (fun S hS => argF1 (cv_p rfl) hS fun l0_ => w210 (by omega) (wi .u64 (a0.length : Int))) fun y1 hy1 => q_s (mg := m209 64 a0 0 (a0.length : Int) y1) (w209 64 _ (by omega) _ _ a0 0 (a0.length : Int) y1) fun y2 hy2 => q_ret2 0 rfl rfl
def ms239_0 (lo n : Int) (s : Int × Int × List Int) : Option (LO (Int × Int × List Int)) :=
  bif decide (s.2.1 < n - lo) then
    ((getV s.2.2 lo n s.2.1).bind fun x1 => (getV s.2.2 lo n (wi .i64 (s.2.1 - 1))).bind fun x2 =>
      bif x1 != x2 then (getV s.2.2 lo n s.2.1).bind fun x3 => (getI s.2.2 s.1).bind fun _ => some (LO.norm (wi .i64 (s.1 + 1), s.2.2.set s.1.toNat x3))
      else some (LO.norm (s.1, s.2.2))).bind (contO (fun s' => some (LO.norm (s'.1, wi .i64 (s.2.1 + 1), s'.2))) (fun i s' => some (LO.exit i (s'.1, s.2.1, s'.2))) (fun s' => some (LO.ret (s'.1, s.2.1, s'.2))))
  else some (LO.exit 2 s)
def ms239_1 (xs : List Int) (s : Option (List Int) × Int) : Option (LO (Option (List Int) × Int)) :=
  match s.1 with
  | some _ => none
  | none =>
    bif decide (s.2 < (xs.length : Int)) then
      (getI xs s.2).bind fun x1 => (getI xs (wi .i64 (s.2 - 1))).bind fun x2 =>
      bif x1 == x2 then
        (viO xs.length s.2 xs.length).bind fun _ => (loopO (ms239_0 s.2 xs.length) NN (s.2, 1, xs)).bind (contO (fun _ => none) (fun i t => if i = 2 then (viO t.2.2.length t.1 t.2.2.length).bind fun _ => (viO (clr t.2.2 t.1).length 0 t.1).bind fun _ => some (LO.ret (some ((clr t.2.2 t.1).take t.1.toNat), t.1)) else none) (fun _ => none))
      else some (LO.norm (none, wi .i64 (s.2 + 1)))
    else some (LO.exit 0 (none, s.2))
def m239 (xs : List Int) : Option (List Int) :=
  bif decide ((xs.length : Int) < 2) then some xs
  else (loopO (ms239_1 xs) NN (none, 1)).bind (contO (fun _ => none) (fun i s => if i = 0 then (match s.1 with | none => some xs | some _ => none) else none) (fun s => s.1))
theorem und239 : Tryz.prog.underlying 22 = some (.slice 2) := by kernel_rfl
theorem zer239 : zeroA Tryz.prog 2 = some (Enc.cs false (0 : Int)) := by kernel_rfl
theorem w239 {d : Nat} (hd : 1 ≤ d) (L0 : List En) (v0_ : AV) (a0 : List Int) : Okh (sl false v0_ a0 :: L0) (fun S => R NN d 239 [v0_] S) (m239 a0) (P2 (fun (t : List Int) => cpv v0_ t.length) (fun (t : List Int) => cl v0_ t :: L0)) := by
  obtain ⟨d, rfl, g⟩ := up hd
  rw [show (fun S => R NN (d + 1) 239 [v0_] S) = fun S => b239 (cfg NN) (R NN d) (v0_) S from funext fun S => t239 NN d v0_ S]
  have hwhole : Okh (sl false v0_ a0 :: L0) (fun S => some (v0_, S)) (some a0) (P2 (fun (t : List Int) => cpv v0_ t.length) (fun (t : List Int) => cl v0_ t :: L0)) := fun S hS t ht => by
    injection ht with ht; subst ht
    refine ⟨_, rfl, ?_, ?_⟩
    · rcases hS.get (k := 0) rfl with ⟨rfl, rfl⟩ | ⟨b, fl, pl, rfl, _, _⟩
      · rfl
      · simp [cpv]
    · have h := q_cl (L0 := L0) (v := v0_) (xs := a0) (k := fun S => some S) (m := some ()) (P := fun _ S' => HP S' (cl v0_ a0 :: L0)) (fun S hS t ht => ⟨S, rfl, hS⟩) S hS () rfl
      obtain ⟨S', h1, h2⟩ := h
      injection h1 with h1; subst h1; exact h2
  unfold b239 m239
  refine q_leno 0 rfl ?_
  refine q_p (fun _ => rfl) ?_
  refine q_if (fun h1 => ?_) (fun h1 => ?_)
  · exact hwhole
  · refine q_loop (I := (fun (s : Option (List Int) × Int) l L => match s.1 with | none => l = [.rsl false true [], .int .i64 s.2] ∧ L = sl false v0_ a0 :: L0 | some ys => l = [cpv v0_ ys.length, .int .i64 s.2] ∧ L = cl v0_ ys :: L0)) 0 ⟨rfl, rfl⟩ ?_ ?_ ?_
    · rintro ⟨s1, k⟩ l L' hI
      cases s1 with
      | some ys => exact q_none
      | none =>
        obtain ⟨rfl, rfl⟩ := hI
        unfold s239_1 ms239_1
        refine q_leno 0 rfl ?_
        refine q_p (fun _ => rfl) ?_
        refine q_if (fun h2 => ?_) (fun h2 => ?_)
        · refine q_ixo 0 rfl rfl fun x1 hx1 => ?_
          refine q_ldo 0 rfl hx1 rfl ?_
          refine q_p (fun _ => rfl) ?_
          refine q_ixo 0 rfl rfl fun x2 hx2 => ?_
          refine q_ldo 0 rfl hx2 rfl ?_
          refine q_p (fun _ => rfl) ?_
          refine q_if (fun h3 => ?_) (fun h3 => ?_)
          · refine q_vi 0 rfl rfl (.inl rfl) (.inr ⟨rfl, rfl⟩) fun g1 g2 g3 => ?_
            refine q_loop (I := (fun (s : Int × Int × List Int) l L => l = [.int .i64 s.1, .int .i64 s.2.1] ∧ L = sl false v0_ s.2.2 :: L0 ∧ s.2.2.length = a0.length)) 0 ⟨rfl, rfl, rfl⟩ ?_ ?_ ?_
            · rintro ⟨i, k2, ys⟩ _ _ ⟨rfl, rfl, hl⟩
              unfold s239_0 ms239_0
              refine q_vlen 0 rfl g1 g2 (by dsimp only at hl ⊢; omega) ?_
              refine q_p (fun _ => rfl) ?_
              refine q_if (fun h4 => ?_) (fun h4 => ?_)
              · refine q_cut (I := (fun (s : Int × List Int) l L => l = [.int .i64 s.1] ∧ L = sl false v0_ s.2 :: L0 ∧ s.2.length = a0.length)) ?_ ?_ ?_ ?_
                · refine q_vix 0 rfl rfl g1 g2 (by dsimp only at hl ⊢; omega) fun x3 hx3 => ?_
                  refine q_ldo 0 rfl hx3 rfl ?_
                  refine q_p (fun _ => rfl) ?_
                  refine q_vix 0 rfl rfl g1 g2 (by dsimp only at hl ⊢; omega) fun x4 hx4 => ?_
                  refine q_ldo 0 rfl hx4 rfl ?_
                  refine q_p (fun _ => rfl) ?_
                  refine q_if (fun h5 => ?_) (fun h5 => ?_)
                  · refine q_vix 0 rfl rfl g1 g2 (by dsimp only at hl ⊢; omega) fun x5 hx5 => ?_
                    refine q_ldo 0 rfl hx5 rfl ?_
                    refine q_ixo 0 rfl rfl fun x6 hx6 => ?_
                    refine q_stoe 0 rfl rfl hx6 rfl (by decide) ?_
                    refine q_p (fun _ => rfl) ?_
                    exact q_norm 0 ⟨rfl, rfl, by simpa using hl⟩
                  · exact q_norm 0 ⟨rfl, rfl, hl⟩
                · rintro ⟨i', ys'⟩ _ _ ⟨rfl, rfl, hl'⟩
                  refine q_p (fun _ => rfl) ?_
                  exact q_norm 0 ⟨rfl, rfl, hl'⟩
                · rintro j ⟨i', ys'⟩ _ _ ⟨rfl, rfl, hl'⟩
                  exact q_exit 0 ⟨rfl, rfl, hl'⟩
                · rintro ⟨i', ys'⟩ _ _ ⟨rfl, rfl, hl'⟩
                  exact q_lret 0 ⟨rfl, rfl, hl'⟩
              · exact q_exit 0 ⟨rfl, rfl, hl⟩
            · rintro j ⟨i, k2, ys⟩ _ _ ⟨rfl, rfl, hl⟩
              refine q_ite (fun _ => ?_) (fun hj => ?_)
              · refine q_vi 0 rfl rfl (.inl rfl) (.inr ⟨rfl, rfl⟩) fun g4 g5 g6 => ?_
                refine q_vclr (te := 2) (z := (0 : Int)) 0 rfl und239 zer239 g4 g5 g6 ?_
                refine q_vi (xs := clr ys i) (i := 0) 0 rfl rfl (.inr ⟨rfl, rfl⟩) (.inl rfl) fun g7 g8 g9 => ?_
                have e1 : ((clr ys i).take i.toNat).length = i.toNat := by rw [List.length_take]; omega
                refine q_cut0 (ys := (clr ys i).take i.toNat) (by rw [e1]; rfl) ?_
                refine q_lret 0 ⟨?_, rfl⟩
                rw [e1]
                show [viA v0_ 0 i.toNat, _] = _
                rw [viA0]; rfl
              · exact q_none
            · rintro ⟨i, k2, ys⟩ _ _ ⟨rfl, rfl, hl⟩
              exact q_none
          · refine q_p (fun _ => rfl) ?_
            exact q_norm 0 ⟨rfl, rfl⟩
        · exact q_exit 0 ⟨rfl, rfl⟩
    · rintro i ⟨s1, k⟩ l L' hI
      refine q_ite (fun _ => ?_) (fun _ => ?_)
      · cases s1 with
        | some ys => exact q_none
        | none => obtain ⟨rfl, rfl⟩ := hI; exact hwhole
      · exact q_none
    · rintro ⟨s1, k⟩ l L' hI
      cases s1 with
      | none => exact q_none
      | some ys =>
        obtain ⟨rfl, rfl⟩ := hI
        exact q_ret2 0 rfl rfl
def ms208_0 (a0 : List TMsg) (a1 : Int) (a2 : Int) (a3 : Int) (a4 : Int) (s1 : Int × (List Int)) : Option (LO (Int × (List Int))) :=
 bif decide (s1.1 < (a0.length : Int)) then
  (
   (getI a0 s1.1).bind fun x1 =>
   (
    bif x1.Kind == a1 then
     bif x1.View == a2 then
      bif x1.Slot == a3 then
       some (LO.norm (x1.Value == a4))
      else
       some (LO.norm false)
     else
      some (LO.norm false)
    else
     some (LO.norm false)).bind (contO (fun s4 =>
    bif s4 then
     (appO 8 s1.2 [x1.From]).bind fun z1 =>
     some (LO.norm z1)
    else
     some (LO.norm s1.2)) (fun i1 s4 =>
    if i1 = 1 then
     some (LO.norm s1.2)
    else
     some (LO.exit i1 s1.2)) (fun s4 =>
    some (LO.ret s1.2)))).bind (contO (fun s5 =>
   some (LO.norm (wi .i64 (s1.1 + 1), s5))) (fun i2 s5 =>
   some (LO.exit i2 (s1.1, s5))) (fun s5 =>
   some (LO.ret (s1.1, s5))))
 else
  some (LO.exit 0 (s1.1, s1.2))
def m208 (a0 : List TMsg) (a1 : Int) (a2 : Int) (a3 : Int) (a4 : Int) : Option ((List Int)) :=
 (loopO (ms208_0 a0 a1 a2 a3 a4) NN (0, [])).bind (contO (fun _ => none) (fun i3 s6 =>
  if i3 = 0 then
   (m145 s6.2).bind fun y1 =>
   (m239 y1).bind fun y2 =>
   some y2
  else
   none) (fun s6 =>
  some []))
theorem w208 {d : Nat} (hd : 137 ≤ d) (k0 : Bool) (a0 : List TMsg) (a1 : Int) (a2 : Int) (a3 : Int) (a4 : Int) : Fit (R NN d 208 [.rsl k0 false (a0.map (Enc.cs k0)), .int .i64 a1, .int .i64 a2, .int .i64 a3, .int .i64 a4] []) (m208 a0 a1 a2 a3 a4) (P0 (fun (t : List Int) => AV.rsl false false (t.map (Enc.cs false)))) := by
  obtain ⟨d, rfl, g⟩ := up hd
  refine q_in (t208 NN d _ _ _ _ _) ?_
  unfold b208 m208
  refine q_e (fun _ => bs22_0 _) <| q_len <| q_nil (α := Int) false <| q_loop (I := (fun (s : Int × (List Int)) l L => ∃ (v1 : AV), l = [v1, .int .i64 s.1] ∧ L = [sl false v1 (s.2 : List Int)])) 0 ⟨(.rsl false true []), rfl, rfl⟩ ?_ ?_ ?_
  ·rintro s1 _ _ ⟨v1, rfl, rfl⟩
   unfold s208_0 ms208_0
   refine q_p fr <| q_if (fun h5 => ?_) (fun h5 => ?_)
   ·refine q_cut (I := (fun (s : (List Int)) l L => ∃ (v2 : AV), l = [v2] ∧ L = [sl false v2 (s : List Int)])) ?_ ?_ ?_ ?_
    ·refine q_ix rfl fun x1 hx1 => q_p fr <| q_new rfl fun b1 => q_st 0 rfl rfl rfl (by decide) rfl <| q_cut (I := (fun (s : Bool) l L => l = [.bool s] ∧ L = [bx b1 [.int .i64 x1.Kind, .int .i64 x1.View, .int .i64 x1.From, .int .i64 x1.Slot, .int .i64 x1.Value, .rsl k0 false (x1.Certs.map (Enc.cs k0)), .rsl k0 false (x1.Refs.map (Enc.cs k0))], sl false v1 (s1.2 : List Int)])) ?_ ?_ ?_ ?_
     ·refine q_p fr <| q_ld 0 rfl rfl <| q_p fr <| q_gT (fun h3 => ?_) (fun h3 => ?_)
      ·refine q_p fr <| q_ld 0 rfl rfl <| q_p fr <| q_gT (fun h2 => ?_) (fun h2 => ?_)
       ·refine q_p fr <| q_ld 0 rfl rfl <| q_p fr <| q_gT (fun h1 => ?_) (fun h1 => ?_)
        ·exact q_p fr <| q_ld 0 rfl rfl <| q_p fr <| q_norm 0 ⟨rfl, rfl⟩
        ·exact q_norm 0 ⟨rfl, rfl⟩
       ·exact q_norm 0 ⟨rfl, rfl⟩
      ·exact q_norm 0 ⟨rfl, rfl⟩
     ·rintro s4 _ _ ⟨rfl, rfl⟩
      refine q_if (fun h4 => ?_) (fun h4 => ?_)
      ·exact q_p fr <| q_ld 0 rfl rfl <| q_e (fun _ => bs22_1 rfl) <| q_app (ys := [x1.From]) 1 rfl rfl (fun _ _ => rfl) fun v2 z1 hz1 => q_norm 1 ⟨v2, rfl, rfl⟩
      ·exact q_norm 1 ⟨v1, rfl, rfl⟩
     ·rintro i1 s4 _ _ ⟨rfl, rfl⟩
      refine q_ite (fun _ => ?_) (fun _ => ?_)
      ·exact q_norm 1 ⟨v1, rfl, rfl⟩
      ·exact q_exit 1 ⟨v1, rfl, rfl⟩
     ·rintro s4 _ _ ⟨rfl, rfl⟩
      exact q_lret 1 ⟨v1, rfl, rfl⟩
    ·rintro s5 _ _ ⟨v3, rfl, rfl⟩
     exact q_p fr <| q_norm 0 ⟨v3, rfl, rfl⟩
    ·rintro i2 s5 _ _ ⟨v4, rfl, rfl⟩
     exact q_exit 0 ⟨v4, rfl, rfl⟩
    ·rintro s5 _ _ ⟨v5, rfl, rfl⟩
     exact q_lret 0 ⟨v5, rfl, rfl⟩
   ·exact q_exit 0 ⟨v1, rfl, rfl⟩
  ·rintro i3 s6 _ _ ⟨v6, rfl, rfl⟩
   refine q_ite (fun _ => ?_) (fun _ => ?_)
   ·exact q_s (mg := m145 s6.2) (w145 (by omega) _ _ s6.2) fun y1 hy1 => q_s (mg := m239 y1) (w239 (by omega) _ _ y1) fun y2 hy2 => q_ret (cv_cl 0 rfl) rfl
   ·exact q_none
  ·rintro s6 _ _ ⟨v7, rfl, rfl⟩
   exact q_ret (cv_r (α := Int) (l0 := false) (fl := true) (xs := [])) rfl
def m144 (a0 : Int) (a1 : List TMsg) (a2 : Int) (a3 : Int) (a4 : Int) (a5 : Int) : Option (Bool) :=
 (m208 a1 a2 a3 a4 a5).bind fun y1 =>
 some (decide ((y1.length : Int) ≥ (wi .i64 ((wi .i64 (2 * a0)) + 1))))
theorem w144 {d : Nat} (hd : 138 ≤ d) (a0 : Int) (k1 : Bool) (a1 : List TMsg) (a2 : Int) (a3 : Int) (a4 : Int) (a5 : Int) : Fit (R NN d 144 [.int .i64 a0, .rsl k1 false (a1.map (Enc.cs k1)), .int .i64 a2, .int .i64 a3, .int .i64 a4, .int .i64 a5] []) (m144 a0 a1 a2 a3 a4 a5) (P0 (fun (t : Bool) => AV.bool t)) := by
  obtain ⟨d, rfl, g⟩ := up hd
  refine q_in (t144 NN d _ _ _ _ _ _) ?_
  unfold b144 m144
  exact q_c0 (fun S hS => argF5 cv_r (cv_p rfl) (cv_p rfl) (cv_p rfl) (cv_p rfl) hS fun l0_ l1_ l2_ l3_ l4_ => w208 (by omega) l0_ a1 a2 a3 a4 a5) fun y1 hy1 => q_len <| q_p fr <| q_p fr <| q_p fr <| q_ret (cv_p rfl) rfl
def ms77_0 (a0 : Int) (a1 : List TMsg) (a2 : Int) (s1 : Int × (List Int)) : Option (LO (Int × (List Int))) :=
 bif decide (s1.1 < (a1.length : Int)) then
  (
   (getI a1 s1.1).bind fun x1 =>
   (
    bif x1.Kind == 3 then
     bif x1.Slot == a2 then
      (m92 s1.2 x1.Value).bind fun y1 =>
      bif !y1 then
       (m144 a0 a1 3 x1.View a2 x1.Value).bind fun y2 =>
       some (LO.norm y2)
      else
       some (LO.norm false)
     else
      some (LO.norm false)
    else
     some (LO.norm false)).bind (contO (fun s4 =>
    bif s4 then
     (appO 8 s1.2 [x1.Value]).bind fun z1 =>
     some (LO.norm z1)
    else
     some (LO.norm s1.2)) (fun i1 s4 =>
    if i1 = 1 then
     some (LO.norm s1.2)
    else
     some (LO.exit i1 s1.2)) (fun s4 =>
    some (LO.ret s1.2)))).bind (contO (fun s5 =>
   some (LO.norm (wi .i64 (s1.1 + 1), s5))) (fun i2 s5 =>
   some (LO.exit i2 (s1.1, s5))) (fun s5 =>
   some (LO.ret (s1.1, s5))))
 else
  some (LO.exit 0 (s1.1, s1.2))
def m77 (a0 : Int) (a1 : List TMsg) (a2 : Int) : Option ((List Int)) :=
 (loopO (ms77_0 a0 a1 a2) NN (0, [])).bind (contO (fun _ => none) (fun i3 s6 =>
  if i3 = 0 then
   (m145 s6.2).bind fun y3 =>
   some y3
  else
   none) (fun s6 =>
  some []))
theorem w77 {d : Nat} (hd : 139 ≤ d) (a0 : Int) (k1 : Bool) (a1 : List TMsg) (a2 : Int) : Fit (R NN d 77 [.int .i64 a0, .rsl k1 false (a1.map (Enc.cs k1)), .int .i64 a2] []) (m77 a0 a1 a2) (P0 (fun (t : List Int) => AV.rsl false false (t.map (Enc.cs false)))) := by
  obtain ⟨d, rfl, g⟩ := up hd
  refine q_in (t77 NN d _ _ _) ?_
  unfold b77 m77
  refine q_e (fun _ => bs22_0 _) <| q_len <| q_nil (α := Int) false <| q_loop (I := (fun (s : Int × (List Int)) l L => ∃ (v1 : AV), l = [v1, .int .i64 s.1] ∧ L = [sl false v1 (s.2 : List Int)])) 0 ⟨(.rsl false true []), rfl, rfl⟩ ?_ ?_ ?_
  ·rintro s1 _ _ ⟨v1, rfl, rfl⟩
   unfold s77_0 ms77_0
   refine q_p fr <| q_if (fun h5 => ?_) (fun h5 => ?_)
   ·refine q_cut (I := (fun (s : (List Int)) l L => ∃ (v2 : AV), l = [v2] ∧ L = [sl false v2 (s : List Int)])) ?_ ?_ ?_ ?_
    ·refine q_ix rfl fun x1 hx1 => q_p fr <| q_new rfl fun b1 => q_st 0 rfl rfl rfl (by decide) rfl <| q_cut (I := (fun (s : Bool) l L => l = [.bool s] ∧ L = [bx b1 [.int .i64 x1.Kind, .int .i64 x1.View, .int .i64 x1.From, .int .i64 x1.Slot, .int .i64 x1.Value, .rsl k1 false (x1.Certs.map (Enc.cs k1)), .rsl k1 false (x1.Refs.map (Enc.cs k1))], sl false v1 (s1.2 : List Int)])) ?_ ?_ ?_ ?_
     ·refine q_p fr <| q_ld 0 rfl rfl <| q_p fr <| q_gT (fun h3 => ?_) (fun h3 => ?_)
      ·refine q_p fr <| q_ld 0 rfl rfl <| q_p fr <| q_gT (fun h2 => ?_) (fun h2 => ?_)
       ·refine q_p fr <| q_ld 0 rfl rfl <| q_c0 (fun S hS => argF2 (cv_o 1 rfl) (cv_p rfl) hS fun l0_ l1_ => w92 (by omega) l0_ s1.2 x1.Value) fun y1 hy1 => q_p fr <| q_gT (fun h1 => ?_) (fun h1 => ?_)
        ·exact q_p fr <| q_ld 0 rfl rfl <| q_p fr <| q_ld 0 rfl rfl <| q_c0 (fun S hS => argF6 (cv_p rfl) cv_r (cv_p rfl) (cv_p rfl) (cv_p rfl) (cv_p rfl) hS fun l0_ l1_ l2_ l3_ l4_ l5_ => w144 (by omega) a0 l1_ a1 3 x1.View a2 x1.Value) fun y2 hy2 => q_norm 0 ⟨rfl, rfl⟩
        ·exact q_norm 0 ⟨rfl, rfl⟩
       ·exact q_norm 0 ⟨rfl, rfl⟩
      ·exact q_norm 0 ⟨rfl, rfl⟩
     ·rintro s4 _ _ ⟨rfl, rfl⟩
      refine q_if (fun h4 => ?_) (fun h4 => ?_)
      ·exact q_p fr <| q_ld 0 rfl rfl <| q_e (fun _ => bs22_1 rfl) <| q_app (ys := [x1.Value]) 1 rfl rfl (fun _ _ => rfl) fun v2 z1 hz1 => q_norm 1 ⟨v2, rfl, rfl⟩
      ·exact q_norm 1 ⟨v1, rfl, rfl⟩
     ·rintro i1 s4 _ _ ⟨rfl, rfl⟩
      refine q_ite (fun _ => ?_) (fun _ => ?_)
      ·exact q_norm 1 ⟨v1, rfl, rfl⟩
      ·exact q_exit 1 ⟨v1, rfl, rfl⟩
     ·rintro s4 _ _ ⟨rfl, rfl⟩
      exact q_lret 1 ⟨v1, rfl, rfl⟩
    ·rintro s5 _ _ ⟨v3, rfl, rfl⟩
     exact q_p fr <| q_norm 0 ⟨v3, rfl, rfl⟩
    ·rintro i2 s5 _ _ ⟨v4, rfl, rfl⟩
     exact q_exit 0 ⟨v4, rfl, rfl⟩
    ·rintro s5 _ _ ⟨v5, rfl, rfl⟩
     exact q_lret 0 ⟨v5, rfl, rfl⟩
   ·exact q_exit 0 ⟨v1, rfl, rfl⟩
  ·rintro i3 s6 _ _ ⟨v6, rfl, rfl⟩
   refine q_ite (fun _ => ?_) (fun _ => ?_)
   ·exact q_s (mg := m145 s6.2) (w145 (by omega) _ _ s6.2) fun y3 hy3 => q_ret (cv_o 0 rfl) rfl
   ·exact q_none
  ·rintro s6 _ _ ⟨v7, rfl, rfl⟩
   exact q_ret (cv_r (α := Int) (l0 := false) (fl := true) (xs := [])) rfl
def ms68_0 (a0 : Int) (a1 : List TMsg) (s1 : Int × (List Int)) : Option (LO (Int × (List Int))) :=
 bif decide (s1.1 ≤ 30) then
  (m77 a0 a1 s1.1).bind fun y1 =>
  bif (y1.length : Int) == 0 then
   some (LO.exit 0 (s1.1, s1.2))
  else
   (getI y1 0).bind fun x1 =>
   (appO 8 s1.2 [x1]).bind fun z1 =>
   some (LO.norm (wi .i64 (s1.1 + 1), z1))
 else
  some (LO.exit 0 (s1.1, s1.2))
def m68 (a0 : Int) (a1 : List TMsg) : Option ((List Int)) :=
 (loopO (ms68_0 a0 a1) NN (1, [])).bind (contO (fun _ => none) (fun i1 s2 =>
  if i1 = 0 then
   some s2.2
  else
   none) (fun s2 =>
  some []))
theorem w68 {d : Nat} (hd : 140 ≤ d) (a0 : Int) (k1 : Bool) (a1 : List TMsg) : Fit (R NN d 68 [.int .i64 a0, .rsl k1 false (a1.map (Enc.cs k1))] []) (m68 a0 a1) (P0 (fun (t : List Int) => AV.rsl false false (t.map (Enc.cs false)))) := by
  obtain ⟨d, rfl, g⟩ := up hd
  refine q_in (t68 NN d _ _) ?_
  unfold b68 m68
  refine q_e (fun _ => bs22_0 _) <| q_nil (α := Int) false <| q_loop (I := (fun (s : Int × (List Int)) l L => ∃ (v1 : AV), l = [v1, .int .i64 s.1] ∧ L = [sl false v1 (s.2 : List Int)])) 0 ⟨(.rsl false true []), rfl, rfl⟩ ?_ ?_ ?_
  ·rintro s1 _ _ ⟨v1, rfl, rfl⟩
   unfold s68_0 ms68_0
   refine q_p fr <| q_if (fun h2 => ?_) (fun h2 => ?_)
   ·refine q_c0 (fun S hS => argF3 (cv_p rfl) cv_r (cv_p rfl) hS fun l0_ l1_ l2_ => w77 (by omega) a0 l1_ a1 s1.1) fun y1 hy1 => q_len <| q_p fr <| q_if (fun h1 => ?_) (fun h1 => ?_)
    ·exact q_exit 0 ⟨v1, rfl, rfl⟩
    ·exact q_ix rfl fun x1 hx1 => q_p fr <| q_e (fun _ => bs22_1 rfl) <| q_app (ys := [x1]) 0 rfl rfl (fun _ _ => rfl) fun v2 z1 hz1 => q_p fr <| q_norm 0 ⟨v2, rfl, rfl⟩
   ·exact q_exit 0 ⟨v1, rfl, rfl⟩
  ·rintro i1 s2 _ _ ⟨v3, rfl, rfl⟩
   refine q_ite (fun _ => ?_) (fun _ => ?_)
   ·exact q_ret (cv_o 0 rfl) rfl
   ·exact q_none
  ·rintro s2 _ _ ⟨v4, rfl, rfl⟩
   exact q_ret (cv_r (α := Int) (l0 := false) (fl := true) (xs := [])) rfl
def m150 (a0 : List TMsg) (a1 : Int) (a2 : Int) : Option (TMsg × Bool) :=
 bif !(m132 a1 0 (wi .i64 ((a0.length : Int) - 1))) then
  some ((⟨0, 0, 0, 0, 0, [], []⟩ : TMsg), false)
 else
  (getI a0 a1).bind fun x1 =>
  bif x1.Kind == a2 then
   some (x1, decide (x1.View > 0))
  else
   some (x1, false)
theorem w150 {d : Nat} (hd : 2 ≤ d) (L0 : List En) (k0 : Bool) (f0_ : Bool) (a0 : List TMsg) (a1 : Int) (a2 : Int) : Okh (L0) (fun S => R NN d 150 [.rsl k0 f0_ (a0.map (Enc.cs k0)), .int .i64 a1, .int .i64 a2] S) (m150 a0 a1 a2) (P3 (fun (x : Bool × Bool × Bool × Bool) (t : TMsg × Bool) => AV.tup [AV.agg [.int .i64 t.1.Kind, .int .i64 t.1.View, .int .i64 t.1.From, .int .i64 t.1.Slot, .int .i64 t.1.Value, .rsl x.1 x.2.1 (t.1.Certs.map (Enc.cs x.1)), .rsl x.2.2.1 x.2.2.2 (t.1.Refs.map (Enc.cs x.2.2.1))], AV.bool t.2]) (fun (_ : TMsg × Bool) => L0)) := by
  obtain ⟨d, rfl, g⟩ := up hd
  refine q_to (t150 NN d _ _ _) ?_
  unfold b150 m150
  refine q_new rfl fun b1 => q_len <| q_p fr <| q_c0t (fun S hS => argF3 (cv_p rfl) (cv_p rfl) (cv_p rfl) hS fun l0_ l1_ l2_ => w132 (by omega) a1 0 (wi .i64 ((a0.length : Int) - 1))) <| q_p fr <| q_if (fun h2 => ?_) (fun h2 => ?_)
  ·exact q_p (fun _ => bd103 rfl) <| q_st 0 rfl rfl rfl (by decide) rfl <| q_retm3 (false, true, false, true) 1 (fun S hS => res2_of (hS.lda 0 rfl rfl) rfl) rfl rfl
  ·refine q_ix rfl fun x1 hx1 => q_p fr <| q_new rfl fun b2 => q_st 0 rfl rfl rfl (by decide) rfl <| q_lda 0 rfl rfl rfl <| q_p fr <| q_ld 0 rfl rfl <| q_p fr <| q_gT (fun h1 => ?_) (fun h1 => ?_)
   ·exact q_p fr <| q_ld 0 rfl rfl <| q_p fr <| q_st 1 rfl rfl rfl (by decide) rfl <| q_ap (fun S hS => (and_t (hS.ap 0 1 rfl rfl (by decide)) rfl)) <| q_retm3 (k0, false, k0, false) 2 (fun S hS => res2_of (hS.lda 1 rfl rfl) rfl) rfl rfl
   ·exact q_st 1 rfl rfl rfl (by decide) rfl <| q_ap (fun S hS => (and_t rfl rfl)) <| q_retm3 (k0, false, k0, false) 2 (fun S hS => res2_of (hS.lda 1 rfl rfl) rfl) rfl rfl
def m153 (a0 : Int) (a1 : List TMsg) (a2 : TCert) : Option (Bool) :=
 (
  bif (m192 a2.Slot) then
   bif (m131 a2.View) then
    bif (m193 a2.Value) then
     (m144 a0 a1 2 a2.View a2.Slot a2.Value).bind fun y1 =>
     some (LO.norm y1)
    else
     some (LO.norm false)
   else
    some (LO.norm false)
  else
   some (LO.norm false)).bind (contO (fun s2 =>
  some s2) (fun i1 s2 =>
  none) (fun s2 =>
  some s2))
theorem w153 {d : Nat} (hd : 139 ≤ d) (a0 : Int) (k1 : Bool) (a1 : List TMsg) (k2 : Bool) (a2 : TCert) : Fit (R NN d 153 [.int .i64 a0, .rsl k1 false (a1.map (Enc.cs k1)), .agg (Enc.cs k2 a2)] []) (m153 a0 a1 a2) (P0 (fun (t : Bool) => AV.bool t)) := by
  obtain ⟨d, rfl, g⟩ := up hd
  refine q_in (t153 NN d _ _ _) ?_
  unfold b153 m153
  refine q_box (n := 3) rfl rfl (by decide) fun b1 => q_cut (I := (fun (s : Bool) l L => l = [.bool s] ∧ L = [bx b1 [.int .i64 a2.Slot, .int .i64 a2.View, .int .i64 a2.Value]])) ?_ ?_ ?_ ?_
  ·refine q_p fr <| q_ld 0 rfl rfl <| q_c0t (fun S hS => argF1 (cv_p rfl) hS fun l0_ => w192 (by omega) a2.Slot) <| q_gT (fun h3 => ?_) (fun h3 => ?_)
   ·refine q_p fr <| q_ld 0 rfl rfl <| q_c0t (fun S hS => argF1 (cv_p rfl) hS fun l0_ => w131 (by omega) a2.View) <| q_gT (fun h2 => ?_) (fun h2 => ?_)
    ·refine q_p fr <| q_ld 0 rfl rfl <| q_c0t (fun S hS => argF1 (cv_p rfl) hS fun l0_ => w193 (by omega) a2.Value) <| q_gT (fun h1 => ?_) (fun h1 => ?_)
     ·exact q_p fr <| q_ld 0 rfl rfl <| q_p fr <| q_ld 0 rfl rfl <| q_p fr <| q_ld 0 rfl rfl <| q_c0 (fun S hS => argF6 (cv_p rfl) cv_r (cv_p rfl) (cv_p rfl) (cv_p rfl) (cv_p rfl) hS fun l0_ l1_ l2_ l3_ l4_ l5_ => w144 (by omega) a0 l1_ a1 2 a2.View a2.Slot a2.Value) fun y1 hy1 => q_norm 0 ⟨rfl, rfl⟩
     ·exact q_norm 0 ⟨rfl, rfl⟩
    ·exact q_norm 0 ⟨rfl, rfl⟩
   ·exact q_norm 0 ⟨rfl, rfl⟩
  ·rintro s2 _ _ ⟨rfl, rfl⟩
   exact q_ret (cv_p rfl) rfl
  ·rintro i1 s2 _ _ ⟨rfl, rfl⟩
   exact q_none
  ·rintro s2 _ _ ⟨rfl, rfl⟩
   exact q_ret (cv_p rfl) rfl
def m152 (a0 : TCert) (a1 : Int) (a2 : List TMsg) : Option (Bool) :=
 (m153 a1 a2 a0).bind fun y1 =>
 some (!y1)
theorem w152 {d : Nat} (hd : 140 ≤ d) (k0 : Bool) (a0 : TCert) (k1 : Bool) (a1 : Int) (k2 : Bool) (a2 : List TMsg) : Fit (R NN d 152 [.agg (Enc.cs k0 a0), .rp k1 (Enc.cs k1 a1), .rp k2 (Enc.cs k2 a2)] []) (m152 a0 a1 a2) (P0 (fun (t : Bool) => AV.bool t)) := by
  obtain ⟨d, rfl, g⟩ := up hd
  refine q_in (t152 NN d _ _ _) ?_
  unfold b152 m152
  exact q_box (n := 3) rfl rfl (by decide) fun b1 => q_p fr <| q_p fr <| q_lda 0 rfl rfl rfl <| q_c0 (fun S hS => argF3 (cv_p rfl) cv_r (cv_a (cvs_e (l0 := false) (x := a0))) hS fun l0_ l1_ l2_ => w153 (by omega) a1 l1_ a2 l2_ a0) fun y1 hy1 => q_p fr <| q_ret (cv_p rfl) rfl
def m83 (a0 : Int) (a1 : List TMsg) (a2 : Int) : Option (Bool) :=
 (m150 a1 a2 4).bind fun y1 =>
 bif y1.2 then
  (m151 y1.1.Certs (fun x0_ => m152 x0_ a0 a1)).bind fun y2 =>
  some (!y2)
 else
  some false
theorem w83 {d : Nat} (hd : 143 ≤ d) (a0 : Int) (k1 : Bool) (a1 : List TMsg) (a2 : Int) : Fit (R NN d 83 [.int .i64 a0, .rsl k1 false (a1.map (Enc.cs k1)), .int .i64 a2] []) (m83 a0 a1 a2) (P0 (fun (t : Bool) => AV.bool t)) := by
  obtain ⟨d, rfl, g⟩ := up hd
  refine q_in (t83 NN d _ _ _) ?_
  unfold b83 m83
  refine q_box (n := 1) rfl rfl (by decide) fun b1 => q_box (n := 1) rfl rfl (by decide) fun b2 => q_ld 0 rfl rfl <| q_s3 (mg := m150 a1 a2 4) (w150 (by omega) _ k1 _ a1 a2 4) fun y1 hy1 x1 => q_q fr <| q_q fr <| q_new rfl fun b3 => q_st 0 rfl rfl rfl (by decide) rfl <| q_gT (fun h1 => ?_) (fun h1 => ?_)
  ·exact q_p fr <| q_ld 0 rfl rfl <| q_c0 (fun S hS => argF2 cv_r (cv_f (cvs_cons (cv_b 2 rfl (cvs_e (l0 := false) (x := a0))) (cvs_cons (cv_b 1 rfl (cvs_e (l0 := k1) (x := a1))) cvs_nil))) hS fun l0_ l1_ => w151 (Dc := 140) (by omega) l0_ y1.1.Certs (fun l => .fn 152 [.rp l (Enc.cs l a0), .rp l (Enc.cs l a1)]) (fun l => cv_f (cvs_cons (cv_rp (cvs_e (x := a0)) (fun _ _ _ h => Enc.frz _ a0 _ _ _ h)) (cvs_cons (cv_rp (cvs_e (x := a1)) (fun _ _ _ h => Enc.frz _ a1 _ _ _ h)) cvs_nil))) (fun x0_ => m152 x0_ a0 a1) (fun d hd l q0_ x0_ S t ht => (cv211_152 _ _ _ _).trans (call0_of (E := (fun (t : Bool) => AV.bool t)) (mg := m152 x0_ a0 a1) (args3 (M := fun a => Fit (R NN d 152 a []) _ _) (cv_a (cvs_e (l0 := q0_) (x := x0_))) (cv_rp (cvs_e (l0 := l) (x := a0)) (fun _ _ _ h => Enc.frz _ a0 _ _ _ h)) (cv_rp (cvs_e (l0 := l) (x := a1)) (fun _ _ _ h => Enc.frz _ a1 _ _ _ h)) HP.nil fun u0_ v0_ v1_ => w152 hd u0_ x0_ v0_ a0 v1_ a1) ht)) l1_) fun y2 hy2 => q_p fr <| q_ret (cv_p rfl) rfl
  ·exact q_ret (cv_p rfl) rfl
def m158 (a0 : Int) (a1 : Int) : Option (Int) :=
 (remO a1 (m130 a0)).bind fun q1 =>
 some (wi .i64 (1 + q1))
theorem w158 {d : Nat} (hd : 2 ≤ d) (a0 : Int) (a1 : Int) : Fit (R NN d 158 [.int .i64 a0, .int .i64 a1] []) (m158 a0 a1) (P0 (fun (t : Int) => AV.int .i64 t)) := by
  obtain ⟨d, rfl, g⟩ := up hd
  refine q_in (t158 NN d _ _) ?_
  unfold b158 m158
  exact q_c0t (fun S hS => argF1 (cv_p rfl) hS fun l0_ => w130 (by omega) a0) <| q_rem2 fun q1 hq1 => q_p fr <| q_ret (cv_p rfl) rfl
def ms133_0 (a0 : Int) (a1 : List TMsg) (y1 : TMsg × Bool) (s5 : Bool × Int × (List Int)) : Option (LO (Bool × Int × (List Int))) :=
 bif decide (s5.2.1 < (y1.1.Refs.length : Int)) then
  (
   (getI y1.1.Refs s5.2.1).bind fun x2 =>
   (
    (
     (m83 a0 a1 x2).bind fun y3 =>
     bif !y3 then
      some (LO.norm true)
     else
      (getI a1 x2).bind fun x3 =>
      bif x3.View != y1.1.View then
       some (LO.norm true)
      else
       (getI a1 x2).bind fun x4 =>
       (m92 s5.2.2 x4.From).bind fun y4 =>
       some (LO.norm y4)).bind (contO (fun s9 =>
     bif s9 then
      some (LO.ret false)
     else
      some (LO.norm s5.1)) (fun i3 s9 =>
     some (LO.exit i3 s5.1)) (fun s9 =>
     some (LO.ret s5.1)))).bind (contO (fun s10 =>
    (getI a1 x2).bind fun x5 =>
    (appO 8 s5.2.2 [x5.From]).bind fun z1 =>
    some (LO.norm (s10, z1))) (fun i4 s10 =>
    if i4 = 1 then
     some (LO.norm (s10, s5.2.2))
    else
     some (LO.exit i4 (s10, s5.2.2))) (fun s10 =>
    some (LO.ret (s10, s5.2.2))))).bind (contO (fun s11 =>
   some (LO.norm (s11.1, wi .i64 (s5.2.1 + 1), s11.2))) (fun i5 s11 =>
   some (LO.exit i5 (s11.1, s5.2.1, s11.2))) (fun s11 =>
   some (LO.ret (s11.1, s5.2.1, s11.2))))
 else
  some (LO.exit 0 (s5.1, s5.2.1, s5.2.2))
def m133 (a0 : Int) (a1 : List TMsg) (a2 : Int) : Option (Bool) :=
 (m150 a1 a2 5).bind fun y1 =>
 (
  (
   bif !y1.2 then
    some (LO.norm true)
   else
    (m158 a0 y1.1.View).bind fun y2 =>
    bif y1.1.From != y2 then
     some (LO.norm true)
    else
     some (LO.norm (decide ((y1.1.Refs.length : Int) < (wi .i64 ((wi .i64 (2 * a0)) + 1)))))).bind (contO (fun s3 =>
   bif s3 then
    some (LO.ret false)
   else
    some (LO.norm false)) (fun i1 s3 =>
   some (LO.exit i1 false)) (fun s3 =>
   some (LO.ret false)))).bind (contO (fun s4 =>
  (loopO (ms133_0 a0 a1 y1) NN (s4, 0, [])).bind (contO (fun _ => none) (fun i6 s12 =>
   if i6 = 0 then
    some true
   else
    none) (fun s12 =>
   some s12.1))) (fun i2 s4 =>
  none) (fun s4 =>
  some s4))
theorem w133 {d : Nat} (hd : 144 ≤ d) (a0 : Int) (k1 : Bool) (a1 : List TMsg) (a2 : Int) : Fit (R NN d 133 [.int .i64 a0, .rsl k1 false (a1.map (Enc.cs k1)), .int .i64 a2] []) (m133 a0 a1 a2) (P0 (fun (t : Bool) => AV.bool t)) := by
  obtain ⟨d, rfl, g⟩ := up hd
  refine q_in (t133 NN d _ _ _) ?_
  unfold b133 m133
  refine q_s3 (mg := m150 a1 a2 5) (w150 (by omega) _ k1 _ a1 a2 5) fun y1 hy1 x1 => q_q fr <| q_q fr <| q_new rfl fun b1 => q_st 0 rfl rfl rfl (by decide) rfl <| q_cut (I := (fun (s : Bool) l L => l = [.bool s] ∧ L = [bx b1 [.int .i64 y1.1.Kind, .int .i64 y1.1.View, .int .i64 y1.1.From, .int .i64 y1.1.Slot, .int .i64 y1.1.Value, .rsl x1.1 x1.2.1 (y1.1.Certs.map (Enc.cs x1.1)), .rsl x1.2.2.1 x1.2.2.2 (y1.1.Refs.map (Enc.cs x1.2.2.1))]])) ?_ ?_ ?_ ?_
  ·refine q_cut (I := (fun (s : Bool) l L => l = [.bool s] ∧ L = [bx b1 [.int .i64 y1.1.Kind, .int .i64 y1.1.View, .int .i64 y1.1.From, .int .i64 y1.1.Slot, .int .i64 y1.1.Value, .rsl x1.1 x1.2.1 (y1.1.Certs.map (Enc.cs x1.1)), .rsl x1.2.2.1 x1.2.2.2 (y1.1.Refs.map (Enc.cs x1.2.2.1))]])) ?_ ?_ ?_ ?_
   ·refine q_p fr <| q_gF (fun h2 => ?_) (fun h2 => ?_)
    ·exact q_norm 0 ⟨rfl, rfl⟩
    ·refine q_p fr <| q_ld 0 rfl rfl <| q_p fr <| q_ld 0 rfl rfl <| q_c0 (fun S hS => argF2 (cv_p rfl) (cv_p rfl) hS fun l0_ l1_ => w158 (by omega) a0 y1.1.View) fun y2 hy2 => q_p fr <| q_gF (fun h1 => ?_) (fun h1 => ?_)
     ·exact q_norm 0 ⟨rfl, rfl⟩
     ·exact q_p fr <| q_ld 0 rfl rfl <| q_len <| q_p fr <| q_p fr <| q_p fr <| q_norm 0 ⟨rfl, rfl⟩
   ·rintro s3 _ _ ⟨rfl, rfl⟩
    refine q_if (fun h3 => ?_) (fun h3 => ?_)
    ·exact q_lret 0 ⟨rfl, rfl⟩
    ·exact q_norm 0 ⟨rfl, rfl⟩
   ·rintro i1 s3 _ _ ⟨rfl, rfl⟩
    exact q_exit 0 ⟨rfl, rfl⟩
   ·rintro s3 _ _ ⟨rfl, rfl⟩
    exact q_lret 0 ⟨rfl, rfl⟩
  ·rintro s4 _ _ ⟨rfl, rfl⟩
   refine q_e (fun _ => bs22_0 _) <| q_p fr <| q_ld 0 rfl rfl <| q_len <| q_nil (α := Int) false <| q_loop (I := (fun (s : Bool × Int × (List Int)) l L => ∃ (v1 : AV), l = [.bool s.1, v1, .int .i64 s.2.1] ∧ L = [sl false v1 (s.2.2 : List Int), bx b1 [.int .i64 y1.1.Kind, .int .i64 y1.1.View, .int .i64 y1.1.From, .int .i64 y1.1.Slot, .int .i64 y1.1.Value, .rsl x1.1 x1.2.1 (y1.1.Certs.map (Enc.cs x1.1)), .rsl x1.2.2.1 x1.2.2.2 (y1.1.Refs.map (Enc.cs x1.2.2.1))]])) 0 ⟨(.rsl false true []), rfl, rfl⟩ ?_ ?_ ?_
   ·rintro s5 _ _ ⟨v1, rfl, rfl⟩
    unfold s133_0 ms133_0
    refine q_p fr <| q_if (fun h7 => ?_) (fun h7 => ?_)
    ·refine q_cut (I := (fun (s : Bool × (List Int)) l L => ∃ (v2 : AV), l = [.bool s.1, v2] ∧ L = [sl false v2 (s.2 : List Int), bx b1 [.int .i64 y1.1.Kind, .int .i64 y1.1.View, .int .i64 y1.1.From, .int .i64 y1.1.Slot, .int .i64 y1.1.Value, .rsl x1.1 x1.2.1 (y1.1.Certs.map (Enc.cs x1.1)), .rsl x1.2.2.1 x1.2.2.2 (y1.1.Refs.map (Enc.cs x1.2.2.1))]])) ?_ ?_ ?_ ?_
     ·refine q_ix rfl fun x2 hx2 => q_p fr <| q_cut (I := (fun (s : Bool) l L => l = [.bool s] ∧ L = [sl false v1 (s5.2.2 : List Int), bx b1 [.int .i64 y1.1.Kind, .int .i64 y1.1.View, .int .i64 y1.1.From, .int .i64 y1.1.Slot, .int .i64 y1.1.Value, .rsl x1.1 x1.2.1 (y1.1.Certs.map (Enc.cs x1.1)), .rsl x1.2.2.1 x1.2.2.2 (y1.1.Refs.map (Enc.cs x1.2.2.1))]])) ?_ ?_ ?_ ?_
      ·refine q_cut (I := (fun (s : Bool) l L => l = [.bool s] ∧ L = [sl false v1 (s5.2.2 : List Int), bx b1 [.int .i64 y1.1.Kind, .int .i64 y1.1.View, .int .i64 y1.1.From, .int .i64 y1.1.Slot, .int .i64 y1.1.Value, .rsl x1.1 x1.2.1 (y1.1.Certs.map (Enc.cs x1.1)), .rsl x1.2.2.1 x1.2.2.2 (y1.1.Refs.map (Enc.cs x1.2.2.1))]])) ?_ ?_ ?_ ?_
       ·refine q_c0 (fun S hS => argF3 (cv_p rfl) cv_r (cv_p rfl) hS fun l0_ l1_ l2_ => w83 (by omega) a0 l1_ a1 x2) fun y3 hy3 => q_p fr <| q_gF (fun h5 => ?_) (fun h5 => ?_)
        ·exact q_norm 0 ⟨rfl, rfl⟩
        ·refine q_ix rfl fun x3 hx3 => q_p fr <| q_p fr <| q_p fr <| q_ld 1 rfl rfl <| q_p fr <| q_gF (fun h4 => ?_) (fun h4 => ?_)
         ·exact q_norm 0 ⟨rfl, rfl⟩
         ·exact q_ix rfl fun x4 hx4 => q_p fr <| q_p fr <| q_c0 (fun S hS => argF2 (cv_o 0 rfl) (cv_p rfl) hS fun l0_ l1_ => w92 (by omega) l0_ s5.2.2 x4.From) fun y4 hy4 => q_norm 0 ⟨rfl, rfl⟩
       ·rintro s9 _ _ ⟨rfl, rfl⟩
        refine q_if (fun h6 => ?_) (fun h6 => ?_)
        ·exact q_lret 0 ⟨rfl, rfl⟩
        ·exact q_norm 0 ⟨rfl, rfl⟩
       ·rintro i3 s9 _ _ ⟨rfl, rfl⟩
        exact q_exit 0 ⟨rfl, rfl⟩
       ·rintro s9 _ _ ⟨rfl, rfl⟩
        exact q_lret 0 ⟨rfl, rfl⟩
      ·rintro s10 _ _ ⟨rfl, rfl⟩
       exact q_ix rfl fun x5 hx5 => q_p fr <| q_p fr <| q_e (fun _ => bs22_1 rfl) <| q_app (ys := [x5.From]) 0 rfl rfl (fun _ _ => rfl) fun v2 z1 hz1 => q_norm 0 ⟨v2, rfl, rfl⟩
      ·rintro i4 s10 _ _ ⟨rfl, rfl⟩
       refine q_ite (fun _ => ?_) (fun _ => ?_)
       ·exact q_norm 0 ⟨v1, rfl, rfl⟩
       ·exact q_exit 0 ⟨v1, rfl, rfl⟩
      ·rintro s10 _ _ ⟨rfl, rfl⟩
       exact q_lret 0 ⟨v1, rfl, rfl⟩
     ·rintro s11 _ _ ⟨v3, rfl, rfl⟩
      exact q_p fr <| q_norm 0 ⟨v3, rfl, rfl⟩
     ·rintro i5 s11 _ _ ⟨v4, rfl, rfl⟩
      exact q_exit 0 ⟨v4, rfl, rfl⟩
     ·rintro s11 _ _ ⟨v5, rfl, rfl⟩
      exact q_lret 0 ⟨v5, rfl, rfl⟩
    ·exact q_exit 0 ⟨v1, rfl, rfl⟩
   ·rintro i6 s12 _ _ ⟨v6, rfl, rfl⟩
    refine q_ite (fun _ => ?_) (fun _ => ?_)
    ·exact q_ret (cv_p rfl) rfl
    ·exact q_none
   ·rintro s12 _ _ ⟨v7, rfl, rfl⟩
    exact q_ret (cv_p rfl) rfl
  ·rintro i2 s4 _ _ ⟨rfl, rfl⟩
   exact q_none
  ·rintro s4 _ _ ⟨rfl, rfl⟩
   exact q_ret (cv_p rfl) rfl
def m69 (a0 : Int) (a1 : List TMsg) (a2 : TReplica) (a3 : Int) : Option (Int) :=
 (
  (
   bif !(m129 a0 a2.Id) then
    some (LO.norm true)
   else
    bif !(m131 a2.View) then
     some (LO.norm true)
    else
     some (LO.norm (!(m132 a2.Done 0 30)))).bind (contO (fun s3 =>
   bif s3 then
    some (LO.ret 3)
   else
    (
     bif a2.Start != (-1) then
      bif a2.View == 0 then
       some (LO.norm true)
      else
       (m133 a0 a1 a2.Start).bind fun y1 =>
       bif !y1 then
        some (LO.norm true)
       else
        (getI a1 a2.Start).bind fun x1 =>
        some (LO.norm (x1.View != a2.View))
     else
      some (LO.norm false)).bind (contO (fun s5 =>
     bif s5 then
      some (LO.ret 1)
     else
      bif decide (a2.Done > a3) then
       some (LO.ret 8)
      else
       some (LO.norm 0)) (fun i2 s5 =>
     if i2 = 0 then
      some (LO.norm 0)
     else
      some (LO.exit i2 0)) (fun s5 =>
     some (LO.ret 0)))) (fun i1 s3 =>
   if i1 = 0 then
    some (LO.norm 0)
   else
    some (LO.exit i1 0)) (fun s3 =>
   some (LO.ret 0)))).bind (contO (fun s6 =>
  some 0) (fun i3 s6 =>
  none) (fun s6 =>
  some s6))
theorem w69 {d : Nat} (hd : 145 ≤ d) (a0 : Int) (k1 : Bool) (a1 : List TMsg) (k2 : Bool) (a2 : TReplica) (a3 : Int) : Fit (R NN d 69 [.int .i64 a0, .rsl k1 false (a1.map (Enc.cs k1)), .agg (Enc.cs k2 a2), .int .i64 a3] []) (m69 a0 a1 a2 a3) (P0 (fun (t : Int) => AV.int .i64 t)) := by
  obtain ⟨d, rfl, g⟩ := up hd
  refine q_in (t69 NN d _ _ _ _) ?_
  unfold b69 m69
  refine q_box (n := 4) rfl rfl (by decide) fun b1 => q_cut (I := (fun (s : Int) l L => l = [.int .i64 s] ∧ L = [bx b1 [.int .i64 a2.Id, .int .i64 a2.View, .int .i64 a2.Start, .int .i64 a2.Done]])) ?_ ?_ ?_ ?_
  ·refine q_cut (I := (fun (s : Bool) l L => l = [.bool s] ∧ L = [bx b1 [.int .i64 a2.Id, .int .i64 a2.View, .int .i64 a2.Start, .int .i64 a2.Done]])) ?_ ?_ ?_ ?_
   ·refine q_p fr <| q_ld 0 rfl rfl <| q_c0t (fun S hS => argF2 (cv_p rfl) (cv_p rfl) hS fun l0_ l1_ => w129 (by omega) a0 a2.Id) <| q_p fr <| q_gF (fun h2 => ?_) (fun h2 => ?_)
    ·exact q_norm 0 ⟨rfl, rfl⟩
    ·refine q_p fr <| q_ld 0 rfl rfl <| q_c0t (fun S hS => argF1 (cv_p rfl) hS fun l0_ => w131 (by omega) a2.View) <| q_p fr <| q_gF (fun h1 => ?_) (fun h1 => ?_)
     ·exact q_norm 0 ⟨rfl, rfl⟩
     ·exact q_p fr <| q_ld 0 rfl rfl <| q_c0t (fun S hS => argF3 (cv_p rfl) (cv_p rfl) (cv_p rfl) hS fun l0_ l1_ l2_ => w132 (by omega) a2.Done 0 30) <| q_p fr <| q_norm 0 ⟨rfl, rfl⟩
   ·rintro s3 _ _ ⟨rfl, rfl⟩
    refine q_if (fun h8 => ?_) (fun h8 => ?_)
    ·exact q_lret 0 ⟨rfl, rfl⟩
    ·refine q_cut (I := (fun (s : Bool) l L => l = [.bool s] ∧ L = [bx b1 [.int .i64 a2.Id, .int .i64 a2.View, .int .i64 a2.Start, .int .i64 a2.Done]])) ?_ ?_ ?_ ?_
     ·refine q_p fr <| q_ld 0 rfl rfl <| q_p fr <| q_gT (fun h5 => ?_) (fun h5 => ?_)
      ·refine q_p fr <| q_ld 0 rfl rfl <| q_p fr <| q_gF (fun h4 => ?_) (fun h4 => ?_)
       ·exact q_norm 0 ⟨rfl, rfl⟩
       ·refine q_p fr <| q_ld 0 rfl rfl <| q_c0 (fun S hS => argF3 (cv_p rfl) cv_r (cv_p rfl) hS fun l0_ l1_ l2_ => w133 (by omega) a0 l1_ a1 a2.Start) fun y1 hy1 => q_p fr <| q_gF (fun h3 => ?_) (fun h3 => ?_)
        ·exact q_norm 0 ⟨rfl, rfl⟩
        ·exact q_p fr <| q_ld 0 rfl rfl <| q_ix rfl fun x1 hx1 => q_p fr <| q_p fr <| q_p fr <| q_ld 0 rfl rfl <| q_p fr <| q_norm 0 ⟨rfl, rfl⟩
      ·exact q_norm 0 ⟨rfl, rfl⟩
     ·rintro s5 _ _ ⟨rfl, rfl⟩
      refine q_if (fun h7 => ?_) (fun h7 => ?_)
      ·exact q_lret 0 ⟨rfl, rfl⟩
      ·refine q_p fr <| q_ld 0 rfl rfl <| q_p fr <| q_if (fun h6 => ?_) (fun h6 => ?_)
       ·exact q_lret 0 ⟨rfl, rfl⟩
       ·exact q_norm 0 ⟨rfl, rfl⟩
     ·rintro i2 s5 _ _ ⟨rfl, rfl⟩
      refine q_ite (fun _ => ?_) (fun _ => ?_)
      ·exact q_norm 0 ⟨rfl, rfl⟩
      ·exact q_exit 0 ⟨rfl, rfl⟩
     ·rintro s5 _ _ ⟨rfl, rfl⟩
      exact q_lret 0 ⟨rfl, rfl⟩
   ·rintro i1 s3 _ _ ⟨rfl, rfl⟩
    refine q_ite (fun _ => ?_) (fun _ => ?_)
    ·exact q_norm 0 ⟨rfl, rfl⟩
    ·exact q_exit 0 ⟨rfl, rfl⟩
   ·rintro s3 _ _ ⟨rfl, rfl⟩
    exact q_lret 0 ⟨rfl, rfl⟩
  ·rintro s6 _ _ ⟨rfl, rfl⟩
   exact q_ret (cv_p rfl) rfl
  ·rintro i3 s6 _ _ ⟨rfl, rfl⟩
   exact q_none
  ·rintro s6 _ _ ⟨rfl, rfl⟩
   exact q_ret (cv_p rfl) rfl
def m134 (a0 : Int) : Bool :=
 (m132 a0 1 9)
theorem w134 {d : Nat} (hd : 2 ≤ d) (a0 : Int) : Fit (R NN d 134 [.int .i64 a0] []) (some (m134 a0)) (P0 (fun (t : Bool) => AV.bool t)) := by
  obtain ⟨d, rfl, g⟩ := up hd
  refine q_in (t134 NN d _) ?_
  unfold b134 m134
  exact q_c0t (fun S hS => argF3 (cv_p rfl) (cv_p rfl) (cv_p rfl) hS fun l0_ l1_ l2_ => w132 (by omega) a0 1 9) <| q_ret (cv_p rfl) rfl
def m135 (a0 : Int) : Bool :=
 (m132 a0 0 9000)
theorem w135 {d : Nat} (hd : 2 ≤ d) (a0 : Int) : Fit (R NN d 135 [.int .i64 a0] []) (some (m135 a0)) (P0 (fun (t : Bool) => AV.bool t)) := by
  obtain ⟨d, rfl, g⟩ := up hd
  refine q_in (t135 NN d _) ?_
  unfold b135 m135
  exact q_c0t (fun S hS => argF3 (cv_p rfl) (cv_p rfl) (cv_p rfl) hS fun l0_ l1_ l2_ => w132 (by omega) a0 0 9000) <| q_ret (cv_p rfl) rfl
def m200 (a0 : Int) : Str × Str :=
 bif a0 == 1 then
  (([111, 112, 101, 110] : Str), ([] : Str))
 else
  bif a0 == 2 then
   (([99, 108, 111, 115, 101] : Str), ([] : Str))
  else
   bif a0 == 3 then
    (([99, 114, 101, 97, 116, 101] : Str), ([112, 100, 115, 111] : Str))
   else
    bif a0 == 4 then
     (([100, 101, 108, 101, 116, 101] : Str), ([112, 118] : Str))
    else
     bif a0 == 5 then
      (([115, 101, 116] : Str), ([112, 100, 118] : Str))
     else
      bif a0 == 6 then
       (([103, 101, 116] : Str), ([112] : Str))
      else
       bif a0 == 7 then
        (([107, 105, 100, 115] : Str), ([112] : Str))
       else
        bif a0 == 8 then
         (([99, 104, 101, 99, 107] : Str), ([112, 118] : Str))
        else
         (([] : Str), ([] : Str))
theorem w200 {d : Nat} (hd : 1 ≤ d) (a0 : Int) : Fit (R NN d 200 [.int .i64 a0] []) (some (m200 a0)) (P0 (fun (t : Str × Str) => AV.tup [encS t.1, encS t.2])) := by
  obtain ⟨d, rfl, g⟩ := up hd
  refine q_in (t200 NN d _) ?_
  unfold b200 m200
  refine q_p fr <| q_ift (fun h8 => ?_) (fun h8 => ?_)
  ·exact q_ret (cv_t (cvs_cons (cv_p rfl) (cvs_cons (cv_p rfl) cvs_nil))) rfl
  ·refine q_p fr <| q_ift (fun h7 => ?_) (fun h7 => ?_)
   ·exact q_ret (cv_t (cvs_cons (cv_p rfl) (cvs_cons (cv_p rfl) cvs_nil))) rfl
   ·refine q_p fr <| q_ift (fun h6 => ?_) (fun h6 => ?_)
    ·exact q_ret (cv_t (cvs_cons (cv_p rfl) (cvs_cons (cv_p rfl) cvs_nil))) rfl
    ·refine q_p fr <| q_ift (fun h5 => ?_) (fun h5 => ?_)
     ·exact q_ret (cv_t (cvs_cons (cv_p rfl) (cvs_cons (cv_p rfl) cvs_nil))) rfl
     ·refine q_p fr <| q_ift (fun h4 => ?_) (fun h4 => ?_)
      ·exact q_ret (cv_t (cvs_cons (cv_p rfl) (cvs_cons (cv_p rfl) cvs_nil))) rfl
      ·refine q_p fr <| q_ift (fun h3 => ?_) (fun h3 => ?_)
       ·exact q_ret (cv_t (cvs_cons (cv_p rfl) (cvs_cons (cv_p rfl) cvs_nil))) rfl
       ·refine q_p fr <| q_ift (fun h2 => ?_) (fun h2 => ?_)
        ·exact q_ret (cv_t (cvs_cons (cv_p rfl) (cvs_cons (cv_p rfl) cvs_nil))) rfl
        ·refine q_p fr <| q_ift (fun h1 => ?_) (fun h1 => ?_)
         ·exact q_ret (cv_t (cvs_cons (cv_p rfl) (cvs_cons (cv_p rfl) cvs_nil))) rfl
         ·exact q_ret (cv_t (cvs_cons (cv_p rfl) (cvs_cons (cv_p rfl) cvs_nil))) rfl
def m234 (a0 a1 : Str) : Option Int := match a1 with
  | [c] => some (Lib.indexByte a0 c : Int)
  | _ => none
theorem w234 {d : Nat} (hd : 1 ≤ d) (a0 a1 : Str) : Fit (R NN d 234 [encS a0, encS a1] []) (m234 a0 a1) (P0 (fun (t : Int) => AV.int .i64 t)) := by
  obtain ⟨d, rfl, g⟩ := up hd
  rw [t234]
  intro t ht
  unfold m234 at ht
  split at ht
  · injection ht with ht
    subst ht
    exact ⟨_, rfl, rfl⟩
  · cases ht
def m202 (a0 : Str) (a1 : Str) : Option (Bool) :=
 (m234 a0 a1).bind fun y1 =>
 some (decide (y1 ≥ 0))
theorem w202 {d : Nat} (hd : 2 ≤ d) (a0 : Str) (a1 : Str) : Fit (R NN d 202 [encS a0, encS a1] []) (m202 a0 a1) (P0 (fun (t : Bool) => AV.bool t)) := by
  obtain ⟨d, rfl, g⟩ := up hd
  refine q_in (t202 NN d _ _) ?_
  unfold b202 m202
  exact q_c0 (fun S hS => argF2 (cv_p rfl) (cv_p rfl) hS fun l0_ l1_ => w234 (by omega) a0 a1) fun y1 hy1 => q_p fr <| q_ret (cv_p rfl) rfl
def m201 (a0 : Str) (a1 : Str) : Option (Bool) :=
 (m202 a1 a0).bind fun y1 =>
 some (!y1)
theorem w201 {d : Nat} (hd : 3 ≤ d) (a0 : Str) (k1 : Bool) (a1 : Str) : Fit (R NN d 201 [encS a0, .rp k1 (Enc.cs k1 a1)] []) (m201 a0 a1) (P0 (fun (t : Bool) => AV.bool t)) := by
  obtain ⟨d, rfl, g⟩ := up hd
  refine q_in (t201 NN d _ _) ?_
  unfold b201 m201
  exact q_p fr <| q_c0 (fun S hS => argF2 (cv_p rfl) (cv_p rfl) hS fun l0_ l1_ => w202 (by omega) a1 a0) fun y1 hy1 => q_p fr <| q_ret (cv_p rfl) rfl
def m235 (a0 a1 : Str) : Option Int := match a1 with
  | [c] => some (Lib.countByte a0 c : Int)
  | _ => none
theorem w235 {d : Nat} (hd : 1 ≤ d) (a0 a1 : Str) : Fit (R NN d 235 [encS a0, encS a1] []) (m235 a0 a1) (P0 (fun (t : Int) => AV.int .i64 t)) := by
  obtain ⟨d, rfl, g⟩ := up hd
  rw [t235]
  intro t ht
  unfold m235 at ht
  split at ht
  · injection ht with ht
    subst ht
    exact ⟨_, rfl, rfl⟩
  · cases ht
def ms264_0 (a0 : Str) (a1 : Str) (a2 : Int) (s2 : Int) (s3 : Str × Int × (List Str)) : Option (LO (Str × Int × (List Str))) :=
 bif decide (s3.2.1 < (wi .i64 ((minI s2 (wi .i64 ((a0.length : Int) + 1))) - 1))) then
  (m234 s3.1 a1).bind fun y2 =>
  bif decide (y2 < 0) then
   some (LO.exit 0 (s3.1, s3.2.1, s3.2.2))
  else
   (subI s3.1 0 (wi .i64 (y2 + a2))).bind fun t1 =>
   (getI s3.2.2 s3.2.1).bind fun x1 =>
   (subI s3.1 (wi .i64 (y2 + (a1.length : Int))) (s3.1.length : Int)).bind fun t2 =>
   some (LO.norm (t2, wi .i64 (s3.2.1 + 1), s3.2.2.set (Int.toNat s3.2.1) t1))
 else
  some (LO.exit 0 (s3.1, s3.2.1, s3.2.2))
def m264 (a0 : Str) (a1 : Str) (a2 : Int) (a3 : Int) : Option ((List Str)) :=
 bif a3 == 0 then
  some []
 else
  bif a1 == ([] : Str) then
   none
  else
   (
    bif decide (a3 < 0) then
     (m235 a0 a1).bind fun y1 =>
     some (LO.norm (wi .i64 (y1 + 1)))
    else
     some (LO.norm a3)).bind (contO (fun s2 =>
    (mkO 16 (minI s2 (wi .i64 ((a0.length : Int) + 1))) []).bind fun z1 =>
    (loopO (ms264_0 a0 a1 a2 s2) NN (a0, 0, z1)).bind (contO (fun _ => none) (fun i2 s4 =>
     if i2 = 0 then
      (getI s4.2.2 s4.2.1).bind fun x2 =>
      (subI (s4.2.2.set (Int.toNat s4.2.1) s4.1) 0 (wi .i64 (s4.2.1 + 1))).bind fun ys1 =>
      some ys1
     else
      none) (fun s4 =>
     some []))) (fun i1 s2 =>
    none) (fun s2 =>
    some []))
theorem w264 {d : Nat} (hd : 2 ≤ d) (a0 : Str) (a1 : Str) (a2 : Int) (a3 : Int) : Fit (R NN d 264 [encS a0, encS a1, .int .i64 a2, .int .i64 a3] []) (m264 a0 a1 a2 a3) (P0 (fun (t : List Str) => AV.rsl false false (t.map (Enc.cs false)))) := by
  obtain ⟨d, rfl, g⟩ := up hd
  refine q_in (t264 NN d _ _ _ _) ?_
  unfold b264 m264
  refine q_p fr <| q_if (fun h5 => ?_) (fun h5 => ?_)
  ·exact q_ret (cv_r (α := Str) (l0 := false) (fl := true) (xs := [])) rfl
  ·refine q_p (fun _ => seq_eql) <| q_if (fun h4 => ?_) (fun h4 => ?_)
   ·exact q_none
   ·refine q_cut (I := (fun (s : Int) l L => l = [.int .i64 s] ∧ L = [])) ?_ ?_ ?_ ?_
    ·refine q_p fr <| q_if (fun h1 => ?_) (fun h1 => ?_)
     ·exact q_c0 (fun S hS => argF2 (cv_p rfl) (cv_p rfl) hS fun l0_ l1_ => w235 (by omega) a0 a1) fun y1 hy1 => q_p fr <| q_norm 0 ⟨rfl, rfl⟩
     ·exact q_norm 0 ⟨rfl, rfl⟩
    ·rintro s2 _ _ ⟨rfl, rfl⟩
     refine q_slen <| q_p fr <| q_p (fun _ => amin_) <| q_mk (z := []) mk181 fun v1 z1 hz1 => q_p fr <| q_loop (I := (fun (s : Str × Int × (List Str)) l L => l = [encS s.1, .int .i64 s.2.1] ∧ L = [sl false v1 (s.2.2 : List Str)])) 0 ⟨rfl, rfl⟩ ?_ ?_ ?_
     ·rintro s3 _ _ ⟨rfl, rfl⟩
      unfold s264_0 ms264_0
      refine q_p fr <| q_if (fun h3 => ?_) (fun h3 => ?_)
      ·refine q_c0 (fun S hS => argF2 (cv_p rfl) (cv_p rfl) hS fun l0_ l1_ => w234 (by omega) s3.1 a1) fun y2 hy2 => q_p fr <| q_if (fun h2 => ?_) (fun h2 => ?_)
       ·exact q_exit 0 ⟨rfl, rfl⟩
       ·exact q_p fr <| q_ssub (.inr ⟨rfl, rfl⟩) (.inl rfl) fun t1 ht1 => q_ixo 0 rfl rfl fun x1 hx1 => q_stoe (y := t1) 0 rfl rfl hx1 rfl (by decide) <| q_slen <| q_p fr <| q_ssub (.inl rfl) (.inr ⟨rfl, rfl⟩) fun t2 ht2 => q_p fr <| q_norm 0 ⟨rfl, rfl⟩
      ·exact q_exit 0 ⟨rfl, rfl⟩
     ·rintro i2 s4 _ _ ⟨rfl, rfl⟩
      refine q_ite (fun _ => ?_) (fun _ => ?_)
      ·exact q_ixo 0 rfl rfl fun x2 hx2 => q_stoe (y := s4.1) 0 rfl rfl hx2 rfl (by decide) <| q_p fr <| q_cutv rfl (.inr ⟨rfl, rfl⟩) (.inl rfl) fun ys1 hys1 => q_ret (cv_cl 0 rfl) rfl
      ·exact q_none
     ·rintro s4 _ _ ⟨rfl, rfl⟩
      exact q_ret (cv_r (α := Str) (l0 := false) (fl := true) (xs := [])) rfl
    ·rintro i1 s2 _ _ ⟨rfl, rfl⟩
     exact q_none
    ·rintro s2 _ _ ⟨rfl, rfl⟩
     exact q_ret (cv_r (α := Str) (l0 := false) (fl := true) (xs := [])) rfl
def m236 (a0 : Str) (a1 : Str) : Option ((List Str)) :=
 (m264 a0 a1 0 (-1)).bind fun y1 =>
 some y1
theorem w236 {d : Nat} (hd : 3 ≤ d) (a0 : Str) (a1 : Str) : Fit (R NN d 236 [encS a0, encS a1] []) (m236 a0 a1) (P0 (fun (t : List Str) => AV.rsl false false (t.map (Enc.cs false)))) := by
  obtain ⟨d, rfl, g⟩ := up hd
  refine q_in (t236 NN d _ _) ?_
  unfold b236 m236
  exact q_c0 (fun S hS => argF4 (cv_p rfl) (cv_p rfl) (cv_p rfl) (cv_p rfl) hS fun l0_ l1_ l2_ l3_ => w264 (by omega) a0 a1 0 (-1)) fun y1 hy1 => q_ret cv_r rfl
def ms237_0 (a0 : Str) (s1 : Bool × Int) : Option (LO (Bool × Int)) :=
 bif decide (s1.2 < (a0.length : Int)) then
  (
   (
    (getI a0 s1.2).bind fun c1 =>
    bif decide ((c1.toNat : Int) < 97) then
     (getI a0 s1.2).bind fun c5 =>
     bif decide ((c5.toNat : Int) < 48) then
      some (LO.norm true)
     else
      (getI a0 s1.2).bind fun c6 =>
      some (LO.norm (decide ((c6.toNat : Int) > 57)))
    else
     (getI a0 s1.2).bind fun c2 =>
     bif decide ((c2.toNat : Int) > 122) then
      (getI a0 s1.2).bind fun c3 =>
      bif decide ((c3.toNat : Int) < 48) then
       some (LO.norm true)
      else
       (getI a0 s1.2).bind fun c4 =>
       some (LO.norm (decide ((c4.toNat : Int) > 57)))
     else
      some (LO.norm false)).bind (contO (fun s4 =>
    bif s4 then
     some (LO.ret false)
    else
     some (LO.norm s1.1)) (fun i1 s4 =>
    if i1 = 1 then
     some (LO.norm s1.1)
    else
     some (LO.exit i1 s1.1)) (fun s4 =>
    some (LO.ret s1.1)))).bind (contO (fun s5 =>
   some (LO.norm (s5, wi .i64 (s1.2 + 1)))) (fun i2 s5 =>
   some (LO.exit i2 (s5, s1.2))) (fun s5 =>
   some (LO.ret (s5, s1.2))))
 else
  some (LO.exit 0 (s1.1, s1.2))
def m237 (a0 : Str) : Option (Bool) :=
 (loopO (ms237_0 a0) NN (false, 0)).bind (contO (fun _ => none) (fun i3 s6 =>
  if i3 = 0 then
   some (m132 (a0.length : Int) 1 8)
  else
   none) (fun s6 =>
  some s6.1))
theorem w237 {d : Nat} (hd : 2 ≤ d) (a0 : Str) : Fit (R NN d 237 [encS a0] []) (m237 a0) (P0 (fun (t : Bool) => AV.bool t)) := by
  obtain ⟨d, rfl, g⟩ := up hd
  refine q_in (t237 NN d _) ?_
  unfold b237 m237
  refine q_slen <| q_loop (I := (fun (s : Bool × Int) l L => l = [.bool s.1, .int .i64 s.2] ∧ L = [])) 0 ⟨rfl, rfl⟩ ?_ ?_ ?_
  ·rintro s1 _ _ ⟨rfl, rfl⟩
   unfold s237_0 ms237_0
   refine q_p fr <| q_if (fun h6 => ?_) (fun h6 => ?_)
   ·refine q_cut (I := (fun (s : Bool) l L => l = [.bool s] ∧ L = [])) ?_ ?_ ?_ ?_
    ·refine q_cut (I := (fun (s : Bool) l L => l = [.bool s] ∧ L = [])) ?_ ?_ ?_ ?_
     ·refine q_sx fun c1 hc1 => q_p fr <| q_gF (fun h4 => ?_) (fun h4 => ?_)
      ·refine q_sx fun c5 hc5 => q_p fr <| q_gF (fun h3 => ?_) (fun h3 => ?_)
       ·exact q_norm 0 ⟨rfl, rfl⟩
       ·exact q_sx fun c6 hc6 => q_p fr <| q_norm 0 ⟨rfl, rfl⟩
      ·refine q_sx fun c2 hc2 => q_p fr <| q_gT (fun h2 => ?_) (fun h2 => ?_)
       ·refine q_sx fun c3 hc3 => q_p fr <| q_gF (fun h1 => ?_) (fun h1 => ?_)
        ·exact q_norm 0 ⟨rfl, rfl⟩
        ·exact q_sx fun c4 hc4 => q_p fr <| q_norm 0 ⟨rfl, rfl⟩
       ·exact q_norm 0 ⟨rfl, rfl⟩
     ·rintro s4 _ _ ⟨rfl, rfl⟩
      refine q_if (fun h5 => ?_) (fun h5 => ?_)
      ·exact q_lret 0 ⟨rfl, rfl⟩
      ·exact q_norm 0 ⟨rfl, rfl⟩
     ·rintro i1 s4 _ _ ⟨rfl, rfl⟩
      refine q_ite (fun _ => ?_) (fun _ => ?_)
      ·exact q_norm 0 ⟨rfl, rfl⟩
      ·exact q_exit 0 ⟨rfl, rfl⟩
     ·rintro s4 _ _ ⟨rfl, rfl⟩
      exact q_lret 0 ⟨rfl, rfl⟩
    ·rintro s5 _ _ ⟨rfl, rfl⟩
     exact q_p fr <| q_norm 0 ⟨rfl, rfl⟩
    ·rintro i2 s5 _ _ ⟨rfl, rfl⟩
     exact q_exit 0 ⟨rfl, rfl⟩
    ·rintro s5 _ _ ⟨rfl, rfl⟩
     exact q_lret 0 ⟨rfl, rfl⟩
   ·exact q_exit 0 ⟨rfl, rfl⟩
  ·rintro i3 s6 _ _ ⟨rfl, rfl⟩
   refine q_ite (fun _ => ?_) (fun _ => ?_)
   ·exact q_slen <| q_c0t (fun S hS => argF3 (cv_p rfl) (cv_p rfl) (cv_p rfl) hS fun l0_ l1_ l2_ => w132 (by omega) (a0.length : Int) 1 8) <| q_ret (cv_p rfl) rfl
   ·exact q_none
  ·rintro s6 _ _ ⟨rfl, rfl⟩
   exact q_ret (cv_p rfl) rfl
def ms203_0 (ys1 : List Str) (s5 : Int × Int) : Option (LO (Int × Int)) :=
 bif decide (s5.2 < (ys1.length : Int)) then
  (getI ys1 s5.2).bind fun x2 =>
  (m237 x2).bind fun y3 =>
  bif !y3 then
   some (LO.ret (5, s5.2))
  else
   some (LO.norm (s5.1, wi .i64 (s5.2 + 1)))
 else
  some (LO.exit 0 (s5.1, s5.2))
def m203 (a0 : Str) : Option (Int) :=
 (
  bif decide ((a0.length : Int) > 24) then
   some (LO.ret 2)
  else
   (m235 a0 ([47] : Str)).bind fun y1 =>
   bif decide (y1 > 4) then
    some (LO.ret 2)
   else
    some (LO.norm 0)).bind (contO (fun s2 =>
  bif a0 == ([47] : Str) then
   some 0
  else
   (m236 a0 ([47] : Str)).bind fun y2 =>
   (
    bif decide ((y2.length : Int) < 2) then
     some (LO.ret 5)
    else
     (getI y2 0).bind fun x1 =>
     bif !(x1 == ([] : Str)) then
      some (LO.ret 5)
     else
      some (LO.norm s2)).bind (contO (fun s4 =>
    (subI y2 1 (y2.length : Int)).bind fun ys1 =>
    (loopO (ms203_0 ys1) NN (s4, 0)).bind (contO (fun _ => none) (fun i3 s6 =>
     if i3 = 0 then
      some 0
     else
      none) (fun s6 =>
     some s6.1))) (fun i2 s4 =>
    none) (fun s4 =>
    some s4))) (fun i1 s2 =>
  none) (fun s2 =>
  some s2))
theorem w203 {d : Nat} (hd : 4 ≤ d) (a0 : Str) : Fit (R NN d 203 [encS a0] []) (m203 a0) (P0 (fun (t : Int) => AV.int .i64 t)) := by
  obtain ⟨d, rfl, g⟩ := up hd
  refine q_in (t203 NN d _) ?_
  unfold b203 m203
  refine q_cut (I := (fun (s : Int) l L => l = [.int .i64 s] ∧ L = [])) ?_ ?_ ?_ ?_
  ·refine q_slen <| q_p fr <| q_gF (fun h2 => ?_) (fun h2 => ?_)
   ·first | refine q_ifT1 ?_ | skip
    exact q_lret 0 ⟨rfl, rfl⟩
   ·refine q_c0 (fun S hS => argF2 (cv_p rfl) (cv_p rfl) hS fun l0_ l1_ => w235 (by omega) a0 ([47] : Str)) fun y1 hy1 => q_p fr <| q_if (fun h1 => ?_) (fun h1 => ?_)
    ·exact q_lret 0 ⟨rfl, rfl⟩
    ·exact q_norm 0 ⟨rfl, rfl⟩
  ·rintro s2 _ _ ⟨rfl, rfl⟩
   refine q_p (fun _ => seq_eql) <| q_if (fun h7 => ?_) (fun h7 => ?_)
   ·exact q_ret (cv_p rfl) rfl
   ·refine q_c0 (fun S hS => argF2 (cv_p rfl) (cv_p rfl) hS fun l0_ l1_ => w236 (by omega) a0 ([47] : Str)) fun y2 hy2 => q_cut (I := (fun (s : Int) l L => l = [.int .i64 s] ∧ L = [])) ?_ ?_ ?_ ?_
    ·refine q_len <| q_p fr <| q_gF (fun h4 => ?_) (fun h4 => ?_)
     ·first | refine q_ifT1 ?_ | skip
      exact q_lret 0 ⟨rfl, rfl⟩
     ·refine q_ix rfl fun x1 hx1 => q_p fr <| q_p (fun _ => seq_neq) <| q_if (fun h3 => ?_) (fun h3 => ?_)
      ·exact q_lret 0 ⟨rfl, rfl⟩
      ·exact q_norm 0 ⟨rfl, rfl⟩
    ·rintro s4 _ _ ⟨rfl, rfl⟩
     refine q_sub rfl (.inl rfl) (.inr ⟨rfl, rfl⟩) fun fl1 ys1 hys1 => q_len <| q_loop (I := (fun (s : Int × Int) l L => l = [.int .i64 s.1, .int .i64 s.2] ∧ L = [])) 0 ⟨rfl, rfl⟩ ?_ ?_ ?_
     ·rintro s5 _ _ ⟨rfl, rfl⟩
      unfold s203_0 ms203_0
      refine q_p fr <| q_if (fun h6 => ?_) (fun h6 => ?_)
      ·refine q_ix rfl fun x2 hx2 => q_p fr <| q_c0 (fun S hS => argF1 (cv_p rfl) hS fun l0_ => w237 (by omega) x2) fun y3 hy3 => q_p fr <| q_if (fun h5 => ?_) (fun h5 => ?_)
       ·exact q_lret 0 ⟨rfl, rfl⟩
       ·exact q_p fr <| q_norm 0 ⟨rfl, rfl⟩
      ·exact q_exit 0 ⟨rfl, rfl⟩
     ·rintro i3 s6 _ _ ⟨rfl, rfl⟩
      refine q_ite (fun _ => ?_) (fun _ => ?_)
      ·exact q_ret (cv_p rfl) rfl
      ·exact q_none
     ·rintro s6 _ _ ⟨rfl, rfl⟩
      exact q_ret (cv_p rfl) rfl
    ·rintro i2 s4 _ _ ⟨rfl, rfl⟩
     exact q_none
    ·rintro s4 _ _ ⟨rfl, rfl⟩
     exact q_ret (cv_p rfl) rfl
  ·rintro i1 s2 _ _ ⟨rfl, rfl⟩
   exact q_none
  ·rintro s2 _ _ ⟨rfl, rfl⟩
   exact q_ret (cv_p rfl) rfl
def m204 (a0 : Int) : Bool :=
 (m132 a0 0 9999)
theorem w204 {d : Nat} (hd : 2 ≤ d) (a0 : Int) : Fit (R NN d 204 [.int .i64 a0] []) (some (m204 a0)) (P0 (fun (t : Bool) => AV.bool t)) := by
  obtain ⟨d, rfl, g⟩ := up hd
  refine q_in (t204 NN d _) ?_
  unfold b204 m204
  exact q_c0t (fun S hS => argF3 (cv_p rfl) (cv_p rfl) (cv_p rfl) hS fun l0_ l1_ l2_ => w132 (by omega) a0 0 9999) <| q_ret (cv_p rfl) rfl
def m136 (a0 : TOp) : Option (Int) :=
 (
  (
   bif !(m132 a0.Kind 1 8) then
    some (LO.norm true)
   else
    (m201 ([112] : Str) ((m200 a0.Kind).2)).bind fun y1 =>
    bif y1 then
     bif !(a0.Path == ([] : Str)) then
      some (LO.norm true)
     else
      (m201 ([100] : Str) ((m200 a0.Kind).2)).bind fun y2 =>
      bif y2 then
       bif a0.Data != 0 then
        some (LO.norm true)
       else
        (m201 ([118] : Str) ((m200 a0.Kind).2)).bind fun y3 =>
        bif y3 then
         bif a0.Version != 0 then
          some (LO.norm true)
         else
          (m201 ([115] : Str) ((m200 a0.Kind).2)).bind fun y4 =>
          bif y4 then
           bif a0.Seq then
            some (LO.norm true)
           else
            (m201 ([111] : Str) ((m200 a0.Kind).2)).bind fun y5 =>
            bif y5 then
             some (LO.norm a0.Own)
            else
             some (LO.norm false)
          else
           (m201 ([111] : Str) ((m200 a0.Kind).2)).bind fun y6 =>
           bif y6 then
            some (LO.norm a0.Own)
           else
            some (LO.norm false)
        else
         (m201 ([115] : Str) ((m200 a0.Kind).2)).bind fun y7 =>
         bif y7 then
          bif a0.Seq then
           some (LO.norm true)
          else
           (m201 ([111] : Str) ((m200 a0.Kind).2)).bind fun y8 =>
           bif y8 then
            some (LO.norm a0.Own)
           else
            some (LO.norm false)
         else
          (m201 ([111] : Str) ((m200 a0.Kind).2)).bind fun y9 =>
          bif y9 then
           some (LO.norm a0.Own)
          else
           some (LO.norm false)
      else
       (m201 ([118] : Str) ((m200 a0.Kind).2)).bind fun y10 =>
       bif y10 then
        bif a0.Version != 0 then
         some (LO.norm true)
        else
         (m201 ([115] : Str) ((m200 a0.Kind).2)).bind fun y11 =>
         bif y11 then
          bif a0.Seq then
           some (LO.norm true)
          else
           (m201 ([111] : Str) ((m200 a0.Kind).2)).bind fun y12 =>
           bif y12 then
            some (LO.norm a0.Own)
           else
            some (LO.norm false)
         else
          (m201 ([111] : Str) ((m200 a0.Kind).2)).bind fun y13 =>
          bif y13 then
           some (LO.norm a0.Own)
          else
           some (LO.norm false)
       else
        (m201 ([115] : Str) ((m200 a0.Kind).2)).bind fun y14 =>
        bif y14 then
         bif a0.Seq then
          some (LO.norm true)
         else
          (m201 ([111] : Str) ((m200 a0.Kind).2)).bind fun y15 =>
          bif y15 then
           some (LO.norm a0.Own)
          else
           some (LO.norm false)
        else
         (m201 ([111] : Str) ((m200 a0.Kind).2)).bind fun y16 =>
         bif y16 then
          some (LO.norm a0.Own)
         else
          some (LO.norm false)
    else
     (m201 ([100] : Str) ((m200 a0.Kind).2)).bind fun y17 =>
     bif y17 then
      bif a0.Data != 0 then
       some (LO.norm true)
      else
       (m201 ([118] : Str) ((m200 a0.Kind).2)).bind fun y18 =>
       bif y18 then
        bif a0.Version != 0 then
         some (LO.norm true)
        else
         (m201 ([115] : Str) ((m200 a0.Kind).2)).bind fun y19 =>
         bif y19 then
          bif a0.Seq then
           some (LO.norm true)
          else
           (m201 ([111] : Str) ((m200 a0.Kind).2)).bind fun y20 =>
           bif y20 then
            some (LO.norm a0.Own)
           else
            some (LO.norm false)
         else
          (m201 ([111] : Str) ((m200 a0.Kind).2)).bind fun y21 =>
          bif y21 then
           some (LO.norm a0.Own)
          else
           some (LO.norm false)
       else
        (m201 ([115] : Str) ((m200 a0.Kind).2)).bind fun y22 =>
        bif y22 then
         bif a0.Seq then
          some (LO.norm true)
         else
          (m201 ([111] : Str) ((m200 a0.Kind).2)).bind fun y23 =>
          bif y23 then
           some (LO.norm a0.Own)
          else
           some (LO.norm false)
        else
         (m201 ([111] : Str) ((m200 a0.Kind).2)).bind fun y24 =>
         bif y24 then
          some (LO.norm a0.Own)
         else
          some (LO.norm false)
     else
      (m201 ([118] : Str) ((m200 a0.Kind).2)).bind fun y25 =>
      bif y25 then
       bif a0.Version != 0 then
        some (LO.norm true)
       else
        (m201 ([115] : Str) ((m200 a0.Kind).2)).bind fun y26 =>
        bif y26 then
         bif a0.Seq then
          some (LO.norm true)
         else
          (m201 ([111] : Str) ((m200 a0.Kind).2)).bind fun y27 =>
          bif y27 then
           some (LO.norm a0.Own)
          else
           some (LO.norm false)
        else
         (m201 ([111] : Str) ((m200 a0.Kind).2)).bind fun y28 =>
         bif y28 then
          some (LO.norm a0.Own)
         else
          some (LO.norm false)
      else
       (m201 ([115] : Str) ((m200 a0.Kind).2)).bind fun y29 =>
       bif y29 then
        bif a0.Seq then
         some (LO.norm true)
        else
         (m201 ([111] : Str) ((m200 a0.Kind).2)).bind fun y30 =>
         bif y30 then
          some (LO.norm a0.Own)
         else
          some (LO.norm false)
       else
        (m201 ([111] : Str) ((m200 a0.Kind).2)).bind fun y31 =>
        bif y31 then
         some (LO.norm a0.Own)
        else
         some (LO.norm false)).bind (contO (fun s3 =>
   bif s3 then
    some (LO.ret 1)
   else
    (m201 ([112] : Str) ((m200 a0.Kind).2)).bind fun y32 =>
    bif y32 then
     some (LO.ret 0)
    else
     some (LO.norm 0)) (fun i1 s3 =>
   if i1 = 0 then
    some (LO.norm 0)
   else
    some (LO.exit i1 0)) (fun s3 =>
   some (LO.ret 0)))).bind (contO (fun s4 =>
  (m203 a0.Path).bind fun y33 =>
  bif y33 != 0 then
   some y33
  else
   (
    bif !(m204 a0.Data) then
     some (LO.ret 3)
    else
     bif !(m132 a0.Version (-1) 999) then
      some (LO.ret 3)
     else
      some (LO.norm s4)).bind (contO (fun s6 =>
    some 0) (fun i3 s6 =>
    none) (fun s6 =>
    some s6))) (fun i2 s4 =>
  none) (fun s4 =>
  some s4))
theorem w136 {d : Nat} (hd : 5 ≤ d) (k0 : Bool) (a0 : TOp) : Fit (R NN d 136 [.agg (Enc.cs k0 a0)] []) (m136 a0) (P0 (fun (t : Int) => AV.int .i64 t)) := by
  obtain ⟨d, rfl, g⟩ := up hd
  refine q_in (t136 NN d _) ?_
  unfold b136 m136
  refine q_box (n := 6) rfl rfl (by decide) fun b1 => q_p fr <| q_ld 0 rfl rfl <| q_c0t (fun S hS => argF1 (cv_p rfl) hS fun l0_ => w200 (by omega) a0.Kind) <| q_q fr <| q_q fr <| q_new rfl fun b2 => q_st 0 rfl rfl rfl (by decide) rfl <| q_cut (I := (fun (s : Int) l L => l = [.int .i64 s] ∧ L = [bx b2 [encS ((m200 a0.Kind).2)], bx b1 [.int .i64 a0.Kind, encS a0.Path, .int .i64 a0.Data, .int .i64 a0.Version, .bool a0.Seq, .bool a0.Own]])) ?_ ?_ ?_ ?_
  ·refine q_cut (I := (fun (s : Bool) l L => l = [.bool s] ∧ L = [bx b2 [encS ((m200 a0.Kind).2)], bx b1 [.int .i64 a0.Kind, encS a0.Path, .int .i64 a0.Data, .int .i64 a0.Version, .bool a0.Seq, .bool a0.Own]])) ?_ ?_ ?_ ?_
   ·refine q_p fr <| q_ld 1 rfl rfl <| q_c0t (fun S hS => argF3 (cv_p rfl) (cv_p rfl) (cv_p rfl) hS fun l0_ l1_ l2_ => w132 (by omega) a0.Kind 1 8) <| q_p fr <| q_gF (fun h47 => ?_) (fun h47 => ?_)
    ·exact q_norm 0 ⟨rfl, rfl⟩
    ·refine q_v0 (mg := m201 ([112] : Str) ((m200 a0.Kind).2)) (E := (fun (t : Bool) => AV.bool t)) (fun S => cv136_201 _ _ _ _) (fun S hS => argF2 (cv_p rfl) (cv_b 0 rfl (cvs_e (l0 := false) (x := (m200 a0.Kind).2))) hS fun l0_ l1_ => w201 (by omega) ([112] : Str) l1_ ((m200 a0.Kind).2)) fun y1 hy1 => q_gT (fun h46 => ?_) (fun h46 => ?_)
     ·refine q_p fr <| q_ld 1 rfl rfl <| q_p (fun _ => seq_neq) <| q_gF (fun h23 => ?_) (fun h23 => ?_)
      ·exact q_norm 0 ⟨rfl, rfl⟩
      ·refine q_v0 (mg := m201 ([100] : Str) ((m200 a0.Kind).2)) (E := (fun (t : Bool) => AV.bool t)) (fun S => cv136_201 _ _ _ _) (fun S hS => argF2 (cv_p rfl) (cv_b 0 rfl (cvs_e (l0 := false) (x := (m200 a0.Kind).2))) hS fun l0_ l1_ => w201 (by omega) ([100] : Str) l1_ ((m200 a0.Kind).2)) fun y2 hy2 => q_gT (fun h22 => ?_) (fun h22 => ?_)
       ·refine q_p fr <| q_ld 1 rfl rfl <| q_p fr <| q_gF (fun h11 => ?_) (fun h11 => ?_)
        ·exact q_norm 0 ⟨rfl, rfl⟩
        ·refine q_v0 (mg := m201 ([118] : Str) ((m200 a0.Kind).2)) (E := (fun (t : Bool) => AV.bool t)) (fun S => cv136_201 _ _ _ _) (fun S hS => argF2 (cv_p rfl) (cv_b 0 rfl (cvs_e (l0 := false) (x := (m200 a0.Kind).2))) hS fun l0_ l1_ => w201 (by omega) ([118] : Str) l1_ ((m200 a0.Kind).2)) fun y3 hy3 => q_gT (fun h10 => ?_) (fun h10 => ?_)
         ·refine q_p fr <| q_ld 1 rfl rfl <| q_p fr <| q_gF (fun h5 => ?_) (fun h5 => ?_)
          ·exact q_norm 0 ⟨rfl, rfl⟩
          ·refine q_v0 (mg := m201 ([115] : Str) ((m200 a0.Kind).2)) (E := (fun (t : Bool) => AV.bool t)) (fun S => cv136_201 _ _ _ _) (fun S hS => argF2 (cv_p rfl) (cv_b 0 rfl (cvs_e (l0 := false) (x := (m200 a0.Kind).2))) hS fun l0_ l1_ => w201 (by omega) ([115] : Str) l1_ ((m200 a0.Kind).2)) fun y4 hy4 => q_gT (fun h4 => ?_) (fun h4 => ?_)
           ·refine q_p fr <| q_ld 1 rfl rfl <| q_gF (fun h2 => ?_) (fun h2 => ?_)
            ·exact q_norm 0 ⟨rfl, rfl⟩
            ·refine q_v0 (mg := m201 ([111] : Str) ((m200 a0.Kind).2)) (E := (fun (t : Bool) => AV.bool t)) (fun S => cv136_201 _ _ _ _) (fun S hS => argF2 (cv_p rfl) (cv_b 0 rfl (cvs_e (l0 := false) (x := (m200 a0.Kind).2))) hS fun l0_ l1_ => w201 (by omega) ([111] : Str) l1_ ((m200 a0.Kind).2)) fun y5 hy5 => q_gT (fun h1 => ?_) (fun h1 => ?_)
             ·exact q_p fr <| q_ld 1 rfl rfl <| q_norm 0 ⟨rfl, rfl⟩
             ·exact q_norm 0 ⟨rfl, rfl⟩
           ·refine q_v0 (mg := m201 ([111] : Str) ((m200 a0.Kind).2)) (E := (fun (t : Bool) => AV.bool t)) (fun S => cv136_201 _ _ _ _) (fun S hS => argF2 (cv_p rfl) (cv_b 0 rfl (cvs_e (l0 := false) (x := (m200 a0.Kind).2))) hS fun l0_ l1_ => w201 (by omega) ([111] : Str) l1_ ((m200 a0.Kind).2)) fun y6 hy6 => q_gT (fun h3 => ?_) (fun h3 => ?_)
            ·exact q_p fr <| q_ld 1 rfl rfl <| q_norm 0 ⟨rfl, rfl⟩
            ·exact q_norm 0 ⟨rfl, rfl⟩
         ·refine q_v0 (mg := m201 ([115] : Str) ((m200 a0.Kind).2)) (E := (fun (t : Bool) => AV.bool t)) (fun S => cv136_201 _ _ _ _) (fun S hS => argF2 (cv_p rfl) (cv_b 0 rfl (cvs_e (l0 := false) (x := (m200 a0.Kind).2))) hS fun l0_ l1_ => w201 (by omega) ([115] : Str) l1_ ((m200 a0.Kind).2)) fun y7 hy7 => q_gT (fun h9 => ?_) (fun h9 => ?_)
          ·refine q_p fr <| q_ld 1 rfl rfl <| q_gF (fun h7 => ?_) (fun h7 => ?_)
           ·exact q_norm 0 ⟨rfl, rfl⟩
           ·refine q_v0 (mg := m201 ([111] : Str) ((m200 a0.Kind).2)) (E := (fun (t : Bool) => AV.bool t)) (fun S => cv136_201 _ _ _ _) (fun S hS => argF2 (cv_p rfl) (cv_b 0 rfl (cvs_e (l0 := false) (x := (m200 a0.Kind).2))) hS fun l0_ l1_ => w201 (by omega) ([111] : Str) l1_ ((m200 a0.Kind).2)) fun y8 hy8 => q_gT (fun h6 => ?_) (fun h6 => ?_)
            ·exact q_p fr <| q_ld 1 rfl rfl <| q_norm 0 ⟨rfl, rfl⟩
            ·exact q_norm 0 ⟨rfl, rfl⟩
          ·refine q_v0 (mg := m201 ([111] : Str) ((m200 a0.Kind).2)) (E := (fun (t : Bool) => AV.bool t)) (fun S => cv136_201 _ _ _ _) (fun S hS => argF2 (cv_p rfl) (cv_b 0 rfl (cvs_e (l0 := false) (x := (m200 a0.Kind).2))) hS fun l0_ l1_ => w201 (by omega) ([111] : Str) l1_ ((m200 a0.Kind).2)) fun y9 hy9 => q_gT (fun h8 => ?_) (fun h8 => ?_)
           ·exact q_p fr <| q_ld 1 rfl rfl <| q_norm 0 ⟨rfl, rfl⟩
           ·exact q_norm 0 ⟨rfl, rfl⟩
       ·refine q_v0 (mg := m201 ([118] : Str) ((m200 a0.Kind).2)) (E := (fun (t : Bool) => AV.bool t)) (fun S => cv136_201 _ _ _ _) (fun S hS => argF2 (cv_p rfl) (cv_b 0 rfl (cvs_e (l0 := false) (x := (m200 a0.Kind).2))) hS fun l0_ l1_ => w201 (by omega) ([118] : Str) l1_ ((m200 a0.Kind).2)) fun y10 hy10 => q_gT (fun h21 => ?_) (fun h21 => ?_)
        ·refine q_p fr <| q_ld 1 rfl rfl <| q_p fr <| q_gF (fun h16 => ?_) (fun h16 => ?_)
         ·exact q_norm 0 ⟨rfl, rfl⟩
         ·refine q_v0 (mg := m201 ([115] : Str) ((m200 a0.Kind).2)) (E := (fun (t : Bool) => AV.bool t)) (fun S => cv136_201 _ _ _ _) (fun S hS => argF2 (cv_p rfl) (cv_b 0 rfl (cvs_e (l0 := false) (x := (m200 a0.Kind).2))) hS fun l0_ l1_ => w201 (by omega) ([115] : Str) l1_ ((m200 a0.Kind).2)) fun y11 hy11 => q_gT (fun h15 => ?_) (fun h15 => ?_)
          ·refine q_p fr <| q_ld 1 rfl rfl <| q_gF (fun h13 => ?_) (fun h13 => ?_)
           ·exact q_norm 0 ⟨rfl, rfl⟩
           ·refine q_v0 (mg := m201 ([111] : Str) ((m200 a0.Kind).2)) (E := (fun (t : Bool) => AV.bool t)) (fun S => cv136_201 _ _ _ _) (fun S hS => argF2 (cv_p rfl) (cv_b 0 rfl (cvs_e (l0 := false) (x := (m200 a0.Kind).2))) hS fun l0_ l1_ => w201 (by omega) ([111] : Str) l1_ ((m200 a0.Kind).2)) fun y12 hy12 => q_gT (fun h12 => ?_) (fun h12 => ?_)
            ·exact q_p fr <| q_ld 1 rfl rfl <| q_norm 0 ⟨rfl, rfl⟩
            ·exact q_norm 0 ⟨rfl, rfl⟩
          ·refine q_v0 (mg := m201 ([111] : Str) ((m200 a0.Kind).2)) (E := (fun (t : Bool) => AV.bool t)) (fun S => cv136_201 _ _ _ _) (fun S hS => argF2 (cv_p rfl) (cv_b 0 rfl (cvs_e (l0 := false) (x := (m200 a0.Kind).2))) hS fun l0_ l1_ => w201 (by omega) ([111] : Str) l1_ ((m200 a0.Kind).2)) fun y13 hy13 => q_gT (fun h14 => ?_) (fun h14 => ?_)
           ·exact q_p fr <| q_ld 1 rfl rfl <| q_norm 0 ⟨rfl, rfl⟩
           ·exact q_norm 0 ⟨rfl, rfl⟩
        ·refine q_v0 (mg := m201 ([115] : Str) ((m200 a0.Kind).2)) (E := (fun (t : Bool) => AV.bool t)) (fun S => cv136_201 _ _ _ _) (fun S hS => argF2 (cv_p rfl) (cv_b 0 rfl (cvs_e (l0 := false) (x := (m200 a0.Kind).2))) hS fun l0_ l1_ => w201 (by omega) ([115] : Str) l1_ ((m200 a0.Kind).2)) fun y14 hy14 => q_gT (fun h20 => ?_) (fun h20 => ?_)
         ·refine q_p fr <| q_ld 1 rfl rfl <| q_gF (fun h18 => ?_) (fun h18 => ?_)
          ·exact q_norm 0 ⟨rfl, rfl⟩
          ·refine q_v0 (mg := m201 ([111] : Str) ((m200 a0.Kind).2)) (E := (fun (t : Bool) => AV.bool t)) (fun S => cv136_201 _ _ _ _) (fun S hS => argF2 (cv_p rfl) (cv_b 0 rfl (cvs_e (l0 := false) (x := (m200 a0.Kind).2))) hS fun l0_ l1_ => w201 (by omega) ([111] : Str) l1_ ((m200 a0.Kind).2)) fun y15 hy15 => q_gT (fun h17 => ?_) (fun h17 => ?_)
           ·exact q_p fr <| q_ld 1 rfl rfl <| q_norm 0 ⟨rfl, rfl⟩
           ·exact q_norm 0 ⟨rfl, rfl⟩
         ·refine q_v0 (mg := m201 ([111] : Str) ((m200 a0.Kind).2)) (E := (fun (t : Bool) => AV.bool t)) (fun S => cv136_201 _ _ _ _) (fun S hS => argF2 (cv_p rfl) (cv_b 0 rfl (cvs_e (l0 := false) (x := (m200 a0.Kind).2))) hS fun l0_ l1_ => w201 (by omega) ([111] : Str) l1_ ((m200 a0.Kind).2)) fun y16 hy16 => q_gT (fun h19 => ?_) (fun h19 => ?_)
          ·exact q_p fr <| q_ld 1 rfl rfl <| q_norm 0 ⟨rfl, rfl⟩
          ·exact q_norm 0 ⟨rfl, rfl⟩
     ·refine q_v0 (mg := m201 ([100] : Str) ((m200 a0.Kind).2)) (E := (fun (t : Bool) => AV.bool t)) (fun S => cv136_201 _ _ _ _) (fun S hS => argF2 (cv_p rfl) (cv_b 0 rfl (cvs_e (l0 := false) (x := (m200 a0.Kind).2))) hS fun l0_ l1_ => w201 (by omega) ([100] : Str) l1_ ((m200 a0.Kind).2)) fun y17 hy17 => q_gT (fun h45 => ?_) (fun h45 => ?_)
      ·refine q_p fr <| q_ld 1 rfl rfl <| q_p fr <| q_gF (fun h34 => ?_) (fun h34 => ?_)
       ·exact q_norm 0 ⟨rfl, rfl⟩
       ·refine q_v0 (mg := m201 ([118] : Str) ((m200 a0.Kind).2)) (E := (fun (t : Bool) => AV.bool t)) (fun S => cv136_201 _ _ _ _) (fun S hS => argF2 (cv_p rfl) (cv_b 0 rfl (cvs_e (l0 := false) (x := (m200 a0.Kind).2))) hS fun l0_ l1_ => w201 (by omega) ([118] : Str) l1_ ((m200 a0.Kind).2)) fun y18 hy18 => q_gT (fun h33 => ?_) (fun h33 => ?_)
        ·refine q_p fr <| q_ld 1 rfl rfl <| q_p fr <| q_gF (fun h28 => ?_) (fun h28 => ?_)
         ·exact q_norm 0 ⟨rfl, rfl⟩
         ·refine q_v0 (mg := m201 ([115] : Str) ((m200 a0.Kind).2)) (E := (fun (t : Bool) => AV.bool t)) (fun S => cv136_201 _ _ _ _) (fun S hS => argF2 (cv_p rfl) (cv_b 0 rfl (cvs_e (l0 := false) (x := (m200 a0.Kind).2))) hS fun l0_ l1_ => w201 (by omega) ([115] : Str) l1_ ((m200 a0.Kind).2)) fun y19 hy19 => q_gT (fun h27 => ?_) (fun h27 => ?_)
          ·refine q_p fr <| q_ld 1 rfl rfl <| q_gF (fun h25 => ?_) (fun h25 => ?_)
           ·exact q_norm 0 ⟨rfl, rfl⟩
           ·refine q_v0 (mg := m201 ([111] : Str) ((m200 a0.Kind).2)) (E := (fun (t : Bool) => AV.bool t)) (fun S => cv136_201 _ _ _ _) (fun S hS => argF2 (cv_p rfl) (cv_b 0 rfl (cvs_e (l0 := false) (x := (m200 a0.Kind).2))) hS fun l0_ l1_ => w201 (by omega) ([111] : Str) l1_ ((m200 a0.Kind).2)) fun y20 hy20 => q_gT (fun h24 => ?_) (fun h24 => ?_)
            ·exact q_p fr <| q_ld 1 rfl rfl <| q_norm 0 ⟨rfl, rfl⟩
            ·exact q_norm 0 ⟨rfl, rfl⟩
          ·refine q_v0 (mg := m201 ([111] : Str) ((m200 a0.Kind).2)) (E := (fun (t : Bool) => AV.bool t)) (fun S => cv136_201 _ _ _ _) (fun S hS => argF2 (cv_p rfl) (cv_b 0 rfl (cvs_e (l0 := false) (x := (m200 a0.Kind).2))) hS fun l0_ l1_ => w201 (by omega) ([111] : Str) l1_ ((m200 a0.Kind).2)) fun y21 hy21 => q_gT (fun h26 => ?_) (fun h26 => ?_)
           ·exact q_p fr <| q_ld 1 rfl rfl <| q_norm 0 ⟨rfl, rfl⟩
           ·exact q_norm 0 ⟨rfl, rfl⟩
        ·refine q_v0 (mg := m201 ([115] : Str) ((m200 a0.Kind).2)) (E := (fun (t : Bool) => AV.bool t)) (fun S => cv136_201 _ _ _ _) (fun S hS => argF2 (cv_p rfl) (cv_b 0 rfl (cvs_e (l0 := false) (x := (m200 a0.Kind).2))) hS fun l0_ l1_ => w201 (by omega) ([115] : Str) l1_ ((m200 a0.Kind).2)) fun y22 hy22 => q_gT (fun h32 => ?_) (fun h32 => ?_)
         ·refine q_p fr <| q_ld 1 rfl rfl <| q_gF (fun h30 => ?_) (fun h30 => ?_)
          ·exact q_norm 0 ⟨rfl, rfl⟩
          ·refine q_v0 (mg := m201 ([111] : Str) ((m200 a0.Kind).2)) (E := (fun (t : Bool) => AV.bool t)) (fun S => cv136_201 _ _ _ _) (fun S hS => argF2 (cv_p rfl) (cv_b 0 rfl (cvs_e (l0 := false) (x := (m200 a0.Kind).2))) hS fun l0_ l1_ => w201 (by omega) ([111] : Str) l1_ ((m200 a0.Kind).2)) fun y23 hy23 => q_gT (fun h29 => ?_) (fun h29 => ?_)
           ·exact q_p fr <| q_ld 1 rfl rfl <| q_norm 0 ⟨rfl, rfl⟩
           ·exact q_norm 0 ⟨rfl, rfl⟩
         ·refine q_v0 (mg := m201 ([111] : Str) ((m200 a0.Kind).2)) (E := (fun (t : Bool) => AV.bool t)) (fun S => cv136_201 _ _ _ _) (fun S hS => argF2 (cv_p rfl) (cv_b 0 rfl (cvs_e (l0 := false) (x := (m200 a0.Kind).2))) hS fun l0_ l1_ => w201 (by omega) ([111] : Str) l1_ ((m200 a0.Kind).2)) fun y24 hy24 => q_gT (fun h31 => ?_) (fun h31 => ?_)
          ·exact q_p fr <| q_ld 1 rfl rfl <| q_norm 0 ⟨rfl, rfl⟩
          ·exact q_norm 0 ⟨rfl, rfl⟩
      ·refine q_v0 (mg := m201 ([118] : Str) ((m200 a0.Kind).2)) (E := (fun (t : Bool) => AV.bool t)) (fun S => cv136_201 _ _ _ _) (fun S hS => argF2 (cv_p rfl) (cv_b 0 rfl (cvs_e (l0 := false) (x := (m200 a0.Kind).2))) hS fun l0_ l1_ => w201 (by omega) ([118] : Str) l1_ ((m200 a0.Kind).2)) fun y25 hy25 => q_gT (fun h44 => ?_) (fun h44 => ?_)
       ·refine q_p fr <| q_ld 1 rfl rfl <| q_p fr <| q_gF (fun h39 => ?_) (fun h39 => ?_)
        ·exact q_norm 0 ⟨rfl, rfl⟩
        ·refine q_v0 (mg := m201 ([115] : Str) ((m200 a0.Kind).2)) (E := (fun (t : Bool) => AV.bool t)) (fun S => cv136_201 _ _ _ _) (fun S hS => argF2 (cv_p rfl) (cv_b 0 rfl (cvs_e (l0 := false) (x := (m200 a0.Kind).2))) hS fun l0_ l1_ => w201 (by omega) ([115] : Str) l1_ ((m200 a0.Kind).2)) fun y26 hy26 => q_gT (fun h38 => ?_) (fun h38 => ?_)
         ·refine q_p fr <| q_ld 1 rfl rfl <| q_gF (fun h36 => ?_) (fun h36 => ?_)
          ·exact q_norm 0 ⟨rfl, rfl⟩
          ·refine q_v0 (mg := m201 ([111] : Str) ((m200 a0.Kind).2)) (E := (fun (t : Bool) => AV.bool t)) (fun S => cv136_201 _ _ _ _) (fun S hS => argF2 (cv_p rfl) (cv_b 0 rfl (cvs_e (l0 := false) (x := (m200 a0.Kind).2))) hS fun l0_ l1_ => w201 (by omega) ([111] : Str) l1_ ((m200 a0.Kind).2)) fun y27 hy27 => q_gT (fun h35 => ?_) (fun h35 => ?_)
           ·exact q_p fr <| q_ld 1 rfl rfl <| q_norm 0 ⟨rfl, rfl⟩
           ·exact q_norm 0 ⟨rfl, rfl⟩
         ·refine q_v0 (mg := m201 ([111] : Str) ((m200 a0.Kind).2)) (E := (fun (t : Bool) => AV.bool t)) (fun S => cv136_201 _ _ _ _) (fun S hS => argF2 (cv_p rfl) (cv_b 0 rfl (cvs_e (l0 := false) (x := (m200 a0.Kind).2))) hS fun l0_ l1_ => w201 (by omega) ([111] : Str) l1_ ((m200 a0.Kind).2)) fun y28 hy28 => q_gT (fun h37 => ?_) (fun h37 => ?_)
          ·exact q_p fr <| q_ld 1 rfl rfl <| q_norm 0 ⟨rfl, rfl⟩
          ·exact q_norm 0 ⟨rfl, rfl⟩
       ·refine q_v0 (mg := m201 ([115] : Str) ((m200 a0.Kind).2)) (E := (fun (t : Bool) => AV.bool t)) (fun S => cv136_201 _ _ _ _) (fun S hS => argF2 (cv_p rfl) (cv_b 0 rfl (cvs_e (l0 := false) (x := (m200 a0.Kind).2))) hS fun l0_ l1_ => w201 (by omega) ([115] : Str) l1_ ((m200 a0.Kind).2)) fun y29 hy29 => q_gT (fun h43 => ?_) (fun h43 => ?_)
        ·refine q_p fr <| q_ld 1 rfl rfl <| q_gF (fun h41 => ?_) (fun h41 => ?_)
         ·exact q_norm 0 ⟨rfl, rfl⟩
         ·refine q_v0 (mg := m201 ([111] : Str) ((m200 a0.Kind).2)) (E := (fun (t : Bool) => AV.bool t)) (fun S => cv136_201 _ _ _ _) (fun S hS => argF2 (cv_p rfl) (cv_b 0 rfl (cvs_e (l0 := false) (x := (m200 a0.Kind).2))) hS fun l0_ l1_ => w201 (by omega) ([111] : Str) l1_ ((m200 a0.Kind).2)) fun y30 hy30 => q_gT (fun h40 => ?_) (fun h40 => ?_)
          ·exact q_p fr <| q_ld 1 rfl rfl <| q_norm 0 ⟨rfl, rfl⟩
          ·exact q_norm 0 ⟨rfl, rfl⟩
        ·refine q_v0 (mg := m201 ([111] : Str) ((m200 a0.Kind).2)) (E := (fun (t : Bool) => AV.bool t)) (fun S => cv136_201 _ _ _ _) (fun S hS => argF2 (cv_p rfl) (cv_b 0 rfl (cvs_e (l0 := false) (x := (m200 a0.Kind).2))) hS fun l0_ l1_ => w201 (by omega) ([111] : Str) l1_ ((m200 a0.Kind).2)) fun y31 hy31 => q_gT (fun h42 => ?_) (fun h42 => ?_)
         ·exact q_p fr <| q_ld 1 rfl rfl <| q_norm 0 ⟨rfl, rfl⟩
         ·exact q_norm 0 ⟨rfl, rfl⟩
   ·rintro s3 _ _ ⟨rfl, rfl⟩
    refine q_if (fun h49 => ?_) (fun h49 => ?_)
    ·exact q_lret 0 ⟨rfl, rfl⟩
    ·refine q_v0 (mg := m201 ([112] : Str) ((m200 a0.Kind).2)) (E := (fun (t : Bool) => AV.bool t)) (fun S => cv136_201 _ _ _ _) (fun S hS => argF2 (cv_p rfl) (cv_b 0 rfl (cvs_e (l0 := false) (x := (m200 a0.Kind).2))) hS fun l0_ l1_ => w201 (by omega) ([112] : Str) l1_ ((m200 a0.Kind).2)) fun y32 hy32 => q_if (fun h48 => ?_) (fun h48 => ?_)
     ·exact q_lret 0 ⟨rfl, rfl⟩
     ·exact q_norm 0 ⟨rfl, rfl⟩
   ·rintro i1 s3 _ _ ⟨rfl, rfl⟩
    refine q_ite (fun _ => ?_) (fun _ => ?_)
    ·exact q_norm 0 ⟨rfl, rfl⟩
    ·exact q_exit 0 ⟨rfl, rfl⟩
   ·rintro s3 _ _ ⟨rfl, rfl⟩
    exact q_lret 0 ⟨rfl, rfl⟩
  ·rintro s4 _ _ ⟨rfl, rfl⟩
   refine q_p fr <| q_ld 1 rfl rfl <| q_c0 (fun S hS => argF1 (cv_p rfl) hS fun l0_ => w203 (by omega) a0.Path) fun y33 hy33 => q_p fr <| q_if (fun h52 => ?_) (fun h52 => ?_)
   ·exact q_ret (cv_p rfl) rfl
   ·refine q_cut (I := (fun (s : Int) l L => l = [.int .i64 s] ∧ L = [bx b2 [encS ((m200 a0.Kind).2)], bx b1 [.int .i64 a0.Kind, encS a0.Path, .int .i64 a0.Data, .int .i64 a0.Version, .bool a0.Seq, .bool a0.Own]])) ?_ ?_ ?_ ?_
    ·refine q_p fr <| q_ld 1 rfl rfl <| q_c0t (fun S hS => argF1 (cv_p rfl) hS fun l0_ => w204 (by omega) a0.Data) <| q_p fr <| q_gF (fun h51 => ?_) (fun h51 => ?_)
     ·first | refine q_ifT1 ?_ | skip
      exact q_lret 0 ⟨rfl, rfl⟩
     ·refine q_p fr <| q_ld 1 rfl rfl <| q_c0t (fun S hS => argF3 (cv_p rfl) (cv_p rfl) (cv_p rfl) hS fun l0_ l1_ l2_ => w132 (by omega) a0.Version (-1) 999) <| q_p fr <| q_if (fun h50 => ?_) (fun h50 => ?_)
      ·exact q_lret 0 ⟨rfl, rfl⟩
      ·exact q_norm 0 ⟨rfl, rfl⟩
    ·rintro s6 _ _ ⟨rfl, rfl⟩
     exact q_ret (cv_p rfl) rfl
    ·rintro i3 s6 _ _ ⟨rfl, rfl⟩
     exact q_none
    ·rintro s6 _ _ ⟨rfl, rfl⟩
     exact q_ret (cv_p rfl) rfl
  ·rintro i2 s4 _ _ ⟨rfl, rfl⟩
   exact q_none
  ·rintro s4 _ _ ⟨rfl, rfl⟩
   exact q_ret (cv_p rfl) rfl
def ms205_0 (a0 : List TOp) (a1 : TOp → Option (Bool)) (s1 : Int × Int) : Option (LO (Int × Int)) :=
 bif decide (s1.2 < (a0.length : Int)) then
  (getI a0 s1.2).bind fun x1 =>
  (a1 x1).bind fun y1 =>
  bif y1 then
   some (LO.ret (s1.2, s1.2))
  else
   some (LO.norm (s1.1, wi .i64 (s1.2 + 1)))
 else
  some (LO.exit 0 (s1.1, s1.2))
def m205 (a0 : List TOp) (a1 : TOp → Option (Bool)) : Option (Int) :=
 (loopO (ms205_0 a0 a1) NN (0, 0)).bind (contO (fun _ => none) (fun i1 s2 =>
  if i1 = 0 then
   some (-1)
  else
   none) (fun s2 =>
  some s2.1))
theorem w205 {Dc : Nat} {d : Nat} (hd : Dc + 1 ≤ d) (k0 : Bool) (a0 : List TOp) (c1 : Bool → AV) (hc1 : ∀ l, CV 8 [] false (c1 l) c1) (a1 : TOp → Option (Bool)) (tc1 : ∀ (d : Nat), Dc ≤ d → ∀ (l : Bool) (q0 : Bool) (x0 : TOp) (S : St) (t : Bool), a1 x0 = some t → callV (cfg NN) (R NN d) 205 (c1 l) [.agg (Enc.cs q0 x0)] S = some ((fun (t : Bool) => AV.bool t) t, S)) (k1 : Bool) : Fit (R NN d 205 [.rsl k0 false (a0.map (Enc.cs k0)), c1 k1] []) (m205 a0 a1) (P0 (fun (t : Int) => AV.int .i64 t)) := by
  obtain ⟨d, rfl, g⟩ := up hd
  refine q_in (t205 NN d _ _) ?_
  unfold b205 m205
  refine q_len <| q_loop (I := (fun (s : Int × Int) l L => l = [.int .i64 s.1, .int .i64 s.2] ∧ L = [])) 0 ⟨rfl, rfl⟩ ?_ ?_ ?_
  ·rintro s1 _ _ ⟨rfl, rfl⟩
   unfold s205_0 ms205_0
   refine q_p fr <| q_if (fun h2 => ?_) (fun h2 => ?_)
   ·refine q_ix rfl fun x1 hx1 => q_p fr <| q_cv (mg := a1 x1) (E := (fun (t : Bool) => AV.bool t)) (fun S t ht => tc1 d (by omega) k1 k0 x1 S t ht) fun y1 hy1 => q_if (fun h1 => ?_) (fun h1 => ?_)
    ·exact q_lret 0 ⟨rfl, rfl⟩
    ·exact q_p fr <| q_norm 0 ⟨rfl, rfl⟩
   ·exact q_exit 0 ⟨rfl, rfl⟩
  ·rintro i1 s2 _ _ ⟨rfl, rfl⟩
   refine q_ite (fun _ => ?_) (fun _ => ?_)
   ·exact q_ret (cv_p rfl) rfl
   ·exact q_none
  ·rintro s2 _ _ ⟨rfl, rfl⟩
   exact q_ret (cv_p rfl) rfl
def m137 (a0 : List TOp) (a1 : TOp → Option (Bool)) : Option (Bool) :=
 (m205 a0 a1).bind fun y1 =>
 some (decide (y1 ≥ 0))
theorem w137 {Dc : Nat} {d : Nat} (hd : Dc + 2 ≤ d) (k0 : Bool) (a0 : List TOp) (c1 : Bool → AV) (hc1 : ∀ l, CV 8 [] false (c1 l) c1) (a1 : TOp → Option (Bool)) (tc1 : ∀ (d : Nat), Dc ≤ d → ∀ (l : Bool) (q0 : Bool) (x0 : TOp) (S : St) (t : Bool), a1 x0 = some t → callV (cfg NN) (R NN d) 205 (c1 l) [.agg (Enc.cs q0 x0)] S = some ((fun (t : Bool) => AV.bool t) t, S)) (k1 : Bool) : Fit (R NN d 137 [.rsl k0 false (a0.map (Enc.cs k0)), c1 k1] []) (m137 a0 a1) (P0 (fun (t : Bool) => AV.bool t)) := by
  obtain ⟨d, rfl, g⟩ := up hd
  refine q_in (t137 NN d _ _) ?_
  unfold b137 m137
  exact q_c0 (fun S hS => argF2 cv_r (CV.any (hc1 k1)) hS fun l0_ l1_ => w205 (by omega) l0_ a0 c1 hc1 a1 tc1 l1_) fun y1 hy1 => q_p fr <| q_ret (cv_p rfl) rfl
def m138 (a0 : TOp) : Bool :=
 bif a0.Kind == 1 then
  true
 else
  a0.Kind == 2
theorem w138 {d : Nat} (hd : 1 ≤ d) (k0 : Bool) (a0 : TOp) : Fit (R NN d 138 [.agg (Enc.cs k0 a0)] []) (some (m138 a0)) (P0 (fun (t : Bool) => AV.bool t)) := by
  obtain ⟨d, rfl, g⟩ := up hd
  refine q_in (t138 NN d _) ?_
  unfold b138 m138
  refine q_box (n := 6) rfl rfl (by decide) fun b1 => q_p fr <| q_ld 0 rfl rfl <| q_p fr <| q_gFt (fun h1 => ?_) (fun h1 => ?_)
  ·exact q_ret (cv_p rfl) rfl
  ·exact q_p fr <| q_ld 0 rfl rfl <| q_p fr <| q_ret (cv_p rfl) rfl
def ms70_0 (a0 : TRequest) (s5 : Int × Int) : Option (LO (Int × Int)) :=
 bif decide (s5.2 < (a0.Ops.length : Int)) then
  (getI a0.Ops s5.2).bind fun x1 =>
  (m136 x1).bind fun y1 =>
  bif y1 != 0 then
   some (LO.ret (y1, s5.2))
  else
   some (LO.norm (s5.1, wi .i64 (s5.2 + 1)))
 else
  some (LO.exit 1 (s5.1, s5.2))
def m70 (a0 : TRequest) : Option (Int) :=
 (
  (
   bif !(m134 a0.Client) then
    some (LO.norm true)
   else
    bif !(m132 a0.Number 1 99) then
     some (LO.norm true)
    else
     some (LO.norm (!(m135 a0.Time)))).bind (contO (fun s3 =>
   bif s3 then
    some (LO.ret 3)
   else
    bif !(m132 (a0.Ops.length : Int) 1 3) then
     some (LO.ret 2)
    else
     some (LO.norm 0)) (fun i1 s3 =>
   if i1 = 0 then
    some (LO.norm 0)
   else
    some (LO.exit i1 0)) (fun s3 =>
   some (LO.ret 0)))).bind (contO (fun s4 =>
  (loopO (ms70_0 a0) NN (s4, 0)).bind (contO (fun _ => none) (fun i3 s6 =>
   if i3 = 1 then
    (
     bif decide ((a0.Ops.length : Int) > 1) then
      (m137 a0.Ops (fun x0_ => some (m138 x0_))).bind fun y2 =>
      bif y2 then
       some (LO.ret 1)
      else
       some (LO.norm s6.1)
     else
      some (LO.norm s6.1)).bind (contO (fun s8 =>
     some 0) (fun i4 s8 =>
     none) (fun s8 =>
     some s8))
   else
    none) (fun s6 =>
   some s6.1))) (fun i2 s4 =>
  none) (fun s4 =>
  some s4))
theorem w70 {d : Nat} (hd : 6 ≤ d) (k0 : Bool) (a0 : TRequest) : Fit (R NN d 70 [.agg (Enc.cs k0 a0)] []) (m70 a0) (P0 (fun (t : Int) => AV.int .i64 t)) := by
  obtain ⟨d, rfl, g⟩ := up hd
  refine q_in (t70 NN d _) ?_
  unfold b70 m70
  refine q_box (n := 4) rfl rfl (by decide) fun b1 => q_cut (I := (fun (s : Int) l L => l = [.int .i64 s] ∧ L = [bx b1 [.int .i64 a0.Client, .int .i64 a0.Number, .int .i64 a0.Time, .rsl k0 false (a0.Ops.map (Enc.cs k0))]])) ?_ ?_ ?_ ?_
  ·refine q_cut (I := (fun (s : Bool) l L => l = [.bool s] ∧ L = [bx b1 [.int .i64 a0.Client, .int .i64 a0.Number, .int .i64 a0.Time, .rsl k0 false (a0.Ops.map (Enc.cs k0))]])) ?_ ?_ ?_ ?_
   ·refine q_p fr <| q_ld 0 rfl rfl <| q_c0t (fun S hS => argF1 (cv_p rfl) hS fun l0_ => w134 (by omega) a0.Client) <| q_p fr <| q_gF (fun h2 => ?_) (fun h2 => ?_)
    ·exact q_norm 0 ⟨rfl, rfl⟩
    ·refine q_p fr <| q_ld 0 rfl rfl <| q_c0t (fun S hS => argF3 (cv_p rfl) (cv_p rfl) (cv_p rfl) hS fun l0_ l1_ l2_ => w132 (by omega) a0.Number 1 99) <| q_p fr <| q_gF (fun h1 => ?_) (fun h1 => ?_)
     ·exact q_norm 0 ⟨rfl, rfl⟩
     ·exact q_p fr <| q_ld 0 rfl rfl <| q_c0t (fun S hS => argF1 (cv_p rfl) hS fun l0_ => w135 (by omega) a0.Time) <| q_p fr <| q_norm 0 ⟨rfl, rfl⟩
   ·rintro s3 _ _ ⟨rfl, rfl⟩
    refine q_if (fun h4 => ?_) (fun h4 => ?_)
    ·exact q_lret 0 ⟨rfl, rfl⟩
    ·refine q_p fr <| q_ld 0 rfl rfl <| q_len <| q_c0t (fun S hS => argF3 (cv_p rfl) (cv_p rfl) (cv_p rfl) hS fun l0_ l1_ l2_ => w132 (by omega) (a0.Ops.length : Int) 1 3) <| q_p fr <| q_if (fun h3 => ?_) (fun h3 => ?_)
     ·exact q_lret 0 ⟨rfl, rfl⟩
     ·exact q_norm 0 ⟨rfl, rfl⟩
   ·rintro i1 s3 _ _ ⟨rfl, rfl⟩
    refine q_ite (fun _ => ?_) (fun _ => ?_)
    ·exact q_norm 0 ⟨rfl, rfl⟩
    ·exact q_exit 0 ⟨rfl, rfl⟩
   ·rintro s3 _ _ ⟨rfl, rfl⟩
    exact q_lret 0 ⟨rfl, rfl⟩
  ·rintro s4 _ _ ⟨rfl, rfl⟩
   refine q_p fr <| q_ld 0 rfl rfl <| q_len <| q_loop (I := (fun (s : Int × Int) l L => l = [.int .i64 s.1, .int .i64 s.2] ∧ L = [bx b1 [.int .i64 a0.Client, .int .i64 a0.Number, .int .i64 a0.Time, .rsl k0 false (a0.Ops.map (Enc.cs k0))]])) 0 ⟨rfl, rfl⟩ ?_ ?_ ?_
   ·rintro s5 _ _ ⟨rfl, rfl⟩
    unfold s70_0 ms70_0
    refine q_p fr <| q_if (fun h6 => ?_) (fun h6 => ?_)
    ·refine q_ix rfl fun x1 hx1 => q_p fr <| q_new rfl fun b2 => q_st 0 rfl rfl rfl (by decide) rfl <| q_lda 0 rfl rfl rfl <| q_c0 (fun S hS => argF1 (cv_a (cvs_e (l0 := false) (x := x1))) hS fun l0_ => w136 (by omega) l0_ x1) fun y1 hy1 => q_p fr <| q_if (fun h5 => ?_) (fun h5 => ?_)
     ·exact q_lret 1 ⟨rfl, rfl⟩
     ·exact q_p fr <| q_norm 1 ⟨rfl, rfl⟩
    ·exact q_exit 0 ⟨rfl, rfl⟩
   ·rintro i3 s6 _ _ ⟨rfl, rfl⟩
    refine q_ite (fun _ => ?_) (fun _ => ?_)
    ·refine q_cut (I := (fun (s : Int) l L => l = [.int .i64 s] ∧ L = [bx b1 [.int .i64 a0.Client, .int .i64 a0.Number, .int .i64 a0.Time, .rsl k0 false (a0.Ops.map (Enc.cs k0))]])) ?_ ?_ ?_ ?_
     ·refine q_p fr <| q_ld 0 rfl rfl <| q_len <| q_p fr <| q_gT (fun h8 => ?_) (fun h8 => ?_)
      ·refine q_p fr <| q_ld 0 rfl rfl <| q_c0 (fun S hS => argF2 cv_r (cv_f cvs_nil) hS fun l0_ l1_ => w137 (Dc := 1) (by omega) l0_ a0.Ops (fun l => .fn 138 []) (fun l => cv_f cvs_nil) (fun x0_ => some (m138 x0_)) (fun d hd l q0_ x0_ S t ht => (cv205_138 _ _ _ _).trans (call0_of (E := (fun (t : Bool) => AV.bool t)) (mg := some (m138 x0_)) (args1 (M := fun a => Fit (R NN d 138 a []) _ _) (cv_a (cvs_e (l0 := q0_) (x := x0_))) HP.nil fun u0_ => w138 hd u0_ x0_) ht)) l1_) fun y2 hy2 => q_if (fun h7 => ?_) (fun h7 => ?_)
       ·exact q_lret 0 ⟨rfl, rfl⟩
       ·exact q_norm 0 ⟨rfl, rfl⟩
      ·first | refine q_ifF1 ?_ | skip
       exact q_norm 0 ⟨rfl, rfl⟩
     ·rintro s8 _ _ ⟨rfl, rfl⟩
      exact q_ret (cv_p rfl) rfl
     ·rintro i4 s8 _ _ ⟨rfl, rfl⟩
      exact q_none
     ·rintro s8 _ _ ⟨rfl, rfl⟩
      exact q_ret (cv_p rfl) rfl
    ·exact q_none
   ·rintro s6 _ _ ⟨rfl, rfl⟩
    exact q_ret (cv_p rfl) rfl
  ·rintro i2 s4 _ _ ⟨rfl, rfl⟩
   exact q_none
  ·rintro s4 _ _ ⟨rfl, rfl⟩
   exact q_ret (cv_p rfl) rfl
def ms139_0 (a0 : List TRequest) (a1 : TRequest → Option (Bool)) (s1 : Int × Int) : Option (LO (Int × Int)) :=
 bif decide (s1.2 < (a0.length : Int)) then
  (getI a0 s1.2).bind fun x1 =>
  (a1 x1).bind fun y1 =>
  bif y1 then
   some (LO.ret (s1.2, s1.2))
  else
   some (LO.norm (s1.1, wi .i64 (s1.2 + 1)))
 else
  some (LO.exit 0 (s1.1, s1.2))
def m139 (a0 : List TRequest) (a1 : TRequest → Option (Bool)) : Option (Int) :=
 (loopO (ms139_0 a0 a1) NN (0, 0)).bind (contO (fun _ => none) (fun i1 s2 =>
  if i1 = 0 then
   some (-1)
  else
   none) (fun s2 =>
  some s2.1))
theorem w139 {Dc : Nat} {d : Nat} (hd : Dc + 1 ≤ d) (k0 : Bool) (a0 : List TRequest) (c1 : Bool → AV) (hc1 : ∀ l, CV 8 [] false (c1 l) c1) (a1 : TRequest → Option (Bool)) (tc1 : ∀ (d : Nat), Dc ≤ d → ∀ (l : Bool) (q0 : Bool) (x0 : TRequest) (S : St) (t : Bool), a1 x0 = some t → callV (cfg NN) (R NN d) 139 (c1 l) [.agg (Enc.cs q0 x0)] S = some ((fun (t : Bool) => AV.bool t) t, S)) (k1 : Bool) : Fit (R NN d 139 [.rsl k0 false (a0.map (Enc.cs k0)), c1 k1] []) (m139 a0 a1) (P0 (fun (t : Int) => AV.int .i64 t)) := by
  obtain ⟨d, rfl, g⟩ := up hd
  refine q_in (t139 NN d _ _) ?_
  unfold b139 m139
  refine q_len <| q_loop (I := (fun (s : Int × Int) l L => l = [.int .i64 s.1, .int .i64 s.2] ∧ L = [])) 0 ⟨rfl, rfl⟩ ?_ ?_ ?_
  ·rintro s1 _ _ ⟨rfl, rfl⟩
   unfold s139_0 ms139_0
   refine q_p fr <| q_if (fun h2 => ?_) (fun h2 => ?_)
   ·refine q_ix rfl fun x1 hx1 => q_p fr <| q_cv (mg := a1 x1) (E := (fun (t : Bool) => AV.bool t)) (fun S t ht => tc1 d (by omega) k1 k0 x1 S t ht) fun y1 hy1 => q_if (fun h1 => ?_) (fun h1 => ?_)
    ·exact q_lret 0 ⟨rfl, rfl⟩
    ·exact q_p fr <| q_norm 0 ⟨rfl, rfl⟩
   ·exact q_exit 0 ⟨rfl, rfl⟩
  ·rintro i1 s2 _ _ ⟨rfl, rfl⟩
   refine q_ite (fun _ => ?_) (fun _ => ?_)
   ·exact q_ret (cv_p rfl) rfl
   ·exact q_none
  ·rintro s2 _ _ ⟨rfl, rfl⟩
   exact q_ret (cv_p rfl) rfl
def m140 (a0 : TRequest) (a1 : TRequest) : Bool :=
 bif a0.Client == a1.Client then
  a0.Number == a1.Number
 else
  false
theorem w140 {d : Nat} (hd : 1 ≤ d) (k0 : Bool) (a0 : TRequest) (k1 : Bool) (a1 : TRequest) : Fit (R NN d 140 [.agg (Enc.cs k0 a0), .rp k1 (Enc.cs k1 a1)] []) (some (m140 a0 a1)) (P0 (fun (t : Bool) => AV.bool t)) := by
  obtain ⟨d, rfl, g⟩ := up hd
  refine q_in (t140 NN d _ _) ?_
  unfold b140 m140
  refine q_box (n := 4) rfl rfl (by decide) fun b1 => q_p fr <| q_ld 0 rfl rfl <| q_p fr <| q_p fr <| q_p fr <| q_gTt (fun h1 => ?_) (fun h1 => ?_)
  ·exact q_p fr <| q_ld 0 rfl rfl <| q_p fr <| q_p fr <| q_p fr <| q_ret (cv_p rfl) rfl
  ·exact q_ret (cv_p rfl) rfl
def m71 (a0 : List TRequest) (a1 : TRequest) : Option (Int) :=
 (m139 a0 (fun x0_ => some (m140 x0_ a1))).bind fun y1 =>
 some y1
theorem w71 {d : Nat} (hd : 3 ≤ d) (k0 : Bool) (a0 : List TRequest) (k1 : Bool) (a1 : TRequest) : Fit (R NN d 71 [.rsl k0 false (a0.map (Enc.cs k0)), .agg (Enc.cs k1 a1)] []) (m71 a0 a1) (P0 (fun (t : Int) => AV.int .i64 t)) := by
  obtain ⟨d, rfl, g⟩ := up hd
  refine q_in (t71 NN d _ _) ?_
  unfold b71 m71
  exact q_box (n := 4) rfl rfl (by decide) fun b1 => q_c0 (fun S hS => argF2 cv_r (cv_f (cvs_cons (cv_b 0 rfl (cvs_e (l0 := k1) (x := a1))) cvs_nil)) hS fun l0_ l1_ => w139 (Dc := 1) (by omega) l0_ a0 (fun l => .fn 140 [.rp l (Enc.cs l a1)]) (fun l => cv_f (cvs_cons (cv_rp (cvs_e (x := a1)) (fun _ _ _ h => Enc.frz _ a1 _ _ _ h)) cvs_nil)) (fun x0_ => some (m140 x0_ a1)) (fun d hd l q0_ x0_ S t ht => (cv139_140 _ _ _ _).trans (call0_of (E := (fun (t : Bool) => AV.bool t)) (mg := some (m140 x0_ a1)) (args2 (M := fun a => Fit (R NN d 140 a []) _ _) (cv_a (cvs_e (l0 := q0_) (x := x0_))) (cv_rp (cvs_e (l0 := l) (x := a1)) (fun _ _ _ h => Enc.frz _ a1 _ _ _ h)) HP.nil fun u0_ v0_ => w140 hd u0_ x0_ v0_ a1) ht)) l1_) fun y1 hy1 => q_ret (cv_p rfl) rfl
def ms18_0 (a0 : TCluster) (s3 : Int × (List Int)) : Option (LO (Int × (List Int))) :=
 bif decide (s3.1 < (a0.Replicas.length : Int)) then
  (getI a0.Replicas s3.1).bind fun x1 =>
  (appO 8 s3.2 [x1.Id]).bind fun z1 =>
  some (LO.norm (wi .i64 (s3.1 + 1), z1))
 else
  some (LO.exit 0 (s3.1, s3.2))
def ms18_1 (a0 : TCluster) (y5 : (List Int)) (s5 : Int × Int) : Option (LO (Int × Int)) :=
 bif decide (s5.2 < (a0.Replicas.length : Int)) then
  (getI a0.Replicas s5.2).bind fun x2 =>
  (m69 a0.F a0.Ledger x2 (y5.length : Int)).bind fun y6 =>
  bif y6 != 0 then
   some (LO.ret (y6, s5.2))
  else
   some (LO.norm (s5.1, wi .i64 (s5.2 + 1)))
 else
  some (LO.exit 2 (s5.1, s5.2))
def ms18_2 (a0 : TCluster) (s7 : Int × Int) : Option (LO (Int × Int)) :=
 bif decide (s7.2 < (a0.Requests.length : Int)) then
  (getI a0.Requests s7.2).bind fun x3 =>
  (m70 x3).bind fun y7 =>
  bif y7 != 0 then
   some (LO.ret (y7, s7.2))
  else
   (subI a0.Requests 0 s7.2).bind fun ys1 =>
   (m71 ys1 x3).bind fun y8 =>
   bif decide (y8 ≥ 0) then
    some (LO.ret (6, s7.2))
   else
    some (LO.norm (s7.1, wi .i64 (s7.2 + 1)))
 else
  some (LO.exit 4 (s7.1, s7.2))
def m18 (a0 : TCluster) : Option (Int) :=
 (m64 a0.F a0.Ledger).bind fun y1 =>
 bif y1 != 0 then
  some y1
 else
  (
   bif decide ((a0.Bad.length : Int) > a0.F) then
    some (LO.ret 2)
   else
    bif decide ((a0.Requests.length : Int) > 12) then
     some (LO.ret 2)
    else
     some (LO.norm 0)).bind (contO (fun s2 =>
   (m65 a0.F a0.Bad).bind fun y2 =>
   bif y2 != 0 then
    some y2
   else
    (loopO (ms18_0 a0) NN (0, [])).bind (contO (fun _ => none) (fun i2 s4 =>
     if i2 = 0 then
      (m67 a0.F a0.Bad).bind fun y3 =>
      (m66 s4.2 y3).bind fun y4 =>
      bif !y4 then
       some 1
      else
       (m68 a0.F a0.Ledger).bind fun y5 =>
       (loopO (ms18_1 a0 y5) NN (s2, 0)).bind (contO (fun _ => none) (fun i3 s6 =>
        if i3 = 2 then
         (loopO (ms18_2 a0) NN (s6.1, 0)).bind (contO (fun _ => none) (fun i4 s8 =>
          if i4 = 4 then
           some 0
          else
           none) (fun s8 =>
          some s8.1))
        else
         none) (fun s6 =>
        some s6.1))
     else
      none) (fun s4 =>
     some s2))) (fun i1 s2 =>
   none) (fun s2 =>
   some s2))
theorem w18 {d : Nat} (hd : 146 ≤ d) (k0 : Bool) (a0 : TCluster) : Fit (R NN d 18 [.agg (Enc.cs k0 a0)] []) (m18 a0) (P0 (fun (t : Int) => AV.int .i64 t)) := by
  obtain ⟨d, rfl, g⟩ := up hd
  refine q_in (t18 NN d _) ?_
  unfold b18 m18
  refine q_box (n := 5) rfl rfl (by decide) fun b1 => q_p fr <| q_ld 0 rfl rfl <| q_p fr <| q_ld 0 rfl rfl <| q_c0 (fun S hS => argF2 (cv_p rfl) cv_r hS fun l0_ l1_ => w64 (by omega) a0.F l1_ a0.Ledger) fun y1 hy1 => q_p fr <| q_if (fun h11 => ?_) (fun h11 => ?_)
  ·exact q_ret (cv_p rfl) rfl
  ·refine q_cut (I := (fun (s : Int) l L => l = [.int .i64 s] ∧ L = [bx b1 [.int .i64 a0.F, .rsl k0 false (a0.Bad.map (Enc.cs k0)), .rsl k0 false (a0.Replicas.map (Enc.cs k0)), .rsl k0 false (a0.Ledger.map (Enc.cs k0)), .rsl k0 false (a0.Requests.map (Enc.cs k0))]])) ?_ ?_ ?_ ?_
   ·refine q_p fr <| q_ld 0 rfl rfl <| q_len <| q_p fr <| q_ld 0 rfl rfl <| q_p fr <| q_gF (fun h2 => ?_) (fun h2 => ?_)
    ·first | refine q_ifT1 ?_ | skip
     exact q_lret 0 ⟨rfl, rfl⟩
    ·refine q_p fr <| q_ld 0 rfl rfl <| q_len <| q_p fr <| q_if (fun h1 => ?_) (fun h1 => ?_)
     ·exact q_lret 0 ⟨rfl, rfl⟩
     ·exact q_norm 0 ⟨rfl, rfl⟩
   ·rintro s2 _ _ ⟨rfl, rfl⟩
    refine q_p fr <| q_ld 0 rfl rfl <| q_p fr <| q_ld 0 rfl rfl <| q_c0 (fun S hS => argF2 (cv_p rfl) cv_r hS fun l0_ l1_ => w65 (by omega) a0.F l1_ a0.Bad) fun y2 hy2 => q_p fr <| q_if (fun h10 => ?_) (fun h10 => ?_)
    ·exact q_ret (cv_p rfl) rfl
    ·refine q_e (fun _ => bs22_0 _) <| q_p fr <| q_ld 0 rfl rfl <| q_len <| q_nil (α := Int) false <| q_loop (I := (fun (s : Int × (List Int)) l L => ∃ (v1 : AV), l = [v1, .int .i64 s.1] ∧ L = [sl false v1 (s.2 : List Int), bx b1 [.int .i64 a0.F, .rsl k0 false (a0.Bad.map (Enc.cs k0)), .rsl k0 false (a0.Replicas.map (Enc.cs k0)), .rsl k0 false (a0.Ledger.map (Enc.cs k0)), .rsl k0 false (a0.Requests.map (Enc.cs k0))]])) 0 ⟨(.rsl false true []), rfl, rfl⟩ ?_ ?_ ?_
     ·rintro s3 _ _ ⟨v1, rfl, rfl⟩
      unfold s18_0 ms18_0
      refine q_p fr <| q_if (fun h3 => ?_) (fun h3 => ?_)
      ·exact q_ix rfl fun x1 hx1 => q_p fr <| q_new rfl fun b2 => q_st 0 rfl rfl rfl (by decide) rfl <| q_p fr <| q_ld 0 rfl rfl <| q_e (fun _ => bs22_1 rfl) <| q_app (ys := [x1.Id]) 1 rfl rfl (fun _ _ => rfl) fun v2 z1 hz1 => q_p fr <| q_norm 1 ⟨v2, rfl, rfl⟩
      ·exact q_exit 0 ⟨v1, rfl, rfl⟩
     ·rintro i2 s4 _ _ ⟨v3, rfl, rfl⟩
      refine q_ite (fun _ => ?_) (fun _ => ?_)
      ·refine q_p fr <| q_ld 1 rfl rfl <| q_p fr <| q_ld 1 rfl rfl <| q_c0 (fun S hS => argF2 (cv_p rfl) cv_r hS fun l0_ l1_ => w67 (by omega) a0.F l1_ a0.Bad) fun y3 hy3 => q_c0 (fun S hS => argF2 (cv_o 0 rfl) cv_r hS fun l0_ l1_ => w66 (by omega) l0_ s4.2 l1_ y3) fun y4 hy4 => q_p fr <| q_if (fun h9 => ?_) (fun h9 => ?_)
       ·exact q_ret (cv_p rfl) rfl
       ·refine q_p fr <| q_ld 1 rfl rfl <| q_p fr <| q_ld 1 rfl rfl <| q_c0 (fun S hS => argF2 (cv_p rfl) cv_r hS fun l0_ l1_ => w68 (by omega) a0.F l1_ a0.Ledger) fun y5 hy5 => q_len <| q_p fr <| q_ld 1 rfl rfl <| q_len <| q_loop (I := (fun (s : Int × Int) l L => l = [.int .i64 s.1, .int .i64 s.2] ∧ L = [sl false v3 (s4.2 : List Int), bx b1 [.int .i64 a0.F, .rsl k0 false (a0.Bad.map (Enc.cs k0)), .rsl k0 false (a0.Replicas.map (Enc.cs k0)), .rsl k0 false (a0.Ledger.map (Enc.cs k0)), .rsl k0 false (a0.Requests.map (Enc.cs k0))]])) 0 ⟨rfl, rfl⟩ ?_ ?_ ?_
        ·rintro s5 _ _ ⟨rfl, rfl⟩
         unfold s18_1 ms18_1
         refine q_p fr <| q_if (fun h5 => ?_) (fun h5 => ?_)
         ·refine q_ix rfl fun x2 hx2 => q_p fr <| q_new rfl fun b3 => q_st 0 rfl rfl rfl (by decide) rfl <| q_p fr <| q_ld 2 rfl rfl <| q_p fr <| q_ld 2 rfl rfl <| q_lda 0 rfl rfl rfl <| q_c0 (fun S hS => argF4 (cv_p rfl) cv_r (cv_a (cvs_e (l0 := false) (x := x2))) (cv_p rfl) hS fun l0_ l1_ l2_ l3_ => w69 (by omega) a0.F l1_ a0.Ledger l2_ x2 (y5.length : Int)) fun y6 hy6 => q_p fr <| q_if (fun h4 => ?_) (fun h4 => ?_)
          ·exact q_lret 1 ⟨rfl, rfl⟩
          ·exact q_p fr <| q_norm 1 ⟨rfl, rfl⟩
         ·exact q_exit 0 ⟨rfl, rfl⟩
        ·rintro i3 s6 _ _ ⟨rfl, rfl⟩
         refine q_ite (fun _ => ?_) (fun _ => ?_)
         ·refine q_p fr <| q_ld 1 rfl rfl <| q_len <| q_loop (I := (fun (s : Int × Int) l L => l = [.int .i64 s.1, .int .i64 s.2] ∧ L = [sl false v3 (s4.2 : List Int), bx b1 [.int .i64 a0.F, .rsl k0 false (a0.Bad.map (Enc.cs k0)), .rsl k0 false (a0.Replicas.map (Enc.cs k0)), .rsl k0 false (a0.Ledger.map (Enc.cs k0)), .rsl k0 false (a0.Requests.map (Enc.cs k0))]])) 0 ⟨rfl, rfl⟩ ?_ ?_ ?_
          ·rintro s7 _ _ ⟨rfl, rfl⟩
           unfold s18_2 ms18_2
           refine q_p fr <| q_if (fun h8 => ?_) (fun h8 => ?_)
           ·refine q_ix rfl fun x3 hx3 => q_p fr <| q_new rfl fun b4 => q_st 0 rfl rfl rfl (by decide) rfl <| q_lda 0 rfl rfl rfl <| q_c0 (fun S hS => argF1 (cv_a (cvs_e (l0 := k0) (x := x3))) hS fun l0_ => w70 (by omega) l0_ x3) fun y7 hy7 => q_p fr <| q_if (fun h7 => ?_) (fun h7 => ?_)
            ·exact q_lret 1 ⟨rfl, rfl⟩
            ·refine q_p fr <| q_ld 2 rfl rfl <| q_sub rfl (.inr ⟨rfl, rfl⟩) (.inl rfl) fun fl1 ys1 hys1 => q_lda 0 rfl rfl rfl <| q_c0 (fun S hS => argF2 cv_r (cv_a (cvs_e (l0 := k0) (x := x3))) hS fun l0_ l1_ => w71 (by omega) l0_ ys1 l1_ x3) fun y8 hy8 => q_p fr <| q_if (fun h6 => ?_) (fun h6 => ?_)
             ·exact q_lret 1 ⟨rfl, rfl⟩
             ·exact q_p fr <| q_norm 1 ⟨rfl, rfl⟩
           ·exact q_exit 0 ⟨rfl, rfl⟩
          ·rintro i4 s8 _ _ ⟨rfl, rfl⟩
           refine q_ite (fun _ => ?_) (fun _ => ?_)
           ·exact q_ret (cv_p rfl) rfl
           ·exact q_none
          ·rintro s8 _ _ ⟨rfl, rfl⟩
           exact q_ret (cv_p rfl) rfl
         ·exact q_none
        ·rintro s6 _ _ ⟨rfl, rfl⟩
         exact q_ret (cv_p rfl) rfl
      ·exact q_none
     ·rintro s4 _ _ ⟨v4, rfl, rfl⟩
      exact q_ret (cv_p rfl) rfl
   ·rintro i1 s2 _ _ ⟨rfl, rfl⟩
    exact q_none
   ·rintro s2 _ _ ⟨rfl, rfl⟩
    exact q_ret (cv_p rfl) rfl
def ms148_0 (a0 : List TReplica) (a1 : TReplica → Option (Bool)) (s1 : Int × Int) : Option (LO (Int × Int)) :=
 bif decide (s1.2 < (a0.length : Int)) then
  (getI a0 s1.2).bind fun x1 =>
  (a1 x1).bind fun y1 =>
  bif y1 then
   some (LO.ret (s1.2, s1.2))
  else
   some (LO.norm (s1.1, wi .i64 (s1.2 + 1)))
 else
  some (LO.exit 0 (s1.1, s1.2))
def m148 (a0 : List TReplica) (a1 : TReplica → Option (Bool)) : Option (Int) :=
 (loopO (ms148_0 a0 a1) NN (0, 0)).bind (contO (fun _ => none) (fun i1 s2 =>
  if i1 = 0 then
   some (-1)
  else
   none) (fun s2 =>
  some s2.1))
theorem w148 {Dc : Nat} {d : Nat} (hd : Dc + 1 ≤ d) (k0 : Bool) (a0 : List TReplica) (c1 : Bool → AV) (hc1 : ∀ l, CV 8 [] false (c1 l) c1) (a1 : TReplica → Option (Bool)) (tc1 : ∀ (d : Nat), Dc ≤ d → ∀ (l : Bool) (q0 : Bool) (x0 : TReplica) (S : St) (t : Bool), a1 x0 = some t → callV (cfg NN) (R NN d) 148 (c1 l) [.agg (Enc.cs q0 x0)] S = some ((fun (t : Bool) => AV.bool t) t, S)) (k1 : Bool) : Fit (R NN d 148 [.rsl k0 false (a0.map (Enc.cs k0)), c1 k1] []) (m148 a0 a1) (P0 (fun (t : Int) => AV.int .i64 t)) := by
  obtain ⟨d, rfl, g⟩ := up hd
  refine q_in (t148 NN d _ _) ?_
  unfold b148 m148
  refine q_len <| q_loop (I := (fun (s : Int × Int) l L => l = [.int .i64 s.1, .int .i64 s.2] ∧ L = [])) 0 ⟨rfl, rfl⟩ ?_ ?_ ?_
  ·rintro s1 _ _ ⟨rfl, rfl⟩
   unfold s148_0 ms148_0
   refine q_p fr <| q_if (fun h2 => ?_) (fun h2 => ?_)
   ·refine q_ix rfl fun x1 hx1 => q_p fr <| q_cv (mg := a1 x1) (E := (fun (t : Bool) => AV.bool t)) (fun S t ht => tc1 d (by omega) k1 k0 x1 S t ht) fun y1 hy1 => q_if (fun h1 => ?_) (fun h1 => ?_)
    ·exact q_lret 0 ⟨rfl, rfl⟩
    ·exact q_p fr <| q_norm 0 ⟨rfl, rfl⟩
   ·exact q_exit 0 ⟨rfl, rfl⟩
  ·rintro i1 s2 _ _ ⟨rfl, rfl⟩
   refine q_ite (fun _ => ?_) (fun _ => ?_)
   ·exact q_ret (cv_p rfl) rfl
   ·exact q_none
  ·rintro s2 _ _ ⟨rfl, rfl⟩
   exact q_ret (cv_p rfl) rfl
def m149 (a0 : TReplica) (a1 : Int) : Bool :=
 a0.Id == a1
theorem w149 {d : Nat} (hd : 1 ≤ d) (k0 : Bool) (a0 : TReplica) (k1 : Bool) (a1 : Int) : Fit (R NN d 149 [.agg (Enc.cs k0 a0), .rp k1 (Enc.cs k1 a1)] []) (some (m149 a0 a1)) (P0 (fun (t : Bool) => AV.bool t)) := by
  obtain ⟨d, rfl, g⟩ := up hd
  refine q_in (t149 NN d _ _) ?_
  unfold b149 m149
  exact q_box (n := 4) rfl rfl (by decide) fun b1 => q_p fr <| q_ld 0 rfl rfl <| q_p fr <| q_p fr <| q_ret (cv_p rfl) rfl
def m82 (a0 : TCluster) (a1 : Int) : Option ((Option TReplica)) :=
 (m148 a0.Replicas (fun x0_ => some (m149 x0_ a1))).bind fun y1 =>
 bif decide (y1 < 0) then
  some none
 else
  (getI a0.Replicas y1).bind fun x1 =>
  some (some x1)
theorem w82 {d : Nat} (hd : 3 ≤ d) (L0 : List En) (k0 : Bool) (a0 : TCluster) (a1 : Int) : Okh (L0) (fun S => R NN d 82 [.rp k0 (Enc.cs k0 a0), .int .i64 a1] S) (m82 a0 a1) (P3 (fun (x : Bool) (t : (Option TReplica)) => (t.elim AV.nilp fun r => AV.rp x (Enc.cs x r))) (fun (_ : (Option TReplica)) => L0)) := by
  obtain ⟨d, rfl, g⟩ := up hd
  refine q_to (t82 NN d _ _) ?_
  unfold b82 m82
  refine q_box (n := 1) rfl rfl (by decide) fun b1 => q_q fr <| q_p fr <| q_p fr <| q_c0 (fun S hS => argF2 cv_r (cv_f (cvs_cons (cv_b 0 rfl (cvs_e (l0 := false) (x := a1))) cvs_nil)) hS fun l0_ l1_ => w148 (Dc := 1) (by omega) l0_ a0.Replicas (fun l => .fn 149 [.rp l (Enc.cs l a1)]) (fun l => cv_f (cvs_cons (cv_rp (cvs_e (x := a1)) (fun _ _ _ h => Enc.frz _ a1 _ _ _ h)) cvs_nil)) (fun x0_ => some (m149 x0_ a1)) (fun d hd l q0_ x0_ S t ht => (cv148_149 _ _ _ _).trans (call0_of (E := (fun (t : Bool) => AV.bool t)) (mg := some (m149 x0_ a1)) (args2 (M := fun a => Fit (R NN d 149 a []) _ _) (cv_a (cvs_e (l0 := q0_) (x := x0_))) (cv_rp (cvs_e (l0 := l) (x := a1)) (fun _ _ _ h => Enc.frz _ a1 _ _ _ h)) HP.nil fun u0_ v0_ => w149 hd u0_ x0_ v0_ a1) ht)) l1_) fun y1 hy1 => q_p fr <| q_if (fun h1 => ?_) (fun h1 => ?_)
  ·exact q_ret3 false 1 rfl rfl
  ·exact q_q fr <| q_p fr <| q_p fr <| q_ix rfl fun x1 hx1 => q_ret3 k0 1 rfl rfl
theorem w82b {d : Nat} (hd : 3 ≤ d) (L0 : List En) (k0 : Bool) (a0 : TCluster) (b0_ : Nat) (a1 : Int) : Okh (bx b0_ [.int .i64 a0.F, .rsl k0 false (a0.Bad.map (Enc.cs k0)), .rsl k0 false (a0.Replicas.map (Enc.cs k0)), .rsl k0 false (a0.Ledger.map (Enc.cs k0)), .rsl k0 false (a0.Requests.map (Enc.cs k0))] :: L0) (fun S => R NN d 82 [.bp b0_ 0 0 5 1, .int .i64 a1] S) (m82 a0 a1) (P3 (fun (x : Bool) (t : (Option TReplica)) => (t.elim AV.nilp fun r => AV.rp x (Enc.cs x r))) (fun (_ : (Option TReplica)) => bx b0_ [.int .i64 a0.F, .rsl k0 false (a0.Bad.map (Enc.cs k0)), .rsl k0 false (a0.Replicas.map (Enc.cs k0)), .rsl k0 false (a0.Ledger.map (Enc.cs k0)), .rsl k0 false (a0.Requests.map (Enc.cs k0))] :: L0)) := by
  obtain ⟨d, rfl, g⟩ := up hd
  refine q_to (t82 NN d _ _) ?_
  unfold b82 m82
  refine q_box (n := 1) rfl rfl (by decide) fun b1 => q_q fr <| q_p fr <| q_ld 1 rfl rfl <| q_c0 (fun S hS => argF2 cv_r (cv_f (cvs_cons (cv_b 0 rfl (cvs_e (l0 := false) (x := a1))) cvs_nil)) hS fun l0_ l1_ => w148 (Dc := 1) (by omega) l0_ a0.Replicas (fun l => .fn 149 [.rp l (Enc.cs l a1)]) (fun l => cv_f (cvs_cons (cv_rp (cvs_e (x := a1)) (fun _ _ _ h => Enc.frz _ a1 _ _ _ h)) cvs_nil)) (fun x0_ => some (m149 x0_ a1)) (fun d hd l q0_ x0_ S t ht => (cv148_149 _ _ _ _).trans (call0_of (E := (fun (t : Bool) => AV.bool t)) (mg := some (m149 x0_ a1)) (args2 (M := fun a => Fit (R NN d 149 a []) _ _) (cv_a (cvs_e (l0 := q0_) (x := x0_))) (cv_rp (cvs_e (l0 := l) (x := a1)) (fun _ _ _ h => Enc.frz _ a1 _ _ _ h)) HP.nil fun u0_ v0_ => w149 hd u0_ x0_ v0_ a1) ht)) l1_) fun y1 hy1 => q_p fr <| q_if (fun h1 => ?_) (fun h1 => ?_)
  ·exact q_ret3 false 1 rfl rfl
  ·exact q_q fr <| q_p fr <| q_ld 1 rfl rfl <| q_ix rfl fun x1 hx1 => q_ret3 k0 1 rfl rfl
def m85 (a0 : List TMsg) (a1 : TMsg → Option (Bool)) : Option (Bool) :=
 (m154 a0 a1).bind fun y1 =>
 some (decide (y1 ≥ 0))
theorem w85 {Dc : Nat} {d : Nat} (hd : Dc + 2 ≤ d) (k0 : Bool) (a0 : List TMsg) (c1 : Bool → AV) (hc1 : ∀ l, CV 8 [] false (c1 l) c1) (a1 : TMsg → Option (Bool)) (tc1 : ∀ (d : Nat), Dc ≤ d → ∀ (l : Bool) (q0 : Bool) (x0 : TMsg) (S : St) (t : Bool), a1 x0 = some t → callV (cfg NN) (R NN d) 154 (c1 l) [.agg (Enc.cs q0 x0)] S = some ((fun (t : Bool) => AV.bool t) t, S)) (k1 : Bool) : Fit (R NN d 85 [.rsl k0 false (a0.map (Enc.cs k0)), c1 k1] []) (m85 a0 a1) (P0 (fun (t : Bool) => AV.bool t)) := by
  obtain ⟨d, rfl, g⟩ := up hd
  refine q_in (t85 NN d _ _) ?_
  unfold b85 m85
  exact q_c0 (fun S hS => argF2 cv_r (CV.any (hc1 k1)) hS fun l0_ l1_ => w154 (by omega) l0_ a0 c1 hc1 a1 tc1 l1_) fun y1 hy1 => q_p fr <| q_ret (cv_p rfl) rfl
def m86 (a0 : TMsg) (a1 : TMsg) : Option (Bool) :=
 (
  bif a0.Kind == a1.Kind then
   bif a0.From == a1.From then
    bif a0.View == a1.View then
     some (LO.norm (a0.Slot == a1.Slot))
    else
     some (LO.norm false)
   else
    some (LO.norm false)
  else
   some (LO.norm false)).bind (contO (fun s2 =>
  some s2) (fun i1 s2 =>
  none) (fun s2 =>
  some s2))
theorem w86 {d : Nat} (hd : 1 ≤ d) (k0 : Bool) (a0 : TMsg) (k1 : Bool) (a1 : TMsg) : Fit (R NN d 86 [.agg (Enc.cs k0 a0), .rp k1 (Enc.cs k1 a1)] []) (m86 a0 a1) (P0 (fun (t : Bool) => AV.bool t)) := by
  obtain ⟨d, rfl, g⟩ := up hd
  refine q_in (t86 NN d _ _) ?_
  unfold b86 m86
  refine q_box (n := 7) rfl rfl (by decide) fun b1 => q_cut (I := (fun (s : Bool) l L => l = [.bool s] ∧ L = [bx b1 [.int .i64 a0.Kind, .int .i64 a0.View, .int .i64 a0.From, .int .i64 a0.Slot, .int .i64 a0.Value, .rsl k0 false (a0.Certs.map (Enc.cs k0)), .rsl k0 false (a0.Refs.map (Enc.cs k0))]])) ?_ ?_ ?_ ?_
  ·refine q_p fr <| q_ld 0 rfl rfl <| q_p fr <| q_p fr <| q_p fr <| q_gT (fun h3 => ?_) (fun h3 => ?_)
   ·refine q_p fr <| q_ld 0 rfl rfl <| q_p fr <| q_p fr <| q_p fr <| q_gT (fun h2 => ?_) (fun h2 => ?_)
    ·refine q_p fr <| q_ld 0 rfl rfl <| q_p fr <| q_p fr <| q_p fr <| q_gT (fun h1 => ?_) (fun h1 => ?_)
     ·exact q_p fr <| q_ld 0 rfl rfl <| q_p fr <| q_p fr <| q_p fr <| q_norm 0 ⟨rfl, rfl⟩
     ·exact q_norm 0 ⟨rfl, rfl⟩
    ·exact q_norm 0 ⟨rfl, rfl⟩
   ·exact q_norm 0 ⟨rfl, rfl⟩
  ·rintro s2 _ _ ⟨rfl, rfl⟩
   exact q_ret (cv_p rfl) rfl
  ·rintro i1 s2 _ _ ⟨rfl, rfl⟩
   exact q_none
  ·rintro s2 _ _ ⟨rfl, rfl⟩
   exact q_ret (cv_p rfl) rfl
def ms25_0 (a0 : TCluster) (s1 : Bool × Int) : Option (LO (Bool × Int)) :=
 bif decide (s1.2 < (a0.Ledger.length : Int)) then
  (
   (getI a0.Ledger s1.2).bind fun x1 =>
   (m82 a0 x1.From).bind fun y2 =>
   optO y2 (
    some (LO.norm s1.1)) fun r1 =>
   (
    bif x1.Kind == 4 then
     (m83 a0.F a0.Ledger s1.2).bind fun y3 =>
     bif !y3 then
      some (LO.ret false)
     else
      some (LO.norm s1.1)
    else
     some (LO.norm s1.1)).bind (contO (fun s4 =>
    bif (m84 x1.Kind) then
     (subI a0.Ledger 0 s1.2).bind fun ys1 =>
     (m85 ys1 (fun x0_ => m86 x0_ x1)).bind fun y4 =>
     bif y4 then
      some (LO.ret false)
     else
      some (LO.norm s4)
    else
     some (LO.norm s4)) (fun i1 s4 =>
    if i1 = 1 then
     some (LO.norm s4)
    else
     some (LO.exit i1 s4)) (fun s4 =>
    some (LO.ret s4)))).bind (contO (fun s5 =>
   some (LO.norm (s5, wi .i64 (s1.2 + 1)))) (fun i2 s5 =>
   some (LO.exit i2 (s5, s1.2))) (fun s5 =>
   some (LO.ret (s5, s1.2))))
 else
  some (LO.exit 0 (s1.1, s1.2))
def m25 (a0 : TCluster) : Option (Bool) :=
 (m18 a0).bind fun y1 =>
 bif y1 != 0 then
  some false
 else
  (loopO (ms25_0 a0) NN (false, 0)).bind (contO (fun _ => none) (fun i3 s6 =>
   if i3 = 0 then
    some true
   else
    none) (fun s6 =>
   some s6.1))
theorem w25 {d : Nat} (hd : 147 ≤ d) (k0 : Bool) (a0 : TCluster) : Fit (R NN d 25 [.agg (Enc.cs k0 a0)] []) (m25 a0) (P0 (fun (t : Bool) => AV.bool t)) := by
  obtain ⟨d, rfl, g⟩ := up hd
  refine q_in (t25 NN d _) ?_
  unfold b25 m25
  refine q_box (n := 5) rfl rfl (by decide) fun b1 => q_lda 0 rfl rfl rfl <| q_c0 (fun S hS => argF1 (cv_a (cvs_e (l0 := k0) (x := a0))) hS fun l0_ => w18 (by omega) l0_ a0) fun y1 hy1 => q_p fr <| q_if (fun h6 => ?_) (fun h6 => ?_)
  ·exact q_ret (cv_p rfl) rfl
  ·refine q_p fr <| q_ld 0 rfl rfl <| q_len <| q_loop (I := (fun (s : Bool × Int) l L => l = [.bool s.1, .int .i64 s.2] ∧ L = [bx b1 [.int .i64 a0.F, .rsl k0 false (a0.Bad.map (Enc.cs k0)), .rsl k0 false (a0.Replicas.map (Enc.cs k0)), .rsl k0 false (a0.Ledger.map (Enc.cs k0)), .rsl k0 false (a0.Requests.map (Enc.cs k0))]])) 0 ⟨rfl, rfl⟩ ?_ ?_ ?_
   ·rintro s1 _ _ ⟨rfl, rfl⟩
    unfold s25_0 ms25_0
    refine q_p fr <| q_if (fun h5 => ?_) (fun h5 => ?_)
    ·refine q_cut (I := (fun (s : Bool) l L => l = [.bool s] ∧ L = [bx b1 [.int .i64 a0.F, .rsl k0 false (a0.Bad.map (Enc.cs k0)), .rsl k0 false (a0.Replicas.map (Enc.cs k0)), .rsl k0 false (a0.Ledger.map (Enc.cs k0)), .rsl k0 false (a0.Requests.map (Enc.cs k0))]])) ?_ ?_ ?_ ?_
     ·refine q_ix rfl fun x1 hx1 => q_p fr <| q_new rfl fun b2 => q_st 0 rfl rfl rfl (by decide) rfl <| q_p fr <| q_ld 0 rfl rfl <| q_sel 2 [1, 0] (by decide) (by decide) <| q_s3o (mg := m82 a0 x1.From) (v0 := fun _ => AV.nilp) (v1 := fun x r => AV.rp x (Enc.cs x r)) (fun _ => rfl) (fun _ _ => rfl) (w82b (by omega) _ k0 a0 _ x1.From) (fun x2 => ?_) (fun r1 x2 hy2 => ?_)
      ·refine q_p (fun _ => peql106n) ?_
       first | refine q_ifT1 ?_ | skip
       exact q_sel 2 [1, 0] (by decide) (by decide) <| q_norm 1 ⟨rfl, rfl⟩
      ·refine q_p (fun _ => peql106 _ _) ?_
       first | refine q_ifF1 ?_ | skip
       refine q_cut (I := (fun (s : Bool) l L => l = [.bool s] ∧ L = [bx b1 [.int .i64 a0.F, .rsl k0 false (a0.Bad.map (Enc.cs k0)), .rsl k0 false (a0.Replicas.map (Enc.cs k0)), .rsl k0 false (a0.Ledger.map (Enc.cs k0)), .rsl k0 false (a0.Requests.map (Enc.cs k0))], bx b2 [.int .i64 x1.Kind, .int .i64 x1.View, .int .i64 x1.From, .int .i64 x1.Slot, .int .i64 x1.Value, .rsl k0 false (x1.Certs.map (Enc.cs k0)), .rsl k0 false (x1.Refs.map (Enc.cs k0))]])) ?_ ?_ ?_ ?_
       ·refine q_p fr <| q_ld 1 rfl rfl <| q_p fr <| q_gT (fun h2 => ?_) (fun h2 => ?_)
        ·refine q_p fr <| q_ld 0 rfl rfl <| q_p fr <| q_ld 0 rfl rfl <| q_c0 (fun S hS => argF3 (cv_p rfl) cv_r (cv_p rfl) hS fun l0_ l1_ l2_ => w83 (by omega) a0.F l1_ a0.Ledger s1.2) fun y3 hy3 => q_p fr <| q_if (fun h1 => ?_) (fun h1 => ?_)
         ·exact q_lret 0 ⟨rfl, rfl⟩
         ·exact q_norm 0 ⟨rfl, rfl⟩
        ·first | refine q_ifF1 ?_ | skip
         exact q_norm 0 ⟨rfl, rfl⟩
       ·rintro s4 _ _ ⟨rfl, rfl⟩
        refine q_p fr <| q_ld 1 rfl rfl <| q_c0t (fun S hS => argF1 (cv_p rfl) hS fun l0_ => w84 (by omega) x1.Kind) <| q_gT (fun h4 => ?_) (fun h4 => ?_)
        ·refine q_p fr <| q_ld 0 rfl rfl <| q_sub rfl (.inr ⟨rfl, rfl⟩) (.inl rfl) fun fl1 ys1 hys1 => q_c0 (fun S hS => argF2 cv_r (cv_f (cvs_cons (cv_b 1 rfl (cvs_e (l0 := k0) (x := x1))) cvs_nil)) hS fun l0_ l1_ => w85 (Dc := 1) (by omega) l0_ ys1 (fun l => .fn 86 [.rp l (Enc.cs l x1)]) (fun l => cv_f (cvs_cons (cv_rp (cvs_e (x := x1)) (fun _ _ _ h => Enc.frz _ x1 _ _ _ h)) cvs_nil)) (fun x0_ => m86 x0_ x1) (fun d hd l q0_ x0_ S t ht => (cv154_86 _ _ _ _).trans (call0_of (E := (fun (t : Bool) => AV.bool t)) (mg := m86 x0_ x1) (args2 (M := fun a => Fit (R NN d 86 a []) _ _) (cv_a (cvs_e (l0 := q0_) (x := x0_))) (cv_rp (cvs_e (l0 := l) (x := x1)) (fun _ _ _ h => Enc.frz _ x1 _ _ _ h)) HP.nil fun u0_ v0_ => w86 hd u0_ x0_ v0_ x1) ht)) l1_) fun y4 hy4 => q_if (fun h3 => ?_) (fun h3 => ?_)
         ·exact q_sel 2 [1, 0] (by decide) (by decide) <| q_lret 1 ⟨rfl, rfl⟩
         ·exact q_sel 2 [1, 0] (by decide) (by decide) <| q_norm 1 ⟨rfl, rfl⟩
        ·first | refine q_ifF1 ?_ | skip
         exact q_sel 2 [1, 0] (by decide) (by decide) <| q_norm 1 ⟨rfl, rfl⟩
       ·rintro i1 s4 _ _ ⟨rfl, rfl⟩
        refine q_ite (fun _ => ?_) (fun _ => ?_)
        ·exact q_sel 2 [1, 0] (by decide) (by decide) <| q_norm 1 ⟨rfl, rfl⟩
        ·exact q_sel 2 [1, 0] (by decide) (by decide) <| q_exit 1 ⟨rfl, rfl⟩
       ·rintro s4 _ _ ⟨rfl, rfl⟩
        exact q_sel 2 [1, 0] (by decide) (by decide) <| q_lret 1 ⟨rfl, rfl⟩
     ·rintro s5 _ _ ⟨rfl, rfl⟩
      exact q_p fr <| q_norm 0 ⟨rfl, rfl⟩
     ·rintro i2 s5 _ _ ⟨rfl, rfl⟩
      exact q_exit 0 ⟨rfl, rfl⟩
     ·rintro s5 _ _ ⟨rfl, rfl⟩
      exact q_lret 0 ⟨rfl, rfl⟩
    ·exact q_exit 0 ⟨rfl, rfl⟩
   ·rintro i3 s6 _ _ ⟨rfl, rfl⟩
    refine q_ite (fun _ => ?_) (fun _ => ?_)
    ·exact q_ret (cv_p rfl) rfl
    ·exact q_none
   ·rintro s6 _ _ ⟨rfl, rfl⟩
    exact q_ret (cv_p rfl) rfl
def m6 (a0 : TCluster) : Option (Bool) :=
 (m15 a0 1048576).bind fun y1 =>
 bif decide (y1 < 0) then
  some true
 else
  (m17 a0).bind fun y2 =>
  (m24 y2).bind fun y3 =>
  (m17 a0).bind fun y4 =>
  (m25 y4).bind fun y5 =>
  bif y5 != y3 then
   some false
  else
   (m17 a0).bind fun y6 =>
   (m19 y4 y6).bind fun y7 =>
   bif !y7 then
    some false
   else
    some true
theorem w6 {d : Nat} (hd : 148 ≤ d) (k0 : Bool) (a0 : TCluster) : Fit (R NN d 6 [.agg (Enc.cs k0 a0)] []) (m6 a0) (P0 (fun (t : Bool) => AV.bool t)) := by
  obtain ⟨d, rfl, g⟩ := up hd
  refine q_in (t6 NN d _) ?_
  unfold b6 m6
  refine q_box (n := 5) rfl rfl (by decide) fun b1 => q_lda 0 rfl rfl rfl <| q_c0 (fun S hS => argF2 (cv_a (cvs_e (l0 := k0) (x := a0))) (cv_p rfl) hS fun l0_ l1_ => w15 (by omega) l0_ a0 1048576) fun y1 hy1 => q_p fr <| q_if (fun h3 => ?_) (fun h3 => ?_)
  ·exact q_ret (cv_p rfl) rfl
  ·refine q_lda 0 rfl rfl rfl <| q_c0 (fun S hS => argF1 (cv_a (cvs_e (l0 := k0) (x := a0))) hS fun l0_ => w17 (by omega) l0_ a0) fun y2 hy2 => q_c0 (fun S hS => argF1 (cv_a (cvs_e (l0 := false) (x := y2))) hS fun l0_ => w24 (by omega) l0_ y2) fun y3 hy3 => q_lda 0 rfl rfl rfl <| q_c0 (fun S hS => argF1 (cv_a (cvs_e (l0 := k0) (x := a0))) hS fun l0_ => w17 (by omega) l0_ a0) fun y4 hy4 => q_new rfl fun b2 => q_st 0 rfl rfl rfl (by decide) rfl <| q_lda 0 rfl rfl rfl <| q_c0 (fun S hS => argF1 (cv_a (cvs_e (l0 := false) (x := y4))) hS fun l0_ => w25 (by omega) l0_ y4) fun y5 hy5 => q_p (fun _ => bneq42 _ _) <| q_if (fun h2 => ?_) (fun h2 => ?_)
   ·exact q_ret (cv_p rfl) rfl
   ·refine q_lda 0 rfl rfl rfl <| q_lda 1 rfl rfl rfl <| q_c0 (fun S hS => argF1 (cv_a (cvs_e (l0 := k0) (x := a0))) hS fun l0_ => w17 (by omega) l0_ a0) fun y6 hy6 => q_c0 (fun S hS => argF2 (cv_a (cvs_e (l0 := false) (x := y4))) (cv_a (cvs_e (l0 := false) (x := y6))) hS fun l0_ l1_ => w19 (by omega) l0_ y4 l1_ y6) fun y7 hy7 => q_p fr <| q_if (fun h1 => ?_) (fun h1 => ?_)
    ·exact q_ret (cv_p rfl) rfl
    ·exact q_ret (cv_p rfl) rfl
end
end Go.Proofs.YtgjplfeejfeioaaGreatDoor
