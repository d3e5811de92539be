/- Plain functions, and that the evaluator computes them. -/
import Derived.Test.YtjandfmkelohdaaDoorT
import Derived.Test.YtjandfmkelohdaaDoorRh6
import Derived.Test.YtjandfmkelohdaaDoorRh10
import Derived.Test.YtjandfmkelohdaaDoorRh11
namespace Go.Proofs.YtjandfmkelohdaaDoor
open Go Go.Rf
set_option linter.unusedVariables false
set_option linter.unusedSimpArgs false
noncomputable section
structure TReply where
  Code : Int
  Value : Int
  Path : Str
  deriving DecidableEq
instance : Enc TReply := (Enc.of fun x : TReply => (x.Code, x.Value, x.Path)).copy (fun l x => [.int .i64 x.Code, .int .i64 x.Value, encS x.Path]) (fun _ _ => rfl) 3 0 rfl rfl
structure TTextResult where
  Code : Int
  Text : Str
  deriving DecidableEq
instance : Enc TTextResult := (Enc.of fun x : TTextResult => (x.Code, x.Text)).copy (fun l x => [.int .i64 x.Code, encS x.Text]) (fun _ _ => rfl) 2 0 rfl rfl
theorem bd26_0 {x0 r : AV} (hr : (afill (plc [(0, 1), (1, 1)]) [.int .i64 0, .str ⟨#[]⟩] [(0, x0)]).map AV.agg = some r) : abuild Tryd.prog 26 [(0, x0)] = some r := Eq.trans (by kernel_rfl) hr
theorem bd26_1 {x1 r : AV} (hr : (afill (plc [(0, 1), (1, 1)]) [.int .i64 0, .str ⟨#[]⟩] [(1, x1)]).map AV.agg = some r) : abuild Tryd.prog 26 [(1, x1)] = some r := Eq.trans (by kernel_rfl) hr
theorem qb46 {n : Int} {S : St} : quietS (abuildS Tryd.prog 46 1 [(0, .int .u8 n)] S) S = some (.rsl false true [[.int .u8 n]], S) := by kernel_rfl
theorem cvt2_5 (n : Int) (S : St) : aconv Tryd.prog 2 5 (.int .i64 n) S = some (.int .u8 (wi .u8 n)) := by kernel_rfl
theorem cvb46_9 (n : Int) (S : St) : aconv Tryd.prog 46 9 (.rsl false true [[.int .u8 n]]) S = some (encS [UInt8.ofNat n.toNat]) := by kernel_rfl
def m8 (a0 : TReply) (a1 : Int) : Int :=
 bif decide ((wi .i64 (a1 - (a0.Path.length : Int))) < 0) then
  (-1)
 else
  wi .i64 (a1 - (a0.Path.length : Int))
theorem w8 {d : Nat} (hd : 1 ≤ d) (k0 : Bool) (a0 : TReply) (a1 : Int) : Fit (R NN d 8 [.agg (Enc.cs k0 a0), .int .i64 a1] []) (some (m8 a0 a1)) (P0 (fun (t : Int) => AV.int .i64 t)) := by
  obtain ⟨d, rfl, g⟩ := up hd
  refine q_in (t8 NN d _ _) ?_
  unfold b8 m8
  refine q_box (n := 3) rfl rfl (by decide) fun b1 => q_p fr <| q_ld 0 rfl rfl <| q_slen <| q_p fr <| q_p fr <| q_ift (fun h1 => ?_) (fun h1 => ?_)
  ·exact q_ret (cv_p rfl) rfl
  ·exact q_ret (cv_p rfl) rfl
def m84 (a0 : Int) (a1 : Int) (a2 : Int) : Bool :=
 bif decide (a0 ≥ a1) then
  decide (a0 ≤ a2)
 else
  false
theorem w84 {d : Nat} (hd : 1 ≤ d) (a0 : Int) (a1 : Int) (a2 : Int) : Fit (R NN d 84 [.int .i64 a0, .int .i64 a1, .int .i64 a2] []) (some (m84 a0 a1 a2)) (P0 (fun (t : Bool) => AV.bool t)) := by
  obtain ⟨d, rfl, g⟩ := up hd
  refine q_in (t84 NN d _ _ _) ?_
  unfold b84 m84
  refine q_p fr <| q_gTt (fun h1 => ?_) (fun h1 => ?_)
  ·exact q_p fr <| q_ret (cv_p rfl) rfl
  ·exact q_ret (cv_p rfl) rfl
def m39 (a0 : TReply) : Option (Bool) :=
 (
  bif (m84 a0.Code 0 10) then
   bif (m84 a0.Value (-1) 9999) then
    some (LO.norm (decide ((a0.Path.length : Int) ≤ 24)))
   else
    some (LO.norm false)
  else
   some (LO.norm false)).bind (contO (fun s2 =>
  some s2) (fun i1 s2 =>
  none) (fun s2 =>
  some s2))
theorem w39 {d : Nat} (hd : 2 ≤ d) (k0 : Bool) (a0 : TReply) : Fit (R NN d 39 [.rp k0 (Enc.cs k0 a0)] []) (m39 a0) (P0 (fun (t : Bool) => AV.bool t)) := by
  obtain ⟨d, rfl, g⟩ := up hd
  refine q_in (t39 NN d _) ?_
  unfold b39 m39
  refine q_cut (I := (fun (s : Bool) l L => l = [.bool s] ∧ L = [])) ?_ ?_ ?_ ?_
  ·refine q_q fr <| q_p fr <| q_p fr <| q_c0t (fun S hS => argF3 (cv_p rfl) (cv_p rfl) (cv_p rfl) hS fun l0_ l1_ l2_ => w84 (by omega) a0.Code 0 10) <| q_gT (fun h2 => ?_) (fun h2 => ?_)
   ·refine q_q fr <| q_p fr <| q_p fr <| q_c0t (fun S hS => argF3 (cv_p rfl) (cv_p rfl) (cv_p rfl) hS fun l0_ l1_ l2_ => w84 (by omega) a0.Value (-1) 9999) <| q_gT (fun h1 => ?_) (fun h1 => ?_)
    ·exact q_q fr <| q_p fr <| q_p fr <| q_slen <| q_p fr <| q_norm 0 ⟨rfl, rfl⟩
    ·exact q_norm 0 ⟨rfl, rfl⟩
   ·exact q_norm 0 ⟨rfl, rfl⟩
  ·rintro s2 _ _ ⟨rfl, rfl⟩
   exact q_ret (cv_p rfl) rfl
  ·rintro i1 s2 _ _ ⟨rfl, rfl⟩
   exact q_none
  ·rintro s2 _ _ ⟨rfl, rfl⟩
   exact q_ret (cv_p rfl) rfl
def m85F (rec_ : Int → Option (Str)) (a0 : Int) : Option (Str) :=
 bif decide (a0 < 0) then
  (rec_ (wi .i64 (0 - a0))).bind fun y1 =>
  (catO ([45] : Str) y1).bind fun t1 =>
  some t1
 else
  bif decide (a0 < 10) then
   some ([UInt8.ofNat (Int.toNat (wi .u8 (wi .i64 (48 + a0))))] : Str)
  else
   (rec_ (wi .i64 (Int.tdiv a0 10))).bind fun y2 =>
   (catO y2 ([UInt8.ofNat (Int.toNat (wi .u8 (wi .i64 (48 + (Int.tmod a0 10)))))] : Str)).bind fun t2 =>
   some t2
def m85 (n : Nat) : Int → Option (Str) := Nat.rec (fun _ => none) (fun _ ih => m85F ih) n
theorem w85 : ∀ (n d : Nat) (hd : n + 65 ≤ d) (a0 : Int), Fit (R NN d 85 [.int .i64 a0] []) (m85 n a0) (P0 encS)
  | 0, _, _, a0 => (fun t ht => by cases ht)
  | n + 1, d, hd, a0 => by
    have ih := w85 n
    obtain ⟨d, rfl, g⟩ := up (n := n + 65) (d := d) (by omega)
    refine q_in (t85 NN d _) ?_
    rw [show m85 (n + 1) = m85F (m85 n) from rfl]
    unfold b85 m85F
    refine q_p fr <| q_if (fun h2 => ?_) (fun h2 => ?_)
    ·exact q_p fr <| q_c0 (fun S hS => argF1 (cv_p rfl) hS fun l0_ => ih d (by omega) (wi .i64 (0 - a0))) fun y1 hy1 => q_cat fun t1 ht1 => q_ret (cv_p rfl) rfl
    ·refine q_p fr <| q_if (fun h1 => ?_) (fun h1 => ?_)
     ·exact q_p fr <| q_p (fun _ => cvt2_5 _ _) <| q_q (fun _ => qb46) <| q_p (fun _ => cvb46_9 _ _) <| q_ret (cv_p rfl) rfl
     ·exact q_p fr <| q_c0 (fun S hS => argF1 (cv_p rfl) hS fun l0_ => ih d (by omega) (wi .i64 (Int.tdiv a0 10))) fun y2 hy2 => q_p fr <| q_p fr <| q_p (fun _ => cvt2_5 _ _) <| q_q (fun _ => qb46) <| q_p (fun _ => cvb46_9 _ _) <| q_cat2 fun t2 ht2 => q_ret (cv_p rfl) rfl
def m40 (a0 : TReply) : Option (Str) :=
 (m85 64 a0.Code).bind fun y1 =>
 (catO ([99, 111, 100, 101, 32] : Str) y1).bind fun t1 =>
 (catO t1 ([32] : Str)).bind fun t2 =>
 (m85 64 a0.Value).bind fun y2 =>
 (catO t2 y2).bind fun t3 =>
 bif !(a0.Path == ([] : Str)) then
  (catO t3 ([32] : Str)).bind fun t4 =>
  (catO t4 a0.Path).bind fun t5 =>
  some t5
 else
  some t3
theorem w40 {d : Nat} (hd : 130 ≤ d) (k0 : Bool) (a0 : TReply) : Fit (R NN d 40 [.rp k0 (Enc.cs k0 a0)] []) (m40 a0) (P0 encS) := by
  obtain ⟨d, rfl, g⟩ := up hd
  refine q_in (t40 NN d _) ?_
  unfold b40 m40
  refine q_q fr <| q_p fr <| q_p fr <| q_c0 (fun S hS => argF1 (cv_p rfl) hS fun l0_ => w85 64 _ (by omega) a0.Code) fun y1 hy1 => q_cat fun t1 ht1 => q_cat fun t2 ht2 => q_q fr <| q_p fr <| q_p fr <| q_c0 (fun S hS => argF1 (cv_p rfl) hS fun l0_ => w85 64 _ (by omega) a0.Value) fun y2 hy2 => q_cat2 fun t3 ht3 => q_q fr <| q_p fr ?_
  refine q_p fr <| q_p (fun _ => seq_neq) <| q_if (fun h1 => ?_) (fun h1 => ?_)
  ·exact q_cat fun t4 ht4 => q_q fr <| q_p fr <| q_p fr <| q_cat2 fun t5 ht5 => q_ret (cv_p rfl) rfl
  ·exact q_ret (cv_p rfl) rfl
def m9 (a0 : TReply) : Option (TTextResult) :=
 (m39 a0).bind fun y1 =>
 bif !y1 then
  some (⟨3, []⟩ : TTextResult)
 else
  (m40 a0).bind fun y2 =>
  some (⟨0, y2⟩ : TTextResult)
theorem w9 {d : Nat} (hd : 131 ≤ d) (k0 : Bool) (a0 : TReply) : Fit (R NN d 9 [.agg (Enc.cs k0 a0)] []) (m9 a0) (P0 (fun (t : TTextResult) => AV.agg (Enc.cs false t))) := by
  obtain ⟨d, rfl, g⟩ := up hd
  refine q_in (t9 NN d _) ?_
  unfold b9 m9
  refine q_box (n := 3) rfl rfl (by decide) fun b1 => q_new rfl fun b2 => q_c0 (fun S hS => argF1 (cv_b 1 rfl (cvs_cons (cv_p rfl) (cvs_cons (cv_p rfl) (cvs_cons (cv_p rfl) cvs_nil)))) hS fun l0_ => w39 (by omega) l0_ a0) fun y1 hy1 => q_p fr <| q_if (fun h1 => ?_) (fun h1 => ?_)
  ·exact q_p (fun _ => bd26_0 rfl) <| q_st 0 rfl rfl rfl (by decide) rfl <| q_retm (fun S hS => hS.lda 0 rfl rfl) (cv_a (cvs_cons (cv_p rfl) (cvs_cons (cv_p rfl) cvs_nil))) rfl
  ·exact q_c0 (fun S hS => argF1 (cv_b 1 rfl (cvs_cons (cv_p rfl) (cvs_cons (cv_p rfl) (cvs_cons (cv_p rfl) cvs_nil)))) hS fun l0_ => w40 (by omega) l0_ a0) fun y2 hy2 => q_p (fun _ => bd26_1 rfl) <| q_st 0 rfl rfl rfl (by decide) rfl <| q_retm (fun S hS => hS.lda 0 rfl rfl) (cv_a (cvs_cons (cv_p rfl) (cvs_cons (cv_p rfl) cvs_nil))) rfl
def m10 (a0 : TReply) : TReply :=
 a0
theorem w10 {d : Nat} (hd : 1 ≤ d) (k0 : Bool) (a0 : TReply) : Fit (R NN d 10 [.agg (Enc.cs k0 a0)] []) (some (m10 a0)) (P0 (fun (t : TReply) => AV.agg (Enc.cs false t))) := by
  obtain ⟨d, rfl, g⟩ := up hd
  refine q_in (t10 NN d _) ?_
  unfold b10 m10
  refine q_box (n := 3) rfl rfl (by decide) fun b1 => q_new rfl fun b2 => q_new rfl fun b3 => q_p fr <| q_ld 2 rfl rfl <| q_p fr <| q_st 0 rfl rfl rfl (by decide) rfl <| q_p fr <| q_ld 2 rfl rfl <| q_p fr <| q_st 0 rfl rfl rfl (by decide) rfl <| q_p fr <| q_ld 2 rfl rfl ?_
  exact q_p fr <| q_st 0 rfl rfl rfl (by decide) rfl <| q_lda 0 rfl rfl rfl <| q_st 1 rfl rfl rfl (by decide) rfl <| q_retm (fun S hS => hS.lda 1 rfl rfl) (cv_a (cvs_e (l0 := false) (x := a0))) rfl
def m86 (a0 : Int) (a1 : Int) (a2 : Int) : Bool :=
 bif decide (a1 ≤ a0) then
  decide (a0 ≤ a2)
 else
  false
theorem w86 {d : Nat} (hd : 1 ≤ d) (a0 : Int) (a1 : Int) (a2 : Int) : Fit (R NN d 86 [.int .i64 a0, .int .i64 a1, .int .i64 a2] []) (some (m86 a0 a1 a2)) (P0 (fun (t : Bool) => AV.bool t)) := by
  obtain ⟨d, rfl, g⟩ := up hd
  refine q_in (t86 NN d _ _ _) ?_
  unfold b86 m86
  refine q_p fr <| q_gTt (fun h1 => ?_) (fun h1 => ?_)
  ·exact q_p fr <| q_ret (cv_p rfl) rfl
  ·exact q_ret (cv_p rfl) rfl
def m41 (a0 : TReply) : Option (Bool) :=
 (
  bif (m86 a0.Code 0 10) then
   bif (m86 a0.Value (-1) 9999) then
    some (LO.norm (decide ((a0.Path.length : Int) ≤ 24)))
   else
    some (LO.norm false)
  else
   some (LO.norm false)).bind (contO (fun s2 =>
  some s2) (fun i1 s2 =>
  none) (fun s2 =>
  some s2))
theorem w41 {d : Nat} (hd : 2 ≤ d) (k0 : Bool) (a0 : TReply) : Fit (R NN d 41 [.agg (Enc.cs k0 a0)] []) (m41 a0) (P0 (fun (t : Bool) => AV.bool t)) := by
  obtain ⟨d, rfl, g⟩ := up hd
  refine q_in (t41 NN d _) ?_
  unfold b41 m41
  refine q_box (n := 3) rfl rfl (by decide) fun b1 => q_cut (I := (fun (s : Bool) l L => l = [.bool s] ∧ L = [bx b1 [.int .i64 a0.Code, .int .i64 a0.Value, encS a0.Path]])) ?_ ?_ ?_ ?_
  ·refine q_p fr <| q_ld 0 rfl rfl <| q_c0t (fun S hS => argF3 (cv_p rfl) (cv_p rfl) (cv_p rfl) hS fun l0_ l1_ l2_ => w86 (by omega) a0.Code 0 10) <| q_gT (fun h2 => ?_) (fun h2 => ?_)
   ·refine q_p fr <| q_ld 0 rfl rfl <| q_c0t (fun S hS => argF3 (cv_p rfl) (cv_p rfl) (cv_p rfl) hS fun l0_ l1_ l2_ => w86 (by omega) a0.Value (-1) 9999) <| q_gT (fun h1 => ?_) (fun h1 => ?_)
    ·exact q_p fr <| q_ld 0 rfl rfl <| q_slen <| q_p fr <| q_norm 0 ⟨rfl, rfl⟩
    ·exact q_norm 0 ⟨rfl, rfl⟩
   ·exact q_norm 0 ⟨rfl, rfl⟩
  ·rintro s2 _ _ ⟨rfl, rfl⟩
   exact q_ret (cv_p rfl) rfl
  ·rintro i1 s2 _ _ ⟨rfl, rfl⟩
   exact q_none
  ·rintro s2 _ _ ⟨rfl, rfl⟩
   exact q_ret (cv_p rfl) rfl
def m87 (a0 a1 : Int) : Option Str := fmtO a0 a1
theorem w87 {d : Nat} (hd : 1 ≤ d) (a0 a1 : Int) : Fit (R NN d 87 [.int .i64 a0, .int .i64 a1] []) (m87 a0 a1) (P0 encS) := by
  obtain ⟨d, rfl, g⟩ := up hd
  exact fit_fi (R := R) (fun _ _ _ => t87 _ _ _ _ _) a0 a1
def m42 (a0 : Int) : Option (Str) :=
 (m87 a0 10).bind fun y1 =>
 some y1
theorem w42 {d : Nat} (hd : 2 ≤ d) (a0 : Int) : Fit (R NN d 42 [.int .i64 a0] []) (m42 a0) (P0 encS) := by
  obtain ⟨d, rfl, g⟩ := up hd
  refine q_in (t42 NN d _) ?_
  unfold b42 m42
  exact q_c0 (fun S hS => argF2 (cv_p rfl) (cv_p rfl) hS fun l0_ l1_ => w87 (by omega) a0 10) fun y1 hy1 => q_ret (cv_p rfl) rfl
def m11 (a0 : TReply) : Option (TTextResult) :=
 (m41 a0).bind fun y1 =>
 bif !y1 then
  some (⟨3, []⟩ : TTextResult)
 else
  (m42 a0.Code).bind fun y2 =>
  (catO ([99, 111, 100, 101, 32] : Str) y2).bind fun t1 =>
  (catO t1 ([32] : Str)).bind fun t2 =>
  (m42 a0.Value).bind fun y3 =>
  (catO t2 y3).bind fun t3 =>
  (
   bif !(a0.Path == ([] : Str)) then
    (catO ([32] : Str) a0.Path).bind fun t4 =>
    (catO t3 t4).bind fun t5 =>
    some (LO.norm t5)
   else
    some (LO.norm t3)).bind (contO (fun s2 =>
   some (⟨0, s2⟩ : TTextResult)) (fun i1 s2 =>
   none) (fun s2 =>
   some (⟨0, []⟩ : TTextResult)))
theorem w11 {d : Nat} (hd : 3 ≤ d) (k0 : Bool) (a0 : TReply) : Fit (R NN d 11 [.agg (Enc.cs k0 a0)] []) (m11 a0) (P0 (fun (t : TTextResult) => AV.agg (Enc.cs false t))) := by
  obtain ⟨d, rfl, g⟩ := up hd
  refine q_in (t11 NN d _) ?_
  unfold b11 m11
  refine q_box (n := 3) rfl rfl (by decide) fun b1 => q_new rfl fun b2 => q_lda 1 rfl rfl rfl <| q_c0 (fun S hS => argF1 (cv_a (cvs_e (l0 := false) (x := a0))) hS fun l0_ => w41 (by omega) l0_ a0) fun y1 hy1 => q_p fr <| q_if (fun h2 => ?_) (fun h2 => ?_)
  ·exact q_p (fun _ => bd26_0 rfl) <| q_st 0 rfl rfl rfl (by decide) rfl <| q_retm (fun S hS => hS.lda 0 rfl rfl) (cv_a (cvs_cons (cv_p rfl) (cvs_cons (cv_p rfl) cvs_nil))) rfl
  ·refine q_p fr <| q_ld 1 rfl rfl <| q_c0 (fun S hS => argF1 (cv_p rfl) hS fun l0_ => w42 (by omega) a0.Code) fun y2 hy2 => q_cat fun t1 ht1 => q_cat fun t2 ht2 => q_p fr <| q_ld 1 rfl rfl <| q_c0 (fun S hS => argF1 (cv_p rfl) hS fun l0_ => w42 (by omega) a0.Value) fun y3 hy3 => q_cat2 fun t3 ht3 => q_cut (I := (fun (s : Str) l L => l = [encS s] ∧ L = [bx b2 [.int .i64 0, encS []], bx b1 [.int .i64 a0.Code, .int .i64 a0.Value, encS a0.Path]])) ?_ ?_ ?_ ?_
   ·refine q_p fr <| q_ld 1 rfl rfl <| q_p (fun _ => seq_neq) <| q_if (fun h1 => ?_) (fun h1 => ?_)
    ·exact q_p fr <| q_ld 1 rfl rfl <| q_cat fun t4 ht4 => q_cat2 fun t5 ht5 => q_norm 0 ⟨rfl, rfl⟩
    ·exact q_norm 0 ⟨rfl, rfl⟩
   ·rintro s2 _ _ ⟨rfl, rfl⟩
    exact q_p (fun _ => bd26_1 rfl) <| q_st 0 rfl rfl rfl (by decide) rfl <| q_retm (fun S hS => hS.lda 0 rfl rfl) (cv_a (cvs_cons (cv_p rfl) (cvs_cons (cv_p rfl) cvs_nil))) rfl
   ·rintro i1 s2 _ _ ⟨rfl, rfl⟩
    exact q_none
   ·rintro s2 _ _ ⟨rfl, rfl⟩
    exact q_retm (fun S hS => hS.lda 0 rfl rfl) (cv_a (cvs_cons (cv_p rfl) (cvs_cons (cv_p rfl) cvs_nil))) rfl
def m12 (a0 : TTextResult) (a1 : TTextResult) : Bool :=
 bif a0.Code != a1.Code then
  false
 else
  bif !(a0.Text == a1.Text) then
   false
  else
   true
theorem w12 {d : Nat} (hd : 1 ≤ d) (k0 : Bool) (a0 : TTextResult) (k1 : Bool) (a1 : TTextResult) : Fit (R NN d 12 [.agg (Enc.cs k0 a0), .agg (Enc.cs k1 a1)] []) (some (m12 a0 a1)) (P0 (fun (t : Bool) => AV.bool t)) := by
  obtain ⟨d, rfl, g⟩ := up hd
  refine q_in (t12 NN d _ _) ?_
  unfold b12 m12
  refine q_box (n := 2) rfl rfl (by decide) fun b1 => q_box (n := 2) rfl rfl (by decide) fun b2 => q_p fr <| q_ld 1 rfl rfl <| q_p fr <| q_ld 0 rfl rfl <| q_p fr <| q_ift (fun h2 => ?_) (fun h2 => ?_)
  ·exact q_ret (cv_p rfl) rfl
  ·refine q_p fr <| q_ld 1 rfl rfl <| q_p fr <| q_ld 0 rfl rfl <| q_p (fun _ => seq_neq2) <| q_ift (fun h1 => ?_) (fun h1 => ?_)
   ·exact q_ret (cv_p rfl) rfl
   ·exact q_ret (cv_p rfl) rfl
def m3 (a0 : TReply) : Option (Bool) :=
 bif decide ((m8 a0 1048576) < 0) then
  some true
 else
  (m9 (m10 a0)).bind fun y1 =>
  (m11 (m10 a0)).bind fun y2 =>
  bif !(m12 y2 y1) then
   some false
  else
   some true
theorem w3 {d : Nat} (hd : 132 ≤ d) (k0 : Bool) (a0 : TReply) : Fit (R NN d 3 [.agg (Enc.cs k0 a0)] []) (m3 a0) (P0 (fun (t : Bool) => AV.bool t)) := by
  obtain ⟨d, rfl, g⟩ := up hd
  refine q_in (t3 NN d _) ?_
  unfold b3 m3
  refine q_box (n := 3) rfl rfl (by decide) fun b1 => q_lda 0 rfl rfl rfl <| q_c0t (fun S hS => argF2 (cv_a (cvs_e (l0 := false) (x := a0))) (cv_p rfl) hS fun l0_ l1_ => w8 (by omega) l0_ a0 1048576) <| q_p fr <| q_if (fun h2 => ?_) (fun h2 => ?_)
  ·exact q_ret (cv_p rfl) rfl
  ·refine q_lda 0 rfl rfl rfl <| q_c0t (fun S hS => argF1 (cv_a (cvs_e (l0 := false) (x := a0))) hS fun l0_ => w10 (by omega) l0_ a0) <| q_c0 (fun S hS => argF1 (cv_a (cvs_e (l0 := false) (x := (m10 a0)))) hS fun l0_ => w9 (by omega) l0_ (m10 a0)) fun y1 hy1 => q_new rfl fun b2 => q_st 0 rfl rfl rfl (by decide) rfl <| q_lda 1 rfl rfl rfl <| q_c0t (fun S hS => argF1 (cv_a (cvs_e (l0 := false) (x := a0))) hS fun l0_ => w10 (by omega) l0_ a0) <| q_c0 (fun S hS => argF1 (cv_a (cvs_e (l0 := false) (x := (m10 a0)))) hS fun l0_ => w11 (by omega) l0_ (m10 a0)) fun y2 hy2 => q_new rfl fun b3 => q_st 0 rfl rfl rfl (by decide) rfl <| q_lda 0 rfl rfl rfl <| q_lda 1 rfl rfl rfl <| q_c0t (fun S hS => argF2 (cv_a (cvs_e (l0 := false) (x := y2))) (cv_a (cvs_e (l0 := false) (x := y1))) hS fun l0_ l1_ => w12 (by omega) l0_ y2 l1_ y1) ?_
   refine q_p fr <| q_if (fun h1 => ?_) (fun h1 => ?_)
   ·exact q_ret (cv_p rfl) rfl
   ·exact q_ret (cv_p rfl) rfl
end
end Go.Proofs.YtjandfmkelohdaaDoor
