/- Plain functions, and that the evaluator computes them. -/
import Derived.Test.YtodfmofjncmdfaaT
import Derived.Test.YtodfmofjncmdfaaRh6
import Derived.Test.YtodfmofjncmdfaaRh10
namespace Go.Proofs.Ytodfmofjncmdfaa
open Go Go.Rf
set_option linter.unusedVariables false
noncomputable section
structure TReply where
  Code : Int
  Value : Int
  Path : Str
  deriving DecidableEq
instance : Enc TReply := (Enc.of fun x : TReply => (x.Code, x.Value, x.Path)).copy (fun l x => [.int .i64 x.Code, .int .i64 x.Value, encS x.Path]) (fun _ _ => rfl) 3 0 rfl rfl
instance : Tr TReply := Tr.of (fun x : TReply => (x.Code, x.Value, x.Path)) (fun _ _ => rfl) rfl rfl
structure TVote where
  From : Int
  Reply : TReply
  deriving DecidableEq
instance : Enc TVote := (Enc.of fun x : TVote => (x.From, x.Reply)).copy (fun l x => [.int .i64 x.From, .int .i64 x.Reply.Code, .int .i64 x.Reply.Value, encS x.Reply.Path]) (fun _ _ => rfl) 4 0 rfl rfl
instance : Tr TVote := Tr.of (fun x : TVote => (x.From, x.Reply)) (fun _ _ => rfl) rfl rfl
structure TIntsResult where
  Code : Int
  List : List Int
  deriving DecidableEq
instance : Enc TIntsResult := (Enc.of fun x : TIntsResult => (x.Code, x.List)).copy (fun l x => [.int .i64 x.Code, .rsl l false (x.List.map (Enc.cs l))]) (fun _ _ => rfl) 2 1 rfl rfl
instance : Tr TIntsResult := Tr.of (fun x : TIntsResult => (x.Code, x.List)) (fun _ _ => rfl) rfl rfl
theorem bd64_0 {x0 r : AV} (hr : (afill (plc [(0, 1), (1, 1)]) [.int .i64 0, .rsl false true []] [(0, x0)]).map AV.agg = some r) : abuild Try.prog 64 [(0, x0)] = some r := Eq.trans (by kernel_rfl) hr
theorem bd64_1 {x1 r : AV} (hr : (afill (plc [(0, 1), (1, 1)]) [.int .i64 0, .rsl false true []] [(1, x1)]).map AV.agg = some r) : abuild Try.prog 64 [(1, x1)] = some r := Eq.trans (by kernel_rfl) hr
theorem bs137_1 {x0 r : AV} {S : St} (hr : (aparts 1 0 [(0, x0)]).map (fun es => mkS 1 es S) = some (r, S)) : abuildS Try.prog 137 1 [(0, x0)] S = some (r, S) := Eq.trans (by kernel_rfl) hr
theorem bs24_0 (S : St) : abuildS Try.prog 24 0 [] S = some (.rsl false true [], S) := by kernel_rfl
theorem bs24_1 {x0 r : AV} {S : St} (hr : (aparts 1 0 [(0, x0)]).map (fun es => mkS 1 es S) = some (r, S)) : abuildS Try.prog 24 1 [(0, x0)] S = some (r, S) := Eq.trans (by kernel_rfl) hr
theorem cv127_109 (run : FuncId → List AV → St → Option (AV × St)) (cap args : List AV) (S : St) : callV (cfg NN) run 127 (.fn 109 cap) args S = call0 run 109 (args ++ cap) S := by kernel_rfl
theorem cvt154_3 (n : Int) (S : St) : aconv Try.prog 154 3 (.int .u64 n) S = some (.int .i64 (wi .i64 n)) := by kernel_rfl
theorem cvt167_5 (n : Int) (S : St) : aconv Try.prog 167 5 (.int .u32 n) S = some (.int .u8 (wi .u8 n)) := by kernel_rfl
theorem cvt169_5 (n : Int) (S : St) : aconv Try.prog 169 5 (.int .u64 n) S = some (.int .u8 (wi .u8 n)) := by kernel_rfl
theorem cvt3_154 (n : Int) (S : St) : aconv Try.prog 3 154 (.int .i64 n) S = some (.int .u64 (wi .u64 n)) := by kernel_rfl
theorem cvt3_171 (n : Int) (S : St) : aconv Try.prog 3 171 (.int .i64 n) S = some (.int .u64 (wi .u64 n)) := by kernel_rfl
theorem cvt3_5 (n : Int) (S : St) : aconv Try.prog 3 5 (.int .i64 n) S = some (.int .u8 (wi .u8 n)) := by kernel_rfl
theorem cvt5_3 (n : Int) (S : St) : aconv Try.prog 5 3 (.int .u8 n) S = some (.int .i64 (wi .i64 n)) := by kernel_rfl
theorem cvb137_9 (n : Int) (S : St) : aconv Try.prog 137 9 (.rsl false true [[.int .u8 n]]) S = some (encS [UInt8.ofNat n.toNat]) := by kernel_rfl
theorem fo64_List : Fo (α := TIntsResult) (γ := List Int) 1 (fun x => x.List) (fun y x => { x with List := y }) := fun S i c x h => ((fo_snd fo_self) : Fo (α := Int × (List Int)) (γ := List Int) 1 _ _) S i c (x.Code, x.List) h
theorem mk66 (S : St) (n : Nat) (h : (n + 1) * (40 + 1) ≤ 70368744177664) : amake Try.prog 66 (.int .i64 n) (.int .i64 n) S = some (.bsl S.length 0 n n true, S ++ [⟨4, List.replicate n [.int .i64 0, .int .i64 0, .int .i64 0, .str ⟨#[]⟩], true⟩]) :=
  amake_ok (e := 103) (sz := 4) (by_ := 40) (z := [.int .i64 0, .int .i64 0, .int .i64 0, .str ⟨#[]⟩]) (z0 := [.int .i64 0, .int .i64 0, .int .i64 0, .str ⟨#[]⟩]) (by kernel_rfl) (by kernel_rfl) (by kernel_rfl) rfl rfl (by omega) rfl rfl h
theorem plsTReply {S : St} {l : Bool} (x : TReply) : Tr.ow S [] (Enc.cs l x) x := (pl_pair pl_int (pl_pair pl_int pl_string) _ : Tr.ow (α := Int × Int × Str) S [] (Enc.cs l _) (x.Code, x.Value, x.Path))
theorem plsTVote {S : St} {l : Bool} (x : TVote) : Tr.ow S [] (Enc.cs l x) x := (pl_pair pl_int (plsTReply) _ : Tr.ow (α := Int × TReply) S [] (Enc.cs l _) (x.From, x.Reply))
theorem plt103 {l : Bool} (S : St) (x : TVote) : Tr.ow S [] (Enc.cs l x) x := plsTVote x
theorem plt2 {l : Bool} (S : St) (x : Int) : Tr.ow S [] (Enc.cs l x) x := pl_int x
theorem seql682 (x0 : Int) (x1 : Int) (x2 : Str) (y0 : Int) (y1 : Int) (y2 : Str) : bin2 Try.prog .eql 68 (.agg [.int .i64 x0, .int .i64 x1, encS x2]) (.agg [.int .i64 y0, .int .i64 y1, encS y2]) = some (.bool (((x0 == y0) && ((x1 == y1) && ((x2 == y2) && true))))) :=
  Eq.trans (b := some (.bool (((x0 == y0) && ((x1 == y1) && (((ByteArray.mk x2.toArray).toList == (ByteArray.mk y2.toArray).toList) && true)))))) (by kernel_rfl) (by simp only [toList_mk])
theorem trx64 {S : St} {ids : List Nat} {cs : List AV} {x : TIntsResult} (h : Tr.ow S ids cs x) : ∃ v0 : AV, cs = [.int .i64 x.Code, v0] := by
  obtain ⟨_, _, _, _, rfl, _, rfl, ⟨rfl, rfl⟩, ⟨v0, rfl, _⟩⟩ := h
  exact ⟨_, rfl⟩
theorem up103_From (n : Int) : Up (α := TVote) 0 (.int .i64 n) (fun x => { x with From := n }) := (up_of (α := TVote) (β := Int × TReply) (f := fun x => (x.From, x.Reply)) (v := fun x => { x with From := n }) (up_fst (up_int (n := n))) rfl (fun _ => rfl))
theorem up103_Reply_Code (n : Int) : Up (α := TVote) 1 (.int .i64 n) (fun x => { x with Reply := { x.Reply with Code := n } }) := (up_of (α := TVote) (β := Int × TReply) (f := fun x => (x.From, x.Reply)) (v := fun x => { x with Reply := { x.Reply with Code := n } }) (up_snd (up_of (α := TReply) (β := Int × Int × Str) (f := fun x => (x.Code, x.Value, x.Path)) (v := fun x => { x with Code := n }) (up_fst (up_int (n := n))) rfl (fun _ => rfl))) rfl (fun _ => rfl))
theorem up103_Reply_Path (n : Str) : Up (α := TVote) 3 (encS n) (fun x => { x with Reply := { x.Reply with Path := n } }) := (up_of (α := TVote) (β := Int × TReply) (f := fun x => (x.From, x.Reply)) (v := fun x => { x with Reply := { x.Reply with Path := n } }) (up_snd (up_of (α := TReply) (β := Int × Int × Str) (f := fun x => (x.Code, x.Value, x.Path)) (v := fun x => { x with Path := n }) (up_snd (up_snd (up_str (s := n)))) rfl (fun _ => rfl))) rfl (fun _ => rfl))
theorem up103_Reply_Value (n : Int) : Up (α := TVote) 2 (.int .i64 n) (fun x => { x with Reply := { x.Reply with Value := n } }) := (up_of (α := TVote) (β := Int × TReply) (f := fun x => (x.From, x.Reply)) (v := fun x => { x with Reply := { x.Reply with Value := n } }) (up_snd (up_of (α := TReply) (β := Int × Int × Str) (f := fun x => (x.Code, x.Value, x.Path)) (v := fun x => { x with Value := n }) (up_snd (up_fst (up_int (n := n)))) rfl (fun _ => rfl))) rfl (fun _ => rfl))
def m28 (a0 : TReply) (a1 : Int) : Int :=
 bif decide ((wi .i64 (a1 - (a0.Path.length : Int))) < 0) then
  (-1)
 else
  wi .i64 (a1 - (a0.Path.length : Int))
theorem w28 {d : Nat} (hd : 1 ≤ d) (k0 : Bool) (a0 : TReply) (a1 : Int) : Fit (R NN d 28 [.agg (Enc.cs k0 a0), .int .i64 a1] []) (some (m28 a0 a1)) (P0 (fun (t : Int) => AV.int .i64 t)) := by
  obtain ⟨d, rfl, g⟩ := up hd
  refine q_in (t28 NN d _ _) ?_
  unfold b28 m28
  refine q_box (n := 3) rfl rfl (by decide) fun b1 => q_p fr <| q_ld 0 rfl rfl <| q_slen <| q_p fr <| q_p fr <| q_ift (fun h1 => ?_) (fun h1 => ?_)
  ·exact q_ret (cv_p rfl) rfl
  ·exact q_ret (cv_p rfl) rfl
def m63 (a0 : TVote) (a1 : Int) : Int :=
 bif decide ((m28 a0.Reply a1) < 0) then
  (-1)
 else
  (m28 a0.Reply a1)
theorem w63 {d : Nat} (hd : 2 ≤ d) (k0 : Bool) (a0 : TVote) (a1 : Int) : Fit (R NN d 63 [.agg (Enc.cs k0 a0), .int .i64 a1] []) (some (m63 a0 a1)) (P0 (fun (t : Int) => AV.int .i64 t)) := by
  obtain ⟨d, rfl, g⟩ := up hd
  refine q_in (t63 NN d _ _) ?_
  unfold b63 m63
  refine q_box (n := 4) rfl rfl (by decide) fun b1 => q_p fr <| q_lda 0 rfl rfl rfl <| q_c0t (fun S hS => argF2 (cv_a (cvs_e (l0 := false) (x := a0.Reply))) (cv_p rfl) hS fun l0_ l1_ => w28 (by omega) l0_ a0.Reply a1) <| q_p fr <| q_ift (fun h1 => ?_) (fun h1 => ?_)
  ·exact q_ret (cv_p rfl) rfl
  ·exact q_ret (cv_p rfl) rfl
def ms27_0 (a0 : List TVote) (s1 : Int × Int × Int) : Option (LO (Int × Int × Int)) :=
 bif decide (s1.2.2 < (a0.length : Int)) then
  (getI a0 s1.2.2).bind fun x1 =>
  bif decide ((m63 x1 s1.1) < 0) then
   some (LO.ret ((m63 x1 s1.1), (-1), s1.2.2))
  else
   some (LO.norm ((m63 x1 s1.1), s1.2.1, wi .i64 (s1.2.2 + 1)))
 else
  some (LO.exit 0 (s1.1, s1.2.1, s1.2.2))
def m27 (a0 : List TVote) (a1 : Int) : Option (Int) :=
 bif decide ((wi .i64 (a1 - (a0.length : Int))) < 0) then
  some (-1)
 else
  (loopO (ms27_0 a0) NN (wi .i64 (a1 - (a0.length : Int)), 0, 0)).bind (contO (fun _ => none) (fun i1 s2 =>
   if i1 = 0 then
    some s2.1
   else
    none) (fun s2 =>
   some s2.2.1))
theorem w27 {d : Nat} (hd : 3 ≤ d) (k0 : Bool) (a0 : List TVote) (a1 : Int) : Fit (R NN d 27 [.rsl k0 false (a0.map (Enc.cs k0)), .int .i64 a1] []) (m27 a0 a1) (P0 (fun (t : Int) => AV.int .i64 t)) := by
  obtain ⟨d, rfl, g⟩ := up hd
  refine q_in (t27 NN d _ _) ?_
  unfold b27 m27
  refine q_len <| q_p fr <| q_p fr <| q_if (fun h3 => ?_) (fun h3 => ?_)
  ·exact q_ret (cv_p rfl) rfl
  ·refine q_loop (I := (fun (s : Int × Int × Int) l L => l = [.int .i64 s.1, .int .i64 s.2.1, .int .i64 s.2.2] ∧ L = [])) 0 ⟨rfl, rfl⟩ ?_ ?_ ?_
   ·rintro s1 _ _ ⟨rfl, rfl⟩
    unfold s27_0 ms27_0
    refine q_len <| q_p fr <| q_if (fun h2 => ?_) (fun h2 => ?_)
    ·refine q_ix rfl fun x1 hx1 => q_p fr <| q_c0t (fun S hS => argF2 (cv_a (cvs_e (l0 := k0) (x := x1))) (cv_p rfl) hS fun l0_ l1_ => w63 (by omega) l0_ x1 s1.1) <| q_p fr <| q_if (fun h1 => ?_) (fun h1 => ?_)
     ·exact q_lret 0 ⟨rfl, rfl⟩
     ·exact q_p fr <| q_norm 0 ⟨rfl, rfl⟩
    ·exact q_exit 0 ⟨rfl, rfl⟩
   ·rintro i1 s2 _ _ ⟨rfl, rfl⟩
    refine q_ite (fun _ => ?_) (fun _ => ?_)
    ·exact q_ret (cv_p rfl) rfl
    ·exact q_none
   ·rintro s2 _ _ ⟨rfl, rfl⟩
    exact q_ret (cv_p rfl) rfl
def m74 (a0 : Int) (a1 : Int) (a2 : Int) : Bool :=
 bif decide (a0 ≥ a1) then
  decide (a0 ≤ a2)
 else
  false
theorem w74 {d : Nat} (hd : 1 ≤ d) (a0 : Int) (a1 : Int) (a2 : Int) : Fit (R NN d 74 [.int .i64 a0, .int .i64 a1, .int .i64 a2] []) (some (m74 a0 a1 a2)) (P0 (fun (t : Bool) => AV.bool t)) := by
  obtain ⟨d, rfl, g⟩ := up hd
  refine q_in (t74 NN d _ _ _) ?_
  unfold b74 m74
  refine q_p fr <| q_gTt (fun h1 => ?_) (fun h1 => ?_)
  ·exact q_p fr <| q_ret (cv_p rfl) rfl
  ·exact q_ret (cv_p rfl) rfl
def m52 (a0 : Int) : Bool :=
 (m74 a0 1 2)
theorem w52 {d : Nat} (hd : 2 ≤ d) (a0 : Int) : Fit (R NN d 52 [.int .i64 a0] []) (some (m52 a0)) (P0 (fun (t : Bool) => AV.bool t)) := by
  obtain ⟨d, rfl, g⟩ := up hd
  refine q_in (t52 NN d _) ?_
  unfold b52 m52
  exact q_c0t (fun S hS => argF3 (cv_p rfl) (cv_p rfl) (cv_p rfl) hS fun l0_ l1_ l2_ => w74 (by omega) a0 1 2) <| q_ret (cv_p rfl) rfl
def m75 (a0 : Int) (a1 : Int) : Bool :=
 (m74 a1 1 (wi .i64 ((wi .i64 (3 * a0)) + 1)))
theorem w75 {d : Nat} (hd : 2 ≤ d) (a0 : Int) (a1 : Int) : Fit (R NN d 75 [.int .i64 a0, .int .i64 a1] []) (some (m75 a0 a1)) (P0 (fun (t : Bool) => AV.bool t)) := by
  obtain ⟨d, rfl, g⟩ := up hd
  refine q_in (t75 NN d _ _) ?_
  unfold b75 m75
  exact q_p fr <| q_p fr <| q_c0t (fun S hS => argF3 (cv_p rfl) (cv_p rfl) (cv_p rfl) hS fun l0_ l1_ l2_ => w74 (by omega) a1 1 (wi .i64 ((wi .i64 (3 * a0)) + 1))) <| q_ret (cv_p rfl) rfl
def m107 (a0 : TReply) : Option (Bool) :=
 (
  bif (m74 a0.Code 0 10) then
   bif (m74 a0.Value (-1) 9999) then
    some (LO.norm (decide ((a0.Path.length : Int) ≤ 24)))
   else
    some (LO.norm false)
  else
   some (LO.norm false)).bind (contO (fun s2 =>
  some s2) (fun i1 s2 =>
  none) (fun s2 =>
  some s2))
theorem w107 {d : Nat} (hd : 2 ≤ d) (k0 : Bool) (a0 : TReply) : Fit (R NN d 107 [.rp k0 (Enc.cs k0 a0)] []) (m107 a0) (P0 (fun (t : Bool) => AV.bool t)) := by
  obtain ⟨d, rfl, g⟩ := up hd
  refine q_in (t107 NN d _) ?_
  unfold b107 m107
  refine q_cut (I := (fun (s : Bool) l L => l = [.bool s] ∧ L = [])) ?_ ?_ ?_ ?_
  ·refine q_q fr <| q_p fr <| q_p fr <| q_c0t (fun S hS => argF3 (cv_p rfl) (cv_p rfl) (cv_p rfl) hS fun l0_ l1_ l2_ => w74 (by omega) a0.Code 0 10) <| q_gT (fun h2 => ?_) (fun h2 => ?_)
   ·refine q_q fr <| q_p fr <| q_p fr <| q_c0t (fun S hS => argF3 (cv_p rfl) (cv_p rfl) (cv_p rfl) hS fun l0_ l1_ l2_ => w74 (by omega) a0.Value (-1) 9999) <| q_gT (fun h1 => ?_) (fun h1 => ?_)
    ·exact q_q fr <| q_p fr <| q_p fr <| q_slen <| q_p fr <| q_norm 0 ⟨rfl, rfl⟩
    ·exact q_norm 0 ⟨rfl, rfl⟩
   ·exact q_norm 0 ⟨rfl, rfl⟩
  ·rintro s2 _ _ ⟨rfl, rfl⟩
   exact q_ret (cv_p rfl) rfl
  ·rintro i1 s2 _ _ ⟨rfl, rfl⟩
   exact q_none
  ·rintro s2 _ _ ⟨rfl, rfl⟩
   exact q_ret (cv_p rfl) rfl
def ms64_0 (a0 : Int) (a1 : List TVote) (s1 : Int × Int) : Option (LO (Int × Int)) :=
 bif decide (s1.2 < (a1.length : Int)) then
  (
   (getI a1 s1.2).bind fun x1 =>
   bif !(m75 a0 x1.From) then
    some (LO.ret 3)
   else
    (getI a1 s1.2).bind fun x2 =>
    (m107 x2.Reply).bind fun y1 =>
    bif !y1 then
     some (LO.ret 3)
    else
     some (LO.norm s1.1)).bind (contO (fun s3 =>
   some (LO.norm (s3, wi .i64 (s1.2 + 1)))) (fun i1 s3 =>
   some (LO.exit i1 (s3, s1.2))) (fun s3 =>
   some (LO.ret (s3, s1.2))))
 else
  some (LO.exit 0 (s1.1, s1.2))
def m64 (a0 : Int) (a1 : List TVote) : Option (Int) :=
 bif !(m52 a0) then
  some 3
 else
  bif decide ((a1.length : Int) > 40) then
   some 2
  else
   (loopO (ms64_0 a0 a1) NN (0, 0)).bind (contO (fun _ => none) (fun i2 s4 =>
    if i2 = 0 then
     some 0
    else
     none) (fun s4 =>
    some s4.1))
theorem w64 {d : Nat} (hd : 3 ≤ d) (a0 : Int) (k1 : Bool) (a1 : List TVote) : Fit (R NN d 64 [.int .i64 a0, .rsl k1 false (a1.map (Enc.cs k1))] []) (m64 a0 a1) (P0 (fun (t : Int) => AV.int .i64 t)) := by
  obtain ⟨d, rfl, g⟩ := up hd
  refine q_in (t64 NN d _ _) ?_
  unfold b64 m64
  refine q_c0t (fun S hS => argF1 (cv_p rfl) hS fun l0_ => w52 (by omega) a0) <| q_p fr <| q_if (fun h5 => ?_) (fun h5 => ?_)
  ·exact q_ret (cv_p rfl) rfl
  ·refine q_len <| q_p fr <| q_if (fun h4 => ?_) (fun h4 => ?_)
   ·exact q_ret (cv_p rfl) rfl
   ·refine q_loop (I := (fun (s : Int × Int) l L => l = [.int .i64 s.1, .int .i64 s.2] ∧ L = [])) 0 ⟨rfl, rfl⟩ ?_ ?_ ?_
    ·rintro s1 _ _ ⟨rfl, rfl⟩
     unfold s64_0 ms64_0
     refine q_len <| q_p fr <| q_if (fun h3 => ?_) (fun h3 => ?_)
     ·refine q_cut (I := (fun (s : Int) l L => l = [.int .i64 s] ∧ L = [])) ?_ ?_ ?_ ?_
      ·refine q_ix rfl fun x1 hx1 => q_p fr <| q_p fr <| q_c0t (fun S hS => argF2 (cv_p rfl) (cv_p rfl) hS fun l0_ l1_ => w75 (by omega) a0 x1.From) <| q_p fr <| q_gF (fun h2 => ?_) (fun h2 => ?_)
       ·first | refine q_ifT1 ?_ | skip
        exact q_lret 0 ⟨rfl, rfl⟩
       ·refine q_ix rfl fun x2 hx2 => q_p fr <| q_c0 (fun S hS => argF1 (cv_rp (cvs_e (l0 := k1) (x := x2.Reply)) (fun _ _ _ h => Enc.frz k1 x2.Reply _ _ _ h)) hS fun l0_ => w107 (by omega) l0_ x2.Reply) fun y1 hy1 => q_p fr <| q_if (fun h1 => ?_) (fun h1 => ?_)
        ·exact q_lret 0 ⟨rfl, rfl⟩
        ·exact q_norm 0 ⟨rfl, rfl⟩
      ·rintro s3 _ _ ⟨rfl, rfl⟩
       exact q_p fr <| q_norm 0 ⟨rfl, rfl⟩
      ·rintro i1 s3 _ _ ⟨rfl, rfl⟩
       exact q_exit 0 ⟨rfl, rfl⟩
      ·rintro s3 _ _ ⟨rfl, rfl⟩
       exact q_lret 0 ⟨rfl, rfl⟩
     ·exact q_exit 0 ⟨rfl, rfl⟩
    ·rintro i2 s4 _ _ ⟨rfl, rfl⟩
     refine q_ite (fun _ => ?_) (fun _ => ?_)
     ·exact q_ret (cv_p rfl) rfl
     ·exact q_none
    ·rintro s4 _ _ ⟨rfl, rfl⟩
     exact q_ret (cv_p rfl) rfl
def ms65_0 (a1 : List TVote) (a2 : TReply) (s1 : Int × (List Int)) (s3 : Bool × Int) : Option (LO (Bool × Int)) :=
 bif decide (s3.2 < (a1.length : Int)) then
  (
   bif s3.1 then
    some (LO.norm true)
   else
    (getI a1 s3.2).bind fun x1 =>
    bif x1.From == s1.1 then
     (getI a1 s3.2).bind fun x2 =>
     some (LO.norm ((x2.Reply.Code == a2.Code) && ((x2.Reply.Value == a2.Value) && ((x2.Reply.Path == a2.Path) && true))))
    else
     some (LO.norm false)).bind (contO (fun s5 =>
   some (LO.norm (s5, wi .i64 (s3.2 + 1)))) (fun i1 s5 =>
   some (LO.exit i1 (s5, s3.2))) (fun s5 =>
   some (LO.ret (s5, s3.2))))
 else
  some (LO.exit 2 (s3.1, s3.2))
def ms65_1 (a0 : Int) (a1 : List TVote) (a2 : TReply) (s1 : Int × (List Int)) : Option (LO (Int × (List Int))) :=
 bif decide (s1.1 ≤ (wi .i64 ((wi .i64 (3 * a0)) + 1))) then
  (
   (loopO (ms65_0 a1 a2 s1) NN (false, 0)).bind (contO (fun _ => none) (fun i2 s6 =>
    if i2 = 2 then
     bif s6.1 then
      (appO 8 s1.2 [s1.1]).bind fun z1 =>
      some (LO.norm z1)
     else
      some (LO.norm s1.2)
    else
     if i2 = 1 then
      some (LO.norm s1.2)
     else
      some (LO.exit i2 s1.2)) (fun s6 =>
    some (LO.ret s1.2)))).bind (contO (fun s7 =>
   some (LO.norm (wi .i64 (s1.1 + 1), s7))) (fun i3 s7 =>
   some (LO.exit i3 (s1.1, s7))) (fun s7 =>
   some (LO.ret (s1.1, s7))))
 else
  some (LO.exit 0 (s1.1, s1.2))
def m65 (a0 : Int) (a1 : List TVote) (a2 : TReply) : Option ((List Int)) :=
 (loopO (ms65_1 a0 a1 a2) NN (1, [])).bind (contO (fun _ => none) (fun i4 s8 =>
  if i4 = 0 then
   some s8.2
  else
   none) (fun s8 =>
  some []))
theorem w65 {d : Nat} (hd : 1 ≤ d) (a0 : Int) (k1 : Bool) (a1 : List TVote) (k2 : Bool) (a2 : TReply) : Fit (R NN d 65 [.int .i64 a0, .rsl k1 false (a1.map (Enc.cs k1)), .agg (Enc.cs k2 a2)] []) (m65 a0 a1 a2) (P0 (fun (t : List Int) => AV.rsl false false (t.map (Enc.cs false)))) := by
  obtain ⟨d, rfl, g⟩ := up hd
  refine q_in (t65 NN d _ _ _) ?_
  unfold b65 m65
  refine q_box (n := 3) rfl rfl (by decide) fun b1 => q_e (fun _ => bs24_0 _) <| q_nil (α := Int) false <| q_loop (I := (fun (s : Int × (List Int)) l L => ∃ (v1 : AV), l = [v1, .int .i64 s.1] ∧ L = [sl false v1 (s.2 : List Int), bx b1 [.int .i64 a2.Code, .int .i64 a2.Value, encS a2.Path]])) 0 ⟨(.rsl false true []), rfl, rfl⟩ ?_ ?_ ?_
  ·rintro s1 _ _ ⟨v1, rfl, rfl⟩
   unfold s65_1 ms65_1
   refine q_p fr <| q_p fr <| q_p fr <| q_if (fun h5 => ?_) (fun h5 => ?_)
   ·refine q_cut (I := (fun (s : (List Int)) l L => ∃ (v2 : AV), l = [v2] ∧ L = [sl false v2 (s : List Int), bx b1 [.int .i64 a2.Code, .int .i64 a2.Value, encS a2.Path]])) ?_ ?_ ?_ ?_
    ·refine q_loop (I := (fun (s : Bool × Int) l L => l = [.bool s.1, .int .i64 s.2] ∧ L = [sl false v1 (s1.2 : List Int), bx b1 [.int .i64 a2.Code, .int .i64 a2.Value, encS a2.Path]])) 0 ⟨rfl, rfl⟩ ?_ ?_ ?_
     ·rintro s3 _ _ ⟨rfl, rfl⟩
      unfold s65_0 ms65_0
      refine q_len <| q_p fr <| q_if (fun h3 => ?_) (fun h3 => ?_)
      ·refine q_cut (I := (fun (s : Bool) l L => l = [.bool s] ∧ L = [sl false v1 (s1.2 : List Int), bx b1 [.int .i64 a2.Code, .int .i64 a2.Value, encS a2.Path]])) ?_ ?_ ?_ ?_
       ·refine q_gF (fun h2 => ?_) (fun h2 => ?_)
        ·exact q_norm 0 ⟨rfl, rfl⟩
        ·refine q_ix rfl fun x1 hx1 => q_p fr <| q_p fr <| q_p fr <| q_gT (fun h1 => ?_) (fun h1 => ?_)
         ·exact q_ix rfl fun x2 hx2 => q_p fr <| q_p fr <| q_lda 1 rfl rfl rfl <| q_p (fun _ => seql682 _ _ _ _ _ _) <| q_norm 0 ⟨rfl, rfl⟩
         ·exact q_norm 0 ⟨rfl, rfl⟩
       ·rintro s5 _ _ ⟨rfl, rfl⟩
        exact q_p fr <| q_norm 0 ⟨rfl, rfl⟩
       ·rintro i1 s5 _ _ ⟨rfl, rfl⟩
        exact q_exit 0 ⟨rfl, rfl⟩
       ·rintro s5 _ _ ⟨rfl, rfl⟩
        exact q_lret 0 ⟨rfl, rfl⟩
      ·exact q_exit 0 ⟨rfl, rfl⟩
     ·rintro i2 s6 _ _ ⟨rfl, rfl⟩
      refine q_ite (fun _ => ?_) (fun _ => ?_)
      ·refine q_if (fun h4 => ?_) (fun h4 => ?_)
       ·exact q_e (fun _ => bs24_1 rfl) <| q_app (ys := [s1.1]) 0 rfl rfl (fun _ _ => rfl) fun v2 z1 hz1 => q_norm 0 ⟨v2, rfl, rfl⟩
       ·exact q_norm 0 ⟨v1, rfl, rfl⟩
      ·refine q_ite (fun _ => ?_) (fun _ => ?_)
       ·exact q_norm 0 ⟨v1, rfl, rfl⟩
       ·exact q_exit 0 ⟨v1, rfl, rfl⟩
     ·rintro s6 _ _ ⟨rfl, rfl⟩
      exact q_lret 0 ⟨v1, rfl, rfl⟩
    ·rintro s7 _ _ ⟨v3, rfl, rfl⟩
     exact q_p fr <| q_norm 0 ⟨v3, rfl, rfl⟩
    ·rintro i3 s7 _ _ ⟨v4, rfl, rfl⟩
     exact q_exit 0 ⟨v4, rfl, rfl⟩
    ·rintro s7 _ _ ⟨v5, rfl, rfl⟩
     exact q_lret 0 ⟨v5, rfl, rfl⟩
   ·exact q_exit 0 ⟨v1, rfl, rfl⟩
  ·rintro i4 s8 _ _ ⟨v6, rfl, rfl⟩
   refine q_ite (fun _ => ?_) (fun _ => ?_)
   ·exact q_ret (cv_o 0 rfl) rfl
   ·exact q_none
  ·rintro s8 _ _ ⟨v7, rfl, rfl⟩
   exact q_ret (cv_r (α := Int) (l0 := false) (fl := true) (xs := [])) rfl
def m29 (a0 : Int) (a1 : List TVote) (a2 : TReply) : Option (TIntsResult) :=
 (m64 a0 a1).bind fun y1 =>
 bif y1 != 0 then
  some (⟨y1, []⟩ : TIntsResult)
 else
  (m65 a0 a1 a2).bind fun y2 =>
  some (⟨0, y2⟩ : TIntsResult)
theorem w29 {d : Nat} (hd : 4 ≤ d) (a0 : Int) (k1 : Bool) (a1 : List TVote) (k2 : Bool) (a2 : TReply) : Fit (R NN d 29 [.int .i64 a0, .rsl k1 false (a1.map (Enc.cs k1)), .agg (Enc.cs k2 a2)] []) (m29 a0 a1 a2) (P0 (fun (t : TIntsResult) => AV.agg (Enc.cs false t))) := by
  obtain ⟨d, rfl, g⟩ := up hd
  refine q_in (t29 NN d _ _ _) ?_
  unfold b29 m29
  refine q_box (n := 3) rfl rfl (by decide) fun b1 => q_new rfl fun b2 => q_c0 (fun S hS => argF2 (cv_p rfl) cv_r hS fun l0_ l1_ => w64 (by omega) a0 l1_ a1) fun y1 hy1 => q_p fr <| q_if (fun h1 => ?_) (fun h1 => ?_)
  ·exact q_p (fun _ => bd64_0 rfl) <| q_st 0 rfl rfl rfl (by decide) rfl <| q_retm (fun S hS => hS.lda 0 rfl rfl) (cv_a (cvs_cons (cv_p rfl) (cvs_cons (cv_r (α := Int) (l0 := false) (fl := true) (xs := [])) cvs_nil))) rfl
  ·exact q_lda 1 rfl rfl rfl <| q_c0 (fun S hS => argF3 (cv_p rfl) cv_r (cv_a (cvs_e (l0 := false) (x := a2))) hS fun l0_ l1_ l2_ => w65 (by omega) a0 l1_ a1 l2_ a2) fun y2 hy2 => q_p (fun _ => bd64_1 rfl) <| q_st 0 rfl rfl rfl (by decide) rfl <| q_retm (fun S hS => hS.lda 0 rfl rfl) (cv_a (cvs_cons (cv_p rfl) (cvs_cons cv_r cvs_nil))) rfl
def m31 (a0 : TReply) : TReply :=
 a0
theorem w31 {d : Nat} (hd : 1 ≤ d) (k0 : Bool) (a0 : TReply) : Fit (R NN d 31 [.agg (Enc.cs k0 a0)] []) (some (m31 a0)) (P0 (fun (t : TReply) => AV.agg (Enc.cs false t))) := by
  obtain ⟨d, rfl, g⟩ := up hd
  refine q_in (t31 NN d _) ?_
  unfold b31 m31
  refine q_box (n := 3) rfl rfl (by decide) fun b1 => q_new rfl fun b2 => q_new rfl fun b3 => q_p fr <| q_ld 2 rfl rfl <| q_p fr <| q_st 0 rfl rfl rfl (by decide) rfl <| q_p fr <| q_ld 2 rfl rfl <| q_p fr <| q_st 0 rfl rfl rfl (by decide) rfl <| q_p fr <| q_ld 2 rfl rfl ?_
  exact q_p fr <| q_st 0 rfl rfl rfl (by decide) rfl <| q_lda 0 rfl rfl rfl <| q_st 1 rfl rfl rfl (by decide) rfl <| q_retm (fun S hS => hS.lda 1 rfl rfl) (cv_a (cvs_e (l0 := false) (x := a0))) rfl
def m66 (a0 : TVote) : TVote :=
 (⟨a0.From, (m31 a0.Reply)⟩ : TVote)
theorem w66 {d : Nat} (hd : 2 ≤ d) (k0 : Bool) (a0 : TVote) : Fit (R NN d 66 [.agg (Enc.cs k0 a0)] []) (some (m66 a0)) (P0 (fun (t : TVote) => AV.agg (Enc.cs false t))) := by
  obtain ⟨d, rfl, g⟩ := up hd
  refine q_in (t66 NN d _) ?_
  unfold b66 m66
  refine q_box (n := 4) rfl rfl (by decide) fun b1 => q_new rfl fun b2 => q_new rfl fun b3 => q_p fr <| q_ld 2 rfl rfl <| q_p fr <| q_st 0 rfl rfl rfl (by decide) rfl <| q_p fr <| q_lda 2 rfl rfl rfl <| q_c0t (fun S hS => argF1 (cv_a (cvs_e (l0 := false) (x := a0.Reply))) hS fun l0_ => w31 (by omega) l0_ a0.Reply) <| q_p fr <| q_st 0 rfl rfl rfl (by decide) rfl <| q_lda 0 rfl rfl rfl ?_
  exact q_st 1 rfl rfl rfl (by decide) rfl <| q_retm (fun S hS => hS.lda 1 rfl rfl) (cv_a (cvs_cons (cv_p rfl) (cvs_cons (cv_p rfl) (cvs_cons (cv_p rfl) (cvs_cons (cv_p rfl) cvs_nil))))) rfl
def ms30_0 (a0 : List TVote) (s1 : Int × (List TVote)) : Option (LO (Int × (List TVote))) :=
 bif decide (s1.1 < (a0.length : Int)) then
  (getI a0 s1.1).bind fun x1 =>
  (getI s1.2 s1.1).bind fun x2 =>
  some (LO.norm (wi .i64 (s1.1 + 1), s1.2.set (Int.toNat s1.1) (m66 x1)))
 else
  some (LO.exit 0 (s1.1, s1.2))
def m30 (a0 : List TVote) : Option ((List TVote)) :=
 (mkO 40 (a0.length : Int) (⟨0, (⟨0, 0, []⟩ : TReply)⟩ : TVote)).bind fun z1 =>
 (loopO (ms30_0 a0) NN (0, z1)).bind (contO (fun _ => none) (fun i1 s2 =>
  if i1 = 0 then
   some s2.2
  else
   none) (fun s2 =>
  some []))
theorem w30 {d : Nat} (hd : 3 ≤ d) (k0 : Bool) (a0 : List TVote) : Fit (R NN d 30 [.rsl k0 false (a0.map (Enc.cs k0))] []) (m30 a0) (P1 (T := List TVote) one1) := by
  obtain ⟨d, rfl, g⟩ := up hd
  refine q_in (t30 NN d _) ?_
  unfold b30 m30
  refine q_len <| q_mk (z := (⟨0, (⟨0, 0, []⟩ : TReply)⟩ : TVote)) mk66 fun v1 z1 hz1 => q_loop (I := (fun (s : Int × (List TVote)) l L => l = [.int .i64 s.1] ∧ L = [sl false v1 (s.2 : List TVote)])) 0 ⟨rfl, rfl⟩ ?_ ?_ ?_
  ·rintro s1 _ _ ⟨rfl, rfl⟩
   unfold s30_0 ms30_0
   refine q_len <| q_p fr <| q_if (fun h1 => ?_) (fun h1 => ?_)
   ·exact q_ix rfl fun x1 hx1 => q_p fr <| q_c0t (fun S hS => argF1 (cv_a (cvs_e (l0 := k0) (x := x1))) hS fun l0_ => w66 (by omega) l0_ x1) <| q_ixo 0 rfl rfl fun x2 hx2 => q_stoe (y := (m66 x1)) 0 rfl rfl hx2 rfl (by decide) <| q_p fr <| q_norm 0 ⟨rfl, rfl⟩
   ·exact q_exit 0 ⟨rfl, rfl⟩
  ·rintro i1 s2 _ _ ⟨rfl, rfl⟩
   refine q_ite (fun _ => ?_) (fun _ => ?_)
   ·exact q_out (tb_sl 0 rfl plt103) rfl
   ·exact q_none
  ·rintro s2 _ _ ⟨rfl, rfl⟩
   exact q_out (tb_nil (α := TVote) (fl := true)) rfl
theorem w30f {d : Nat} (hd : 3 ≤ d) (k0 : Bool) (a0 : List TVote) : Fit (R NN d 30 [.rsl k0 false (a0.map (Enc.cs k0))] []) (m30 a0) (P0 (fun (t : List TVote) => AV.rsl false false (t.map (Enc.cs false)))) := p1_sl (w30 hd k0 a0)
def m84 (a0 : Int) (a1 : Int) (a2 : Int) : Bool :=
 bif decide (a1 ≤ a0) then
  decide (a0 ≤ a2)
 else
  false
theorem w84 {d : Nat} (hd : 1 ≤ d) (a0 : Int) (a1 : Int) (a2 : Int) : Fit (R NN d 84 [.int .i64 a0, .int .i64 a1, .int .i64 a2] []) (some (m84 a0 a1 a2)) (P0 (fun (t : Bool) => AV.bool t)) := by
  obtain ⟨d, rfl, g⟩ := up hd
  refine q_in (t84 NN d _ _ _) ?_
  unfold b84 m84
  refine q_p fr <| q_gTt (fun h1 => ?_) (fun h1 => ?_)
  ·exact q_p fr <| q_ret (cv_p rfl) rfl
  ·exact q_ret (cv_p rfl) rfl
def m56 (a0 : Int) : Bool :=
 (m84 a0 1 2)
theorem w56 {d : Nat} (hd : 2 ≤ d) (a0 : Int) : Fit (R NN d 56 [.int .i64 a0] []) (some (m56 a0)) (P0 (fun (t : Bool) => AV.bool t)) := by
  obtain ⟨d, rfl, g⟩ := up hd
  refine q_in (t56 NN d _) ?_
  unfold b56 m56
  exact q_c0t (fun S hS => argF3 (cv_p rfl) (cv_p rfl) (cv_p rfl) hS fun l0_ l1_ l2_ => w84 (by omega) a0 1 2) <| q_ret (cv_p rfl) rfl
def ms127_0 (a0 : List TVote) (a1 : TVote → Option (Bool)) (s1 : Int × Int) : Option (LO (Int × Int)) :=
 bif decide (s1.2 < (a0.length : Int)) then
  (getI a0 s1.2).bind fun x1 =>
  (a1 x1).bind fun y1 =>
  bif y1 then
   some (LO.ret (s1.2, s1.2))
  else
   some (LO.norm (s1.1, wi .i64 (s1.2 + 1)))
 else
  some (LO.exit 0 (s1.1, s1.2))
def m127 (a0 : List TVote) (a1 : TVote → Option (Bool)) : Option (Int) :=
 (loopO (ms127_0 a0 a1) NN (0, 0)).bind (contO (fun _ => none) (fun i1 s2 =>
  if i1 = 0 then
   some (-1)
  else
   none) (fun s2 =>
  some s2.1))
theorem w127 {Dc : Nat} {d : Nat} (hd : Dc + 1 ≤ d) (k0 : Bool) (a0 : List TVote) (c1 : Bool → AV) (hc1 : ∀ l, CV 8 [] false (c1 l) c1) (a1 : TVote → Option (Bool)) (tc1 : ∀ (d : Nat), Dc ≤ d → ∀ (l : Bool) (q0 : Bool) (x0 : TVote) (S : St) (t : Bool), a1 x0 = some t → callV (cfg NN) (R NN d) 127 (c1 l) [.agg (Enc.cs q0 x0)] S = some ((fun (t : Bool) => AV.bool t) t, S)) (k1 : Bool) : Fit (R NN d 127 [.rsl k0 false (a0.map (Enc.cs k0)), c1 k1] []) (m127 a0 a1) (P0 (fun (t : Int) => AV.int .i64 t)) := by
  obtain ⟨d, rfl, g⟩ := up hd
  refine q_in (t127 NN d _ _) ?_
  unfold b127 m127
  refine q_len <| q_loop (I := (fun (s : Int × Int) l L => l = [.int .i64 s.1, .int .i64 s.2] ∧ L = [])) 0 ⟨rfl, rfl⟩ ?_ ?_ ?_
  ·rintro s1 _ _ ⟨rfl, rfl⟩
   unfold s127_0 ms127_0
   refine q_p fr <| q_if (fun h2 => ?_) (fun h2 => ?_)
   ·refine q_ix rfl fun x1 hx1 => q_p fr <| q_cv (mg := a1 x1) (E := (fun (t : Bool) => AV.bool t)) (fun S t ht => tc1 d (by omega) k1 k0 x1 S t ht) fun y1 hy1 => q_if (fun h1 => ?_) (fun h1 => ?_)
    ·exact q_lret 0 ⟨rfl, rfl⟩
    ·exact q_p fr <| q_norm 0 ⟨rfl, rfl⟩
   ·exact q_exit 0 ⟨rfl, rfl⟩
  ·rintro i1 s2 _ _ ⟨rfl, rfl⟩
   refine q_ite (fun _ => ?_) (fun _ => ?_)
   ·exact q_ret (cv_p rfl) rfl
   ·exact q_none
  ·rintro s2 _ _ ⟨rfl, rfl⟩
   exact q_ret (cv_p rfl) rfl
def m108 (a0 : List TVote) (a1 : TVote → Option (Bool)) : Option (Bool) :=
 (m127 a0 a1).bind fun y1 =>
 some (decide (y1 ≥ 0))
theorem w108 {Dc : Nat} {d : Nat} (hd : Dc + 2 ≤ d) (k0 : Bool) (a0 : List TVote) (c1 : Bool → AV) (hc1 : ∀ l, CV 8 [] false (c1 l) c1) (a1 : TVote → Option (Bool)) (tc1 : ∀ (d : Nat), Dc ≤ d → ∀ (l : Bool) (q0 : Bool) (x0 : TVote) (S : St) (t : Bool), a1 x0 = some t → callV (cfg NN) (R NN d) 127 (c1 l) [.agg (Enc.cs q0 x0)] S = some ((fun (t : Bool) => AV.bool t) t, S)) (k1 : Bool) : Fit (R NN d 108 [.rsl k0 false (a0.map (Enc.cs k0)), c1 k1] []) (m108 a0 a1) (P0 (fun (t : Bool) => AV.bool t)) := by
  obtain ⟨d, rfl, g⟩ := up hd
  refine q_in (t108 NN d _ _) ?_
  unfold b108 m108
  exact q_c0 (fun S hS => argF2 cv_r (CV.any (hc1 k1)) hS fun l0_ l1_ => w127 (by omega) l0_ a0 c1 hc1 a1 tc1 l1_) fun y1 hy1 => q_p fr <| q_ret (cv_p rfl) rfl
def m89 (a0 : Int) : Int :=
 wi .i64 ((wi .i64 (3 * a0)) + 1)
theorem w89 {d : Nat} (hd : 1 ≤ d) (a0 : Int) : Fit (R NN d 89 [.int .i64 a0] []) (some (m89 a0)) (P0 (fun (t : Int) => AV.int .i64 t)) := by
  obtain ⟨d, rfl, g⟩ := up hd
  refine q_in (t89 NN d _) ?_
  unfold b89 m89
  exact q_p fr <| q_p fr <| q_ret (cv_p rfl) rfl
def m86 (a0 : Int) (a1 : Int) : Bool :=
 (m84 a1 1 (m89 a0))
theorem w86 {d : Nat} (hd : 2 ≤ d) (a0 : Int) (a1 : Int) : Fit (R NN d 86 [.int .i64 a0, .int .i64 a1] []) (some (m86 a0 a1)) (P0 (fun (t : Bool) => AV.bool t)) := by
  obtain ⟨d, rfl, g⟩ := up hd
  refine q_in (t86 NN d _ _) ?_
  unfold b86 m86
  exact q_c0t (fun S hS => argF1 (cv_p rfl) hS fun l0_ => w89 (by omega) a0) <| q_c0t (fun S hS => argF3 (cv_p rfl) (cv_p rfl) (cv_p rfl) hS fun l0_ l1_ l2_ => w84 (by omega) a1 1 (m89 a0)) <| q_ret (cv_p rfl) rfl
def m110 (a0 : TReply) : Option (Bool) :=
 (
  bif (m84 a0.Code 0 10) then
   bif (m84 a0.Value (-1) 9999) then
    some (LO.norm (decide ((a0.Path.length : Int) ≤ 24)))
   else
    some (LO.norm false)
  else
   some (LO.norm false)).bind (contO (fun s2 =>
  some s2) (fun i1 s2 =>
  none) (fun s2 =>
  some s2))
theorem w110 {d : Nat} (hd : 2 ≤ d) (k0 : Bool) (a0 : TReply) : Fit (R NN d 110 [.agg (Enc.cs k0 a0)] []) (m110 a0) (P0 (fun (t : Bool) => AV.bool t)) := by
  obtain ⟨d, rfl, g⟩ := up hd
  refine q_in (t110 NN d _) ?_
  unfold b110 m110
  refine q_box (n := 3) rfl rfl (by decide) fun b1 => q_cut (I := (fun (s : Bool) l L => l = [.bool s] ∧ L = [bx b1 [.int .i64 a0.Code, .int .i64 a0.Value, encS a0.Path]])) ?_ ?_ ?_ ?_
  ·refine q_p fr <| q_ld 0 rfl rfl <| q_c0t (fun S hS => argF3 (cv_p rfl) (cv_p rfl) (cv_p rfl) hS fun l0_ l1_ l2_ => w84 (by omega) a0.Code 0 10) <| q_gT (fun h2 => ?_) (fun h2 => ?_)
   ·refine q_p fr <| q_ld 0 rfl rfl <| q_c0t (fun S hS => argF3 (cv_p rfl) (cv_p rfl) (cv_p rfl) hS fun l0_ l1_ l2_ => w84 (by omega) a0.Value (-1) 9999) <| q_gT (fun h1 => ?_) (fun h1 => ?_)
    ·exact q_p fr <| q_ld 0 rfl rfl <| q_slen <| q_p fr <| q_norm 0 ⟨rfl, rfl⟩
    ·exact q_norm 0 ⟨rfl, rfl⟩
   ·exact q_norm 0 ⟨rfl, rfl⟩
  ·rintro s2 _ _ ⟨rfl, rfl⟩
   exact q_ret (cv_p rfl) rfl
  ·rintro i1 s2 _ _ ⟨rfl, rfl⟩
   exact q_none
  ·rintro s2 _ _ ⟨rfl, rfl⟩
   exact q_ret (cv_p rfl) rfl
def m109 (a0 : TVote) (a1 : Int) : Option (Bool) :=
 bif !(m86 a1 a0.From) then
  some true
 else
  (m110 a0.Reply).bind fun y1 =>
  some (!y1)
theorem w109 {d : Nat} (hd : 3 ≤ d) (k0 : Bool) (a0 : TVote) (k1 : Bool) (a1 : Int) : Fit (R NN d 109 [.agg (Enc.cs k0 a0), .rp k1 (Enc.cs k1 a1)] []) (m109 a0 a1) (P0 (fun (t : Bool) => AV.bool t)) := by
  obtain ⟨d, rfl, g⟩ := up hd
  refine q_in (t109 NN d _ _) ?_
  unfold b109 m109
  refine q_box (n := 4) rfl rfl (by decide) fun b1 => q_p fr <| q_p fr <| q_ld 0 rfl rfl <| q_c0t (fun S hS => argF2 (cv_p rfl) (cv_p rfl) hS fun l0_ l1_ => w86 (by omega) a1 a0.From) <| q_p fr <| q_gF (fun h1 => ?_) (fun h1 => ?_)
  ·exact q_ret (cv_p rfl) rfl
  ·exact q_p fr <| q_lda 0 rfl rfl rfl <| q_c0 (fun S hS => argF1 (cv_a (cvs_e (l0 := false) (x := a0.Reply))) hS fun l0_ => w110 (by omega) l0_ a0.Reply) fun y1 hy1 => q_p fr <| q_ret (cv_p rfl) rfl
def m67 (a0 : Int) (a1 : List TVote) : Option (Int) :=
 bif !(m56 a0) then
  some 3
 else
  bif decide ((a1.length : Int) > 40) then
   some 2
  else
   (m108 a1 (fun x0_ => m109 x0_ a0)).bind fun y1 =>
   bif y1 then
    some 3
   else
    some 0
theorem w67 {d : Nat} (hd : 6 ≤ d) (a0 : Int) (k1 : Bool) (a1 : List TVote) : Fit (R NN d 67 [.int .i64 a0, .rsl k1 false (a1.map (Enc.cs k1))] []) (m67 a0 a1) (P0 (fun (t : Int) => AV.int .i64 t)) := by
  obtain ⟨d, rfl, g⟩ := up hd
  refine q_in (t67 NN d _ _) ?_
  unfold b67 m67
  refine q_box (n := 1) rfl rfl (by decide) fun b1 => q_ld 0 rfl rfl <| q_c0t (fun S hS => argF1 (cv_p rfl) hS fun l0_ => w56 (by omega) a0) <| q_p fr <| q_if (fun h3 => ?_) (fun h3 => ?_)
  ·exact q_ret (cv_p rfl) rfl
  ·refine q_len <| q_p fr <| q_if (fun h2 => ?_) (fun h2 => ?_)
   ·exact q_ret (cv_p rfl) rfl
   ·refine q_c0 (fun S hS => argF2 cv_r (cv_f (cvs_cons (cv_b 0 rfl (cvs_e (l0 := false) (x := a0))) cvs_nil)) hS fun l0_ l1_ => w108 (Dc := 3) (by omega) l0_ a1 (fun l => .fn 109 [.rp l (Enc.cs l a0)]) (fun l => cv_f (cvs_cons (cv_rp (cvs_e (x := a0)) (fun _ _ _ h => Enc.frz _ a0 _ _ _ h)) cvs_nil)) (fun x0_ => m109 x0_ a0) (fun d hd l q0_ x0_ S t ht => (cv127_109 _ _ _ _).trans (call0_of (E := (fun (t : Bool) => AV.bool t)) (mg := m109 x0_ a0) (args2 (M := fun a => Fit (R NN d 109 a []) _ _) (cv_a (cvs_e (l0 := q0_) (x := x0_))) (cv_rp (cvs_e (l0 := l) (x := a0)) (fun _ _ _ h => Enc.frz _ a0 _ _ _ h)) HP.nil fun u0_ v0_ => w109 hd u0_ x0_ v0_ a0) ht)) l1_) fun y1 hy1 => q_if (fun h1 => ?_) (fun h1 => ?_)
    ·exact q_ret (cv_p rfl) rfl
    ·exact q_ret (cv_p rfl) rfl
def m150 (a0 : Int) : Bool :=
 a0 != a0
theorem w150 {d : Nat} (hd : 1 ≤ d) (a0 : Int) : Fit (R NN d 150 [.int .i64 a0] []) (some (m150 a0)) (P0 (fun (t : Bool) => AV.bool t)) := by
  obtain ⟨d, rfl, g⟩ := up hd
  refine q_in (t150 NN d _) ?_
  unfold b150 m150
  exact q_p fr <| q_ret (cv_p rfl) rfl
def m139 (a0 : Int) (a1 : Int) : Option (Bool) :=
 (
  bif (m150 a0) then
   bif !(m150 a1) then
    some (LO.norm true)
   else
    some (LO.norm (decide (a0 < a1)))
  else
   some (LO.norm (decide (a0 < a1)))).bind (contO (fun s2 =>
  some s2) (fun i1 s2 =>
  none) (fun s2 =>
  some s2))
theorem w139 {d : Nat} (hd : 2 ≤ d) (a0 : Int) (a1 : Int) : Fit (R NN d 139 [.int .i64 a0, .int .i64 a1] []) (m139 a0 a1) (P0 (fun (t : Bool) => AV.bool t)) := by
  obtain ⟨d, rfl, g⟩ := up hd
  refine q_in (t139 NN d _ _) ?_
  unfold b139 m139
  refine q_cut (I := (fun (s : Bool) l L => l = [.bool s] ∧ L = [])) ?_ ?_ ?_ ?_
  ·refine q_c0t (fun S hS => argF1 (cv_p rfl) hS fun l0_ => w150 (by omega) a0) <| q_gT (fun h2 => ?_) (fun h2 => ?_)
   ·refine q_c0t (fun S hS => argF1 (cv_p rfl) hS fun l0_ => w150 (by omega) a1) <| q_p fr <| q_gF (fun h1 => ?_) (fun h1 => ?_)
    ·exact q_norm 0 ⟨rfl, rfl⟩
    ·exact q_p fr <| q_norm 0 ⟨rfl, rfl⟩
   ·exact q_p fr <| q_norm 0 ⟨rfl, rfl⟩
  ·rintro s2 _ _ ⟨rfl, rfl⟩
   exact q_ret (cv_p rfl) rfl
  ·rintro i1 s2 _ _ ⟨rfl, rfl⟩
   exact q_none
  ·rintro s2 _ _ ⟨rfl, rfl⟩
   exact q_ret (cv_p rfl) rfl
def ms133_0 (a1 : Int) (s2 : Int × (List Int)) : Option (LO (Int × (List Int))) :=
 (
  (
   bif decide (s2.1 > a1) then
    (getI s2.2 s2.1).bind fun x1 =>
    (getI s2.2 (wi .i64 (s2.1 - 1))).bind fun x2 =>
    (m139 x1 x2).bind fun y1 =>
    some (LO.norm y1)
   else
    some (LO.norm false)).bind (contO (fun s5 =>
   bif s5 then
    some (LO.norm s5)
   else
    some (LO.exit 2 s5)) (fun i1 s5 =>
   some (LO.exit i1 s5)) (fun s5 =>
   some (LO.ret s5)))).bind (contO (fun s6 =>
  (getI s2.2 (wi .i64 (s2.1 - 1))).bind fun x3 =>
  (getI s2.2 s2.1).bind fun x4 =>
  (getI s2.2 s2.1).bind fun x5 =>
  (getI (s2.2.set (Int.toNat s2.1) x3) (wi .i64 (s2.1 - 1))).bind fun x6 =>
  some (LO.norm (wi .i64 (s2.1 - 1), (s2.2.set (Int.toNat s2.1) x3).set (Int.toNat (wi .i64 (s2.1 - 1))) x4))) (fun i2 s6 =>
  some (LO.exit i2 (s2.1, s2.2))) (fun s6 =>
  some (LO.ret (s2.1, s2.2))))
def ms133_1 (a1 : Int) (a2 : Int) (s1 : Int × (List Int)) : Option (LO (Int × (List Int))) :=
 bif decide (s1.1 < a2) then
  (loopO (ms133_0 a1) NN (s1.1, s1.2)).bind (contO (fun _ => none) (fun i3 s7 =>
   if i3 = 2 then
    some (LO.norm (wi .i64 (s1.1 + 1), s7.2))
   else
    if i3 = 1 then
     some (LO.norm (wi .i64 (s1.1 + 1), s7.2))
    else
     some (LO.exit i3 (s1.1, s7.2))) (fun s7 =>
   some (LO.ret (s1.1, s7.2))))
 else
  some (LO.exit 0 (s1.1, s1.2))
def m133 (a0 : List Int) (a1 : Int) (a2 : Int) : Option ((List Int)) :=
 (loopO (ms133_1 a1 a2) NN (wi .i64 (a1 + 1), a0)).bind (contO (fun _ => none) (fun i4 s8 =>
  if i4 = 0 then
   some s8.2
  else
   none) (fun s8 =>
  some s8.2))
theorem w133 {d : Nat} (hd : 3 ≤ d) (L0 : List En) (v0_ : AV) (a0 : List Int) (a1 : Int) (a2 : Int) : Okh (sl false v0_ (a0 : List Int) :: L0) (fun S => R NN d 133 [v0_, .int .i64 a1, .int .i64 a2] S) (m133 a0 a1 a2) (P2 (fun (t : (List Int)) => und) (fun (t : (List Int)) => sl false v0_ t :: L0)) := by
  obtain ⟨d, rfl, g⟩ := up hd
  refine q_to (t133 NN d _ _ _) ?_
  unfold b133 m133
  refine q_p fr <| q_loop (I := (fun (s : Int × (List Int)) l L => l = [.int .i64 s.1] ∧ L = sl false v0_ (s.2 : List Int) :: L0)) 0 ⟨rfl, rfl⟩ ?_ ?_ ?_
  ·rintro s1 _ _ ⟨rfl, rfl⟩
   unfold s133_1 ms133_1
   refine q_p fr <| q_if (fun h3 => ?_) (fun h3 => ?_)
   ·refine q_loop (I := (fun (s : Int × (List Int)) l L => l = [.int .i64 s.1] ∧ L = sl false v0_ (s.2 : List Int) :: L0)) 0 ⟨rfl, rfl⟩ ?_ ?_ ?_
    ·rintro s2 _ _ ⟨rfl, rfl⟩
     unfold s133_0 ms133_0
     refine q_cut (I := (fun (s : Bool) l L => l = [.bool s] ∧ L = sl false v0_ (s2.2 : List Int) :: L0)) ?_ ?_ ?_ ?_
     ·refine q_cut (I := (fun (s : Bool) l L => l = [.bool s] ∧ L = sl false v0_ (s2.2 : List Int) :: L0)) ?_ ?_ ?_ ?_
      ·refine q_p fr <| q_gT (fun h1 => ?_) (fun h1 => ?_)
       ·exact q_ixo 0 rfl rfl fun x1 hx1 => q_ldo 0 rfl hx1 rfl <| q_p fr <| q_ixo 0 rfl rfl fun x2 hx2 => q_ldo 0 rfl hx2 rfl <| q_c0 (fun S hS => argF2 (cv_p rfl) (cv_p rfl) hS fun l0_ l1_ => w139 (by omega) x1 x2) fun y1 hy1 => q_norm 0 ⟨rfl, rfl⟩
       ·exact q_norm 0 ⟨rfl, rfl⟩
      ·rintro s5 _ _ ⟨rfl, rfl⟩
       refine q_if (fun h2 => ?_) (fun h2 => ?_)
       ·exact q_norm 0 ⟨rfl, rfl⟩
       ·exact q_exit 0 ⟨rfl, rfl⟩
      ·rintro i1 s5 _ _ ⟨rfl, rfl⟩
       exact q_exit 0 ⟨rfl, rfl⟩
      ·rintro s5 _ _ ⟨rfl, rfl⟩
       exact q_lret 0 ⟨rfl, rfl⟩
     ·rintro s6 _ _ ⟨rfl, rfl⟩
      exact q_p fr <| q_p fr <| q_ixo 0 rfl rfl fun x3 hx3 => q_ldo 0 rfl hx3 rfl <| q_ixo 0 rfl rfl fun x4 hx4 => q_ldo 0 rfl hx4 rfl <| q_ixo 0 rfl rfl fun x5 hx5 => q_stoe (y := x3) 0 rfl rfl hx5 rfl (by decide) <| q_ixo 0 rfl rfl fun x6 hx6 => q_stoe (y := x4) 0 rfl rfl hx6 rfl (by decide) <| q_p fr <| q_norm 0 ⟨rfl, rfl⟩
     ·rintro i2 s6 _ _ ⟨rfl, rfl⟩
      exact q_exit 0 ⟨rfl, rfl⟩
     ·rintro s6 _ _ ⟨rfl, rfl⟩
      exact q_lret 0 ⟨rfl, rfl⟩
    ·rintro i3 s7 _ _ ⟨rfl, rfl⟩
     refine q_ite (fun _ => ?_) (fun _ => ?_)
     ·exact q_p fr <| q_norm 0 ⟨rfl, rfl⟩
     ·refine q_ite (fun _ => ?_) (fun _ => ?_)
      ·exact q_p fr <| q_norm 0 ⟨rfl, rfl⟩
      ·exact q_exit 0 ⟨rfl, rfl⟩
    ·rintro s7 _ _ ⟨rfl, rfl⟩
     exact q_lret 0 ⟨rfl, rfl⟩
   ·exact q_exit 0 ⟨rfl, rfl⟩
  ·rintro i4 s8 _ _ ⟨rfl, rfl⟩
   refine q_ite (fun _ => ?_) (fun _ => ?_)
   ·exact q_ret2 0 rfl rfl
   ·exact q_none
  ·rintro s8 _ _ ⟨rfl, rfl⟩
   exact q_ret2 0 rfl rfl
def ms145_0 (a2 : Int) (a3 : Int) (s1 : Int × (List Int)) : Option (LO (Int × (List Int))) :=
 bif decide ((wi .i64 ((wi .i64 (2 * s1.1)) + 1)) ≥ a2) then
  some (LO.exit 0 (s1.1, s1.2))
 else
  (
   bif decide ((wi .i64 ((wi .i64 ((wi .i64 (2 * s1.1)) + 1)) + 1)) < a2) then
    (getI s1.2 (wi .i64 (a3 + (wi .i64 ((wi .i64 (2 * s1.1)) + 1))))).bind fun x1 =>
    (getI s1.2 (wi .i64 ((wi .i64 (a3 + (wi .i64 ((wi .i64 (2 * s1.1)) + 1)))) + 1))).bind fun x2 =>
    (m139 x1 x2).bind fun y1 =>
    bif y1 then
     some (LO.norm (wi .i64 ((wi .i64 ((wi .i64 (2 * s1.1)) + 1)) + 1)))
    else
     some (LO.norm (wi .i64 ((wi .i64 (2 * s1.1)) + 1)))
   else
    some (LO.norm (wi .i64 ((wi .i64 (2 * s1.1)) + 1)))).bind (contO (fun s3 =>
   (getI s1.2 (wi .i64 (a3 + s1.1))).bind fun x3 =>
   (getI s1.2 (wi .i64 (a3 + s3))).bind fun x4 =>
   (m139 x3 x4).bind fun y2 =>
   bif !y2 then
    some (LO.ret (s1.1, s1.2))
   else
    (getI s1.2 (wi .i64 (a3 + s3))).bind fun x5 =>
    (getI s1.2 (wi .i64 (a3 + s1.1))).bind fun x6 =>
    (getI s1.2 (wi .i64 (a3 + s1.1))).bind fun x7 =>
    (getI (s1.2.set (Int.toNat (wi .i64 (a3 + s1.1))) x5) (wi .i64 (a3 + s3))).bind fun x8 =>
    some (LO.norm (s3, (s1.2.set (Int.toNat (wi .i64 (a3 + s1.1))) x5).set (Int.toNat (wi .i64 (a3 + s3))) x6))) (fun i1 s3 =>
   if i1 = 1 then
    some (LO.norm (s1.1, s1.2))
   else
    some (LO.exit i1 (s1.1, s1.2))) (fun s3 =>
   some (LO.ret (s1.1, s1.2))))
def m145 (a0 : List Int) (a1 : Int) (a2 : Int) (a3 : Int) : Option ((List Int)) :=
 (loopO (ms145_0 a2 a3) NN (a1, a0)).bind (contO (fun _ => none) (fun i2 s4 =>
  if i2 = 0 then
   some s4.2
  else
   none) (fun s4 =>
  some s4.2))
theorem w145 {d : Nat} (hd : 3 ≤ d) (L0 : List En) (v0_ : AV) (a0 : List Int) (a1 : Int) (a2 : Int) (a3 : Int) : Okh (sl false v0_ (a0 : List Int) :: L0) (fun S => R NN d 145 [v0_, .int .i64 a1, .int .i64 a2, .int .i64 a3] S) (m145 a0 a1 a2 a3) (P2 (fun (t : (List Int)) => und) (fun (t : (List Int)) => sl false v0_ t :: L0)) := by
  obtain ⟨d, rfl, g⟩ := up hd
  refine q_to (t145 NN d _ _ _ _) ?_
  unfold b145 m145
  refine q_loop (I := (fun (s : Int × (List Int)) l L => l = [.int .i64 s.1] ∧ L = sl false v0_ (s.2 : List Int) :: L0)) 0 ⟨rfl, rfl⟩ ?_ ?_ ?_
  ·rintro s1 _ _ ⟨rfl, rfl⟩
   unfold s145_0 ms145_0
   refine q_p fr <| q_p fr <| q_p fr <| q_if (fun h4 => ?_) (fun h4 => ?_)
   ·exact q_exit 0 ⟨rfl, rfl⟩
   ·refine q_cut (I := (fun (s : Int) l L => l = [.int .i64 s] ∧ L = sl false v0_ (s1.2 : List Int) :: L0)) ?_ ?_ ?_ ?_
    ·refine q_p fr <| q_p fr <| q_gT (fun h2 => ?_) (fun h2 => ?_)
     ·refine q_p fr <| q_ixo 0 rfl rfl fun x1 hx1 => q_ldo 0 rfl hx1 rfl <| q_p fr <| q_p fr <| q_ixo 0 rfl rfl fun x2 hx2 => q_ldo 0 rfl hx2 rfl <| q_c0 (fun S hS => argF2 (cv_p rfl) (cv_p rfl) hS fun l0_ l1_ => w139 (by omega) x1 x2) fun y1 hy1 => q_if (fun h1 => ?_) (fun h1 => ?_)
      ·exact q_p fr <| q_norm 0 ⟨rfl, rfl⟩
      ·exact q_norm 0 ⟨rfl, rfl⟩
     ·first | refine q_ifF1 ?_ | skip
      exact q_norm 0 ⟨rfl, rfl⟩
    ·rintro s3 _ _ ⟨rfl, rfl⟩
     refine q_p fr <| q_ixo 0 rfl rfl fun x3 hx3 => q_ldo 0 rfl hx3 rfl <| q_p fr <| q_ixo 0 rfl rfl fun x4 hx4 => q_ldo 0 rfl hx4 rfl <| q_c0 (fun S hS => argF2 (cv_p rfl) (cv_p rfl) hS fun l0_ l1_ => w139 (by omega) x3 x4) fun y2 hy2 => q_p fr <| q_if (fun h3 => ?_) (fun h3 => ?_)
     ·exact q_lret 0 ⟨rfl, rfl⟩
     ·exact q_p fr <| q_p fr <| q_p fr <| q_ixo 0 rfl rfl fun x5 hx5 => q_ldo 0 rfl hx5 rfl <| q_p fr <| q_ixo 0 rfl rfl fun x6 hx6 => q_ldo 0 rfl hx6 rfl <| q_ixo 0 rfl rfl fun x7 hx7 => q_stoe (y := x5) 0 rfl rfl hx7 rfl (by decide) <| q_ixo 0 rfl rfl fun x8 hx8 => q_stoe (y := x6) 0 rfl rfl hx8 rfl (by decide) <| q_norm 0 ⟨rfl, rfl⟩
    ·rintro i1 s3 _ _ ⟨rfl, rfl⟩
     refine q_ite (fun _ => ?_) (fun _ => ?_)
     ·exact q_norm 0 ⟨rfl, rfl⟩
     ·exact q_exit 0 ⟨rfl, rfl⟩
    ·rintro s3 _ _ ⟨rfl, rfl⟩
     exact q_lret 0 ⟨rfl, rfl⟩
  ·rintro i2 s4 _ _ ⟨rfl, rfl⟩
   refine q_ite (fun _ => ?_) (fun _ => ?_)
   ·exact q_ret2 0 rfl rfl
   ·exact q_none
  ·rintro s4 _ _ ⟨rfl, rfl⟩
   exact q_ret2 0 rfl rfl
def ms134_0 (a1 : Int) (a2 : Int) (s1 : Int × (List Int)) : Option (LO (Int × (List Int))) :=
 bif decide (s1.1 ≥ 0) then
  (m145 s1.2 s1.1 (wi .i64 (a2 - a1)) a1).bind fun y1 =>
  some (LO.norm (wi .i64 (s1.1 - 1), y1))
 else
  some (LO.exit 0 (s1.1, s1.2))
def ms134_1 (a1 : Int) (s3 : Int × (List Int)) : Option (LO (Int × (List Int))) :=
 bif decide (s3.1 ≥ 0) then
  (getI s3.2 (wi .i64 (a1 + s3.1))).bind fun x1 =>
  (getI s3.2 a1).bind fun x2 =>
  (getI s3.2 a1).bind fun x3 =>
  (getI (s3.2.set (Int.toNat a1) x1) (wi .i64 (a1 + s3.1))).bind fun x4 =>
  (m145 ((s3.2.set (Int.toNat a1) x1).set (Int.toNat (wi .i64 (a1 + s3.1))) x2) 0 s3.1 a1).bind fun y2 =>
  some (LO.norm (wi .i64 (s3.1 - 1), y2))
 else
  some (LO.exit 2 (s3.1, s3.2))
def m134 (a0 : List Int) (a1 : Int) (a2 : Int) : Option ((List Int)) :=
 (loopO (ms134_0 a1 a2) NN (wi .i64 (Int.tdiv (wi .i64 ((wi .i64 (a2 - a1)) - 1)) 2), a0)).bind (contO (fun _ => none) (fun i1 s2 =>
  if i1 = 0 then
   (loopO (ms134_1 a1) NN (wi .i64 ((wi .i64 (a2 - a1)) - 1), s2.2)).bind (contO (fun _ => none) (fun i2 s4 =>
    if i2 = 2 then
     some s4.2
    else
     none) (fun s4 =>
    some s4.2))
  else
   none) (fun s2 =>
  some s2.2))
theorem w134 {d : Nat} (hd : 4 ≤ d) (L0 : List En) (v0_ : AV) (a0 : List Int) (a1 : Int) (a2 : Int) : Okh (sl false v0_ (a0 : List Int) :: L0) (fun S => R NN d 134 [v0_, .int .i64 a1, .int .i64 a2] S) (m134 a0 a1 a2) (P2 (fun (t : (List Int)) => und) (fun (t : (List Int)) => sl false v0_ t :: L0)) := by
  obtain ⟨d, rfl, g⟩ := up hd
  refine q_to (t134 NN d _ _ _) ?_
  unfold b134 m134
  refine q_p fr <| q_p fr <| q_p fr <| q_loop (I := (fun (s : Int × (List Int)) l L => l = [.int .i64 s.1] ∧ L = sl false v0_ (s.2 : List Int) :: L0)) 0 ⟨rfl, rfl⟩ ?_ ?_ ?_
  ·rintro s1 _ _ ⟨rfl, rfl⟩
   unfold s134_0 ms134_0
   refine q_p fr <| q_if (fun h1 => ?_) (fun h1 => ?_)
   ·exact q_s (mg := m145 s1.2 s1.1 (wi .i64 (a2 - a1)) a1) (w145 (by omega) _ _ s1.2 s1.1 (wi .i64 (a2 - a1)) a1) fun y1 hy1 => q_p fr <| q_norm 0 ⟨rfl, rfl⟩
   ·exact q_exit 0 ⟨rfl, rfl⟩
  ·rintro i1 s2 _ _ ⟨rfl, rfl⟩
   refine q_ite (fun _ => ?_) (fun _ => ?_)
   ·refine q_p fr <| q_loop (I := (fun (s : Int × (List Int)) l L => l = [.int .i64 s.1] ∧ L = sl false v0_ (s.2 : List Int) :: L0)) 0 ⟨rfl, rfl⟩ ?_ ?_ ?_
    ·rintro s3 _ _ ⟨rfl, rfl⟩
     unfold s134_1 ms134_1
     refine q_p fr <| q_if (fun h2 => ?_) (fun h2 => ?_)
     ·exact q_p fr <| q_p fr <| q_ixo 0 rfl rfl fun x1 hx1 => q_ldo 0 rfl hx1 rfl <| q_ixo 0 rfl rfl fun x2 hx2 => q_ldo 0 rfl hx2 rfl <| q_ixo 0 rfl rfl fun x3 hx3 => q_stoe (y := x1) 0 rfl rfl hx3 rfl (by decide) <| q_ixo 0 rfl rfl fun x4 hx4 => q_stoe (y := x2) 0 rfl rfl hx4 rfl (by decide) <| q_s (mg := m145 ((s3.2.set (Int.toNat a1) x1).set (Int.toNat (wi .i64 (a1 + s3.1))) x2) 0 s3.1 a1) (w145 (by omega) _ _ ((s3.2.set (Int.toNat a1) x1).set (Int.toNat (wi .i64 (a1 + s3.1))) x2) 0 s3.1 a1) fun y2 hy2 => q_p fr <| q_norm 0 ⟨rfl, rfl⟩
     ·exact q_exit 0 ⟨rfl, rfl⟩
    ·rintro i2 s4 _ _ ⟨rfl, rfl⟩
     refine q_ite (fun _ => ?_) (fun _ => ?_)
     ·exact q_ret2 0 rfl rfl
     ·exact q_none
    ·rintro s4 _ _ ⟨rfl, rfl⟩
     exact q_ret2 0 rfl rfl
   ·exact q_none
  ·rintro s2 _ _ ⟨rfl, rfl⟩
   exact q_ret2 0 rfl rfl
def m142 (a0 : Int) : Option (Int) :=
 (
  bif decide (a0 ≥ 65536) then
   some (LO.norm (shrI .u32 a0 16, 16))
  else
   some (LO.norm (a0, 0))).bind (contO (fun s2 =>
  (
   bif decide (s2.1 ≥ 256) then
    some (LO.norm (shrI .u32 s2.1 8, wi .i64 (s2.2 + 8)))
   else
    some (LO.norm (s2.1, s2.2))).bind (contO (fun s4 =>
   (getI ([0, 1, 2, 2, 3, 3, 3, 3, 4, 4, 4, 4, 4, 4, 4, 4, 5, 5, 5, 5, 5, 5, 5, 5, 5, 5, 5, 5, 5, 5, 5, 5, 6, 6, 6, 6, 6, 6, 6, 6, 6, 6, 6, 6, 6, 6, 6, 6, 6, 6, 6, 6, 6, 6, 6, 6, 6, 6, 6, 6, 6, 6, 6, 6, 7, 7, 7, 7, 7, 7, 7, 7, 7, 7, 7, 7, 7, 7, 7, 7, 7, 7, 7, 7, 7, 7, 7, 7, 7, 7, 7, 7, 7, 7, 7, 7, 7, 7, 7, 7, 7, 7, 7, 7, 7, 7, 7, 7, 7, 7, 7, 7, 7, 7, 7, 7, 7, 7, 7, 7, 7, 7, 7, 7, 7, 7, 7, 7, 8, 8, 8, 8, 8, 8, 8, 8, 8, 8, 8, 8, 8, 8, 8, 8, 8, 8, 8, 8, 8, 8, 8, 8, 8, 8, 8, 8, 8, 8, 8, 8, 8, 8, 8, 8, 8, 8, 8, 8, 8, 8, 8, 8, 8, 8, 8, 8, 8, 8, 8, 8, 8, 8, 8, 8, 8, 8, 8, 8, 8, 8, 8, 8, 8, 8, 8, 8, 8, 8, 8, 8, 8, 8, 8, 8, 8, 8, 8, 8, 8, 8, 8, 8, 8, 8, 8, 8, 8, 8, 8, 8, 8, 8, 8, 8, 8, 8, 8, 8, 8, 8, 8, 8, 8, 8, 8, 8, 8, 8, 8, 8, 8, 8, 8, 8, 8, 8, 8, 8, 8, 8, 8, 8, 8, 8, 8, 8] : Str) (wi .u8 s4.1)).bind fun c1 =>
   some (wi .i64 (s4.2 + (wi .i64 (c1.toNat : Int))))) (fun i2 s4 =>
   none) (fun s4 =>
   some s4.2))) (fun i1 s2 =>
  none) (fun s2 =>
  some s2.2))
theorem w142 {d : Nat} (hd : 1 ≤ d) (a0 : Int) : Fit (R NN d 142 [.int .u32 a0] []) (m142 a0) (P0 (fun (t : Int) => AV.int .i64 t)) := by
  obtain ⟨d, rfl, g⟩ := up hd
  refine q_in (t142 NN d _) ?_
  unfold b142 m142
  refine q_cut (I := (fun (s : Int × Int) l L => l = [.int .u32 s.1, .int .i64 s.2] ∧ L = [])) ?_ ?_ ?_ ?_
  ·refine q_p fr <| q_if (fun h1 => ?_) (fun h1 => ?_)
   ·exact q_p fr <| q_norm 0 ⟨rfl, rfl⟩
   ·exact q_norm 0 ⟨rfl, rfl⟩
  ·rintro s2 _ _ ⟨rfl, rfl⟩
   refine q_cut (I := (fun (s : Int × Int) l L => l = [.int .u32 s.1, .int .i64 s.2] ∧ L = [])) ?_ ?_ ?_ ?_
   ·refine q_p fr <| q_if (fun h2 => ?_) (fun h2 => ?_)
    ·exact q_p fr <| q_p fr <| q_norm 0 ⟨rfl, rfl⟩
    ·exact q_norm 0 ⟨rfl, rfl⟩
   ·rintro s4 _ _ ⟨rfl, rfl⟩
    exact q_p (fun _ => cvt167_5 _ _) <| q_sx fun c1 hc1 => q_p (fun _ => cvt5_3 _ _) <| q_p fr <| q_ret (cv_p rfl) rfl
   ·rintro i2 s4 _ _ ⟨rfl, rfl⟩
    exact q_none
   ·rintro s4 _ _ ⟨rfl, rfl⟩
    exact q_ret (cv_p rfl) rfl
  ·rintro i1 s2 _ _ ⟨rfl, rfl⟩
   exact q_none
  ·rintro s2 _ _ ⟨rfl, rfl⟩
   exact q_ret (cv_p rfl) rfl
def m143 (a0 : Int) : Option (Int) :=
 (
  bif decide (a0 ≥ 4294967296) then
   some (LO.norm (shrI .u64 a0 32, 32))
  else
   some (LO.norm (a0, 0))).bind (contO (fun s2 =>
  (
   bif decide (s2.1 ≥ 65536) then
    some (LO.norm (shrI .u64 s2.1 16, wi .i64 (s2.2 + 16)))
   else
    some (LO.norm (s2.1, s2.2))).bind (contO (fun s4 =>
   (
    bif decide (s4.1 ≥ 256) then
     some (LO.norm (shrI .u64 s4.1 8, wi .i64 (s4.2 + 8)))
    else
     some (LO.norm (s4.1, s4.2))).bind (contO (fun s6 =>
    (getI ([0, 1, 2, 2, 3, 3, 3, 3, 4, 4, 4, 4, 4, 4, 4, 4, 5, 5, 5, 5, 5, 5, 5, 5, 5, 5, 5, 5, 5, 5, 5, 5, 6, 6, 6, 6, 6, 6, 6, 6, 6, 6, 6, 6, 6, 6, 6, 6, 6, 6, 6, 6, 6, 6, 6, 6, 6, 6, 6, 6, 6, 6, 6, 6, 7, 7, 7, 7, 7, 7, 7, 7, 7, 7, 7, 7, 7, 7, 7, 7, 7, 7, 7, 7, 7, 7, 7, 7, 7, 7, 7, 7, 7, 7, 7, 7, 7, 7, 7, 7, 7, 7, 7, 7, 7, 7, 7, 7, 7, 7, 7, 7, 7, 7, 7, 7, 7, 7, 7, 7, 7, 7, 7, 7, 7, 7, 7, 7, 8, 8, 8, 8, 8, 8, 8, 8, 8, 8, 8, 8, 8, 8, 8, 8, 8, 8, 8, 8, 8, 8, 8, 8, 8, 8, 8, 8, 8, 8, 8, 8, 8, 8, 8, 8, 8, 8, 8, 8, 8, 8, 8, 8, 8, 8, 8, 8, 8, 8, 8, 8, 8, 8, 8, 8, 8, 8, 8, 8, 8, 8, 8, 8, 8, 8, 8, 8, 8, 8, 8, 8, 8, 8, 8, 8, 8, 8, 8, 8, 8, 8, 8, 8, 8, 8, 8, 8, 8, 8, 8, 8, 8, 8, 8, 8, 8, 8, 8, 8, 8, 8, 8, 8, 8, 8, 8, 8, 8, 8, 8, 8, 8, 8, 8, 8, 8, 8, 8, 8, 8, 8, 8, 8, 8, 8, 8, 8] : Str) (wi .u8 s6.1)).bind fun c1 =>
    some (wi .i64 (s6.2 + (wi .i64 (c1.toNat : Int))))) (fun i3 s6 =>
    none) (fun s6 =>
    some s6.2))) (fun i2 s4 =>
   none) (fun s4 =>
   some s4.2))) (fun i1 s2 =>
  none) (fun s2 =>
  some s2.2))
theorem w143 {d : Nat} (hd : 1 ≤ d) (a0 : Int) : Fit (R NN d 143 [.int .u64 a0] []) (m143 a0) (P0 (fun (t : Int) => AV.int .i64 t)) := by
  obtain ⟨d, rfl, g⟩ := up hd
  refine q_in (t143 NN d _) ?_
  unfold b143 m143
  refine q_cut (I := (fun (s : Int × Int) l L => l = [.int .u64 s.1, .int .i64 s.2] ∧ L = [])) ?_ ?_ ?_ ?_
  ·refine q_p fr <| q_if (fun h1 => ?_) (fun h1 => ?_)
   ·exact q_p fr <| q_norm 0 ⟨rfl, rfl⟩
   ·exact q_norm 0 ⟨rfl, rfl⟩
  ·rintro s2 _ _ ⟨rfl, rfl⟩
   refine q_cut (I := (fun (s : Int × Int) l L => l = [.int .u64 s.1, .int .i64 s.2] ∧ L = [])) ?_ ?_ ?_ ?_
   ·refine q_p fr <| q_if (fun h2 => ?_) (fun h2 => ?_)
    ·exact q_p fr <| q_p fr <| q_norm 0 ⟨rfl, rfl⟩
    ·exact q_norm 0 ⟨rfl, rfl⟩
   ·rintro s4 _ _ ⟨rfl, rfl⟩
    refine q_cut (I := (fun (s : Int × Int) l L => l = [.int .u64 s.1, .int .i64 s.2] ∧ L = [])) ?_ ?_ ?_ ?_
    ·refine q_p fr <| q_if (fun h3 => ?_) (fun h3 => ?_)
     ·exact q_p fr <| q_p fr <| q_norm 0 ⟨rfl, rfl⟩
     ·exact q_norm 0 ⟨rfl, rfl⟩
    ·rintro s6 _ _ ⟨rfl, rfl⟩
     exact q_p (fun _ => cvt169_5 _ _) <| q_sx fun c1 hc1 => q_p (fun _ => cvt5_3 _ _) <| q_p fr <| q_ret (cv_p rfl) rfl
    ·rintro i3 s6 _ _ ⟨rfl, rfl⟩
     exact q_none
    ·rintro s6 _ _ ⟨rfl, rfl⟩
     exact q_ret (cv_p rfl) rfl
   ·rintro i2 s4 _ _ ⟨rfl, rfl⟩
    exact q_none
   ·rintro s4 _ _ ⟨rfl, rfl⟩
    exact q_ret (cv_p rfl) rfl
  ·rintro i1 s2 _ _ ⟨rfl, rfl⟩
   exact q_none
  ·rintro s2 _ _ ⟨rfl, rfl⟩
   exact q_ret (cv_p rfl) rfl
def m129 (a0 : Int) : Option (Int) :=
 (m143 a0).bind fun y1 =>
 some y1
theorem w129 {d : Nat} (hd : 2 ≤ d) (a0 : Int) : Fit (R NN d 129 [.int .u64 a0] []) (m129 a0) (P0 (fun (t : Int) => AV.int .i64 t)) := by
  obtain ⟨d, rfl, g⟩ := up hd
  refine q_in (t129 NN d _) ?_
  unfold b129 m129
  first | refine q_ifF1 ?_ | skip
  exact q_c0 (fun S hS => argF1 (cv_p rfl) hS fun l0_ => w143 (by omega) a0) fun y1 hy1 => q_ret (cv_p rfl) rfl
def m146 (a0 : Int) : Option (Int) :=
 (m129 (wi .u64 a0)).bind fun y1 =>
 (shlO .u64 1 y1).bind fun q1 =>
 some q1
theorem w146 {d : Nat} (hd : 3 ≤ d) (a0 : Int) : Fit (R NN d 146 [.int .i64 a0] []) (m146 a0) (P0 (fun (t : Int) => AV.int .u64 t)) := by
  obtain ⟨d, rfl, g⟩ := up hd
  refine q_in (t146 NN d _) ?_
  unfold b146 m146
  exact q_p (fun _ => cvt3_154 _ _) <| q_c0 (fun S hS => argF1 (cv_p rfl) hS fun l0_ => w129 (by omega) (wi .u64 a0)) fun y1 hy1 => q_shl fun q1 hq1 => q_ret (cv_p rfl) rfl
def m147 (a0 : Int) : Int × Int :=
 (xorI .u64 (xorI .u64 (xorI .u64 a0 (shlI .u64 a0 13)) (shrI .u64 (xorI .u64 a0 (shlI .u64 a0 13)) 7)) (shlI .u64 (xorI .u64 (xorI .u64 a0 (shlI .u64 a0 13)) (shrI .u64 (xorI .u64 a0 (shlI .u64 a0 13)) 7)) 17), xorI .u64 (xorI .u64 (xorI .u64 a0 (shlI .u64 a0 13)) (shrI .u64 (xorI .u64 a0 (shlI .u64 a0 13)) 7)) (shlI .u64 (xorI .u64 (xorI .u64 a0 (shlI .u64 a0 13)) (shrI .u64 (xorI .u64 a0 (shlI .u64 a0 13)) 7)) 17))
theorem w147 {d : Nat} (hd : 1 ≤ d) (L0 : List En) (b0_ : Nat) (a0 : Int) : Okh (bx b0_ [.int .u64 a0] :: L0) (fun S => R NN d 147 [.bp b0_ 0 0 1 1] S) (some (m147 a0)) (P2 (fun (t : Int × Int) => AV.int .u64 t.1) (fun (t : Int × Int) => bx b0_ [.int .u64 t.2] :: L0)) := by
  obtain ⟨d, rfl, g⟩ := up hd
  refine q_to (t147 NN d _) ?_
  unfold b147 m147
  refine q_q fr <| q_ld 0 rfl rfl <| q_q fr <| q_ld 0 rfl rfl <| q_p fr <| q_p fr <| q_q fr <| q_st 0 rfl rfl rfl (by decide) rfl <| q_q fr <| q_ld 0 rfl rfl <| q_q fr <| q_ld 0 rfl rfl <| q_p fr ?_
  refine q_p fr <| q_q fr <| q_st 0 rfl rfl rfl (by decide) rfl <| q_q fr <| q_ld 0 rfl rfl <| q_q fr <| q_ld 0 rfl rfl <| q_p fr <| q_p fr <| q_q fr <| q_st 0 rfl rfl rfl (by decide) rfl <| q_q fr <| q_ld 0 rfl rfl ?_
  exact q_ret2 0 rfl rfl
def ms135_0 (a1 : Int) (a2 : Int) (y1 : Int) (s1 : Int × Int × (List Int)) : Option (LO (Int × Int × (List Int))) :=
 bif decide (s1.1 ≤ (wi .i64 ((wi .i64 (a1 + (wi .i64 ((wi .i64 (Int.tdiv (wi .i64 (a2 - a1)) 4)) * 2)))) + 1))) then
  (
   (some (m147 s1.2.1)).bind fun y2 =>
   (
    bif decide ((wi .i64 (andI .u64 y2.1 (wi .u64 (y1 - 1)))) ≥ (wi .i64 (a2 - a1))) then
     some (LO.norm (wi .i64 ((wi .i64 (andI .u64 y2.1 (wi .u64 (y1 - 1)))) - (wi .i64 (a2 - a1)))))
    else
     some (LO.norm (wi .i64 (andI .u64 y2.1 (wi .u64 (y1 - 1)))))).bind (contO (fun s4 =>
    (getI s1.2.2 (wi .i64 (a1 + s4))).bind fun x1 =>
    (getI s1.2.2 s1.1).bind fun x2 =>
    (getI s1.2.2 s1.1).bind fun x3 =>
    (getI (s1.2.2.set (Int.toNat s1.1) x1) (wi .i64 (a1 + s4))).bind fun x4 =>
    some (LO.norm (y2.2, (s1.2.2.set (Int.toNat s1.1) x1).set (Int.toNat (wi .i64 (a1 + s4))) x2))) (fun i1 s4 =>
    if i1 = 1 then
     some (LO.norm (y2.2, s1.2.2))
    else
     some (LO.exit i1 (y2.2, s1.2.2))) (fun s4 =>
    some (LO.ret (y2.2, s1.2.2))))).bind (contO (fun s5 =>
   some (LO.norm (wi .i64 (s1.1 + 1), s5.1, s5.2))) (fun i2 s5 =>
   some (LO.exit i2 (s1.1, s5.1, s5.2))) (fun s5 =>
   some (LO.ret (s1.1, s5.1, s5.2))))
 else
  some (LO.exit 0 (s1.1, s1.2.1, s1.2.2))
def m135 (a0 : List Int) (a1 : Int) (a2 : Int) : Option ((List Int)) :=
 bif decide ((wi .i64 (a2 - a1)) ≥ 8) then
  (m146 (wi .i64 (a2 - a1))).bind fun y1 =>
  (loopO (ms135_0 a1 a2 y1) NN (wi .i64 ((wi .i64 (a1 + (wi .i64 ((wi .i64 (Int.tdiv (wi .i64 (a2 - a1)) 4)) * 2)))) - 1), wi .u64 (wi .i64 (a2 - a1)), a0)).bind (contO (fun _ => none) (fun i3 s6 =>
   if i3 = 0 then
    some s6.2.2
   else
    none) (fun s6 =>
   some s6.2.2))
 else
  some a0
theorem w135 {d : Nat} (hd : 4 ≤ d) (L0 : List En) (v0_ : AV) (a0 : List Int) (a1 : Int) (a2 : Int) : Okh (sl false v0_ (a0 : List Int) :: L0) (fun S => R NN d 135 [v0_, .int .i64 a1, .int .i64 a2] S) (m135 a0 a1 a2) (P2 (fun (t : (List Int)) => und) (fun (t : (List Int)) => sl false v0_ t :: L0)) := by
  obtain ⟨d, rfl, g⟩ := up hd
  refine q_to (t135 NN d _ _ _) ?_
  unfold b135 m135
  refine q_p fr <| q_p fr <| q_if (fun h3 => ?_) (fun h3 => ?_)
  ·refine q_p (fun _ => cvt3_171 _ _) <| q_new rfl fun b1 => q_st 0 rfl rfl rfl (by decide) rfl <| q_c0 (fun S hS => argF1 (cv_p rfl) hS fun l0_ => w146 (by omega) (wi .i64 (a2 - a1))) fun y1 hy1 => q_p fr <| q_p fr <| q_p fr <| q_p fr <| q_loop (I := (fun (s : Int × Int × (List Int)) l L => l = [.int .i64 s.1] ∧ L = bx b1 [.int .u64 s.2.1] :: sl false v0_ (s.2.2 : List Int) :: L0)) 0 ⟨rfl, rfl⟩ ?_ ?_ ?_
   ·rintro s1 _ _ ⟨rfl, rfl⟩
    unfold s135_0 ms135_0
    refine q_p fr <| q_p fr <| q_p fr <| q_p fr <| q_p fr <| q_if (fun h2 => ?_) (fun h2 => ?_)
    ·refine q_cut (I := (fun (s : Int × (List Int)) l L => l = [] ∧ L = bx b1 [.int .u64 s.1] :: sl false v0_ (s.2 : List Int) :: L0)) ?_ ?_ ?_ ?_
     ·refine q_s (mg := some (m147 s1.2.1)) (w147 (by omega) _ _ s1.2.1) fun y2 hy2 => q_p fr <| q_p fr <| q_p (fun _ => cvt154_3 _ _) <| q_cut (I := (fun (s : Int) l L => l = [.int .i64 s] ∧ L = bx b1 [.int .u64 y2.2] :: sl false v0_ (s1.2.2 : List Int) :: L0)) ?_ ?_ ?_ ?_
      ·refine q_p fr <| q_if (fun h1 => ?_) (fun h1 => ?_)
       ·exact q_p fr <| q_norm 0 ⟨rfl, rfl⟩
       ·exact q_norm 0 ⟨rfl, rfl⟩
      ·rintro s4 _ _ ⟨rfl, rfl⟩
       exact q_p fr <| q_p fr <| q_ixo 1 rfl rfl fun x1 hx1 => q_ldo 1 rfl hx1 rfl <| q_ixo 1 rfl rfl fun x2 hx2 => q_ldo 1 rfl hx2 rfl <| q_ixo 1 rfl rfl fun x3 hx3 => q_stoe (y := x1) 1 rfl rfl hx3 rfl (by decide) <| q_ixo 1 rfl rfl fun x4 hx4 => q_stoe (y := x2) 1 rfl rfl hx4 rfl (by decide) <| q_norm 0 ⟨rfl, rfl⟩
      ·rintro i1 s4 _ _ ⟨rfl, rfl⟩
       refine q_ite (fun _ => ?_) (fun _ => ?_)
       ·exact q_norm 0 ⟨rfl, rfl⟩
       ·exact q_exit 0 ⟨rfl, rfl⟩
      ·rintro s4 _ _ ⟨rfl, rfl⟩
       exact q_lret 0 ⟨rfl, rfl⟩
     ·rintro s5 _ _ ⟨rfl, rfl⟩
      exact q_p fr <| q_norm 0 ⟨rfl, rfl⟩
     ·rintro i2 s5 _ _ ⟨rfl, rfl⟩
      exact q_exit 0 ⟨rfl, rfl⟩
     ·rintro s5 _ _ ⟨rfl, rfl⟩
      exact q_lret 0 ⟨rfl, rfl⟩
    ·exact q_exit 0 ⟨rfl, rfl⟩
   ·rintro i3 s6 _ _ ⟨rfl, rfl⟩
    refine q_ite (fun _ => ?_) (fun _ => ?_)
    ·exact q_ret2 1 rfl rfl
    ·exact q_none
   ·rintro s6 _ _ ⟨rfl, rfl⟩
    exact q_ret2 1 rfl rfl
  ·exact q_ret2 0 rfl rfl
def m151 (a0 : List Int) (a1 : Int) (a2 : Int) (a3 : Int) : Option (Int × Int × Int) :=
 (getI a0 a2).bind fun x1 =>
 (getI a0 a1).bind fun x2 =>
 (m139 x1 x2).bind fun y1 =>
 bif y1 then
  some (a2, a1, wi .i64 (a3 + 1))
 else
  some (a1, a2, a3)
theorem w151 {d : Nat} (hd : 3 ≤ d) (L0 : List En) (k0 : Bool) (f0_ : Bool) (a0 : List Int) (a1 : Int) (a2 : Int) (b3_ : Nat) (a3 : Int) : Okh (bx b3_ [.int .i64 a3] :: L0) (fun S => R NN d 151 [.rsl k0 f0_ (a0.map (Enc.cs k0)), .int .i64 a1, .int .i64 a2, .bp b3_ 0 0 1 1] S) (m151 a0 a1 a2 a3) (P2 (fun (t : Int × Int × Int) => AV.tup [.int .i64 t.1, .int .i64 t.2.1]) (fun (t : Int × Int × Int) => bx b3_ [.int .i64 t.2.2] :: L0)) := by
  obtain ⟨d, rfl, g⟩ := up hd
  refine q_to (t151 NN d _ _ _ _) ?_
  unfold b151 m151
  refine q_ix rfl fun x1 hx1 => q_p fr <| q_ix rfl fun x2 hx2 => q_p fr <| q_c0 (fun S hS => argF2 (cv_p rfl) (cv_p rfl) hS fun l0_ l1_ => w139 (by omega) x1 x2) fun y1 hy1 => q_if (fun h1 => ?_) (fun h1 => ?_)
  ·exact q_q fr <| q_ld 0 rfl rfl <| q_p fr <| q_q fr <| q_st 0 rfl rfl rfl (by decide) rfl <| q_ret2 0 rfl rfl
  ·exact q_ret2 0 rfl rfl
def m149 (a0 : List Int) (a1 : Int) (a2 : Int) (a3 : Int) (a4 : Int) : Option (Int × Int) :=
 (m151 a0 a1 a2 a4).bind fun y1 =>
 (m151 a0 y1.2.1 a3 y1.2.2).bind fun y2 =>
 (m151 a0 y1.1 y2.1 y2.2.2).bind fun y3 =>
 some (y3.2.1, y3.2.2)
theorem w149 {d : Nat} (hd : 4 ≤ d) (L0 : List En) (k0 : Bool) (f0_ : Bool) (a0 : List Int) (a1 : Int) (a2 : Int) (a3 : Int) (b4_ : Nat) (a4 : Int) : Okh (bx b4_ [.int .i64 a4] :: L0) (fun S => R NN d 149 [.rsl k0 f0_ (a0.map (Enc.cs k0)), .int .i64 a1, .int .i64 a2, .int .i64 a3, .bp b4_ 0 0 1 1] S) (m149 a0 a1 a2 a3 a4) (P2 (fun (t : Int × Int) => AV.int .i64 t.1) (fun (t : Int × Int) => bx b4_ [.int .i64 t.2] :: L0)) := by
  obtain ⟨d, rfl, g⟩ := up hd
  refine q_to (t149 NN d _ _ _ _ _) ?_
  unfold b149 m149
  exact q_s (mg := m151 a0 a1 a2 a4) (w151 (by omega) _ _ _ a0 a1 a2 _ a4) fun y1 hy1 => q_q fr <| q_q fr <| q_s (mg := m151 a0 y1.2.1 a3 y1.2.2) (w151 (by omega) _ _ _ a0 y1.2.1 a3 _ y1.2.2) fun y2 hy2 => q_q fr <| q_q fr <| q_s (mg := m151 a0 y1.1 y2.1 y2.2.2) (w151 (by omega) _ _ _ a0 y1.1 y2.1 _ y2.2.2) fun y3 hy3 => q_q fr <| q_q fr <| q_ret2 0 rfl rfl
def m148 (a0 : List Int) (a1 : Int) (a2 : Int) : Option (Int × Int) :=
 (m149 a0 (wi .i64 (a1 - 1)) a1 (wi .i64 (a1 + 1)) a2).bind fun y1 =>
 some (y1.1, y1.2)
theorem w148 {d : Nat} (hd : 5 ≤ d) (L0 : List En) (k0 : Bool) (f0_ : Bool) (a0 : List Int) (a1 : Int) (b2_ : Nat) (a2 : Int) : Okh (bx b2_ [.int .i64 a2] :: L0) (fun S => R NN d 148 [.rsl k0 f0_ (a0.map (Enc.cs k0)), .int .i64 a1, .bp b2_ 0 0 1 1] S) (m148 a0 a1 a2) (P2 (fun (t : Int × Int) => AV.int .i64 t.1) (fun (t : Int × Int) => bx b2_ [.int .i64 t.2] :: L0)) := by
  obtain ⟨d, rfl, g⟩ := up hd
  refine q_to (t148 NN d _ _ _) ?_
  unfold b148 m148
  exact q_p fr <| q_p fr <| q_s (mg := m149 a0 (wi .i64 (a1 - 1)) a1 (wi .i64 (a1 + 1)) a2) (w149 (by omega) _ _ _ a0 (wi .i64 (a1 - 1)) a1 (wi .i64 (a1 + 1)) _ a2) fun y1 hy1 => q_ret2 0 rfl rfl
def m136 (a0 : List Int) (a1 : Int) (a2 : Int) : Option (Int × Int) :=
 (
  bif decide ((wi .i64 (a2 - a1)) ≥ 8) then
   (
    bif decide ((wi .i64 (a2 - a1)) ≥ 50) then
     (m148 a0 (wi .i64 (a1 + (wi .i64 ((wi .i64 (Int.tdiv (wi .i64 (a2 - a1)) 4)) * 1)))) 0).bind fun y1 =>
     (m148 a0 (wi .i64 (a1 + (wi .i64 ((wi .i64 (Int.tdiv (wi .i64 (a2 - a1)) 4)) * 2)))) y1.2).bind fun y2 =>
     (m148 a0 (wi .i64 (a1 + (wi .i64 ((wi .i64 (Int.tdiv (wi .i64 (a2 - a1)) 4)) * 3)))) y2.2).bind fun y3 =>
     some (LO.norm (y1.1, y2.1, y3.1, y3.2))
    else
     some (LO.norm (wi .i64 (a1 + (wi .i64 ((wi .i64 (Int.tdiv (wi .i64 (a2 - a1)) 4)) * 1))), wi .i64 (a1 + (wi .i64 ((wi .i64 (Int.tdiv (wi .i64 (a2 - a1)) 4)) * 2))), wi .i64 (a1 + (wi .i64 ((wi .i64 (Int.tdiv (wi .i64 (a2 - a1)) 4)) * 3))), 0))).bind (contO (fun s3 =>
    (m149 a0 s3.1 s3.2.1 s3.2.2.1 s3.2.2.2).bind fun y4 =>
    some (LO.norm (y4.1, y4.2))) (fun i1 s3 =>
    some (LO.exit i1 (s3.2.1, s3.2.2.2))) (fun s3 =>
    some (LO.ret (s3.2.1, s3.2.2.2))))
  else
   some (LO.norm (wi .i64 (a1 + (wi .i64 ((wi .i64 (Int.tdiv (wi .i64 (a2 - a1)) 4)) * 2))), 0))).bind (contO (fun s4 =>
  bif s4.2 == 0 then
   some (s4.1, 1)
  else
   bif s4.2 == 12 then
    some (s4.1, 2)
   else
    some (s4.1, 0)) (fun i2 s4 =>
  none) (fun s4 =>
  some (0, 0)))
theorem w136 {d : Nat} (hd : 6 ≤ d) (k0 : Bool) (a0 : List Int) (a1 : Int) (a2 : Int) : Fit (R NN d 136 [.rsl k0 false (a0.map (Enc.cs k0)), .int .i64 a1, .int .i64 a2] []) (m136 a0 a1 a2) (P0 (fun (t : Int × Int) => AV.tup [.int .i64 t.1, .int .i64 t.2])) := by
  obtain ⟨d, rfl, g⟩ := up hd
  refine q_in (t136 NN d _ _ _) ?_
  unfold b136 m136
  refine q_p fr <| q_new rfl fun b1 => q_p fr <| q_p fr <| q_p fr <| q_p fr <| q_p fr <| q_p fr <| q_p fr <| q_p fr <| q_p fr <| q_cut (I := (fun (s : Int × Int) l L => l = [.int .i64 s.1] ∧ L = [bx b1 [.int .i64 s.2]])) ?_ ?_ ?_ ?_
  ·refine q_p fr <| q_if (fun h2 => ?_) (fun h2 => ?_)
   ·refine q_cut (I := (fun (s : Int × Int × Int × Int) l L => l = [.int .i64 s.1, .int .i64 s.2.1, .int .i64 s.2.2.1] ∧ L = [bx b1 [.int .i64 s.2.2.2]])) ?_ ?_ ?_ ?_
    ·refine q_p fr <| q_if (fun h1 => ?_) (fun h1 => ?_)
     ·exact q_s (mg := m148 a0 (wi .i64 (a1 + (wi .i64 ((wi .i64 (Int.tdiv (wi .i64 (a2 - a1)) 4)) * 1)))) 0) (w148 (by omega) _ _ _ a0 (wi .i64 (a1 + (wi .i64 ((wi .i64 (Int.tdiv (wi .i64 (a2 - a1)) 4)) * 1)))) _ 0) fun y1 hy1 => q_s (mg := m148 a0 (wi .i64 (a1 + (wi .i64 ((wi .i64 (Int.tdiv (wi .i64 (a2 - a1)) 4)) * 2)))) y1.2) (w148 (by omega) _ _ _ a0 (wi .i64 (a1 + (wi .i64 ((wi .i64 (Int.tdiv (wi .i64 (a2 - a1)) 4)) * 2)))) _ y1.2) fun y2 hy2 => q_s (mg := m148 a0 (wi .i64 (a1 + (wi .i64 ((wi .i64 (Int.tdiv (wi .i64 (a2 - a1)) 4)) * 3)))) y2.2) (w148 (by omega) _ _ _ a0 (wi .i64 (a1 + (wi .i64 ((wi .i64 (Int.tdiv (wi .i64 (a2 - a1)) 4)) * 3)))) _ y2.2) fun y3 hy3 => q_norm 0 ⟨rfl, rfl⟩
     ·exact q_norm 0 ⟨rfl, rfl⟩
    ·rintro s3 _ _ ⟨rfl, rfl⟩
     exact q_s (mg := m149 a0 s3.1 s3.2.1 s3.2.2.1 s3.2.2.2) (w149 (by omega) _ _ _ a0 s3.1 s3.2.1 s3.2.2.1 _ s3.2.2.2) fun y4 hy4 => q_norm 0 ⟨rfl, rfl⟩
    ·rintro i1 s3 _ _ ⟨rfl, rfl⟩
     exact q_exit 0 ⟨rfl, rfl⟩
    ·rintro s3 _ _ ⟨rfl, rfl⟩
     exact q_lret 0 ⟨rfl, rfl⟩
   ·exact q_norm 0 ⟨rfl, rfl⟩
  ·rintro s4 _ _ ⟨rfl, rfl⟩
   refine q_ld 0 rfl rfl <| q_p fr <| q_if (fun h4 => ?_) (fun h4 => ?_)
   ·exact q_ret (cv_t (cvs_cons (cv_p rfl) (cvs_cons (cv_p rfl) cvs_nil))) rfl
   ·refine q_p fr <| q_if (fun h3 => ?_) (fun h3 => ?_)
    ·exact q_ret (cv_t (cvs_cons (cv_p rfl) (cvs_cons (cv_p rfl) cvs_nil))) rfl
    ·exact q_ret (cv_t (cvs_cons (cv_p rfl) (cvs_cons (cv_p rfl) cvs_nil))) rfl
  ·rintro i2 s4 _ _ ⟨rfl, rfl⟩
   exact q_none
  ·rintro s4 _ _ ⟨rfl, rfl⟩
   exact q_ret (cv_t (cvs_cons (cv_p rfl) (cvs_cons (cv_p rfl) cvs_nil))) rfl
def ms137_0 (s1 : Int × Int × (List Int)) : Option (LO (Int × Int × (List Int))) :=
 bif decide (s1.1 < s1.2.1) then
  (getI s1.2.2 s1.2.1).bind fun x1 =>
  (getI s1.2.2 s1.1).bind fun x2 =>
  (getI s1.2.2 s1.1).bind fun x3 =>
  (getI (s1.2.2.set (Int.toNat s1.1) x1) s1.2.1).bind fun x4 =>
  some (LO.norm (wi .i64 (s1.1 + 1), wi .i64 (s1.2.1 - 1), (s1.2.2.set (Int.toNat s1.1) x1).set (Int.toNat s1.2.1) x2))
 else
  some (LO.exit 0 (s1.1, s1.2.1, s1.2.2))
def m137 (a0 : List Int) (a1 : Int) (a2 : Int) : Option ((List Int)) :=
 (loopO (ms137_0) NN (a1, wi .i64 (a2 - 1), a0)).bind (contO (fun _ => none) (fun i1 s2 =>
  if i1 = 0 then
   some s2.2.2
  else
   none) (fun s2 =>
  some s2.2.2))
theorem w137 {d : Nat} (hd : 1 ≤ d) (L0 : List En) (v0_ : AV) (a0 : List Int) (a1 : Int) (a2 : Int) : Okh (sl false v0_ (a0 : List Int) :: L0) (fun S => R NN d 137 [v0_, .int .i64 a1, .int .i64 a2] S) (m137 a0 a1 a2) (P2 (fun (t : (List Int)) => und) (fun (t : (List Int)) => sl false v0_ t :: L0)) := by
  obtain ⟨d, rfl, g⟩ := up hd
  refine q_to (t137 NN d _ _ _) ?_
  unfold b137 m137
  refine q_p fr <| q_loop (I := (fun (s : Int × Int × (List Int)) l L => l = [.int .i64 s.1, .int .i64 s.2.1] ∧ L = sl false v0_ (s.2.2 : List Int) :: L0)) 0 ⟨rfl, rfl⟩ ?_ ?_ ?_
  ·rintro s1 _ _ ⟨rfl, rfl⟩
   unfold s137_0 ms137_0
   refine q_p fr <| q_if (fun h1 => ?_) (fun h1 => ?_)
   ·exact q_ixo 0 rfl rfl fun x1 hx1 => q_ldo 0 rfl hx1 rfl <| q_ixo 0 rfl rfl fun x2 hx2 => q_ldo 0 rfl hx2 rfl <| q_ixo 0 rfl rfl fun x3 hx3 => q_stoe (y := x1) 0 rfl rfl hx3 rfl (by decide) <| q_ixo 0 rfl rfl fun x4 hx4 => q_stoe (y := x2) 0 rfl rfl hx4 rfl (by decide) <| q_p fr <| q_p fr <| q_norm 0 ⟨rfl, rfl⟩
   ·exact q_exit 0 ⟨rfl, rfl⟩
  ·rintro i1 s2 _ _ ⟨rfl, rfl⟩
   refine q_ite (fun _ => ?_) (fun _ => ?_)
   ·exact q_ret2 0 rfl rfl
   ·exact q_none
  ·rintro s2 _ _ ⟨rfl, rfl⟩
   exact q_ret2 0 rfl rfl
def ms138_0 (a2 : Int) (s1 : Bool × Int × Int × (List Int)) (s3 : Int) : Option (LO (Int)) :=
 (
  (
   bif decide (s3 < a2) then
    (getI s1.2.2.2 s3).bind fun x1 =>
    (getI s1.2.2.2 (wi .i64 (s3 - 1))).bind fun x2 =>
    (m139 x1 x2).bind fun y1 =>
    some (LO.norm (!y1))
   else
    some (LO.norm false)).bind (contO (fun s6 =>
   bif s6 then
    some (LO.norm s6)
   else
    some (LO.exit 2 s6)) (fun i1 s6 =>
   some (LO.exit i1 s6)) (fun s6 =>
   some (LO.ret s6)))).bind (contO (fun s7 =>
  some (LO.norm (wi .i64 (s3 + 1)))) (fun i2 s7 =>
  some (LO.exit i2 s3)) (fun s7 =>
  some (LO.ret s3)))
def ms138_1 (s10 : Int × (List Int)) : Option (LO (Int × (List Int))) :=
 bif decide (s10.1 ≥ 1) then
  (getI s10.2 s10.1).bind fun x7 =>
  (getI s10.2 (wi .i64 (s10.1 - 1))).bind fun x8 =>
  (m139 x7 x8).bind fun y2 =>
  bif !y2 then
   some (LO.exit 4 (s10.1, s10.2))
  else
   (getI s10.2 (wi .i64 (s10.1 - 1))).bind fun x9 =>
   (getI s10.2 s10.1).bind fun x10 =>
   (getI s10.2 s10.1).bind fun x11 =>
   (getI (s10.2.set (Int.toNat s10.1) x9) (wi .i64 (s10.1 - 1))).bind fun x12 =>
   some (LO.norm (wi .i64 (s10.1 - 1), (s10.2.set (Int.toNat s10.1) x9).set (Int.toNat (wi .i64 (s10.1 - 1))) x10))
 else
  some (LO.exit 4 (s10.1, s10.2))
def ms138_2 (a2 : Int) (s13 : Int × (List Int)) : Option (LO (Int × (List Int))) :=
 bif decide (s13.1 < a2) then
  (getI s13.2 s13.1).bind fun x13 =>
  (getI s13.2 (wi .i64 (s13.1 - 1))).bind fun x14 =>
  (m139 x13 x14).bind fun y3 =>
  bif !y3 then
   some (LO.exit 6 (s13.1, s13.2))
  else
   (getI s13.2 (wi .i64 (s13.1 - 1))).bind fun x15 =>
   (getI s13.2 s13.1).bind fun x16 =>
   (getI s13.2 s13.1).bind fun x17 =>
   (getI (s13.2.set (Int.toNat s13.1) x15) (wi .i64 (s13.1 - 1))).bind fun x18 =>
   some (LO.norm (wi .i64 (s13.1 + 1), (s13.2.set (Int.toNat s13.1) x15).set (Int.toNat (wi .i64 (s13.1 - 1))) x16))
 else
  some (LO.exit 6 (s13.1, s13.2))
def ms138_3 (a1 : Int) (a2 : Int) (s1 : Bool × Int × Int × (List Int)) : Option (LO (Bool × Int × Int × (List Int))) :=
 bif decide (s1.2.2.1 < 5) then
  (
   (loopO (ms138_0 a2 s1) NN s1.2.1).bind (contO (fun _ => none) (fun i3 s8 =>
    if i3 = 2 then
     bif s8 == a2 then
      some (LO.ret (true, s8, s1.2.2.2))
     else
      bif decide ((wi .i64 (a2 - a1)) < 50) then
       some (LO.ret (false, s8, s1.2.2.2))
      else
       (getI s1.2.2.2 (wi .i64 (s8 - 1))).bind fun x3 =>
       (getI s1.2.2.2 s8).bind fun x4 =>
       (getI s1.2.2.2 s8).bind fun x5 =>
       (getI (s1.2.2.2.set (Int.toNat s8) x3) (wi .i64 (s8 - 1))).bind fun x6 =>
       (
        bif decide ((wi .i64 (s8 - a1)) ≥ 2) then
         (loopO (ms138_1) NN (wi .i64 (s8 - 1), (s1.2.2.2.set (Int.toNat s8) x3).set (Int.toNat (wi .i64 (s8 - 1))) x4)).bind (contO (fun _ => none) (fun i4 s11 =>
          if i4 = 4 then
           some (LO.norm s11.2)
          else
           some (LO.exit i4 s11.2)) (fun s11 =>
          some (LO.ret s11.2)))
        else
         some (LO.norm ((s1.2.2.2.set (Int.toNat s8) x3).set (Int.toNat (wi .i64 (s8 - 1))) x4))).bind (contO (fun s12 =>
        bif decide ((wi .i64 (a2 - s8)) ≥ 2) then
         (loopO (ms138_2 a2) NN (wi .i64 (s8 + 1), s12)).bind (contO (fun _ => none) (fun i6 s14 =>
          if i6 = 6 then
           some (LO.norm (s1.1, s8, s14.2))
          else
           if i6 = 1 then
            some (LO.norm (s1.1, s8, s14.2))
           else
            some (LO.exit i6 (s1.1, s8, s14.2))) (fun s14 =>
          some (LO.ret (s1.1, s8, s14.2))))
        else
         some (LO.norm (s1.1, s8, s12))) (fun i5 s12 =>
        if i5 = 1 then
         some (LO.norm (s1.1, s8, s12))
        else
         some (LO.exit i5 (s1.1, s8, s12))) (fun s12 =>
        some (LO.ret (s1.1, s8, s12))))
    else
     if i3 = 1 then
      some (LO.norm (s1.1, s8, s1.2.2.2))
     else
      some (LO.exit i3 (s1.1, s8, s1.2.2.2))) (fun s8 =>
    some (LO.ret (s1.1, s8, s1.2.2.2))))).bind (contO (fun s15 =>
   some (LO.norm (s15.1, s15.2.1, wi .i64 (s1.2.2.1 + 1), s15.2.2))) (fun i7 s15 =>
   some (LO.exit i7 (s15.1, s15.2.1, s1.2.2.1, s15.2.2))) (fun s15 =>
   some (LO.ret (s15.1, s15.2.1, s1.2.2.1, s15.2.2))))
 else
  some (LO.exit 0 (s1.1, s1.2.1, s1.2.2.1, s1.2.2.2))
def m138 (a0 : List Int) (a1 : Int) (a2 : Int) : Option (Bool × (List Int)) :=
 (loopO (ms138_3 a1 a2) NN (false, wi .i64 (a1 + 1), 0, a0)).bind (contO (fun _ => none) (fun i8 s16 =>
  if i8 = 0 then
   some (false, s16.2.2.2)
  else
   none) (fun s16 =>
  some (s16.1, s16.2.2.2)))
theorem w138 {d : Nat} (hd : 3 ≤ d) (L0 : List En) (v0_ : AV) (a0 : List Int) (a1 : Int) (a2 : Int) : Okh (sl false v0_ (a0 : List Int) :: L0) (fun S => R NN d 138 [v0_, .int .i64 a1, .int .i64 a2] S) (m138 a0 a1 a2) (P2 (fun (t : Bool × (List Int)) => AV.bool t.1) (fun (t : Bool × (List Int)) => sl false v0_ t.2 :: L0)) := by
  obtain ⟨d, rfl, g⟩ := up hd
  refine q_to (t138 NN d _ _ _) ?_
  unfold b138 m138
  refine q_p fr <| q_loop (I := (fun (s : Bool × Int × Int × (List Int)) l L => l = [.bool s.1, .int .i64 s.2.1, .int .i64 s.2.2.1] ∧ L = sl false v0_ (s.2.2.2 : List Int) :: L0)) 0 ⟨rfl, rfl⟩ ?_ ?_ ?_
  ·rintro s1 _ _ ⟨rfl, rfl⟩
   unfold s138_3 ms138_3
   refine q_p fr <| q_if (fun h11 => ?_) (fun h11 => ?_)
   ·refine q_cut (I := (fun (s : Bool × Int × (List Int)) l L => l = [.bool s.1, .int .i64 s.2.1] ∧ L = sl false v0_ (s.2.2 : List Int) :: L0)) ?_ ?_ ?_ ?_
    ·refine q_loop (I := (fun (s : Int) l L => l = [.int .i64 s] ∧ L = sl false v0_ (s1.2.2.2 : List Int) :: L0)) 0 ⟨rfl, rfl⟩ ?_ ?_ ?_
     ·rintro s3 _ _ ⟨rfl, rfl⟩
      unfold s138_0 ms138_0
      refine q_cut (I := (fun (s : Bool) l L => l = [.bool s] ∧ L = sl false v0_ (s1.2.2.2 : List Int) :: L0)) ?_ ?_ ?_ ?_
      ·refine q_cut (I := (fun (s : Bool) l L => l = [.bool s] ∧ L = sl false v0_ (s1.2.2.2 : List Int) :: L0)) ?_ ?_ ?_ ?_
       ·refine q_p fr <| q_gT (fun h1 => ?_) (fun h1 => ?_)
        ·exact q_ixo 0 rfl rfl fun x1 hx1 => q_ldo 0 rfl hx1 rfl <| q_p fr <| q_ixo 0 rfl rfl fun x2 hx2 => q_ldo 0 rfl hx2 rfl <| q_c0 (fun S hS => argF2 (cv_p rfl) (cv_p rfl) hS fun l0_ l1_ => w139 (by omega) x1 x2) fun y1 hy1 => q_p fr <| q_norm 0 ⟨rfl, rfl⟩
        ·exact q_norm 0 ⟨rfl, rfl⟩
       ·rintro s6 _ _ ⟨rfl, rfl⟩
        refine q_if (fun h2 => ?_) (fun h2 => ?_)
        ·exact q_norm 0 ⟨rfl, rfl⟩
        ·exact q_exit 0 ⟨rfl, rfl⟩
       ·rintro i1 s6 _ _ ⟨rfl, rfl⟩
        exact q_exit 0 ⟨rfl, rfl⟩
       ·rintro s6 _ _ ⟨rfl, rfl⟩
        exact q_lret 0 ⟨rfl, rfl⟩
      ·rintro s7 _ _ ⟨rfl, rfl⟩
       exact q_p fr <| q_norm 0 ⟨rfl, rfl⟩
      ·rintro i2 s7 _ _ ⟨rfl, rfl⟩
       exact q_exit 0 ⟨rfl, rfl⟩
      ·rintro s7 _ _ ⟨rfl, rfl⟩
       exact q_lret 0 ⟨rfl, rfl⟩
     ·rintro i3 s8 _ _ ⟨rfl, rfl⟩
      refine q_ite (fun _ => ?_) (fun _ => ?_)
      ·refine q_p fr <| q_if (fun h10 => ?_) (fun h10 => ?_)
       ·exact q_lret 0 ⟨rfl, rfl⟩
       ·refine q_p fr <| q_p fr <| q_if (fun h9 => ?_) (fun h9 => ?_)
        ·exact q_lret 0 ⟨rfl, rfl⟩
        ·refine q_p fr <| q_p fr <| q_ixo 0 rfl rfl fun x3 hx3 => q_ldo 0 rfl hx3 rfl <| q_ixo 0 rfl rfl fun x4 hx4 => q_ldo 0 rfl hx4 rfl <| q_ixo 0 rfl rfl fun x5 hx5 => q_stoe (y := x3) 0 rfl rfl hx5 rfl (by decide) <| q_ixo 0 rfl rfl fun x6 hx6 => q_stoe (y := x4) 0 rfl rfl hx6 rfl (by decide) <| q_cut (I := (fun (s : (List Int)) l L => l = [] ∧ L = sl false v0_ (s : List Int) :: L0)) ?_ ?_ ?_ ?_
         ·refine q_p fr <| q_p fr <| q_if (fun h5 => ?_) (fun h5 => ?_)
          ·refine q_p fr <| q_loop (I := (fun (s : Int × (List Int)) l L => l = [.int .i64 s.1] ∧ L = sl false v0_ (s.2 : List Int) :: L0)) 0 ⟨rfl, rfl⟩ ?_ ?_ ?_
           ·rintro s10 _ _ ⟨rfl, rfl⟩
            unfold s138_1 ms138_1
            refine q_p fr <| q_if (fun h4 => ?_) (fun h4 => ?_)
            ·refine q_ixo 0 rfl rfl fun x7 hx7 => q_ldo 0 rfl hx7 rfl <| q_p fr <| q_ixo 0 rfl rfl fun x8 hx8 => q_ldo 0 rfl hx8 rfl <| q_c0 (fun S hS => argF2 (cv_p rfl) (cv_p rfl) hS fun l0_ l1_ => w139 (by omega) x7 x8) fun y2 hy2 => q_p fr <| q_if (fun h3 => ?_) (fun h3 => ?_)
             ·exact q_exit 0 ⟨rfl, rfl⟩
             ·exact q_p fr <| q_p fr <| q_ixo 0 rfl rfl fun x9 hx9 => q_ldo 0 rfl hx9 rfl <| q_ixo 0 rfl rfl fun x10 hx10 => q_ldo 0 rfl hx10 rfl <| q_ixo 0 rfl rfl fun x11 hx11 => q_stoe (y := x9) 0 rfl rfl hx11 rfl (by decide) <| q_ixo 0 rfl rfl fun x12 hx12 => q_stoe (y := x10) 0 rfl rfl hx12 rfl (by decide) <| q_p fr <| q_norm 0 ⟨rfl, rfl⟩
            ·exact q_exit 0 ⟨rfl, rfl⟩
           ·rintro i4 s11 _ _ ⟨rfl, rfl⟩
            refine q_ite (fun _ => ?_) (fun _ => ?_)
            ·exact q_norm 0 ⟨rfl, rfl⟩
            ·exact q_exit 0 ⟨rfl, rfl⟩
           ·rintro s11 _ _ ⟨rfl, rfl⟩
            exact q_lret 0 ⟨rfl, rfl⟩
          ·exact q_norm 0 ⟨rfl, rfl⟩
         ·rintro s12 _ _ ⟨rfl, rfl⟩
          refine q_p fr <| q_p fr <| q_if (fun h8 => ?_) (fun h8 => ?_)
          ·refine q_p fr <| q_loop (I := (fun (s : Int × (List Int)) l L => l = [.int .i64 s.1] ∧ L = sl false v0_ (s.2 : List Int) :: L0)) 0 ⟨rfl, rfl⟩ ?_ ?_ ?_
           ·rintro s13 _ _ ⟨rfl, rfl⟩
            unfold s138_2 ms138_2
            refine q_p fr <| q_if (fun h7 => ?_) (fun h7 => ?_)
            ·refine q_ixo 0 rfl rfl fun x13 hx13 => q_ldo 0 rfl hx13 rfl <| q_p fr <| q_ixo 0 rfl rfl fun x14 hx14 => q_ldo 0 rfl hx14 rfl <| q_c0 (fun S hS => argF2 (cv_p rfl) (cv_p rfl) hS fun l0_ l1_ => w139 (by omega) x13 x14) fun y3 hy3 => q_p fr <| q_if (fun h6 => ?_) (fun h6 => ?_)
             ·exact q_exit 0 ⟨rfl, rfl⟩
             ·exact q_p fr <| q_p fr <| q_ixo 0 rfl rfl fun x15 hx15 => q_ldo 0 rfl hx15 rfl <| q_ixo 0 rfl rfl fun x16 hx16 => q_ldo 0 rfl hx16 rfl <| q_ixo 0 rfl rfl fun x17 hx17 => q_stoe (y := x15) 0 rfl rfl hx17 rfl (by decide) <| q_ixo 0 rfl rfl fun x18 hx18 => q_stoe (y := x16) 0 rfl rfl hx18 rfl (by decide) <| q_p fr <| q_norm 0 ⟨rfl, rfl⟩
            ·exact q_exit 0 ⟨rfl, rfl⟩
           ·rintro i6 s14 _ _ ⟨rfl, rfl⟩
            refine q_ite (fun _ => ?_) (fun _ => ?_)
            ·exact q_norm 0 ⟨rfl, rfl⟩
            ·refine q_ite (fun _ => ?_) (fun _ => ?_)
             ·exact q_norm 0 ⟨rfl, rfl⟩
             ·exact q_exit 0 ⟨rfl, rfl⟩
           ·rintro s14 _ _ ⟨rfl, rfl⟩
            exact q_lret 0 ⟨rfl, rfl⟩
          ·exact q_norm 0 ⟨rfl, rfl⟩
         ·rintro i5 s12 _ _ ⟨rfl, rfl⟩
          refine q_ite (fun _ => ?_) (fun _ => ?_)
          ·exact q_norm 0 ⟨rfl, rfl⟩
          ·exact q_exit 0 ⟨rfl, rfl⟩
         ·rintro s12 _ _ ⟨rfl, rfl⟩
          exact q_lret 0 ⟨rfl, rfl⟩
      ·refine q_ite (fun _ => ?_) (fun _ => ?_)
       ·exact q_norm 0 ⟨rfl, rfl⟩
       ·exact q_exit 0 ⟨rfl, rfl⟩
     ·rintro s8 _ _ ⟨rfl, rfl⟩
      exact q_lret 0 ⟨rfl, rfl⟩
    ·rintro s15 _ _ ⟨rfl, rfl⟩
     exact q_p fr <| q_norm 0 ⟨rfl, rfl⟩
    ·rintro i7 s15 _ _ ⟨rfl, rfl⟩
     exact q_exit 0 ⟨rfl, rfl⟩
    ·rintro s15 _ _ ⟨rfl, rfl⟩
     exact q_lret 0 ⟨rfl, rfl⟩
   ·exact q_exit 0 ⟨rfl, rfl⟩
  ·rintro i8 s16 _ _ ⟨rfl, rfl⟩
   refine q_ite (fun _ => ?_) (fun _ => ?_)
   ·exact q_ret2 0 rfl rfl
   ·exact q_none
  ·rintro s16 _ _ ⟨rfl, rfl⟩
   exact q_ret2 0 rfl rfl
def ms140_0 (a1 : Int) (s1 : Int × Int × (List Int)) (s2 : Int) : Option (LO (Int)) :=
 (
  (
   bif decide (s2 ≤ s1.2.1) then
    (getI s1.2.2 a1).bind fun x5 =>
    (getI s1.2.2 s2).bind fun x6 =>
    (m139 x5 x6).bind fun y1 =>
    some (LO.norm (!y1))
   else
    some (LO.norm false)).bind (contO (fun s5 =>
   bif s5 then
    some (LO.norm s5)
   else
    some (LO.exit 2 s5)) (fun i1 s5 =>
   some (LO.exit i1 s5)) (fun s5 =>
   some (LO.ret s5)))).bind (contO (fun s6 =>
  some (LO.norm (wi .i64 (s2 + 1)))) (fun i2 s6 =>
  some (LO.exit i2 s2)) (fun s6 =>
  some (LO.ret s2)))
def ms140_1 (a1 : Int) (s1 : Int × Int × (List Int)) (s7 : Int) (s8 : Int) : Option (LO (Int)) :=
 (
  (
   bif decide (s7 ≤ s8) then
    (getI s1.2.2 a1).bind fun x7 =>
    (getI s1.2.2 s8).bind fun x8 =>
    (m139 x7 x8).bind fun y2 =>
    some (LO.norm y2)
   else
    some (LO.norm false)).bind (contO (fun s11 =>
   bif s11 then
    some (LO.norm s11)
   else
    some (LO.exit 4 s11)) (fun i4 s11 =>
   some (LO.exit i4 s11)) (fun s11 =>
   some (LO.ret s11)))).bind (contO (fun s12 =>
  some (LO.norm (wi .i64 (s8 - 1)))) (fun i5 s12 =>
  some (LO.exit i5 s8)) (fun s12 =>
  some (LO.ret s8)))
def ms140_2 (a1 : Int) (s1 : Int × Int × (List Int)) : Option (LO (Int × Int × (List Int))) :=
 (loopO (ms140_0 a1 s1) NN s1.1).bind (contO (fun _ => none) (fun i3 s7 =>
  if i3 = 2 then
   (loopO (ms140_1 a1 s1 s7) NN s1.2.1).bind (contO (fun _ => none) (fun i6 s13 =>
    if i6 = 4 then
     bif decide (s7 > s13) then
      some (LO.exit 0 (s7, s13, s1.2.2))
     else
      (getI s1.2.2 s13).bind fun x9 =>
      (getI s1.2.2 s7).bind fun x10 =>
      (getI s1.2.2 s7).bind fun x11 =>
      (getI (s1.2.2.set (Int.toNat s7) x9) s13).bind fun x12 =>
      some (LO.norm (wi .i64 (s7 + 1), wi .i64 (s13 - 1), (s1.2.2.set (Int.toNat s7) x9).set (Int.toNat s13) x10))
    else
     if i6 = 1 then
      some (LO.norm (s7, s13, s1.2.2))
     else
      some (LO.exit i6 (s7, s13, s1.2.2))) (fun s13 =>
    some (LO.ret (s7, s13, s1.2.2))))
  else
   if i3 = 1 then
    some (LO.norm (s7, s1.2.1, s1.2.2))
   else
    some (LO.exit i3 (s7, s1.2.1, s1.2.2))) (fun s7 =>
  some (LO.ret (s7, s1.2.1, s1.2.2))))
def m140 (a0 : List Int) (a1 : Int) (a2 : Int) (a3 : Int) : Option (Int × (List Int)) :=
 (getI a0 a3).bind fun x1 =>
 (getI a0 a1).bind fun x2 =>
 (getI a0 a1).bind fun x3 =>
 (getI (a0.set (Int.toNat a1) x1) a3).bind fun x4 =>
 (loopO (ms140_2 a1) NN (wi .i64 (a1 + 1), wi .i64 (a2 - 1), (a0.set (Int.toNat a1) x1).set (Int.toNat a3) x2)).bind (contO (fun _ => none) (fun i7 s14 =>
  if i7 = 0 then
   some (s14.1, s14.2.2)
  else
   none) (fun s14 =>
  some (0, s14.2.2)))
theorem w140 {d : Nat} (hd : 3 ≤ d) (L0 : List En) (v0_ : AV) (a0 : List Int) (a1 : Int) (a2 : Int) (a3 : Int) : Okh (sl false v0_ (a0 : List Int) :: L0) (fun S => R NN d 140 [v0_, .int .i64 a1, .int .i64 a2, .int .i64 a3] S) (m140 a0 a1 a2 a3) (P2 (fun (t : Int × (List Int)) => AV.int .i64 t.1) (fun (t : Int × (List Int)) => sl false v0_ t.2 :: L0)) := by
  obtain ⟨d, rfl, g⟩ := up hd
  refine q_to (t140 NN d _ _ _ _) ?_
  unfold b140 m140
  refine q_ixo 0 rfl rfl fun x1 hx1 => q_ldo 0 rfl hx1 rfl <| q_ixo 0 rfl rfl fun x2 hx2 => q_ldo 0 rfl hx2 rfl <| q_ixo 0 rfl rfl fun x3 hx3 => q_stoe (y := x1) 0 rfl rfl hx3 rfl (by decide) <| q_ixo 0 rfl rfl fun x4 hx4 => q_stoe (y := x2) 0 rfl rfl hx4 rfl (by decide) <| q_p fr <| q_p fr <| q_loop (I := (fun (s : Int × Int × (List Int)) l L => l = [.int .i64 s.1, .int .i64 s.2.1] ∧ L = sl false v0_ (s.2.2 : List Int) :: L0)) 0 ⟨rfl, rfl⟩ ?_ ?_ ?_
  ·rintro s1 _ _ ⟨rfl, rfl⟩
   unfold s140_2 ms140_2
   refine q_loop (I := (fun (s : Int) l L => l = [.int .i64 s] ∧ L = sl false v0_ (s1.2.2 : List Int) :: L0)) 0 ⟨rfl, rfl⟩ ?_ ?_ ?_
   ·rintro s2 _ _ ⟨rfl, rfl⟩
    unfold s140_0 ms140_0
    refine q_cut (I := (fun (s : Bool) l L => l = [.bool s] ∧ L = sl false v0_ (s1.2.2 : List Int) :: L0)) ?_ ?_ ?_ ?_
    ·refine q_cut (I := (fun (s : Bool) l L => l = [.bool s] ∧ L = sl false v0_ (s1.2.2 : List Int) :: L0)) ?_ ?_ ?_ ?_
     ·refine q_p fr <| q_gT (fun h1 => ?_) (fun h1 => ?_)
      ·exact q_ixo 0 rfl rfl fun x5 hx5 => q_ldo 0 rfl hx5 rfl <| q_ixo 0 rfl rfl fun x6 hx6 => q_ldo 0 rfl hx6 rfl <| q_c0 (fun S hS => argF2 (cv_p rfl) (cv_p rfl) hS fun l0_ l1_ => w139 (by omega) x5 x6) fun y1 hy1 => q_p fr <| q_norm 0 ⟨rfl, rfl⟩
      ·exact q_norm 0 ⟨rfl, rfl⟩
     ·rintro s5 _ _ ⟨rfl, rfl⟩
      refine q_if (fun h2 => ?_) (fun h2 => ?_)
      ·exact q_norm 0 ⟨rfl, rfl⟩
      ·exact q_exit 0 ⟨rfl, rfl⟩
     ·rintro i1 s5 _ _ ⟨rfl, rfl⟩
      exact q_exit 0 ⟨rfl, rfl⟩
     ·rintro s5 _ _ ⟨rfl, rfl⟩
      exact q_lret 0 ⟨rfl, rfl⟩
    ·rintro s6 _ _ ⟨rfl, rfl⟩
     exact q_p fr <| q_norm 0 ⟨rfl, rfl⟩
    ·rintro i2 s6 _ _ ⟨rfl, rfl⟩
     exact q_exit 0 ⟨rfl, rfl⟩
    ·rintro s6 _ _ ⟨rfl, rfl⟩
     exact q_lret 0 ⟨rfl, rfl⟩
   ·rintro i3 s7 _ _ ⟨rfl, rfl⟩
    refine q_ite (fun _ => ?_) (fun _ => ?_)
    ·refine q_loop (I := (fun (s : Int) l L => l = [.int .i64 s] ∧ L = sl false v0_ (s1.2.2 : List Int) :: L0)) 0 ⟨rfl, rfl⟩ ?_ ?_ ?_
     ·rintro s8 _ _ ⟨rfl, rfl⟩
      unfold s140_1 ms140_1
      refine q_cut (I := (fun (s : Bool) l L => l = [.bool s] ∧ L = sl false v0_ (s1.2.2 : List Int) :: L0)) ?_ ?_ ?_ ?_
      ·refine q_cut (I := (fun (s : Bool) l L => l = [.bool s] ∧ L = sl false v0_ (s1.2.2 : List Int) :: L0)) ?_ ?_ ?_ ?_
       ·refine q_p fr <| q_gT (fun h3 => ?_) (fun h3 => ?_)
        ·exact q_ixo 0 rfl rfl fun x7 hx7 => q_ldo 0 rfl hx7 rfl <| q_ixo 0 rfl rfl fun x8 hx8 => q_ldo 0 rfl hx8 rfl <| q_c0 (fun S hS => argF2 (cv_p rfl) (cv_p rfl) hS fun l0_ l1_ => w139 (by omega) x7 x8) fun y2 hy2 => q_norm 0 ⟨rfl, rfl⟩
        ·exact q_norm 0 ⟨rfl, rfl⟩
       ·rintro s11 _ _ ⟨rfl, rfl⟩
        refine q_if (fun h4 => ?_) (fun h4 => ?_)
        ·exact q_norm 0 ⟨rfl, rfl⟩
        ·exact q_exit 0 ⟨rfl, rfl⟩
       ·rintro i4 s11 _ _ ⟨rfl, rfl⟩
        exact q_exit 0 ⟨rfl, rfl⟩
       ·rintro s11 _ _ ⟨rfl, rfl⟩
        exact q_lret 0 ⟨rfl, rfl⟩
      ·rintro s12 _ _ ⟨rfl, rfl⟩
       exact q_p fr <| q_norm 0 ⟨rfl, rfl⟩
      ·rintro i5 s12 _ _ ⟨rfl, rfl⟩
       exact q_exit 0 ⟨rfl, rfl⟩
      ·rintro s12 _ _ ⟨rfl, rfl⟩
       exact q_lret 0 ⟨rfl, rfl⟩
     ·rintro i6 s13 _ _ ⟨rfl, rfl⟩
      refine q_ite (fun _ => ?_) (fun _ => ?_)
      ·refine q_p fr <| q_if (fun h5 => ?_) (fun h5 => ?_)
       ·exact q_exit 0 ⟨rfl, rfl⟩
       ·exact q_ixo 0 rfl rfl fun x9 hx9 => q_ldo 0 rfl hx9 rfl <| q_ixo 0 rfl rfl fun x10 hx10 => q_ldo 0 rfl hx10 rfl <| q_ixo 0 rfl rfl fun x11 hx11 => q_stoe (y := x9) 0 rfl rfl hx11 rfl (by decide) <| q_ixo 0 rfl rfl fun x12 hx12 => q_stoe (y := x10) 0 rfl rfl hx12 rfl (by decide) <| q_p fr <| q_p fr <| q_norm 0 ⟨rfl, rfl⟩
      ·refine q_ite (fun _ => ?_) (fun _ => ?_)
       ·exact q_norm 0 ⟨rfl, rfl⟩
       ·exact q_exit 0 ⟨rfl, rfl⟩
     ·rintro s13 _ _ ⟨rfl, rfl⟩
      exact q_lret 0 ⟨rfl, rfl⟩
    ·refine q_ite (fun _ => ?_) (fun _ => ?_)
     ·exact q_norm 0 ⟨rfl, rfl⟩
     ·exact q_exit 0 ⟨rfl, rfl⟩
   ·rintro s7 _ _ ⟨rfl, rfl⟩
    exact q_lret 0 ⟨rfl, rfl⟩
  ·rintro i7 s14 _ _ ⟨rfl, rfl⟩
   refine q_ite (fun _ => ?_) (fun _ => ?_)
   ·exact q_ret2 0 rfl rfl
   ·exact q_none
  ·rintro s14 _ _ ⟨rfl, rfl⟩
   exact q_ret2 0 rfl rfl
def ms141_0 (a0 : List Int) (a1 : Int) (a2 : Int) (a3 : Int) (x1 : Int) (x2 : Int) (s1 : Int) : Option (LO (Int)) :=
 (
  (
   bif decide (s1 ≤ (wi .i64 (a2 - 1))) then
    (getI ((a0.set (Int.toNat a1) x1).set (Int.toNat a3) x2) s1).bind fun x5 =>
    (getI ((a0.set (Int.toNat a1) x1).set (Int.toNat a3) x2) a1).bind fun x6 =>
    (m139 x5 x6).bind fun y1 =>
    some (LO.norm y1)
   else
    some (LO.norm false)).bind (contO (fun s4 =>
   bif s4 then
    some (LO.norm s4)
   else
    some (LO.exit 0 s4)) (fun i1 s4 =>
   some (LO.exit i1 s4)) (fun s4 =>
   some (LO.ret s4)))).bind (contO (fun s5 =>
  some (LO.norm (wi .i64 (s1 + 1)))) (fun i2 s5 =>
  some (LO.exit i2 s1)) (fun s5 =>
  some (LO.ret s1)))
def ms141_1 (a0 : List Int) (a1 : Int) (a3 : Int) (s6 : Int) (x1 : Int) (x2 : Int) (s7 : Int) : Option (LO (Int)) :=
 (
  (
   bif decide (s6 ≤ s7) then
    (getI ((a0.set (Int.toNat a1) x1).set (Int.toNat a3) x2) s7).bind fun x7 =>
    (getI ((a0.set (Int.toNat a1) x1).set (Int.toNat a3) x2) a1).bind fun x8 =>
    (m139 x7 x8).bind fun y2 =>
    some (LO.norm (!y2))
   else
    some (LO.norm false)).bind (contO (fun s10 =>
   bif s10 then
    some (LO.norm s10)
   else
    some (LO.exit 2 s10)) (fun i4 s10 =>
   some (LO.exit i4 s10)) (fun s10 =>
   some (LO.ret s10)))).bind (contO (fun s11 =>
  some (LO.norm (wi .i64 (s7 - 1)))) (fun i5 s11 =>
  some (LO.exit i5 s7)) (fun s11 =>
  some (LO.ret s7)))
def ms141_2 (a1 : Int) (s13 : Int × Int × (List Int)) (s14 : Int) : Option (LO (Int)) :=
 (
  (
   bif decide (s14 ≤ s13.2.1) then
    (getI s13.2.2 s14).bind fun x17 =>
    (getI s13.2.2 a1).bind fun x18 =>
    (m139 x17 x18).bind fun y3 =>
    some (LO.norm y3)
   else
    some (LO.norm false)).bind (contO (fun s17 =>
   bif s17 then
    some (LO.norm s17)
   else
    some (LO.exit 6 s17)) (fun i7 s17 =>
   some (LO.exit i7 s17)) (fun s17 =>
   some (LO.ret s17)))).bind (contO (fun s18 =>
  some (LO.norm (wi .i64 (s14 + 1)))) (fun i8 s18 =>
  some (LO.exit i8 s14)) (fun s18 =>
  some (LO.ret s14)))
def ms141_3 (a1 : Int) (s13 : Int × Int × (List Int)) (s19 : Int) (s20 : Int) : Option (LO (Int)) :=
 (
  (
   bif decide (s19 ≤ s20) then
    (getI s13.2.2 s20).bind fun x19 =>
    (getI s13.2.2 a1).bind fun x20 =>
    (m139 x19 x20).bind fun y4 =>
    some (LO.norm (!y4))
   else
    some (LO.norm false)).bind (contO (fun s23 =>
   bif s23 then
    some (LO.norm s23)
   else
    some (LO.exit 8 s23)) (fun i10 s23 =>
   some (LO.exit i10 s23)) (fun s23 =>
   some (LO.ret s23)))).bind (contO (fun s24 =>
  some (LO.norm (wi .i64 (s20 - 1)))) (fun i11 s24 =>
  some (LO.exit i11 s20)) (fun s24 =>
  some (LO.ret s20)))
def ms141_4 (a1 : Int) (s13 : Int × Int × (List Int)) : Option (LO (Int × Int × (List Int))) :=
 (loopO (ms141_2 a1 s13) NN s13.1).bind (contO (fun _ => none) (fun i9 s19 =>
  if i9 = 6 then
   (loopO (ms141_3 a1 s13 s19) NN s13.2.1).bind (contO (fun _ => none) (fun i12 s25 =>
    if i12 = 8 then
     bif decide (s19 > s25) then
      some (LO.exit 4 (s19, s25, s13.2.2))
     else
      (getI s13.2.2 s25).bind fun x21 =>
      (getI s13.2.2 s19).bind fun x22 =>
      (getI s13.2.2 s19).bind fun x23 =>
      (getI (s13.2.2.set (Int.toNat s19) x21) s25).bind fun x24 =>
      some (LO.norm (wi .i64 (s19 + 1), wi .i64 (s25 - 1), (s13.2.2.set (Int.toNat s19) x21).set (Int.toNat s25) x22))
    else
     if i12 = 5 then
      some (LO.norm (s19, s25, s13.2.2))
     else
      some (LO.exit i12 (s19, s25, s13.2.2))) (fun s25 =>
    some (LO.ret (s19, s25, s13.2.2))))
  else
   if i9 = 5 then
    some (LO.norm (s19, s13.2.1, s13.2.2))
   else
    some (LO.exit i9 (s19, s13.2.1, s13.2.2))) (fun s19 =>
  some (LO.ret (s19, s13.2.1, s13.2.2))))
def m141 (a0 : List Int) (a1 : Int) (a2 : Int) (a3 : Int) : Option (Int × Bool × (List Int)) :=
 (getI a0 a3).bind fun x1 =>
 (getI a0 a1).bind fun x2 =>
 (getI a0 a1).bind fun x3 =>
 (getI (a0.set (Int.toNat a1) x1) a3).bind fun x4 =>
 (loopO (ms141_0 a0 a1 a2 a3 x1 x2) NN (wi .i64 (a1 + 1))).bind (contO (fun _ => none) (fun i3 s6 =>
  if i3 = 0 then
   (loopO (ms141_1 a0 a1 a3 s6 x1 x2) NN (wi .i64 (a2 - 1))).bind (contO (fun _ => none) (fun i6 s12 =>
    if i6 = 2 then
     bif decide (s6 > s12) then
      (getI ((a0.set (Int.toNat a1) x1).set (Int.toNat a3) x2) a1).bind fun x9 =>
      (getI ((a0.set (Int.toNat a1) x1).set (Int.toNat a3) x2) s12).bind fun x10 =>
      (getI ((a0.set (Int.toNat a1) x1).set (Int.toNat a3) x2) s12).bind fun x11 =>
      (getI (((a0.set (Int.toNat a1) x1).set (Int.toNat a3) x2).set (Int.toNat s12) x9) a1).bind fun x12 =>
      some (s12, true, (((a0.set (Int.toNat a1) x1).set (Int.toNat a3) x2).set (Int.toNat s12) x9).set (Int.toNat a1) x10)
     else
      (getI ((a0.set (Int.toNat a1) x1).set (Int.toNat a3) x2) s12).bind fun x13 =>
      (getI ((a0.set (Int.toNat a1) x1).set (Int.toNat a3) x2) s6).bind fun x14 =>
      (getI ((a0.set (Int.toNat a1) x1).set (Int.toNat a3) x2) s6).bind fun x15 =>
      (getI (((a0.set (Int.toNat a1) x1).set (Int.toNat a3) x2).set (Int.toNat s6) x13) s12).bind fun x16 =>
      (loopO (ms141_4 a1) NN (wi .i64 (s6 + 1), wi .i64 (s12 - 1), (((a0.set (Int.toNat a1) x1).set (Int.toNat a3) x2).set (Int.toNat s6) x13).set (Int.toNat s12) x14)).bind (contO (fun _ => none) (fun i13 s26 =>
       if i13 = 4 then
        (getI s26.2.2 a1).bind fun x25 =>
        (getI s26.2.2 s26.2.1).bind fun x26 =>
        (getI s26.2.2 s26.2.1).bind fun x27 =>
        (getI (s26.2.2.set (Int.toNat s26.2.1) x25) a1).bind fun x28 =>
        some (s26.2.1, false, (s26.2.2.set (Int.toNat s26.2.1) x25).set (Int.toNat a1) x26)
       else
        none) (fun s26 =>
       some (0, false, s26.2.2)))
    else
     none) (fun s12 =>
    some (0, false, (a0.set (Int.toNat a1) x1).set (Int.toNat a3) x2)))
  else
   none) (fun s6 =>
  some (0, false, (a0.set (Int.toNat a1) x1).set (Int.toNat a3) x2)))
theorem w141 {d : Nat} (hd : 3 ≤ d) (L0 : List En) (v0_ : AV) (a0 : List Int) (a1 : Int) (a2 : Int) (a3 : Int) : Okh (sl false v0_ (a0 : List Int) :: L0) (fun S => R NN d 141 [v0_, .int .i64 a1, .int .i64 a2, .int .i64 a3] S) (m141 a0 a1 a2 a3) (P2 (fun (t : Int × Bool × (List Int)) => AV.tup [.int .i64 t.1, .bool t.2.1]) (fun (t : Int × Bool × (List Int)) => sl false v0_ t.2.2 :: L0)) := by
  obtain ⟨d, rfl, g⟩ := up hd
  refine q_to (t141 NN d _ _ _ _) ?_
  unfold b141 m141
  refine q_ixo 0 rfl rfl fun x1 hx1 => q_ldo 0 rfl hx1 rfl <| q_ixo 0 rfl rfl fun x2 hx2 => q_ldo 0 rfl hx2 rfl <| q_ixo 0 rfl rfl fun x3 hx3 => q_stoe (y := x1) 0 rfl rfl hx3 rfl (by decide) <| q_ixo 0 rfl rfl fun x4 hx4 => q_stoe (y := x2) 0 rfl rfl hx4 rfl (by decide) <| q_p fr <| q_p fr <| q_loop (I := (fun (s : Int) l L => l = [.int .i64 s] ∧ L = sl false v0_ ((a0.set (Int.toNat a1) x1).set (Int.toNat a3) x2 : List Int) :: L0)) 0 ⟨rfl, rfl⟩ ?_ ?_ ?_
  ·rintro s1 _ _ ⟨rfl, rfl⟩
   unfold s141_0 ms141_0
   refine q_cut (I := (fun (s : Bool) l L => l = [.bool s] ∧ L = sl false v0_ ((a0.set (Int.toNat a1) x1).set (Int.toNat a3) x2 : List Int) :: L0)) ?_ ?_ ?_ ?_
   ·refine q_cut (I := (fun (s : Bool) l L => l = [.bool s] ∧ L = sl false v0_ ((a0.set (Int.toNat a1) x1).set (Int.toNat a3) x2 : List Int) :: L0)) ?_ ?_ ?_ ?_
    ·refine q_p fr <| q_gT (fun h1 => ?_) (fun h1 => ?_)
     ·exact q_ixo 0 rfl rfl fun x5 hx5 => q_ldo 0 rfl hx5 rfl <| q_ixo 0 rfl rfl fun x6 hx6 => q_ldo 0 rfl hx6 rfl <| q_c0 (fun S hS => argF2 (cv_p rfl) (cv_p rfl) hS fun l0_ l1_ => w139 (by omega) x5 x6) fun y1 hy1 => q_norm 0 ⟨rfl, rfl⟩
     ·exact q_norm 0 ⟨rfl, rfl⟩
    ·rintro s4 _ _ ⟨rfl, rfl⟩
     refine q_if (fun h2 => ?_) (fun h2 => ?_)
     ·exact q_norm 0 ⟨rfl, rfl⟩
     ·exact q_exit 0 ⟨rfl, rfl⟩
    ·rintro i1 s4 _ _ ⟨rfl, rfl⟩
     exact q_exit 0 ⟨rfl, rfl⟩
    ·rintro s4 _ _ ⟨rfl, rfl⟩
     exact q_lret 0 ⟨rfl, rfl⟩
   ·rintro s5 _ _ ⟨rfl, rfl⟩
    exact q_p fr <| q_norm 0 ⟨rfl, rfl⟩
   ·rintro i2 s5 _ _ ⟨rfl, rfl⟩
    exact q_exit 0 ⟨rfl, rfl⟩
   ·rintro s5 _ _ ⟨rfl, rfl⟩
    exact q_lret 0 ⟨rfl, rfl⟩
  ·rintro i3 s6 _ _ ⟨rfl, rfl⟩
   refine q_ite (fun _ => ?_) (fun _ => ?_)
   ·refine q_loop (I := (fun (s : Int) l L => l = [.int .i64 s] ∧ L = sl false v0_ ((a0.set (Int.toNat a1) x1).set (Int.toNat a3) x2 : List Int) :: L0)) 0 ⟨rfl, rfl⟩ ?_ ?_ ?_
    ·rintro s7 _ _ ⟨rfl, rfl⟩
     unfold s141_1 ms141_1
     refine q_cut (I := (fun (s : Bool) l L => l = [.bool s] ∧ L = sl false v0_ ((a0.set (Int.toNat a1) x1).set (Int.toNat a3) x2 : List Int) :: L0)) ?_ ?_ ?_ ?_
     ·refine q_cut (I := (fun (s : Bool) l L => l = [.bool s] ∧ L = sl false v0_ ((a0.set (Int.toNat a1) x1).set (Int.toNat a3) x2 : List Int) :: L0)) ?_ ?_ ?_ ?_
      ·refine q_p fr <| q_gT (fun h3 => ?_) (fun h3 => ?_)
       ·exact q_ixo 0 rfl rfl fun x7 hx7 => q_ldo 0 rfl hx7 rfl <| q_ixo 0 rfl rfl fun x8 hx8 => q_ldo 0 rfl hx8 rfl <| q_c0 (fun S hS => argF2 (cv_p rfl) (cv_p rfl) hS fun l0_ l1_ => w139 (by omega) x7 x8) fun y2 hy2 => q_p fr <| q_norm 0 ⟨rfl, rfl⟩
       ·exact q_norm 0 ⟨rfl, rfl⟩
      ·rintro s10 _ _ ⟨rfl, rfl⟩
       refine q_if (fun h4 => ?_) (fun h4 => ?_)
       ·exact q_norm 0 ⟨rfl, rfl⟩
       ·exact q_exit 0 ⟨rfl, rfl⟩
      ·rintro i4 s10 _ _ ⟨rfl, rfl⟩
       exact q_exit 0 ⟨rfl, rfl⟩
      ·rintro s10 _ _ ⟨rfl, rfl⟩
       exact q_lret 0 ⟨rfl, rfl⟩
     ·rintro s11 _ _ ⟨rfl, rfl⟩
      exact q_p fr <| q_norm 0 ⟨rfl, rfl⟩
     ·rintro i5 s11 _ _ ⟨rfl, rfl⟩
      exact q_exit 0 ⟨rfl, rfl⟩
     ·rintro s11 _ _ ⟨rfl, rfl⟩
      exact q_lret 0 ⟨rfl, rfl⟩
    ·rintro i6 s12 _ _ ⟨rfl, rfl⟩
     refine q_ite (fun _ => ?_) (fun _ => ?_)
     ·refine q_p fr <| q_if (fun h10 => ?_) (fun h10 => ?_)
      ·exact q_ixo 0 rfl rfl fun x9 hx9 => q_ldo 0 rfl hx9 rfl <| q_ixo 0 rfl rfl fun x10 hx10 => q_ldo 0 rfl hx10 rfl <| q_ixo 0 rfl rfl fun x11 hx11 => q_stoe (y := x9) 0 rfl rfl hx11 rfl (by decide) <| q_ixo 0 rfl rfl fun x12 hx12 => q_stoe (y := x10) 0 rfl rfl hx12 rfl (by decide) <| q_ret2 0 rfl rfl
      ·refine q_ixo 0 rfl rfl fun x13 hx13 => q_ldo 0 rfl hx13 rfl <| q_ixo 0 rfl rfl fun x14 hx14 => q_ldo 0 rfl hx14 rfl <| q_ixo 0 rfl rfl fun x15 hx15 => q_stoe (y := x13) 0 rfl rfl hx15 rfl (by decide) <| q_ixo 0 rfl rfl fun x16 hx16 => q_stoe (y := x14) 0 rfl rfl hx16 rfl (by decide) <| q_p fr <| q_p fr <| q_loop (I := (fun (s : Int × Int × (List Int)) l L => l = [.int .i64 s.1, .int .i64 s.2.1] ∧ L = sl false v0_ (s.2.2 : List Int) :: L0)) 0 ⟨rfl, rfl⟩ ?_ ?_ ?_
       ·rintro s13 _ _ ⟨rfl, rfl⟩
        unfold s141_4 ms141_4
        refine q_loop (I := (fun (s : Int) l L => l = [.int .i64 s] ∧ L = sl false v0_ (s13.2.2 : List Int) :: L0)) 0 ⟨rfl, rfl⟩ ?_ ?_ ?_
        ·rintro s14 _ _ ⟨rfl, rfl⟩
         unfold s141_2 ms141_2
         refine q_cut (I := (fun (s : Bool) l L => l = [.bool s] ∧ L = sl false v0_ (s13.2.2 : List Int) :: L0)) ?_ ?_ ?_ ?_
         ·refine q_cut (I := (fun (s : Bool) l L => l = [.bool s] ∧ L = sl false v0_ (s13.2.2 : List Int) :: L0)) ?_ ?_ ?_ ?_
          ·refine q_p fr <| q_gT (fun h5 => ?_) (fun h5 => ?_)
           ·exact q_ixo 0 rfl rfl fun x17 hx17 => q_ldo 0 rfl hx17 rfl <| q_ixo 0 rfl rfl fun x18 hx18 => q_ldo 0 rfl hx18 rfl <| q_c0 (fun S hS => argF2 (cv_p rfl) (cv_p rfl) hS fun l0_ l1_ => w139 (by omega) x17 x18) fun y3 hy3 => q_norm 0 ⟨rfl, rfl⟩
           ·exact q_norm 0 ⟨rfl, rfl⟩
          ·rintro s17 _ _ ⟨rfl, rfl⟩
           refine q_if (fun h6 => ?_) (fun h6 => ?_)
           ·exact q_norm 0 ⟨rfl, rfl⟩
           ·exact q_exit 0 ⟨rfl, rfl⟩
          ·rintro i7 s17 _ _ ⟨rfl, rfl⟩
           exact q_exit 0 ⟨rfl, rfl⟩
          ·rintro s17 _ _ ⟨rfl, rfl⟩
           exact q_lret 0 ⟨rfl, rfl⟩
         ·rintro s18 _ _ ⟨rfl, rfl⟩
          exact q_p fr <| q_norm 0 ⟨rfl, rfl⟩
         ·rintro i8 s18 _ _ ⟨rfl, rfl⟩
          exact q_exit 0 ⟨rfl, rfl⟩
         ·rintro s18 _ _ ⟨rfl, rfl⟩
          exact q_lret 0 ⟨rfl, rfl⟩
        ·rintro i9 s19 _ _ ⟨rfl, rfl⟩
         refine q_ite (fun _ => ?_) (fun _ => ?_)
         ·refine q_loop (I := (fun (s : Int) l L => l = [.int .i64 s] ∧ L = sl false v0_ (s13.2.2 : List Int) :: L0)) 0 ⟨rfl, rfl⟩ ?_ ?_ ?_
          ·rintro s20 _ _ ⟨rfl, rfl⟩
           unfold s141_3 ms141_3
           refine q_cut (I := (fun (s : Bool) l L => l = [.bool s] ∧ L = sl false v0_ (s13.2.2 : List Int) :: L0)) ?_ ?_ ?_ ?_
           ·refine q_cut (I := (fun (s : Bool) l L => l = [.bool s] ∧ L = sl false v0_ (s13.2.2 : List Int) :: L0)) ?_ ?_ ?_ ?_
            ·refine q_p fr <| q_gT (fun h7 => ?_) (fun h7 => ?_)
             ·exact q_ixo 0 rfl rfl fun x19 hx19 => q_ldo 0 rfl hx19 rfl <| q_ixo 0 rfl rfl fun x20 hx20 => q_ldo 0 rfl hx20 rfl <| q_c0 (fun S hS => argF2 (cv_p rfl) (cv_p rfl) hS fun l0_ l1_ => w139 (by omega) x19 x20) fun y4 hy4 => q_p fr <| q_norm 0 ⟨rfl, rfl⟩
             ·exact q_norm 0 ⟨rfl, rfl⟩
            ·rintro s23 _ _ ⟨rfl, rfl⟩
             refine q_if (fun h8 => ?_) (fun h8 => ?_)
             ·exact q_norm 0 ⟨rfl, rfl⟩
             ·exact q_exit 0 ⟨rfl, rfl⟩
            ·rintro i10 s23 _ _ ⟨rfl, rfl⟩
             exact q_exit 0 ⟨rfl, rfl⟩
            ·rintro s23 _ _ ⟨rfl, rfl⟩
             exact q_lret 0 ⟨rfl, rfl⟩
           ·rintro s24 _ _ ⟨rfl, rfl⟩
            exact q_p fr <| q_norm 0 ⟨rfl, rfl⟩
           ·rintro i11 s24 _ _ ⟨rfl, rfl⟩
            exact q_exit 0 ⟨rfl, rfl⟩
           ·rintro s24 _ _ ⟨rfl, rfl⟩
            exact q_lret 0 ⟨rfl, rfl⟩
          ·rintro i12 s25 _ _ ⟨rfl, rfl⟩
           refine q_ite (fun _ => ?_) (fun _ => ?_)
           ·refine q_p fr <| q_if (fun h9 => ?_) (fun h9 => ?_)
            ·exact q_exit 0 ⟨rfl, rfl⟩
            ·exact q_ixo 0 rfl rfl fun x21 hx21 => q_ldo 0 rfl hx21 rfl <| q_ixo 0 rfl rfl fun x22 hx22 => q_ldo 0 rfl hx22 rfl <| q_ixo 0 rfl rfl fun x23 hx23 => q_stoe (y := x21) 0 rfl rfl hx23 rfl (by decide) <| q_ixo 0 rfl rfl fun x24 hx24 => q_stoe (y := x22) 0 rfl rfl hx24 rfl (by decide) <| q_p fr <| q_p fr <| q_norm 0 ⟨rfl, rfl⟩
           ·refine q_ite (fun _ => ?_) (fun _ => ?_)
            ·exact q_norm 0 ⟨rfl, rfl⟩
            ·exact q_exit 0 ⟨rfl, rfl⟩
          ·rintro s25 _ _ ⟨rfl, rfl⟩
           exact q_lret 0 ⟨rfl, rfl⟩
         ·refine q_ite (fun _ => ?_) (fun _ => ?_)
          ·exact q_norm 0 ⟨rfl, rfl⟩
          ·exact q_exit 0 ⟨rfl, rfl⟩
        ·rintro s19 _ _ ⟨rfl, rfl⟩
         exact q_lret 0 ⟨rfl, rfl⟩
       ·rintro i13 s26 _ _ ⟨rfl, rfl⟩
        refine q_ite (fun _ => ?_) (fun _ => ?_)
        ·exact q_ixo 0 rfl rfl fun x25 hx25 => q_ldo 0 rfl hx25 rfl <| q_ixo 0 rfl rfl fun x26 hx26 => q_ldo 0 rfl hx26 rfl <| q_ixo 0 rfl rfl fun x27 hx27 => q_stoe (y := x25) 0 rfl rfl hx27 rfl (by decide) <| q_ixo 0 rfl rfl fun x28 hx28 => q_stoe (y := x26) 0 rfl rfl hx28 rfl (by decide) <| q_ret2 0 rfl rfl
        ·exact q_none
       ·rintro s26 _ _ ⟨rfl, rfl⟩
        exact q_ret2 0 rfl rfl
     ·exact q_none
    ·rintro s12 _ _ ⟨rfl, rfl⟩
     exact q_ret2 0 rfl rfl
   ·exact q_none
  ·rintro s6 _ _ ⟨rfl, rfl⟩
   exact q_ret2 0 rfl rfl
def ms128_0 (rec_ : (List Int) → Int → Int → Int → Option ((List Int))) (s1 : Int × Int × Int × Bool × Bool × (List Int)) : Option (LO (Int × Int × Int × Bool × Bool × (List Int))) :=
 bif decide ((wi .i64 (s1.2.1 - s1.1)) ≤ 12) then
  (m133 s1.2.2.2.2.2 s1.1 s1.2.1).bind fun y1 =>
  some (LO.ret (s1.1, s1.2.1, s1.2.2.1, s1.2.2.2.1, s1.2.2.2.2.1, y1))
 else
  bif s1.2.2.1 == 0 then
   (m134 s1.2.2.2.2.2 s1.1 s1.2.1).bind fun y2 =>
   some (LO.ret (s1.1, s1.2.1, s1.2.2.1, s1.2.2.2.1, s1.2.2.2.2.1, y2))
  else
   (
    bif !s1.2.2.2.1 then
     (m135 s1.2.2.2.2.2 s1.1 s1.2.1).bind fun y3 =>
     some (LO.norm (wi .i64 (s1.2.2.1 - 1), y3))
    else
     some (LO.norm (s1.2.2.1, s1.2.2.2.2.2))).bind (contO (fun s3 =>
    (m136 s3.2 s1.1 s1.2.1).bind fun y4 =>
    (
     bif y4.2 == 2 then
      (m137 s3.2 s1.1 s1.2.1).bind fun y5 =>
      some (LO.norm (wi .i64 ((wi .i64 (s1.2.1 - 1)) - (wi .i64 (y4.1 - s1.1))), 1, y5))
     else
      some (LO.norm (y4.1, y4.2, s3.2))).bind (contO (fun s5 =>
     (
      (
       bif s1.2.2.2.1 then
        bif s1.2.2.2.2.1 then
         some (LO.norm (s5.2.1 == 1))
        else
         some (LO.norm false)
       else
        some (LO.norm false)).bind (contO (fun s8 =>
       bif s8 then
        (m138 s5.2.2 s1.1 s1.2.1).bind fun y6 =>
        bif y6.1 then
         some (LO.ret y6.2)
        else
         some (LO.norm y6.2)
       else
        some (LO.norm s5.2.2)) (fun i3 s8 =>
       some (LO.exit i3 s5.2.2)) (fun s8 =>
       some (LO.ret s5.2.2)))).bind (contO (fun s9 =>
      (
       bif decide (s1.1 > 0) then
        (getI s9 (wi .i64 (s1.1 - 1))).bind fun x1 =>
        (getI s9 s5.1).bind fun x2 =>
        (m139 x1 x2).bind fun y7 =>
        bif !y7 then
         (m140 s9 s1.1 s1.2.1 s5.1).bind fun y8 =>
         some (LO.exit 1 (y8.1, y8.2))
        else
         some (LO.norm (s1.1, s9))
       else
        some (LO.norm (s1.1, s9))).bind (contO (fun s11 =>
       (m141 s11.2 s11.1 s1.2.1 s5.1).bind fun y9 =>
       bif decide ((wi .i64 (y9.1 - s11.1)) < (wi .i64 (s1.2.1 - y9.1))) then
        (rec_ y9.2.2 s11.1 y9.1 s3.1).bind fun y10 =>
        some (LO.norm (wi .i64 (y9.1 + 1), s1.2.1, s3.1, decide ((wi .i64 (y9.1 - s11.1)) ≥ (wi .i64 (Int.tdiv (wi .i64 (s1.2.1 - s1.1)) 8))), y9.2.1, y10))
       else
        (rec_ y9.2.2 (wi .i64 (y9.1 + 1)) s1.2.1 s3.1).bind fun y11 =>
        some (LO.norm (s11.1, y9.1, s3.1, decide ((wi .i64 (s1.2.1 - y9.1)) ≥ (wi .i64 (Int.tdiv (wi .i64 (s1.2.1 - s1.1)) 8))), y9.2.1, y11))) (fun i5 s11 =>
       if i5 = 1 then
        some (LO.norm (s11.1, s1.2.1, s3.1, s1.2.2.2.1, s1.2.2.2.2.1, s11.2))
       else
        some (LO.exit i5 (s11.1, s1.2.1, s3.1, s1.2.2.2.1, s1.2.2.2.2.1, s11.2))) (fun s11 =>
       some (LO.ret (s11.1, s1.2.1, s3.1, s1.2.2.2.1, s1.2.2.2.2.1, s11.2))))) (fun i4 s9 =>
      if i4 = 1 then
       some (LO.norm (s1.1, s1.2.1, s3.1, s1.2.2.2.1, s1.2.2.2.2.1, s9))
      else
       some (LO.exit i4 (s1.1, s1.2.1, s3.1, s1.2.2.2.1, s1.2.2.2.2.1, s9))) (fun s9 =>
      some (LO.ret (s1.1, s1.2.1, s3.1, s1.2.2.2.1, s1.2.2.2.2.1, s9))))) (fun i2 s5 =>
     if i2 = 1 then
      some (LO.norm (s1.1, s1.2.1, s3.1, s1.2.2.2.1, s1.2.2.2.2.1, s5.2.2))
     else
      some (LO.exit i2 (s1.1, s1.2.1, s3.1, s1.2.2.2.1, s1.2.2.2.2.1, s5.2.2))) (fun s5 =>
     some (LO.ret (s1.1, s1.2.1, s3.1, s1.2.2.2.1, s1.2.2.2.2.1, s5.2.2))))) (fun i1 s3 =>
    if i1 = 1 then
     some (LO.norm (s1.1, s1.2.1, s3.1, s1.2.2.2.1, s1.2.2.2.2.1, s3.2))
    else
     some (LO.exit i1 (s1.1, s1.2.1, s3.1, s1.2.2.2.1, s1.2.2.2.2.1, s3.2))) (fun s3 =>
    some (LO.ret (s1.1, s1.2.1, s3.1, s1.2.2.2.1, s1.2.2.2.2.1, s3.2))))
def m128F (rec_ : (List Int) → Int → Int → Int → Option ((List Int))) (a0 : List Int) (a1 : Int) (a2 : Int) (a3 : Int) : Option ((List Int)) :=
 (loopO (ms128_0 rec_) NN (a1, a2, a3, true, true, a0)).bind (contO (fun _ => none) (fun i6 s12 =>
  if i6 = 0 then
   some s12.2.2.2.2.2
  else
   none) (fun s12 =>
  some s12.2.2.2.2.2))
def m128 (n : Nat) : (List Int) → Int → Int → Int → Option ((List Int)) := Nat.rec (fun _ _ _ _ => none) (fun _ ih => m128F ih) n
theorem w128 : ∀ (n d : Nat) (hd : n + 71 ≤ d) (L0 : List En) (v0_ : AV) (a0 : List Int) (a1 : Int) (a2 : Int) (a3 : Int), Okh (sl false v0_ (a0 : List Int) :: L0) (fun S => R NN d 128 [v0_, .int .i64 a1, .int .i64 a2, .int .i64 a3] S) (m128 n a0 a1 a2 a3) (P2 (fun (t : (List Int)) => und) (fun (t : (List Int)) => sl false v0_ t :: L0))
  | 0, _, _, L0, v0_, a0, a1, a2, a3 => q_none
  | n + 1, d, hd, L0, v0_, a0, a1, a2, a3 => by
    have ih := w128 n
    obtain ⟨d, rfl, g⟩ := up (n := n + 71) (d := d) (by omega)
    refine q_to (t128 NN d _ _ _ _) ?_
    rw [show m128 (n + 1) = m128F (m128 n) from rfl]
    unfold b128 m128F
    refine q_loop (I := (fun (s : Int × Int × Int × Bool × Bool × (List Int)) l L => l = [.int .i64 s.1, .int .i64 s.2.1, .int .i64 s.2.2.1, .bool s.2.2.2.1, .bool s.2.2.2.2.1] ∧ L = sl false v0_ (s.2.2.2.2.2 : List Int) :: L0)) 0 ⟨rfl, rfl⟩ ?_ ?_ ?_
    ·rintro s1 _ _ ⟨rfl, rfl⟩
     unfold s128_0 ms128_0
     refine q_p fr <| q_p fr <| q_if (fun h11 => ?_) (fun h11 => ?_)
     ·exact q_s (mg := m133 s1.2.2.2.2.2 s1.1 s1.2.1) (w133 (by omega) _ _ s1.2.2.2.2.2 s1.1 s1.2.1) fun y1 hy1 => q_lret 0 ⟨rfl, rfl⟩
     ·refine q_p fr <| q_if (fun h10 => ?_) (fun h10 => ?_)
      ·exact q_s (mg := m134 s1.2.2.2.2.2 s1.1 s1.2.1) (w134 (by omega) _ _ s1.2.2.2.2.2 s1.1 s1.2.1) fun y2 hy2 => q_lret 0 ⟨rfl, rfl⟩
      ·refine q_cut (I := (fun (s : Int × (List Int)) l L => l = [.int .i64 s.1] ∧ L = sl false v0_ (s.2 : List Int) :: L0)) ?_ ?_ ?_ ?_
       ·refine q_p fr <| q_if (fun h1 => ?_) (fun h1 => ?_)
        ·exact q_s (mg := m135 s1.2.2.2.2.2 s1.1 s1.2.1) (w135 (by omega) _ _ s1.2.2.2.2.2 s1.1 s1.2.1) fun y3 hy3 => q_p fr <| q_norm 0 ⟨rfl, rfl⟩
        ·exact q_norm 0 ⟨rfl, rfl⟩
       ·rintro s3 _ _ ⟨rfl, rfl⟩
        refine q_c0 (fun S hS => argF3 (cv_o 0 rfl) (cv_p rfl) (cv_p rfl) hS fun l0_ l1_ l2_ => w136 (by omega) l0_ s3.2 s1.1 s1.2.1) fun y4 hy4 => q_q fr <| q_q fr <| q_cut (I := (fun (s : Int × Int × (List Int)) l L => l = [.int .i64 s.1, .int .i64 s.2.1] ∧ L = sl false v0_ (s.2.2 : List Int) :: L0)) ?_ ?_ ?_ ?_
        ·refine q_p fr <| q_if (fun h2 => ?_) (fun h2 => ?_)
         ·exact q_s (mg := m137 s3.2 s1.1 s1.2.1) (w137 (by omega) _ _ s3.2 s1.1 s1.2.1) fun y5 hy5 => q_p fr <| q_p fr <| q_p fr <| q_norm 0 ⟨rfl, rfl⟩
         ·exact q_norm 0 ⟨rfl, rfl⟩
        ·rintro s5 _ _ ⟨rfl, rfl⟩
         refine q_cut (I := (fun (s : (List Int)) l L => l = [] ∧ L = sl false v0_ (s : List Int) :: L0)) ?_ ?_ ?_ ?_
         ·refine q_cut (I := (fun (s : Bool) l L => l = [.bool s] ∧ L = sl false v0_ (s5.2.2 : List Int) :: L0)) ?_ ?_ ?_ ?_
          ·refine q_gT (fun h4 => ?_) (fun h4 => ?_)
           ·refine q_gT (fun h3 => ?_) (fun h3 => ?_)
            ·exact q_p fr <| q_norm 0 ⟨rfl, rfl⟩
            ·exact q_norm 0 ⟨rfl, rfl⟩
           ·exact q_norm 0 ⟨rfl, rfl⟩
          ·rintro s8 _ _ ⟨rfl, rfl⟩
           refine q_if (fun h6 => ?_) (fun h6 => ?_)
           ·refine q_s (mg := m138 s5.2.2 s1.1 s1.2.1) (w138 (by omega) _ _ s5.2.2 s1.1 s1.2.1) fun y6 hy6 => q_if (fun h5 => ?_) (fun h5 => ?_)
            ·exact q_lret 0 ⟨rfl, rfl⟩
            ·exact q_norm 0 ⟨rfl, rfl⟩
           ·exact q_norm 0 ⟨rfl, rfl⟩
          ·rintro i3 s8 _ _ ⟨rfl, rfl⟩
           exact q_exit 0 ⟨rfl, rfl⟩
          ·rintro s8 _ _ ⟨rfl, rfl⟩
           exact q_lret 0 ⟨rfl, rfl⟩
         ·rintro s9 _ _ ⟨rfl, rfl⟩
          refine q_cut (I := (fun (s : Int × (List Int)) l L => l = [.int .i64 s.1] ∧ L = sl false v0_ (s.2 : List Int) :: L0)) ?_ ?_ ?_ ?_
          ·refine q_p fr <| q_gT (fun h8 => ?_) (fun h8 => ?_)
           ·refine q_p fr <| q_ixo 0 rfl rfl fun x1 hx1 => q_ldo 0 rfl hx1 rfl <| q_ixo 0 rfl rfl fun x2 hx2 => q_ldo 0 rfl hx2 rfl <| q_c0 (fun S hS => argF2 (cv_p rfl) (cv_p rfl) hS fun l0_ l1_ => w139 (by omega) x1 x2) fun y7 hy7 => q_p fr <| q_if (fun h7 => ?_) (fun h7 => ?_)
            ·exact q_s (mg := m140 s9 s1.1 s1.2.1 s5.1) (w140 (by omega) _ _ s9 s1.1 s1.2.1 s5.1) fun y8 hy8 => q_exit 0 ⟨rfl, rfl⟩
            ·exact q_norm 0 ⟨rfl, rfl⟩
           ·first | refine q_ifF1 ?_ | skip
            exact q_norm 0 ⟨rfl, rfl⟩
          ·rintro s11 _ _ ⟨rfl, rfl⟩
           refine q_s (mg := m141 s11.2 s11.1 s1.2.1 s5.1) (w141 (by omega) _ _ s11.2 s11.1 s1.2.1 s5.1) fun y9 hy9 => q_q fr <| q_q fr <| q_p fr <| q_p fr <| q_p fr <| q_p fr <| q_if (fun h9 => ?_) (fun h9 => ?_)
           ·exact q_p fr <| q_s (mg := (m128 n) y9.2.2 s11.1 y9.1 s3.1) (ih d (by omega) _ _ y9.2.2 s11.1 y9.1 s3.1) fun y10 hy10 => q_p fr <| q_norm 0 ⟨rfl, rfl⟩
           ·exact q_p fr <| q_p fr <| q_s (mg := (m128 n) y9.2.2 (wi .i64 (y9.1 + 1)) s1.2.1 s3.1) (ih d (by omega) _ _ y9.2.2 (wi .i64 (y9.1 + 1)) s1.2.1 s3.1) fun y11 hy11 => q_norm 0 ⟨rfl, rfl⟩
          ·rintro i5 s11 _ _ ⟨rfl, rfl⟩
           refine q_ite (fun _ => ?_) (fun _ => ?_)
           ·exact q_norm 0 ⟨rfl, rfl⟩
           ·exact q_exit 0 ⟨rfl, rfl⟩
          ·rintro s11 _ _ ⟨rfl, rfl⟩
           exact q_lret 0 ⟨rfl, rfl⟩
         ·rintro i4 s9 _ _ ⟨rfl, rfl⟩
          refine q_ite (fun _ => ?_) (fun _ => ?_)
          ·exact q_norm 0 ⟨rfl, rfl⟩
          ·exact q_exit 0 ⟨rfl, rfl⟩
         ·rintro s9 _ _ ⟨rfl, rfl⟩
          exact q_lret 0 ⟨rfl, rfl⟩
        ·rintro i2 s5 _ _ ⟨rfl, rfl⟩
         refine q_ite (fun _ => ?_) (fun _ => ?_)
         ·exact q_norm 0 ⟨rfl, rfl⟩
         ·exact q_exit 0 ⟨rfl, rfl⟩
        ·rintro s5 _ _ ⟨rfl, rfl⟩
         exact q_lret 0 ⟨rfl, rfl⟩
       ·rintro i1 s3 _ _ ⟨rfl, rfl⟩
        refine q_ite (fun _ => ?_) (fun _ => ?_)
        ·exact q_norm 0 ⟨rfl, rfl⟩
        ·exact q_exit 0 ⟨rfl, rfl⟩
       ·rintro s3 _ _ ⟨rfl, rfl⟩
        exact q_lret 0 ⟨rfl, rfl⟩
    ·rintro i6 s12 _ _ ⟨rfl, rfl⟩
     refine q_ite (fun _ => ?_) (fun _ => ?_)
     ·exact q_ret2 0 rfl rfl
     ·exact q_none
    ·rintro s12 _ _ ⟨rfl, rfl⟩
     exact q_ret2 0 rfl rfl
def m111 (a0 : List Int) : Option ((List Int)) :=
 (m129 (wi .u64 (a0.length : Int))).bind fun y1 =>
 (m128 64 a0 0 (a0.length : Int) y1).bind fun y2 =>
 some y2
theorem w111 {d : Nat} (hd : 136 ≤ d) (L0 : List En) (v0_ : AV) (a0 : List Int) : Okh (sl false v0_ (a0 : List Int) :: L0) (fun S => R NN d 111 [v0_] S) (m111 a0) (P2 (fun (t : (List Int)) => und) (fun (t : (List Int)) => sl false v0_ t :: L0)) := by
  obtain ⟨d, rfl, g⟩ := up hd
  refine q_to (t111 NN d _) ?_
  unfold b111 m111
  exact q_leno 0 rfl <| q_p (fun _ => cvt3_154 _ _) <| q_c0 (fun S hS => argF1 (cv_p rfl) hS fun l0_ => w129 (by omega) (wi .u64 (a0.length : Int))) fun y1 hy1 => q_s (mg := m128 64 a0 0 (a0.length : Int) y1) (w128 64 _ (by omega) _ _ a0 0 (a0.length : Int) y1) fun y2 hy2 => q_ret2 0 rfl rfl
def ms112_0 (lo n : Int) (s : Int × Int × List Int) : Option (LO (Int × Int × List Int)) :=
  bif decide (s.2.1 < n - lo) then
    ((getV s.2.2 lo n s.2.1).bind fun x1 => (getV s.2.2 lo n (wi .i64 (s.2.1 - 1))).bind fun x2 =>
      bif x1 != x2 then (getV s.2.2 lo n s.2.1).bind fun x3 => (getI s.2.2 s.1).bind fun _ => some (LO.norm (wi .i64 (s.1 + 1), s.2.2.set s.1.toNat x3))
      else some (LO.norm (s.1, s.2.2))).bind (contO (fun s' => some (LO.norm (s'.1, wi .i64 (s.2.1 + 1), s'.2))) (fun i s' => some (LO.exit i (s'.1, s.2.1, s'.2))) (fun s' => some (LO.ret (s'.1, s.2.1, s'.2))))
  else some (LO.exit 2 s)
def ms112_1 (xs : List Int) (s : Option (List Int) × Int) : Option (LO (Option (List Int) × Int)) :=
  match s.1 with
  | some _ => none
  | none =>
    bif decide (s.2 < (xs.length : Int)) then
      (getI xs s.2).bind fun x1 => (getI xs (wi .i64 (s.2 - 1))).bind fun x2 =>
      bif x1 == x2 then
        (viO xs.length s.2 xs.length).bind fun _ => (loopO (ms112_0 s.2 xs.length) NN (s.2, 1, xs)).bind (contO (fun _ => none) (fun i t => if i = 2 then (viO t.2.2.length t.1 t.2.2.length).bind fun _ => (viO (clr t.2.2 t.1).length 0 t.1).bind fun _ => some (LO.ret (some ((clr t.2.2 t.1).take t.1.toNat), t.1)) else none) (fun _ => none))
      else some (LO.norm (none, wi .i64 (s.2 + 1)))
    else some (LO.exit 0 (none, s.2))
def m112 (xs : List Int) : Option (List Int) :=
  bif decide ((xs.length : Int) < 2) then some xs
  else (loopO (ms112_1 xs) NN (none, 1)).bind (contO (fun _ => none) (fun i s => if i = 0 then (match s.1 with | none => some xs | some _ => none) else none) (fun s => s.1))
theorem und112 : Try.prog.underlying 24 = some (.slice 2) := by kernel_rfl
theorem zer112 : zeroA Try.prog 2 = some (Enc.cs false (0 : Int)) := by kernel_rfl
theorem w112 {d : Nat} (hd : 1 ≤ d) (L0 : List En) (v0_ : AV) (a0 : List Int) : Okh (sl false v0_ a0 :: L0) (fun S => R NN d 112 [v0_] S) (m112 a0) (P2 (fun (t : List Int) => cpv v0_ t.length) (fun (t : List Int) => cl v0_ t :: L0)) := by
  obtain ⟨d, rfl, g⟩ := up hd
  rw [show (fun S => R NN (d + 1) 112 [v0_] S) = fun S => b112 (cfg NN) (R NN d) (v0_) S from funext fun S => t112 NN d v0_ S]
  have hwhole : Okh (sl false v0_ a0 :: L0) (fun S => some (v0_, S)) (some a0) (P2 (fun (t : List Int) => cpv v0_ t.length) (fun (t : List Int) => cl v0_ t :: L0)) := fun S hS t ht => by
    injection ht with ht; subst ht
    refine ⟨_, rfl, ?_, ?_⟩
    · rcases hS.get (k := 0) rfl with ⟨rfl, rfl⟩ | ⟨b, fl, pl, rfl, _, _⟩
      · rfl
      · simp [cpv]
    · have h := q_cl (L0 := L0) (v := v0_) (xs := a0) (k := fun S => some S) (m := some ()) (P := fun _ S' => HP S' (cl v0_ a0 :: L0)) (fun S hS t ht => ⟨S, rfl, hS⟩) S hS () rfl
      obtain ⟨S', h1, h2⟩ := h
      injection h1 with h1; subst h1; exact h2
  unfold b112 m112
  refine q_leno 0 rfl ?_
  refine q_p (fun _ => rfl) ?_
  refine q_if (fun h1 => ?_) (fun h1 => ?_)
  · exact hwhole
  · refine q_loop (I := (fun (s : Option (List Int) × Int) l L => match s.1 with | none => l = [.rsl false true [], .int .i64 s.2] ∧ L = sl false v0_ a0 :: L0 | some ys => l = [cpv v0_ ys.length, .int .i64 s.2] ∧ L = cl v0_ ys :: L0)) 0 ⟨rfl, rfl⟩ ?_ ?_ ?_
    · rintro ⟨s1, k⟩ l L' hI
      cases s1 with
      | some ys => exact q_none
      | none =>
        obtain ⟨rfl, rfl⟩ := hI
        unfold s112_1 ms112_1
        refine q_leno 0 rfl ?_
        refine q_p (fun _ => rfl) ?_
        refine q_if (fun h2 => ?_) (fun h2 => ?_)
        · refine q_ixo 0 rfl rfl fun x1 hx1 => ?_
          refine q_ldo 0 rfl hx1 rfl ?_
          refine q_p (fun _ => rfl) ?_
          refine q_ixo 0 rfl rfl fun x2 hx2 => ?_
          refine q_ldo 0 rfl hx2 rfl ?_
          refine q_p (fun _ => rfl) ?_
          refine q_if (fun h3 => ?_) (fun h3 => ?_)
          · refine q_vi 0 rfl rfl (.inl rfl) (.inr ⟨rfl, rfl⟩) fun g1 g2 g3 => ?_
            refine q_loop (I := (fun (s : Int × Int × List Int) l L => l = [.int .i64 s.1, .int .i64 s.2.1] ∧ L = sl false v0_ s.2.2 :: L0 ∧ s.2.2.length = a0.length)) 0 ⟨rfl, rfl, rfl⟩ ?_ ?_ ?_
            · rintro ⟨i, k2, ys⟩ _ _ ⟨rfl, rfl, hl⟩
              unfold s112_0 ms112_0
              refine q_vlen 0 rfl g1 g2 (by dsimp only at hl ⊢; omega) ?_
              refine q_p (fun _ => rfl) ?_
              refine q_if (fun h4 => ?_) (fun h4 => ?_)
              · refine q_cut (I := (fun (s : Int × List Int) l L => l = [.int .i64 s.1] ∧ L = sl false v0_ s.2 :: L0 ∧ s.2.length = a0.length)) ?_ ?_ ?_ ?_
                · refine q_vix 0 rfl rfl g1 g2 (by dsimp only at hl ⊢; omega) fun x3 hx3 => ?_
                  refine q_ldo 0 rfl hx3 rfl ?_
                  refine q_p (fun _ => rfl) ?_
                  refine q_vix 0 rfl rfl g1 g2 (by dsimp only at hl ⊢; omega) fun x4 hx4 => ?_
                  refine q_ldo 0 rfl hx4 rfl ?_
                  refine q_p (fun _ => rfl) ?_
                  refine q_if (fun h5 => ?_) (fun h5 => ?_)
                  · refine q_vix 0 rfl rfl g1 g2 (by dsimp only at hl ⊢; omega) fun x5 hx5 => ?_
                    refine q_ldo 0 rfl hx5 rfl ?_
                    refine q_ixo 0 rfl rfl fun x6 hx6 => ?_
                    refine q_stoe 0 rfl rfl hx6 rfl (by decide) ?_
                    refine q_p (fun _ => rfl) ?_
                    exact q_norm 0 ⟨rfl, rfl, by simpa using hl⟩
                  · exact q_norm 0 ⟨rfl, rfl, hl⟩
                · rintro ⟨i', ys'⟩ _ _ ⟨rfl, rfl, hl'⟩
                  refine q_p (fun _ => rfl) ?_
                  exact q_norm 0 ⟨rfl, rfl, hl'⟩
                · rintro j ⟨i', ys'⟩ _ _ ⟨rfl, rfl, hl'⟩
                  exact q_exit 0 ⟨rfl, rfl, hl'⟩
                · rintro ⟨i', ys'⟩ _ _ ⟨rfl, rfl, hl'⟩
                  exact q_lret 0 ⟨rfl, rfl, hl'⟩
              · exact q_exit 0 ⟨rfl, rfl, hl⟩
            · rintro j ⟨i, k2, ys⟩ _ _ ⟨rfl, rfl, hl⟩
              refine q_ite (fun _ => ?_) (fun hj => ?_)
              · refine q_vi 0 rfl rfl (.inl rfl) (.inr ⟨rfl, rfl⟩) fun g4 g5 g6 => ?_
                refine q_vclr (te := 2) (z := (0 : Int)) 0 rfl und112 zer112 g4 g5 g6 ?_
                refine q_vi (xs := clr ys i) (i := 0) 0 rfl rfl (.inr ⟨rfl, rfl⟩) (.inl rfl) fun g7 g8 g9 => ?_
                have e1 : ((clr ys i).take i.toNat).length = i.toNat := by rw [List.length_take]; omega
                refine q_cut0 (ys := (clr ys i).take i.toNat) (by rw [e1]; rfl) ?_
                refine q_lret 0 ⟨?_, rfl⟩
                rw [e1]
                show [viA v0_ 0 i.toNat, _] = _
                rw [viA0]; rfl
              · exact q_none
            · rintro ⟨i, k2, ys⟩ _ _ ⟨rfl, rfl, hl⟩
              exact q_none
          · refine q_p (fun _ => rfl) ?_
            exact q_norm 0 ⟨rfl, rfl⟩
        · exact q_exit 0 ⟨rfl, rfl⟩
    · rintro i ⟨s1, k⟩ l L' hI
      refine q_ite (fun _ => ?_) (fun _ => ?_)
      · cases s1 with
        | some ys => exact q_none
        | none => obtain ⟨rfl, rfl⟩ := hI; exact hwhole
      · exact q_none
    · rintro ⟨s1, k⟩ l L' hI
      cases s1 with
      | none => exact q_none
      | some ys =>
        obtain ⟨rfl, rfl⟩ := hI
        exact q_ret2 0 rfl rfl
def ms68_0 (a0 : List TVote) (a1 : TReply) (s1 : Int × (List Int)) : Option (LO (Int × (List Int))) :=
 bif decide (s1.1 < (a0.length : Int)) then
  (
   (getI a0 s1.1).bind fun x1 =>
   bif ((x1.Reply.Code == a1.Code) && ((x1.Reply.Value == a1.Value) && ((x1.Reply.Path == a1.Path) && true))) then
    (appO 8 s1.2 [x1.From]).bind fun z1 =>
    some (LO.norm z1)
   else
    some (LO.norm s1.2)).bind (contO (fun s3 =>
   some (LO.norm (wi .i64 (s1.1 + 1), s3))) (fun i1 s3 =>
   some (LO.exit i1 (s1.1, s3))) (fun s3 =>
   some (LO.ret (s1.1, s3))))
 else
  some (LO.exit 0 (s1.1, s1.2))
def m68 (a0 : List TVote) (a1 : TReply) : Option ((List Int)) :=
 (loopO (ms68_0 a0 a1) NN (0, [])).bind (contO (fun _ => none) (fun i2 s4 =>
  if i2 = 0 then
   (m111 s4.2).bind fun y1 =>
   (m112 y1).bind fun y2 =>
   some y2
  else
   none) (fun s4 =>
  some []))
theorem w68 {d : Nat} (hd : 137 ≤ d) (k0 : Bool) (a0 : List TVote) (k1 : Bool) (a1 : TReply) : Fit (R NN d 68 [.rsl k0 false (a0.map (Enc.cs k0)), .agg (Enc.cs k1 a1)] []) (m68 a0 a1) (P1 (T := List Int) one1) := by
  obtain ⟨d, rfl, g⟩ := up hd
  refine q_in (t68 NN d _ _) ?_
  unfold b68 m68
  refine q_box (n := 3) rfl rfl (by decide) fun b1 => q_e (fun _ => bs24_0 _) <| q_len <| q_nil (α := Int) false <| q_loop (I := (fun (s : Int × (List Int)) l L => ∃ (v1 : AV), l = [v1, .int .i64 s.1] ∧ L = [sl false v1 (s.2 : List Int), bx b1 [.int .i64 a1.Code, .int .i64 a1.Value, encS a1.Path]])) 0 ⟨(.rsl false true []), rfl, rfl⟩ ?_ ?_ ?_
  ·rintro s1 _ _ ⟨v1, rfl, rfl⟩
   unfold s68_0 ms68_0
   refine q_p fr <| q_if (fun h2 => ?_) (fun h2 => ?_)
   ·refine q_cut (I := (fun (s : (List Int)) l L => ∃ (v2 : AV), l = [v2] ∧ L = [sl false v2 (s : List Int), bx b1 [.int .i64 a1.Code, .int .i64 a1.Value, encS a1.Path]])) ?_ ?_ ?_ ?_
    ·refine q_ix rfl fun x1 hx1 => q_p fr <| q_new rfl fun b2 => q_st 0 rfl rfl rfl (by decide) rfl <| q_p fr <| q_lda 0 rfl rfl rfl <| q_lda 2 rfl rfl rfl <| q_p (fun _ => seql682 _ _ _ _ _ _) <| q_if (fun h1 => ?_) (fun h1 => ?_)
     ·exact q_p fr <| q_ld 0 rfl rfl <| q_e (fun _ => bs24_1 rfl) <| q_app (ys := [x1.From]) 1 rfl rfl (fun _ _ => rfl) fun v2 z1 hz1 => q_norm 1 ⟨v2, rfl, rfl⟩
     ·exact q_norm 1 ⟨v1, rfl, rfl⟩
    ·rintro s3 _ _ ⟨v3, rfl, rfl⟩
     exact q_p fr <| q_norm 0 ⟨v3, rfl, rfl⟩
    ·rintro i1 s3 _ _ ⟨v4, rfl, rfl⟩
     exact q_exit 0 ⟨v4, rfl, rfl⟩
    ·rintro s3 _ _ ⟨v5, rfl, rfl⟩
     exact q_lret 0 ⟨v5, rfl, rfl⟩
   ·exact q_exit 0 ⟨v1, rfl, rfl⟩
  ·rintro i2 s4 _ _ ⟨v6, rfl, rfl⟩
   refine q_ite (fun _ => ?_) (fun _ => ?_)
   ·exact q_s (mg := m111 s4.2) (w111 (by omega) _ _ s4.2) fun y1 hy1 => q_s (mg := m112 y1) (w112 (by omega) _ _ y1) fun y2 hy2 => q_out (tb_cl 0 rfl plt2) rfl
   ·exact q_none
  ·rintro s4 _ _ ⟨v7, rfl, rfl⟩
   exact q_out (tb_nil (α := Int) (fl := true)) rfl
theorem w68f {d : Nat} (hd : 137 ≤ d) (k0 : Bool) (a0 : List TVote) (k1 : Bool) (a1 : TReply) : Fit (R NN d 68 [.rsl k0 false (a0.map (Enc.cs k0)), .agg (Enc.cs k1 a1)] []) (m68 a0 a1) (P0 (fun (t : List Int) => AV.rsl false false (t.map (Enc.cs false)))) := p1_sl (w68 hd k0 a0 k1 a1)
def m32 (a0 : Int) (a1 : List TVote) (a2 : TReply) : Option (TIntsResult) :=
 (m67 a0 a1).bind fun y1 =>
 bif y1 != 0 then
  some (⟨y1, []⟩ : TIntsResult)
 else
  (m68 a1 a2).bind fun y2 =>
  some (⟨0, y2⟩ : TIntsResult)
theorem w32 {d : Nat} (hd : 138 ≤ d) (a0 : Int) (k1 : Bool) (a1 : List TVote) (k2 : Bool) (a2 : TReply) : Fit (R NN d 32 [.int .i64 a0, .rsl k1 false (a1.map (Enc.cs k1)), .agg (Enc.cs k2 a2)] []) (m32 a0 a1 a2) (P1 (T := TIntsResult) AV.agg) := by
  obtain ⟨d, rfl, g⟩ := up hd
  refine q_in (t32 NN d _ _ _) ?_
  unfold b32 m32
  refine q_box (n := 3) rfl rfl (by decide) fun b1 => q_new rfl fun b2 => q_c0 (fun S hS => argF2 (cv_p rfl) cv_r hS fun l0_ l1_ => w67 (by omega) a0 l1_ a1) fun y1 hy1 => q_p fr <| q_if (fun h1 => ?_) (fun h1 => ?_)
  ·exact q_p (fun _ => bd64_0 rfl) <| q_st 0 rfl rfl rfl (by decide) rfl <| q_outm (fun S hS => hS.lda 0 rfl rfl) (tb_of (α := TIntsResult) (β := Int × (List Int)) (f := fun x => (x.Code, x.List)) (x := (⟨y1, []⟩ : TIntsResult)) rfl (tb_pair (tb_int (n := y1)) (tb_nil (α := Int) (fl := true)))) rfl
  ·refine q_lda 1 rfl rfl rfl <| q_c1s (mg := m68 a1 a2) (fun S hS => argF2 cv_r (cv_a (cvs_e (l0 := false) (x := a2))) hS fun l0_ l1_ => w68 (by omega) l0_ a1 l1_ a2) fun y2 hy2 i1 v1 => q_ph (fun S hS => bd64_1 (by simp only [afill, plc, gd, List.getD_cons_zero, List.getD_cons_succ, List.getElem?_cons_zero, List.getElem?_cons_succ, hS.cell1t 0 rfl]; rfl)) ?_
   exact q_st 1 rfl rfl rfl (by decide) rfl <| q_outm (fun S hS => hS.lda 1 rfl rfl) (tb_of (α := TIntsResult) (β := Int × (List Int)) (f := fun x => (x.Code, x.List)) (x := (⟨0, y2⟩ : TIntsResult)) rfl (tb_pair (tb_int (n := 0)) (tb_tr 0 rfl))) rfl
theorem w32f {d : Nat} (hd : 138 ≤ d) (a0 : Int) (k1 : Bool) (a1 : List TVote) (k2 : Bool) (a2 : TReply) : Fit (R NN d 32 [.int .i64 a0, .rsl k1 false (a1.map (Enc.cs k1)), .agg (Enc.cs k2 a2)] []) (m32 a0 a1 a2) (P0 (fun (t : TIntsResult) => AV.agg (Enc.cs false t))) := p1_agg (w32 hd a0 k1 a1 k2 a2)
def ms23_0 (a0 : List Int) (a1 : List Int) (s1 : Bool × Int) : Option (LO (Bool × Int)) :=
 bif decide (s1.2 < (a0.length : Int)) then
  (getI a0 s1.2).bind fun x1 =>
  (getI a1 s1.2).bind fun x2 =>
  bif x1 != x2 then
   some (LO.ret (false, s1.2))
  else
   some (LO.norm (s1.1, wi .i64 (s1.2 + 1)))
 else
  some (LO.exit 0 (s1.1, s1.2))
def m23 (a0 : List Int) (a1 : List Int) : Option (Bool) :=
 bif (a0.length : Int) != (a1.length : Int) then
  some false
 else
  (loopO (ms23_0 a0 a1) NN (false, 0)).bind (contO (fun _ => none) (fun i1 s2 =>
   if i1 = 0 then
    some true
   else
    none) (fun s2 =>
   some s2.1))
theorem w23 {d : Nat} (hd : 1 ≤ d) (k0 : Bool) (a0 : List Int) (k1 : Bool) (a1 : List Int) : Fit (R NN d 23 [.rsl k0 false (a0.map (Enc.cs k0)), .rsl k1 false (a1.map (Enc.cs k1))] []) (m23 a0 a1) (P0 (fun (t : Bool) => AV.bool t)) := by
  obtain ⟨d, rfl, g⟩ := up hd
  refine q_in (t23 NN d _ _) ?_
  unfold b23 m23
  refine q_len <| q_len <| q_p fr <| q_if (fun h3 => ?_) (fun h3 => ?_)
  ·exact q_ret (cv_p rfl) rfl
  ·refine q_loop (I := (fun (s : Bool × Int) l L => l = [.bool s.1, .int .i64 s.2] ∧ L = [])) 0 ⟨rfl, rfl⟩ ?_ ?_ ?_
   ·rintro s1 _ _ ⟨rfl, rfl⟩
    unfold s23_0 ms23_0
    refine q_len <| q_p fr <| q_if (fun h2 => ?_) (fun h2 => ?_)
    ·refine q_ix rfl fun x1 hx1 => q_p fr <| q_ix rfl fun x2 hx2 => q_p fr <| q_p fr <| q_if (fun h1 => ?_) (fun h1 => ?_)
     ·exact q_lret 0 ⟨rfl, rfl⟩
     ·exact q_p fr <| q_norm 0 ⟨rfl, rfl⟩
    ·exact q_exit 0 ⟨rfl, rfl⟩
   ·rintro i1 s2 _ _ ⟨rfl, rfl⟩
    refine q_ite (fun _ => ?_) (fun _ => ?_)
    ·exact q_ret (cv_p rfl) rfl
    ·exact q_none
   ·rintro s2 _ _ ⟨rfl, rfl⟩
    exact q_ret (cv_p rfl) rfl
def m33 (a0 : TIntsResult) (a1 : TIntsResult) : Option (Bool) :=
 bif a0.Code != a1.Code then
  some false
 else
  (m23 a0.List a1.List).bind fun y1 =>
  bif !y1 then
   some false
  else
   some true
theorem w33 {d : Nat} (hd : 2 ≤ d) (k0 : Bool) (a0 : TIntsResult) (k1 : Bool) (a1 : TIntsResult) : Fit (R NN d 33 [.agg (Enc.cs k0 a0), .agg (Enc.cs k1 a1)] []) (m33 a0 a1) (P0 (fun (t : Bool) => AV.bool t)) := by
  obtain ⟨d, rfl, g⟩ := up hd
  refine q_in (t33 NN d _ _) ?_
  unfold b33 m33
  refine q_box (n := 2) rfl rfl (by decide) fun b1 => q_box (n := 2) rfl rfl (by decide) fun b2 => q_p fr <| q_ld 1 rfl rfl <| q_p fr <| q_ld 0 rfl rfl <| q_p fr <| q_if (fun h2 => ?_) (fun h2 => ?_)
  ·exact q_ret (cv_p rfl) rfl
  ·refine q_p fr <| q_ld 1 rfl rfl <| q_p fr <| q_ld 0 rfl rfl <| q_c0 (fun S hS => argF2 cv_r cv_r hS fun l0_ l1_ => w23 (by omega) l0_ a0.List l1_ a1.List) fun y1 hy1 => q_p fr <| q_if (fun h1 => ?_) (fun h1 => ?_)
   ·exact q_ret (cv_p rfl) rfl
   ·exact q_ret (cv_p rfl) rfl
def m113 (a0 : TReply) (a1 : TReply) : Bool :=
 bif a0.Code != a1.Code then
  false
 else
  bif a0.Value != a1.Value then
   false
  else
   bif !(a0.Path == a1.Path) then
    false
   else
    true
theorem w113 {d : Nat} (hd : 1 ≤ d) (k0 : Bool) (a0 : TReply) (k1 : Bool) (a1 : TReply) : Fit (R NN d 113 [.agg (Enc.cs k0 a0), .agg (Enc.cs k1 a1)] []) (some (m113 a0 a1)) (P0 (fun (t : Bool) => AV.bool t)) := by
  obtain ⟨d, rfl, g⟩ := up hd
  refine q_in (t113 NN d _ _) ?_
  unfold b113 m113
  refine q_box (n := 3) rfl rfl (by decide) fun b1 => q_box (n := 3) rfl rfl (by decide) fun b2 => q_p fr <| q_ld 1 rfl rfl <| q_p fr <| q_ld 0 rfl rfl <| q_p fr <| q_ift (fun h3 => ?_) (fun h3 => ?_)
  ·exact q_ret (cv_p rfl) rfl
  ·refine q_p fr <| q_ld 1 rfl rfl <| q_p fr <| q_ld 0 rfl rfl <| q_p fr <| q_ift (fun h2 => ?_) (fun h2 => ?_)
   ·exact q_ret (cv_p rfl) rfl
   ·refine q_p fr <| q_ld 1 rfl rfl <| q_p fr <| q_ld 0 rfl rfl <| q_p (fun _ => seq_neq2) <| q_ift (fun h1 => ?_) (fun h1 => ?_)
    ·exact q_ret (cv_p rfl) rfl
    ·exact q_ret (cv_p rfl) rfl
def m69 (a0 : TVote) (a1 : TVote) : Bool :=
 bif a0.From != a1.From then
  false
 else
  bif !(m113 a0.Reply a1.Reply) then
   false
  else
   true
theorem w69 {d : Nat} (hd : 2 ≤ d) (k0 : Bool) (a0 : TVote) (k1 : Bool) (a1 : TVote) : Fit (R NN d 69 [.agg (Enc.cs k0 a0), .agg (Enc.cs k1 a1)] []) (some (m69 a0 a1)) (P0 (fun (t : Bool) => AV.bool t)) := by
  obtain ⟨d, rfl, g⟩ := up hd
  refine q_in (t69 NN d _ _) ?_
  unfold b69 m69
  refine q_box (n := 4) rfl rfl (by decide) fun b1 => q_box (n := 4) rfl rfl (by decide) fun b2 => q_p fr <| q_ld 1 rfl rfl <| q_p fr <| q_ld 0 rfl rfl <| q_p fr <| q_ift (fun h2 => ?_) (fun h2 => ?_)
  ·exact q_ret (cv_p rfl) rfl
  ·refine q_p fr <| q_lda 1 rfl rfl rfl <| q_p fr <| q_lda 0 rfl rfl rfl <| q_c0t (fun S hS => argF2 (cv_a (cvs_e (l0 := false) (x := a0.Reply))) (cv_a (cvs_e (l0 := false) (x := a1.Reply))) hS fun l0_ l1_ => w113 (by omega) l0_ a0.Reply l1_ a1.Reply) <| q_p fr <| q_ift (fun h1 => ?_) (fun h1 => ?_)
   ·exact q_ret (cv_p rfl) rfl
   ·exact q_ret (cv_p rfl) rfl
def ms34_0 (a0 : List TVote) (a1 : List TVote) (s1 : Bool × Int) : Option (LO (Bool × Int)) :=
 bif decide (s1.2 < (a0.length : Int)) then
  (getI a0 s1.2).bind fun x1 =>
  (getI a1 s1.2).bind fun x2 =>
  bif !(m69 x1 x2) then
   some (LO.ret (false, s1.2))
  else
   some (LO.norm (s1.1, wi .i64 (s1.2 + 1)))
 else
  some (LO.exit 0 (s1.1, s1.2))
def m34 (a0 : List TVote) (a1 : List TVote) : Option (Bool) :=
 bif (a0.length : Int) != (a1.length : Int) then
  some false
 else
  (loopO (ms34_0 a0 a1) NN (false, 0)).bind (contO (fun _ => none) (fun i1 s2 =>
   if i1 = 0 then
    some true
   else
    none) (fun s2 =>
   some s2.1))
theorem w34 {d : Nat} (hd : 3 ≤ d) (k0 : Bool) (a0 : List TVote) (k1 : Bool) (a1 : List TVote) : Fit (R NN d 34 [.rsl k0 false (a0.map (Enc.cs k0)), .rsl k1 false (a1.map (Enc.cs k1))] []) (m34 a0 a1) (P0 (fun (t : Bool) => AV.bool t)) := by
  obtain ⟨d, rfl, g⟩ := up hd
  refine q_in (t34 NN d _ _) ?_
  unfold b34 m34
  refine q_len <| q_len <| q_p fr <| q_if (fun h3 => ?_) (fun h3 => ?_)
  ·exact q_ret (cv_p rfl) rfl
  ·refine q_loop (I := (fun (s : Bool × Int) l L => l = [.bool s.1, .int .i64 s.2] ∧ L = [])) 0 ⟨rfl, rfl⟩ ?_ ?_ ?_
   ·rintro s1 _ _ ⟨rfl, rfl⟩
    unfold s34_0 ms34_0
    refine q_len <| q_p fr <| q_if (fun h2 => ?_) (fun h2 => ?_)
    ·refine q_ix rfl fun x1 hx1 => q_p fr <| q_ix rfl fun x2 hx2 => q_p fr <| q_c0t (fun S hS => argF2 (cv_a (cvs_e (l0 := k0) (x := x1))) (cv_a (cvs_e (l0 := k1) (x := x2))) hS fun l0_ l1_ => w69 (by omega) l0_ x1 l1_ x2) <| q_p fr <| q_if (fun h1 => ?_) (fun h1 => ?_)
     ·exact q_lret 0 ⟨rfl, rfl⟩
     ·exact q_p fr <| q_norm 0 ⟨rfl, rfl⟩
    ·exact q_exit 0 ⟨rfl, rfl⟩
   ·rintro i1 s2 _ _ ⟨rfl, rfl⟩
    refine q_ite (fun _ => ?_) (fun _ => ?_)
    ·exact q_ret (cv_p rfl) rfl
    ·exact q_none
   ·rintro s2 _ _ ⟨rfl, rfl⟩
    exact q_ret (cv_p rfl) rfl
def ms70_0 (s1 : Int × Str) : Option (LO (Int × Str)) :=
 bif decide (s1.1 > 0) then
  (catO ([UInt8.ofNat (Int.toNat (wi .u8 (wi .i64 (48 + (Int.tmod s1.1 10)))))] : Str) s1.2).bind fun t1 =>
  some (LO.norm (wi .i64 (Int.tdiv s1.1 10), t1))
 else
  some (LO.exit 0 (s1.1, s1.2))
def m70 (a0 : Int) : Option (Str) :=
 bif decide (a0 ≤ 0) then
  some ([109, 48] : Str)
 else
  (loopO (ms70_0) NN (a0, ([] : Str))).bind (contO (fun _ => none) (fun i1 s2 =>
   if i1 = 0 then
    (catO ([109] : Str) s2.2).bind fun t2 =>
    some t2
   else
    none) (fun s2 =>
   some ([] : Str)))
theorem w70 {d : Nat} (hd : 1 ≤ d) (a0 : Int) : Fit (R NN d 70 [.int .i64 a0] []) (m70 a0) (P0 encS) := by
  obtain ⟨d, rfl, g⟩ := up hd
  refine q_in (t70 NN d _) ?_
  unfold b70 m70
  refine q_p fr <| q_if (fun h2 => ?_) (fun h2 => ?_)
  ·exact q_ret (cv_p rfl) rfl
  ·refine q_loop (I := (fun (s : Int × Str) l L => l = [.int .i64 s.1, encS s.2] ∧ L = [])) 0 ⟨rfl, rfl⟩ ?_ ?_ ?_
   ·rintro s1 _ _ ⟨rfl, rfl⟩
    unfold s70_0 ms70_0
    refine q_p fr <| q_if (fun h1 => ?_) (fun h1 => ?_)
    ·exact q_p fr <| q_p fr <| q_p (fun _ => cvt3_5 _ _) <| q_e (fun _ => bs137_1 rfl) <| q_p (fun _ => cvb137_9 _ _) <| q_cat2 fun t1 ht1 => q_p fr <| q_norm 0 ⟨rfl, rfl⟩
    ·exact q_exit 0 ⟨rfl, rfl⟩
   ·rintro i1 s2 _ _ ⟨rfl, rfl⟩
    refine q_ite (fun _ => ?_) (fun _ => ?_)
    ·exact q_cat fun t2 ht2 => q_ret (cv_p rfl) rfl
    ·exact q_none
   ·rintro s2 _ _ ⟨rfl, rfl⟩
    exact q_ret (cv_p rfl) rfl
def ms35_0 (s1 : Int × Int × (List TVote)) : Option (LO (Int × Int × (List TVote))) :=
 bif decide (s1.2.1 < (s1.2.2.length : Int)) then
  (getI s1.2.2 s1.2.1).bind fun x1 =>
  letO (s1.2.2.set (Int.toNat s1.2.1) ({ x1 with From := s1.1 })) fun z1 =>
  (getI z1 s1.2.1).bind fun x2 =>
  letO (z1.set (Int.toNat s1.2.1) ({ x2 with Reply := { x2.Reply with Code := wi .i64 (s1.1 + 1) } })) fun z2 =>
  (getI z2 s1.2.1).bind fun x3 =>
  letO (z2.set (Int.toNat s1.2.1) ({ x3 with Reply := { x3.Reply with Value := wi .i64 ((wi .i64 (s1.1 + 1)) + 1) } })) fun z3 =>
  (m70 (wi .i64 ((wi .i64 ((wi .i64 (s1.1 + 1)) + 1)) + 1))).bind fun y1 =>
  (getI z3 s1.2.1).bind fun x4 =>
  letO (z3.set (Int.toNat s1.2.1) ({ x4 with Reply := { x4.Reply with Path := y1 } })) fun z4 =>
  some (LO.norm (wi .i64 ((wi .i64 ((wi .i64 ((wi .i64 (s1.1 + 1)) + 1)) + 1)) + 1), wi .i64 (s1.2.1 + 1), z4))
 else
  some (LO.exit 0 (s1.1, s1.2.1, s1.2.2))
def m35 (a0 : List TVote) (a1 : Int) : Option (Int × (List TVote)) :=
 (loopO (ms35_0) NN (a1, 0, a0)).bind (contO (fun _ => none) (fun i1 s2 =>
  if i1 = 0 then
   some (s2.1, s2.2.2)
  else
   none) (fun s2 =>
  some (0, s2.2.2)))
theorem w35 {d : Nat} (hd : 2 ≤ d) (L0 : List En) (i0_ : List Nat) (c0_0 : AV) (a0 : List TVote) (a1 : Int) : Okh (tr i0_ [c0_0] (a0 : List TVote) :: L0) (fun S => R NN d 35 [c0_0, .int .i64 a1] S) (m35 a0 a1) (P2 (fun (t : Int × (List TVote)) => AV.int .i64 t.1) (fun (t : Int × (List TVote)) => tr i0_ [c0_0] t.2 :: L0)) := by
  obtain ⟨d, rfl, g⟩ := up hd
  refine q_to (t35 NN d _ _) ?_
  unfold b35 m35
  refine q_loop (I := (fun (s : Int × Int × (List TVote)) l L => l = [.int .i64 s.1, .int .i64 s.2.1] ∧ L = tr i0_ [c0_0] (s.2.2 : List TVote) :: L0)) 0 ⟨rfl, rfl⟩ ?_ ?_ ?_
  ·rintro s1 _ _ ⟨rfl, rfl⟩
   unfold s35_0 ms35_0
   refine q_lent 0 rfl <| q_p fr <| q_if (fun h1 => ?_) (fun h1 => ?_)
   ·refine q_ixt 0 rfl rfl fun x1 hx1 => q_flt 0 rfl hx1 (by decide) <| q_stl 0 rfl rfl hx1 rfl (up103_From s1.1) fun z1 hz1 => q_p fr <| q_ixt 0 rfl rfl fun x2 hx2 => q_flt 0 rfl hx2 (by decide) <| q_flt2 0 rfl hx2 (by decide) <| q_stl 0 rfl rfl hx2 rfl (up103_Reply_Code (wi .i64 (s1.1 + 1))) fun z2 hz2 => q_p fr <| q_ixt 0 rfl rfl fun x3 hx3 => q_flt 0 rfl hx3 (by decide) <| q_flt2 0 rfl hx3 (by decide) <| q_stl 0 rfl rfl hx3 rfl (up103_Reply_Value (wi .i64 ((wi .i64 (s1.1 + 1)) + 1))) fun z3 hz3 => ?_
    exact q_p fr <| q_c0 (fun S hS => argF1 (cv_p rfl) hS fun l0_ => w70 (by omega) (wi .i64 ((wi .i64 ((wi .i64 (s1.1 + 1)) + 1)) + 1))) fun y1 hy1 => q_ixt 0 rfl rfl fun x4 hx4 => q_flt 0 rfl hx4 (by decide) <| q_flt2 0 rfl hx4 (by decide) <| q_stl 0 rfl rfl hx4 rfl (up103_Reply_Path y1) fun z4 hz4 => q_p fr <| q_p fr <| q_norm 0 ⟨rfl, rfl⟩
   ·exact q_exit 0 ⟨rfl, rfl⟩
  ·rintro i1 s2 _ _ ⟨rfl, rfl⟩
   refine q_ite (fun _ => ?_) (fun _ => ?_)
   ·exact q_ret2 0 rfl rfl
   ·exact q_none
  ·rintro s2 _ _ ⟨rfl, rfl⟩
   exact q_ret2 0 rfl rfl
def ms24_0 (s1 : Int × Int × (List Int)) : Option (LO (Int × Int × (List Int))) :=
 bif decide (s1.2.1 < (s1.2.2.length : Int)) then
  (getI s1.2.2 s1.2.1).bind fun x1 =>
  letO (s1.2.2.set (Int.toNat s1.2.1) s1.1) fun z1 =>
  some (LO.norm (wi .i64 (s1.1 + 1), wi .i64 (s1.2.1 + 1), z1))
 else
  some (LO.exit 0 (s1.1, s1.2.1, s1.2.2))
def m24 (a0 : List Int) (a1 : Int) : Option (Int × (List Int)) :=
 (loopO (ms24_0) NN (a1, 0, a0)).bind (contO (fun _ => none) (fun i1 s2 =>
  if i1 = 0 then
   some (s2.1, s2.2.2)
  else
   none) (fun s2 =>
  some (0, s2.2.2)))
theorem w24 {d : Nat} (hd : 1 ≤ d) (L0 : List En) (i0_ : List Nat) (c0_0 : AV) (a0 : List Int) (a1 : Int) : Okh (tr i0_ [c0_0] (a0 : List Int) :: L0) (fun S => R NN d 24 [c0_0, .int .i64 a1] S) (m24 a0 a1) (P2 (fun (t : Int × (List Int)) => AV.int .i64 t.1) (fun (t : Int × (List Int)) => tr i0_ [c0_0] t.2 :: L0)) := by
  obtain ⟨d, rfl, g⟩ := up hd
  refine q_to (t24 NN d _ _) ?_
  unfold b24 m24
  refine q_loop (I := (fun (s : Int × Int × (List Int)) l L => l = [.int .i64 s.1, .int .i64 s.2.1] ∧ L = tr i0_ [c0_0] (s.2.2 : List Int) :: L0)) 0 ⟨rfl, rfl⟩ ?_ ?_ ?_
  ·rintro s1 _ _ ⟨rfl, rfl⟩
   unfold s24_0 ms24_0
   refine q_lent 0 rfl <| q_p fr <| q_if (fun h1 => ?_) (fun h1 => ?_)
   ·exact q_ixt 0 rfl rfl fun x1 hx1 => q_stl0 0 rfl rfl hx1 rfl (up_int (n := s1.1)) fun z1 hz1 => q_p fr <| q_p fr <| q_norm 0 ⟨rfl, rfl⟩
   ·exact q_exit 0 ⟨rfl, rfl⟩
  ·rintro i1 s2 _ _ ⟨rfl, rfl⟩
   refine q_ite (fun _ => ?_) (fun _ => ?_)
   ·exact q_ret2 0 rfl rfl
   ·exact q_none
  ·rintro s2 _ _ ⟨rfl, rfl⟩
   exact q_ret2 0 rfl rfl
def m36 (a0 : TIntsResult) (a1 : Int) : Option (Int × TIntsResult) :=
 (m24 a0.List a1).bind fun y1 =>
 letO ({ a0 with List := y1.2 }) fun z1 =>
 some (y1.1, z1)
theorem w36 {d : Nat} (hd : 2 ≤ d) (L0 : List En) (i0_ : List Nat) (c0_0 c0_1 : AV) (a0 : TIntsResult) (a1 : Int) : Okh (tr i0_ [c0_0, c0_1] (a0 : TIntsResult) :: L0) (fun S => R NN d 36 [.agg [c0_0, c0_1], .int .i64 a1] S) (m36 a0 a1) (P2 (fun (t : Int × TIntsResult) => AV.int .i64 t.1) (fun (t : Int × TIntsResult) => tr i0_ [c0_0, c0_1] t.2 :: L0)) := by
  obtain ⟨d, rfl, g⟩ := up hd
  refine q_to (t36 NN d _ _) ?_
  unfold b36 m36
  exact q_box (n := 2) rfl rfl (by decide) fun b1 => q_p fr <| q_ld 0 rfl rfl <| q_sel 2 [1, 0] (by decide) (by decide) <| q_prt fo64_List rfl fun ic1 => q_s (mg := m24 a0.List a1) (w24 (by omega) _ ic1 c0_1 a0.List a1) fun y1 hy1 => q_putl fun z1 hz1 => q_sel 2 [1, 0] (by decide) (by decide) <| q_ret2 1 rfl rfl
def ms71_0 (a0 : List Int) (s1 : Int × Int × Int) : Option (LO (Int × Int × Int)) :=
 bif decide (s1.2.2 < (a0.length : Int)) then
  (getI a0 s1.2.2).bind fun x1 =>
  bif x1 != s1.1 then
   some (LO.ret (s1.1, (-1), s1.2.2))
  else
   some (LO.norm (wi .i64 (s1.1 + 1), s1.2.1, wi .i64 (s1.2.2 + 1)))
 else
  some (LO.exit 0 (s1.1, s1.2.1, s1.2.2))
def m71 (a0 : List Int) (a1 : Int) : Option (Int) :=
 (loopO (ms71_0 a0) NN (a1, 0, 0)).bind (contO (fun _ => none) (fun i1 s2 =>
  if i1 = 0 then
   some s2.1
  else
   none) (fun s2 =>
  some s2.2.1))
theorem w71 {d : Nat} (hd : 1 ≤ d) (k0 : Bool) (a0 : List Int) (a1 : Int) : Fit (R NN d 71 [.rsl k0 false (a0.map (Enc.cs k0)), .int .i64 a1] []) (m71 a0 a1) (P0 (fun (t : Int) => AV.int .i64 t)) := by
  obtain ⟨d, rfl, g⟩ := up hd
  refine q_in (t71 NN d _ _) ?_
  unfold b71 m71
  refine q_loop (I := (fun (s : Int × Int × Int) l L => l = [.int .i64 s.1, .int .i64 s.2.1, .int .i64 s.2.2] ∧ L = [])) 0 ⟨rfl, rfl⟩ ?_ ?_ ?_
  ·rintro s1 _ _ ⟨rfl, rfl⟩
   unfold s71_0 ms71_0
   refine q_len <| q_p fr <| q_if (fun h2 => ?_) (fun h2 => ?_)
   ·refine q_ix rfl fun x1 hx1 => q_p fr <| q_p fr <| q_if (fun h1 => ?_) (fun h1 => ?_)
    ·exact q_lret 0 ⟨rfl, rfl⟩
    ·exact q_p fr <| q_p fr <| q_norm 0 ⟨rfl, rfl⟩
   ·exact q_exit 0 ⟨rfl, rfl⟩
  ·rintro i1 s2 _ _ ⟨rfl, rfl⟩
   refine q_ite (fun _ => ?_) (fun _ => ?_)
   ·exact q_ret (cv_p rfl) rfl
   ·exact q_none
  ·rintro s2 _ _ ⟨rfl, rfl⟩
   exact q_ret (cv_p rfl) rfl
def m37 (a0 : TIntsResult) (a1 : Int) : Option (Int) :=
 (m71 a0.List a1).bind fun y1 =>
 bif decide (y1 < 0) then
  some (-1)
 else
  some y1
theorem w37 {d : Nat} (hd : 2 ≤ d) (k0 : Bool) (a0 : TIntsResult) (a1 : Int) : Fit (R NN d 37 [.agg (Enc.cs k0 a0), .int .i64 a1] []) (m37 a0 a1) (P0 (fun (t : Int) => AV.int .i64 t)) := by
  obtain ⟨d, rfl, g⟩ := up hd
  refine q_in (t37 NN d _ _) ?_
  unfold b37 m37
  refine q_box (n := 2) rfl rfl (by decide) fun b1 => q_p fr <| q_ld 0 rfl rfl <| q_c0 (fun S hS => argF2 cv_r (cv_p rfl) hS fun l0_ l1_ => w71 (by omega) l0_ a0.List a1) fun y1 hy1 => q_p fr <| q_if (fun h1 => ?_) (fun h1 => ?_)
  ·exact q_ret (cv_p rfl) rfl
  ·exact q_ret (cv_p rfl) rfl
def m5 (a0 : Int) (a1 : List TVote) (a2 : TReply) : Option (Bool) :=
 (m27 a1 1048576).bind fun y1 =>
 bif decide (y1 < 0) then
  some true
 else
  bif decide ((m28 a2 y1) < 0) then
   some true
  else
   (m30 a1).bind fun y2 =>
   (m29 a0 y2 (m31 a2)).bind fun y3 =>
   (m30 a1).bind fun y4 =>
   (m32 a0 y4 (m31 a2)).bind fun y5 =>
   (m33 y5 y3).bind fun y6 =>
   bif !y6 then
    some false
   else
    (m30 a1).bind fun y7 =>
    (m34 y4 y7).bind fun y8 =>
    bif !y8 then
     some false
    else
     (m35 y4 1).bind fun y9 =>
     (
      bif decide (y9.1 < 0) then
       some (LO.ret false)
      else
       (m33 y5 y3).bind fun y10 =>
       bif !y10 then
        some (LO.ret false)
       else
        some (LO.norm false)).bind (contO (fun s2 =>
      (m36 y5 1).bind fun y11 =>
      (m37 y11.2 1).bind fun y12 =>
      bif decide (y12 < 0) then
       some false
      else
       bif y12 != y11.1 then
        some false
       else
        (m30 a1).bind fun y13 =>
        (m32 a0 y13 (m31 a2)).bind fun y14 =>
        (m33 y14 y3).bind fun y15 =>
        bif !y15 then
         some false
        else
         (m37 y11.2 1).bind fun y16 =>
         bif decide (y16 < 0) then
          some false
         else
          bif y16 != y11.1 then
           some false
          else
           some true) (fun i4 s2 =>
      none) (fun s2 =>
      some s2))
theorem w5 {d : Nat} (hd : 139 ≤ d) (a0 : Int) (k1 : Bool) (a1 : List TVote) (k2 : Bool) (a2 : TReply) : Fit (R NN d 5 [.int .i64 a0, .rsl k1 false (a1.map (Enc.cs k1)), .agg (Enc.cs k2 a2)] []) (m5 a0 a1 a2) (P0 (fun (t : Bool) => AV.bool t)) := by
  obtain ⟨d, rfl, g⟩ := up hd
  refine q_in (t5 NN d _ _ _) ?_
  unfold b5 m5
  refine q_box (n := 3) rfl rfl (by decide) fun b1 => q_c0 (fun S hS => argF2 cv_r (cv_p rfl) hS fun l0_ l1_ => w27 (by omega) l0_ a1 1048576) fun y1 hy1 => q_p fr <| q_if (fun h11 => ?_) (fun h11 => ?_)
  ·exact q_ret (cv_p rfl) rfl
  ·refine q_lda 0 rfl rfl rfl <| q_c0t (fun S hS => argF2 (cv_a (cvs_e (l0 := false) (x := a2))) (cv_p rfl) hS fun l0_ l1_ => w28 (by omega) l0_ a2 y1) <| q_p fr <| q_if (fun h10 => ?_) (fun h10 => ?_)
   ·exact q_ret (cv_p rfl) rfl
   ·refine q_new rfl fun b2 => q_c0 (fun S hS => argF1 cv_r hS fun l0_ => w30f (by omega) l0_ a1) fun y2 hy2 => q_lda 1 rfl rfl rfl <| q_c0t (fun S hS => argF1 (cv_a (cvs_e (l0 := false) (x := a2))) hS fun l0_ => w31 (by omega) l0_ a2) <| q_c0 (fun S hS => argF3 (cv_p rfl) cv_r (cv_a (cvs_e (l0 := false) (x := (m31 a2)))) hS fun l0_ l1_ l2_ => w29 (by omega) a0 l1_ y2 l2_ (m31 a2)) fun y3 hy3 => q_st 0 rfl rfl rfl (by decide) rfl <| q_c1s (mg := m30 a1) (fun S hS => argF1 cv_r hS fun l0_ => w30 (by omega) l0_ a1) fun y4 hy4 i1 v1 => q_lda 2 rfl rfl rfl <| q_c0t (fun S hS => argF1 (cv_a (cvs_e (l0 := false) (x := a2))) hS fun l0_ => w31 (by omega) l0_ a2) <| q_c1 (W := AV.agg) (mg := m32 a0 y4 (m31 a2)) sh_agg (fun S hS => argF3 (cv_p rfl) (cv_tr 0 rfl) (cv_a (cvs_e (l0 := false) (x := (m31 a2)))) hS fun l0_ l1_ l2_ => w32 (by omega) a0 l1_ y4 l2_ (m31 a2)) fun y5 hy5 i2 cs2 => q_cx (fun S hS => trx64 (hS.get (k := 0) rfl)) fun hcs_ => ?_
    obtain ⟨v2, rfl⟩ := hcs_
    refine q_new rfl fun b3 => q_st 0 rfl rfl rfl (by decide) rfl <| q_lda 0 rfl rfl rfl <| q_lda 3 rfl rfl rfl <| q_c0 (fun S hS => argF2 (cv_a (cvs_tr 1 rfl)) (cv_a (cvs_e (l0 := false) (x := y3))) hS fun l0_ l1_ => w33 (by omega) l0_ y5 l1_ y3) fun y6 hy6 => q_p fr <| q_if (fun h9 => ?_) (fun h9 => ?_)
    ·exact q_ret (cv_p rfl) rfl
    ·refine q_c1s (mg := m30 a1) (fun S hS => argF1 cv_r hS fun l0_ => w30 (by omega) l0_ a1) fun y7 hy7 i3 v3 => q_c0 (fun S hS => argF2 (cv_tr 3 rfl) (cv_tr 0 rfl) hS fun l0_ l1_ => w34 (by omega) l0_ y4 l1_ y7) fun y8 hy8 => q_p fr <| q_if (fun h8 => ?_) (fun h8 => ?_)
     ·exact q_ret (cv_p rfl) rfl
     ·refine q_sel 6 [3, 0, 1, 2, 4, 5] (by decide) (by decide) <| q_s (mg := m35 y4 1) (w35 (by omega) _ i1 v1 y4 1) fun y9 hy9 => q_cut (I := (fun (s : Bool) l L => l = [.bool s] ∧ L = [tr i1 [v1] (y9.2 : List TVote), tr i3 [v3] (y7 : List TVote), bx b3 [.int .i64 y5.Code, v2], tr i2 [.int .i64 y5.Code, v2] (y5 : TIntsResult), bx b2 [.int .i64 y3.Code, .rsl false false (y3.List.map (Enc.cs false))], bx b1 [.int .i64 a2.Code, .int .i64 a2.Value, encS a2.Path]])) ?_ ?_ ?_ ?_
      ·refine q_p fr <| q_gF (fun h2 => ?_) (fun h2 => ?_)
       ·first | refine q_ifT1 ?_ | skip
        exact q_lret 0 ⟨rfl, rfl⟩
       ·refine q_lda 2 rfl rfl rfl <| q_lda 4 rfl rfl rfl <| q_c0 (fun S hS => argF2 (cv_a (cvs_tr 3 rfl)) (cv_a (cvs_e (l0 := false) (x := y3))) hS fun l0_ l1_ => w33 (by omega) l0_ y5 l1_ y3) fun y10 hy10 => q_p fr <| q_if (fun h1 => ?_) (fun h1 => ?_)
        ·exact q_lret 0 ⟨rfl, rfl⟩
        ·exact q_norm 0 ⟨rfl, rfl⟩
      ·rintro s2 _ _ ⟨rfl, rfl⟩
       refine q_lda 2 rfl rfl rfl <| q_sel 6 [3, 0, 1, 2, 4, 5] (by decide) (by decide) <| q_s (mg := m36 y5 1) (w36 (by omega) _ i2 (.int .i64 y5.Code) v2 y5 1) fun y11 hy11 => q_lda 3 rfl rfl rfl <| q_c0 (fun S hS => argF2 (cv_a (cvs_tr 0 rfl)) (cv_p rfl) hS fun l0_ l1_ => w37 (by omega) l0_ y11.2 1) fun y12 hy12 => q_p fr <| q_if (fun h7 => ?_) (fun h7 => ?_)
       ·exact q_ret (cv_p rfl) rfl
       ·refine q_p fr <| q_if (fun h6 => ?_) (fun h6 => ?_)
        ·exact q_ret (cv_p rfl) rfl
        ·refine q_new rfl fun b4 => q_c0 (fun S hS => argF1 cv_r hS fun l0_ => w30f (by omega) l0_ a1) fun y13 hy13 => q_lda 6 rfl rfl rfl <| q_c0t (fun S hS => argF1 (cv_a (cvs_e (l0 := false) (x := a2))) hS fun l0_ => w31 (by omega) l0_ a2) <| q_c0 (fun S hS => argF3 (cv_p rfl) cv_r (cv_a (cvs_e (l0 := false) (x := (m31 a2)))) hS fun l0_ l1_ l2_ => w32f (by omega) a0 l1_ y13 l2_ (m31 a2)) fun y14 hy14 => q_st 0 rfl rfl rfl (by decide) rfl <| q_lda 0 rfl rfl rfl <| q_lda 5 rfl rfl rfl <| q_c0 (fun S hS => argF2 (cv_a (cvs_e (l0 := false) (x := y14))) (cv_a (cvs_e (l0 := false) (x := y3))) hS fun l0_ l1_ => w33 (by omega) l0_ y14 l1_ y3) fun y15 hy15 => q_p fr <| q_if (fun h5 => ?_) (fun h5 => ?_)
         ·exact q_ret (cv_p rfl) rfl
         ·refine q_lda 4 rfl rfl rfl <| q_c0 (fun S hS => argF2 (cv_a (cvs_tr 1 rfl)) (cv_p rfl) hS fun l0_ l1_ => w37 (by omega) l0_ y11.2 1) fun y16 hy16 => q_p fr <| q_if (fun h4 => ?_) (fun h4 => ?_)
          ·exact q_ret (cv_p rfl) rfl
          ·refine q_p fr <| q_if (fun h3 => ?_) (fun h3 => ?_)
           ·exact q_ret (cv_p rfl) rfl
           ·exact q_ret (cv_p rfl) rfl
      ·rintro i4 s2 _ _ ⟨rfl, rfl⟩
       exact q_none
      ·rintro s2 _ _ ⟨rfl, rfl⟩
       exact q_ret (cv_p rfl) rfl
end
end Go.Proofs.Ytodfmofjncmdfaa
