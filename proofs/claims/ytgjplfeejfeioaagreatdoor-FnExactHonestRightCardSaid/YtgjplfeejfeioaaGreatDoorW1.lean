/- Plain functions, and that the evaluator computes them. -/
import Derived.Test.YtgjplfeejfeioaaGreatDoorT
import Derived.Test.YtgjplfeejfeioaaGreatDoorRh6
namespace Go.Proofs.YtgjplfeejfeioaaGreatDoor
open Go Go.Rf
set_option linter.unusedVariables false
noncomputable section
structure TReplica where
  Id : Int
  View : Int
  Start : Int
  Done : Int
  deriving DecidableEq
instance : Enc TReplica := (Enc.of fun x : TReplica => (x.Id, x.View, x.Start, x.Done)).copy (fun l x => [.int .i64 x.Id, .int .i64 x.View, .int .i64 x.Start, .int .i64 x.Done]) (fun _ _ => rfl) 4 0 rfl rfl
structure TCert where
  Slot : Int
  View : Int
  Value : Int
  deriving DecidableEq
instance : Enc TCert := (Enc.of fun x : TCert => (x.Slot, x.View, x.Value)).copy (fun l x => [.int .i64 x.Slot, .int .i64 x.View, .int .i64 x.Value]) (fun _ _ => rfl) 3 0 rfl rfl
structure TMsg where
  Kind : Int
  View : Int
  From : Int
  Slot : Int
  Value : Int
  Certs : List TCert
  Refs : List Int
  deriving DecidableEq
instance : Enc TMsg := (Enc.of fun x : TMsg => (x.Kind, x.View, x.From, x.Slot, x.Value, x.Certs, x.Refs)).copy (fun l x => [.int .i64 x.Kind, .int .i64 x.View, .int .i64 x.From, .int .i64 x.Slot, .int .i64 x.Value, .rsl l false (x.Certs.map (Enc.cs l)), .rsl l false (x.Refs.map (Enc.cs l))]) (fun _ _ => rfl) 7 1 rfl rfl
structure TOp where
  Kind : Int
  Path : Str
  Data : Int
  Version : Int
  Seq : Bool
  Own : Bool
  deriving DecidableEq
instance : Enc TOp := (Enc.of fun x : TOp => (x.Kind, x.Path, x.Data, x.Version, x.Seq, x.Own)).copy (fun l x => [.int .i64 x.Kind, encS x.Path, .int .i64 x.Data, .int .i64 x.Version, .bool x.Seq, .bool x.Own]) (fun _ _ => rfl) 6 0 rfl rfl
structure TRequest where
  Client : Int
  Number : Int
  Time : Int
  Ops : List TOp
  deriving DecidableEq
instance : Enc TRequest := (Enc.of fun x : TRequest => (x.Client, x.Number, x.Time, x.Ops)).copy (fun l x => [.int .i64 x.Client, .int .i64 x.Number, .int .i64 x.Time, .rsl l false (x.Ops.map (Enc.cs l))]) (fun _ _ => rfl) 4 1 rfl rfl
structure TCluster where
  F : Int
  Bad : List Int
  Replicas : List TReplica
  Ledger : List TMsg
  Requests : List TRequest
  deriving DecidableEq
instance : Enc TCluster := (Enc.of fun x : TCluster => (x.F, x.Bad, x.Replicas, x.Ledger, x.Requests)).copy (fun l x => [.int .i64 x.F, .rsl l false (x.Bad.map (Enc.cs l)), .rsl l false (x.Replicas.map (Enc.cs l)), .rsl l false (x.Ledger.map (Enc.cs l)), .rsl l false (x.Requests.map (Enc.cs l))]) (fun _ _ => rfl) 5 2 rfl rfl
theorem bneq42 (x y : Bool) : bin2 Tryz.prog .neq 4 (.bool x) (.bool y) = some (.bool (x != y)) := beq_neq2 (P := Tryz.prog) (t := 4) (by kernel_rfl)
theorem bd103 { r : AV} (hr : (afill (plc [(0, 1), (1, 1), (2, 1), (3, 1), (4, 1), (5, 1), (6, 1)]) [.int .i64 0, .int .i64 0, .int .i64 0, .int .i64 0, .int .i64 0, .rsl false true [], .rsl false true []] []).map AV.agg = some r) : abuild Tryz.prog 103 [] = some r := Eq.trans (by kernel_rfl) hr
theorem bd103_0_1_2_3_4 {x0 x1 x2 x3 x4 r : AV} (hr : (afill (plc [(0, 1), (1, 1), (2, 1), (3, 1), (4, 1), (5, 1), (6, 1)]) [.int .i64 0, .int .i64 0, .int .i64 0, .int .i64 0, .int .i64 0, .rsl false true [], .rsl false true []] [(0, x0), (1, x1), (2, x2), (3, x3), (4, x4)]).map AV.agg = some r) : abuild Tryz.prog 103 [(0, x0), (1, x1), (2, x2), (3, x3), (4, x4)] = some r := Eq.trans (by kernel_rfl) hr
theorem bd161_0_1_2 {x0 x1 x2 r : AV} (hr : (afill (plc [(0, 1), (1, 1), (2, 1)]) [.int .i64 0, .int .i64 0, .int .i64 0] [(0, x0), (1, x1), (2, x2)]).map AV.agg = some r) : abuild Tryz.prog 161 [(0, x0), (1, x1), (2, x2)] = some r := Eq.trans (by kernel_rfl) hr
theorem bs181_0 (S : St) : abuildS Tryz.prog 181 0 [] S = some (.rsl false true [], S) := by kernel_rfl
theorem bs181_1 {x0 r : AV} {S : St} (hr : (aparts 1 0 [(0, x0)]).map (fun es => mkS 1 es S) = some (r, S)) : abuildS Tryz.prog 181 1 [(0, x0)] S = some (r, S) := Eq.trans (by kernel_rfl) hr
theorem bs22_0 (S : St) : abuildS Tryz.prog 22 0 [] S = some (.rsl false true [], S) := by kernel_rfl
theorem bs22_1 {x0 r : AV} {S : St} (hr : (aparts 1 0 [(0, x0)]).map (fun es => mkS 1 es S) = some (r, S)) : abuildS Tryz.prog 22 1 [(0, x0)] S = some (r, S) := Eq.trans (by kernel_rfl) hr
theorem cv136_201 (run : FuncId → List AV → St → Option (AV × St)) (cap args : List AV) (S : St) : callV (cfg NN) run 136 (.fn 201 cap) args S = call0 run 201 (args ++ cap) S := by kernel_rfl
theorem cv139_140 (run : FuncId → List AV → St → Option (AV × St)) (cap args : List AV) (S : St) : callV (cfg NN) run 139 (.fn 140 cap) args S = call0 run 140 (args ++ cap) S := by kernel_rfl
theorem cv148_149 (run : FuncId → List AV → St → Option (AV × St)) (cap args : List AV) (S : St) : callV (cfg NN) run 148 (.fn 149 cap) args S = call0 run 149 (args ++ cap) S := by kernel_rfl
theorem cv154_198 (run : FuncId → List AV → St → Option (AV × St)) (cap args : List AV) (S : St) : callV (cfg NN) run 154 (.fn 198 cap) args S = call0 run 198 (args ++ cap) S := by kernel_rfl
theorem cv154_86 (run : FuncId → List AV → St → Option (AV × St)) (cap args : List AV) (S : St) : callV (cfg NN) run 154 (.fn 86 cap) args S = call0 run 86 (args ++ cap) S := by kernel_rfl
theorem cv205_138 (run : FuncId → List AV → St → Option (AV × St)) (cap args : List AV) (S : St) : callV (cfg NN) run 205 (.fn 138 cap) args S = call0 run 138 (args ++ cap) S := by kernel_rfl
theorem cv211_152 (run : FuncId → List AV → St → Option (AV × St)) (cap args : List AV) (S : St) : callV (cfg NN) run 211 (.fn 152 cap) args S = call0 run 152 (args ++ cap) S := by kernel_rfl
theorem cv211_194 (run : FuncId → List AV → St → Option (AV × St)) (cap args : List AV) (S : St) : callV (cfg NN) run 211 (.fn 194 cap) args S = call0 run 194 (args ++ cap) S := by kernel_rfl
theorem cv232_196 (run : FuncId → List AV → St → Option (AV × St)) (cap args : List AV) (S : St) : callV (cfg NN) run 232 (.fn 196 cap) args S = call0 run 196 (args ++ cap) S := by kernel_rfl
theorem cv232_197 (run : FuncId → List AV → St → Option (AV × St)) (cap args : List AV) (S : St) : callV (cfg NN) run 232 (.fn 197 cap) args S = call0 run 197 (args ++ cap) S := by kernel_rfl
theorem cvt208_3 (n : Int) (S : St) : aconv Tryz.prog 208 3 (.int .u64 n) S = some (.int .i64 (wi .i64 n)) := by kernel_rfl
theorem cvt241_5 (n : Int) (S : St) : aconv Tryz.prog 241 5 (.int .u32 n) S = some (.int .u8 (wi .u8 n)) := by kernel_rfl
theorem cvt243_5 (n : Int) (S : St) : aconv Tryz.prog 243 5 (.int .u64 n) S = some (.int .u8 (wi .u8 n)) := by kernel_rfl
theorem cvt3_208 (n : Int) (S : St) : aconv Tryz.prog 3 208 (.int .i64 n) S = some (.int .u64 (wi .u64 n)) := by kernel_rfl
theorem cvt3_255 (n : Int) (S : St) : aconv Tryz.prog 3 255 (.int .i64 n) S = some (.int .u64 (wi .u64 n)) := by kernel_rfl
theorem cvt5_3 (n : Int) (S : St) : aconv Tryz.prog 5 3 (.int .u8 n) S = some (.int .i64 (wi .i64 n)) := by kernel_rfl
theorem mk101 (S : St) (n : Nat) (h : (n + 1) * (24 + 1) ≤ 70368744177664) : amake Tryz.prog 101 (.int .i64 n) (.int .i64 n) S = some (.bsl S.length 0 n n true, S ++ [⟨3, List.replicate n [.int .i64 0, .int .i64 0, .int .i64 0], true⟩]) :=
  amake_ok (e := 161) (sz := 3) (by_ := 24) (z := [.int .i64 0, .int .i64 0, .int .i64 0]) (z0 := [.int .i64 0, .int .i64 0, .int .i64 0]) (by kernel_rfl) (by kernel_rfl) (by kernel_rfl) rfl rfl (by omega) rfl rfl h
theorem mk181 (S : St) (n : Nat) (h : (n + 1) * (16 + 1) ≤ 70368744177664) : amake Tryz.prog 181 (.int .i64 n) (.int .i64 n) S = some (.bsl S.length 0 n n true, S ++ [⟨1, List.replicate n [.str ⟨#[]⟩], true⟩]) :=
  amake_ok (e := 9) (sz := 1) (by_ := 16) (z := [.str ⟨#[]⟩]) (z0 := [.str ⟨#[]⟩]) (by kernel_rfl) (by kernel_rfl) (by kernel_rfl) rfl rfl (by omega) rfl rfl h
theorem mk22 (S : St) (n : Nat) (h : (n + 1) * (8 + 1) ≤ 70368744177664) : amake Tryz.prog 22 (.int .i64 n) (.int .i64 n) S = some (.bsl S.length 0 n n true, S ++ [⟨1, List.replicate n [.int .i64 0], true⟩]) :=
  amake_ok (e := 2) (sz := 1) (by_ := 8) (z := [.int .i64 0]) (z0 := [.int .i64 0]) (by kernel_rfl) (by kernel_rfl) (by kernel_rfl) rfl rfl (by omega) rfl rfl h
theorem mk30 (S : St) (n : Nat) (h : (n + 1) * (32 + 1) ≤ 70368744177664) : amake Tryz.prog 30 (.int .i64 n) (.int .i64 n) S = some (.bsl S.length 0 n n true, S ++ [⟨4, List.replicate n [.int .i64 0, .int .i64 0, .int .i64 0, .int .i64 0], true⟩]) :=
  amake_ok (e := 88) (sz := 4) (by_ := 32) (z := [.int .i64 0, .int .i64 0, .int .i64 0, .int .i64 0]) (z0 := [.int .i64 0, .int .i64 0, .int .i64 0, .int .i64 0]) (by kernel_rfl) (by kernel_rfl) (by kernel_rfl) rfl rfl (by omega) rfl rfl h
theorem mk31 (S : St) (n : Nat) (h : (n + 1) * (88 + 1) ≤ 70368744177664) : amake Tryz.prog 31 (.int .i64 n) (.int .i64 n) S = some (.bsl S.length 0 n n true, S ++ [⟨7, List.replicate n [.int .i64 0, .int .i64 0, .int .i64 0, .int .i64 0, .int .i64 0, .rsl false false [], .rsl false false []], false⟩]) :=
  amake_ok (e := 103) (sz := 7) (by_ := 88) (z := [.int .i64 0, .int .i64 0, .int .i64 0, .int .i64 0, .int .i64 0, .rsl false false [], .rsl false false []]) (z0 := [.int .i64 0, .int .i64 0, .int .i64 0, .int .i64 0, .int .i64 0, .rsl false true [], .rsl false true []]) (by kernel_rfl) (by kernel_rfl) (by kernel_rfl) rfl rfl (by omega) rfl rfl h
theorem mk32 (S : St) (n : Nat) (h : (n + 1) * (48 + 1) ≤ 70368744177664) : amake Tryz.prog 32 (.int .i64 n) (.int .i64 n) S = some (.bsl S.length 0 n n true, S ++ [⟨4, List.replicate n [.int .i64 0, .int .i64 0, .int .i64 0, .rsl false false []], false⟩]) :=
  amake_ok (e := 65) (sz := 4) (by_ := 48) (z := [.int .i64 0, .int .i64 0, .int .i64 0, .rsl false false []]) (z0 := [.int .i64 0, .int .i64 0, .int .i64 0, .rsl false true []]) (by kernel_rfl) (by kernel_rfl) (by kernel_rfl) rfl rfl (by omega) rfl rfl h
theorem mk63 (S : St) (n : Nat) (h : (n + 1) * (48 + 1) ≤ 70368744177664) : amake Tryz.prog 63 (.int .i64 n) (.int .i64 n) S = some (.bsl S.length 0 n n true, S ++ [⟨6, List.replicate n [.int .i64 0, .str ⟨#[]⟩, .int .i64 0, .int .i64 0, .bool false, .bool false], true⟩]) :=
  amake_ok (e := 151) (sz := 6) (by_ := 48) (z := [.int .i64 0, .str ⟨#[]⟩, .int .i64 0, .int .i64 0, .bool false, .bool false]) (z0 := [.int .i64 0, .str ⟨#[]⟩, .int .i64 0, .int .i64 0, .bool false, .bool false]) (by kernel_rfl) (by kernel_rfl) (by kernel_rfl) rfl rfl (by omega) rfl rfl h
theorem peql106n : abin Tryz.prog .eql 106 (.nilp) .nilp = some (.bool true) := by kernel_rfl
theorem peql106 (l : Bool) (cs : List AV) : abin Tryz.prog .eql 106 (.rp l cs) .nilp = some (.bool false) := by kernel_rfl
theorem sneq1612 (x0 : Int) (x1 : Int) (x2 : Int) (y0 : Int) (y1 : Int) (y2 : Int) : bin2 Tryz.prog .neq 161 (.agg [.int .i64 x0, .int .i64 x1, .int .i64 x2]) (.agg [.int .i64 y0, .int .i64 y1, .int .i64 y2]) = some (.bool (!((x0 == y0) && ((x1 == y1) && ((x2 == y2) && true))))) := by kernel_rfl
def m55 (a0 : List Int) (a1 : Int) : Int :=
 bif decide ((wi .i64 (a1 - (a0.length : Int))) < 0) then
  (-1)
 else
  wi .i64 (a1 - (a0.length : Int))
theorem w55 {d : Nat} (hd : 1 ≤ d) (k0 : Bool) (a0 : List Int) (a1 : Int) : Fit (R NN d 55 [.rsl k0 false (a0.map (Enc.cs k0)), .int .i64 a1] []) (some (m55 a0 a1)) (P0 (fun (t : Int) => AV.int .i64 t)) := by
  obtain ⟨d, rfl, g⟩ := up hd
  refine q_in (t55 NN d _ _) ?_
  unfold b55 m55
  refine q_len <| q_p fr <| q_p fr <| q_ift (fun h1 => ?_) (fun h1 => ?_)
  ·exact q_ret (cv_p rfl) rfl
  ·exact q_ret (cv_p rfl) rfl
def m56 (a0 : List TReplica) (a1 : Int) : Int :=
 bif decide ((wi .i64 (a1 - (a0.length : Int))) < 0) then
  (-1)
 else
  wi .i64 (a1 - (a0.length : Int))
theorem w56 {d : Nat} (hd : 1 ≤ d) (k0 : Bool) (a0 : List TReplica) (a1 : Int) : Fit (R NN d 56 [.rsl k0 false (a0.map (Enc.cs k0)), .int .i64 a1] []) (some (m56 a0 a1)) (P0 (fun (t : Int) => AV.int .i64 t)) := by
  obtain ⟨d, rfl, g⟩ := up hd
  refine q_in (t56 NN d _ _) ?_
  unfold b56 m56
  refine q_len <| q_p fr <| q_p fr <| q_ift (fun h1 => ?_) (fun h1 => ?_)
  ·exact q_ret (cv_p rfl) rfl
  ·exact q_ret (cv_p rfl) rfl
def m186 (a0 : List TCert) (a1 : Int) : Int :=
 bif decide ((wi .i64 (a1 - (a0.length : Int))) < 0) then
  (-1)
 else
  wi .i64 (a1 - (a0.length : Int))
theorem w186 {d : Nat} (hd : 1 ≤ d) (k0 : Bool) (a0 : List TCert) (a1 : Int) : Fit (R NN d 186 [.rsl k0 false (a0.map (Enc.cs k0)), .int .i64 a1] []) (some (m186 a0 a1)) (P0 (fun (t : Int) => AV.int .i64 t)) := by
  obtain ⟨d, rfl, g⟩ := up hd
  refine q_in (t186 NN d _ _) ?_
  unfold b186 m186
  refine q_len <| q_p fr <| q_p fr <| q_ift (fun h1 => ?_) (fun h1 => ?_)
  ·exact q_ret (cv_p rfl) rfl
  ·exact q_ret (cv_p rfl) rfl
def m119 (a0 : TMsg) (a1 : Int) : Int :=
 bif decide ((m186 a0.Certs a1) < 0) then
  (-1)
 else
  bif decide ((m55 a0.Refs (m186 a0.Certs a1)) < 0) then
   (-1)
  else
   (m55 a0.Refs (m186 a0.Certs a1))
theorem w119 {d : Nat} (hd : 2 ≤ d) (k0 : Bool) (a0 : TMsg) (a1 : Int) : Fit (R NN d 119 [.agg (Enc.cs k0 a0), .int .i64 a1] []) (some (m119 a0 a1)) (P0 (fun (t : Int) => AV.int .i64 t)) := by
  obtain ⟨d, rfl, g⟩ := up hd
  refine q_in (t119 NN d _ _) ?_
  unfold b119 m119
  refine q_box (n := 7) rfl rfl (by decide) fun b1 => q_p fr <| q_ld 0 rfl rfl <| q_c0t (fun S hS => argF2 cv_r (cv_p rfl) hS fun l0_ l1_ => w186 (by omega) l0_ a0.Certs a1) <| q_p fr <| q_ift (fun h2 => ?_) (fun h2 => ?_)
  ·exact q_ret (cv_p rfl) rfl
  ·refine q_p fr <| q_ld 0 rfl rfl <| q_c0t (fun S hS => argF2 cv_r (cv_p rfl) hS fun l0_ l1_ => w55 (by omega) l0_ a0.Refs (m186 a0.Certs a1)) <| q_p fr <| q_ift (fun h1 => ?_) (fun h1 => ?_)
   ·exact q_ret (cv_p rfl) rfl
   ·exact q_ret (cv_p rfl) rfl
def ms57_0 (a0 : List TMsg) (s1 : Int × Int × Int) : Option (LO (Int × Int × Int)) :=
 bif decide (s1.2.2 < (a0.length : Int)) then
  (getI a0 s1.2.2).bind fun x1 =>
  bif decide ((m119 x1 s1.1) < 0) then
   some (LO.ret ((m119 x1 s1.1), (-1), s1.2.2))
  else
   some (LO.norm ((m119 x1 s1.1), s1.2.1, wi .i64 (s1.2.2 + 1)))
 else
  some (LO.exit 0 (s1.1, s1.2.1, s1.2.2))
def m57 (a0 : List TMsg) (a1 : Int) : Option (Int) :=
 bif decide ((wi .i64 (a1 - (a0.length : Int))) < 0) then
  some (-1)
 else
  (loopO (ms57_0 a0) NN (wi .i64 (a1 - (a0.length : Int)), 0, 0)).bind (contO (fun _ => none) (fun i1 s2 =>
   if i1 = 0 then
    some s2.1
   else
    none) (fun s2 =>
   some s2.2.1))
theorem w57 {d : Nat} (hd : 3 ≤ d) (k0 : Bool) (a0 : List TMsg) (a1 : Int) : Fit (R NN d 57 [.rsl k0 false (a0.map (Enc.cs k0)), .int .i64 a1] []) (m57 a0 a1) (P0 (fun (t : Int) => AV.int .i64 t)) := by
  obtain ⟨d, rfl, g⟩ := up hd
  refine q_in (t57 NN d _ _) ?_
  unfold b57 m57
  refine q_len <| q_p fr <| q_p fr <| q_if (fun h3 => ?_) (fun h3 => ?_)
  ·exact q_ret (cv_p rfl) rfl
  ·refine q_loop (I := (fun (s : Int × Int × Int) l L => l = [.int .i64 s.1, .int .i64 s.2.1, .int .i64 s.2.2] ∧ L = [])) 0 ⟨rfl, rfl⟩ ?_ ?_ ?_
   ·rintro s1 _ _ ⟨rfl, rfl⟩
    unfold s57_0 ms57_0
    refine q_len <| q_p fr <| q_if (fun h2 => ?_) (fun h2 => ?_)
    ·refine q_ix rfl fun x1 hx1 => q_p fr <| q_c0t (fun S hS => argF2 (cv_a (cvs_e (l0 := k0) (x := x1))) (cv_p rfl) hS fun l0_ l1_ => w119 (by omega) l0_ x1 s1.1) <| q_p fr <| q_if (fun h1 => ?_) (fun h1 => ?_)
     ·exact q_lret 0 ⟨rfl, rfl⟩
     ·exact q_p fr <| q_norm 0 ⟨rfl, rfl⟩
    ·exact q_exit 0 ⟨rfl, rfl⟩
   ·rintro i1 s2 _ _ ⟨rfl, rfl⟩
    refine q_ite (fun _ => ?_) (fun _ => ?_)
    ·exact q_ret (cv_p rfl) rfl
    ·exact q_none
   ·rintro s2 _ _ ⟨rfl, rfl⟩
    exact q_ret (cv_p rfl) rfl
def m167 (a0 : TOp) (a1 : Int) : Int :=
 bif decide ((wi .i64 (a1 - (a0.Path.length : Int))) < 0) then
  (-1)
 else
  wi .i64 (a1 - (a0.Path.length : Int))
theorem w167 {d : Nat} (hd : 1 ≤ d) (k0 : Bool) (a0 : TOp) (a1 : Int) : Fit (R NN d 167 [.agg (Enc.cs k0 a0), .int .i64 a1] []) (some (m167 a0 a1)) (P0 (fun (t : Int) => AV.int .i64 t)) := by
  obtain ⟨d, rfl, g⟩ := up hd
  refine q_in (t167 NN d _ _) ?_
  unfold b167 m167
  refine q_box (n := 6) rfl rfl (by decide) fun b1 => q_p fr <| q_ld 0 rfl rfl <| q_slen <| q_p fr <| q_p fr <| q_ift (fun h1 => ?_) (fun h1 => ?_)
  ·exact q_ret (cv_p rfl) rfl
  ·exact q_ret (cv_p rfl) rfl
def ms102_0 (a0 : List TOp) (s1 : Int × Int × Int) : Option (LO (Int × Int × Int)) :=
 bif decide (s1.2.2 < (a0.length : Int)) then
  (getI a0 s1.2.2).bind fun x1 =>
  bif decide ((m167 x1 s1.1) < 0) then
   some (LO.ret ((m167 x1 s1.1), (-1), s1.2.2))
  else
   some (LO.norm ((m167 x1 s1.1), s1.2.1, wi .i64 (s1.2.2 + 1)))
 else
  some (LO.exit 0 (s1.1, s1.2.1, s1.2.2))
def m102 (a0 : List TOp) (a1 : Int) : Option (Int) :=
 bif decide ((wi .i64 (a1 - (a0.length : Int))) < 0) then
  some (-1)
 else
  (loopO (ms102_0 a0) NN (wi .i64 (a1 - (a0.length : Int)), 0, 0)).bind (contO (fun _ => none) (fun i1 s2 =>
   if i1 = 0 then
    some s2.1
   else
    none) (fun s2 =>
   some s2.2.1))
theorem w102 {d : Nat} (hd : 2 ≤ d) (k0 : Bool) (a0 : List TOp) (a1 : Int) : Fit (R NN d 102 [.rsl k0 false (a0.map (Enc.cs k0)), .int .i64 a1] []) (m102 a0 a1) (P0 (fun (t : Int) => AV.int .i64 t)) := by
  obtain ⟨d, rfl, g⟩ := up hd
  refine q_in (t102 NN d _ _) ?_
  unfold b102 m102
  refine q_len <| q_p fr <| q_p fr <| q_if (fun h3 => ?_) (fun h3 => ?_)
  ·exact q_ret (cv_p rfl) rfl
  ·refine q_loop (I := (fun (s : Int × Int × Int) l L => l = [.int .i64 s.1, .int .i64 s.2.1, .int .i64 s.2.2] ∧ L = [])) 0 ⟨rfl, rfl⟩ ?_ ?_ ?_
   ·rintro s1 _ _ ⟨rfl, rfl⟩
    unfold s102_0 ms102_0
    refine q_len <| q_p fr <| q_if (fun h2 => ?_) (fun h2 => ?_)
    ·refine q_ix rfl fun x1 hx1 => q_p fr <| q_c0t (fun S hS => argF2 (cv_a (cvs_e (l0 := k0) (x := x1))) (cv_p rfl) hS fun l0_ l1_ => w167 (by omega) l0_ x1 s1.1) <| q_p fr <| q_if (fun h1 => ?_) (fun h1 => ?_)
     ·exact q_lret 0 ⟨rfl, rfl⟩
     ·exact q_p fr <| q_norm 0 ⟨rfl, rfl⟩
    ·exact q_exit 0 ⟨rfl, rfl⟩
   ·rintro i1 s2 _ _ ⟨rfl, rfl⟩
    refine q_ite (fun _ => ?_) (fun _ => ?_)
    ·exact q_ret (cv_p rfl) rfl
    ·exact q_none
   ·rintro s2 _ _ ⟨rfl, rfl⟩
    exact q_ret (cv_p rfl) rfl
def m42 (a0 : TRequest) (a1 : Int) : Option (Int) :=
 (m102 a0.Ops a1).bind fun y1 =>
 bif decide (y1 < 0) then
  some (-1)
 else
  some y1
theorem w42 {d : Nat} (hd : 3 ≤ d) (k0 : Bool) (a0 : TRequest) (a1 : Int) : Fit (R NN d 42 [.agg (Enc.cs k0 a0), .int .i64 a1] []) (m42 a0 a1) (P0 (fun (t : Int) => AV.int .i64 t)) := by
  obtain ⟨d, rfl, g⟩ := up hd
  refine q_in (t42 NN d _ _) ?_
  unfold b42 m42
  refine q_box (n := 4) rfl rfl (by decide) fun b1 => q_p fr <| q_ld 0 rfl rfl <| q_c0 (fun S hS => argF2 cv_r (cv_p rfl) hS fun l0_ l1_ => w102 (by omega) l0_ a0.Ops a1) fun y1 hy1 => q_p fr <| q_if (fun h1 => ?_) (fun h1 => ?_)
  ·exact q_ret (cv_p rfl) rfl
  ·exact q_ret (cv_p rfl) rfl
def ms58_0 (a0 : List TRequest) (s1 : Int × Int × Int) : Option (LO (Int × Int × Int)) :=
 bif decide (s1.2.2 < (a0.length : Int)) then
  (getI a0 s1.2.2).bind fun x1 =>
  (m42 x1 s1.1).bind fun y1 =>
  bif decide (y1 < 0) then
   some (LO.ret (y1, (-1), s1.2.2))
  else
   some (LO.norm (y1, s1.2.1, wi .i64 (s1.2.2 + 1)))
 else
  some (LO.exit 0 (s1.1, s1.2.1, s1.2.2))
def m58 (a0 : List TRequest) (a1 : Int) : Option (Int) :=
 bif decide ((wi .i64 (a1 - (a0.length : Int))) < 0) then
  some (-1)
 else
  (loopO (ms58_0 a0) NN (wi .i64 (a1 - (a0.length : Int)), 0, 0)).bind (contO (fun _ => none) (fun i1 s2 =>
   if i1 = 0 then
    some s2.1
   else
    none) (fun s2 =>
   some s2.2.1))
theorem w58 {d : Nat} (hd : 4 ≤ d) (k0 : Bool) (a0 : List TRequest) (a1 : Int) : Fit (R NN d 58 [.rsl k0 false (a0.map (Enc.cs k0)), .int .i64 a1] []) (m58 a0 a1) (P0 (fun (t : Int) => AV.int .i64 t)) := by
  obtain ⟨d, rfl, g⟩ := up hd
  refine q_in (t58 NN d _ _) ?_
  unfold b58 m58
  refine q_len <| q_p fr <| q_p fr <| q_if (fun h3 => ?_) (fun h3 => ?_)
  ·exact q_ret (cv_p rfl) rfl
  ·refine q_loop (I := (fun (s : Int × Int × Int) l L => l = [.int .i64 s.1, .int .i64 s.2.1, .int .i64 s.2.2] ∧ L = [])) 0 ⟨rfl, rfl⟩ ?_ ?_ ?_
   ·rintro s1 _ _ ⟨rfl, rfl⟩
    unfold s58_0 ms58_0
    refine q_len <| q_p fr <| q_if (fun h2 => ?_) (fun h2 => ?_)
    ·refine q_ix rfl fun x1 hx1 => q_p fr <| q_c0 (fun S hS => argF2 (cv_a (cvs_e (l0 := k0) (x := x1))) (cv_p rfl) hS fun l0_ l1_ => w42 (by omega) l0_ x1 s1.1) fun y1 hy1 => q_p fr <| q_if (fun h1 => ?_) (fun h1 => ?_)
     ·exact q_lret 0 ⟨rfl, rfl⟩
     ·exact q_p fr <| q_norm 0 ⟨rfl, rfl⟩
    ·exact q_exit 0 ⟨rfl, rfl⟩
   ·rintro i1 s2 _ _ ⟨rfl, rfl⟩
    refine q_ite (fun _ => ?_) (fun _ => ?_)
    ·exact q_ret (cv_p rfl) rfl
    ·exact q_none
   ·rintro s2 _ _ ⟨rfl, rfl⟩
    exact q_ret (cv_p rfl) rfl
def m15 (a0 : TCluster) (a1 : Int) : Option (Int) :=
 bif decide ((m55 a0.Bad a1) < 0) then
  some (-1)
 else
  bif decide ((m56 a0.Replicas (m55 a0.Bad a1)) < 0) then
   some (-1)
  else
   (m57 a0.Ledger (m56 a0.Replicas (m55 a0.Bad a1))).bind fun y1 =>
   bif decide (y1 < 0) then
    some (-1)
   else
    (m58 a0.Requests y1).bind fun y2 =>
    bif decide (y2 < 0) then
     some (-1)
    else
     some y2
theorem w15 {d : Nat} (hd : 5 ≤ d) (k0 : Bool) (a0 : TCluster) (a1 : Int) : Fit (R NN d 15 [.agg (Enc.cs k0 a0), .int .i64 a1] []) (m15 a0 a1) (P0 (fun (t : Int) => AV.int .i64 t)) := by
  obtain ⟨d, rfl, g⟩ := up hd
  refine q_in (t15 NN d _ _) ?_
  unfold b15 m15
  refine q_box (n := 5) rfl rfl (by decide) fun b1 => q_p fr <| q_ld 0 rfl rfl <| q_c0t (fun S hS => argF2 cv_r (cv_p rfl) hS fun l0_ l1_ => w55 (by omega) l0_ a0.Bad a1) <| q_p fr <| q_if (fun h4 => ?_) (fun h4 => ?_)
  ·exact q_ret (cv_p rfl) rfl
  ·refine q_p fr <| q_ld 0 rfl rfl <| q_c0t (fun S hS => argF2 cv_r (cv_p rfl) hS fun l0_ l1_ => w56 (by omega) l0_ a0.Replicas (m55 a0.Bad a1)) <| q_p fr <| q_if (fun h3 => ?_) (fun h3 => ?_)
   ·exact q_ret (cv_p rfl) rfl
   ·refine q_p fr <| q_ld 0 rfl rfl <| q_c0 (fun S hS => argF2 cv_r (cv_p rfl) hS fun l0_ l1_ => w57 (by omega) l0_ a0.Ledger (m56 a0.Replicas (m55 a0.Bad a1))) fun y1 hy1 => q_p fr <| q_if (fun h2 => ?_) (fun h2 => ?_)
    ·exact q_ret (cv_p rfl) rfl
    ·refine q_p fr <| q_ld 0 rfl rfl <| q_c0 (fun S hS => argF2 cv_r (cv_p rfl) hS fun l0_ l1_ => w58 (by omega) l0_ a0.Requests y1) fun y2 hy2 => q_p fr <| q_if (fun h1 => ?_) (fun h1 => ?_)
     ·exact q_ret (cv_p rfl) rfl
     ·exact q_ret (cv_p rfl) rfl
def ms60_0 (a0 : List Int) (s1 : Int × (List Int)) : Option (LO (Int × (List Int))) :=
 bif decide (s1.1 < (a0.length : Int)) then
  (getI a0 s1.1).bind fun x1 =>
  (getI s1.2 s1.1).bind fun x2 =>
  some (LO.norm (wi .i64 (s1.1 + 1), s1.2.set (Int.toNat s1.1) x1))
 else
  some (LO.exit 0 (s1.1, s1.2))
def m60 (a0 : List Int) : Option ((List Int)) :=
 (mkO 8 (a0.length : Int) 0).bind fun z1 =>
 (loopO (ms60_0 a0) NN (0, z1)).bind (contO (fun _ => none) (fun i1 s2 =>
  if i1 = 0 then
   some s2.2
  else
   none) (fun s2 =>
  some []))
theorem w60 {d : Nat} (hd : 1 ≤ d) (k0 : Bool) (a0 : List Int) : Fit (R NN d 60 [.rsl k0 false (a0.map (Enc.cs k0))] []) (m60 a0) (P0 (fun (t : List Int) => AV.rsl false false (t.map (Enc.cs false)))) := by
  obtain ⟨d, rfl, g⟩ := up hd
  refine q_in (t60 NN d _) ?_
  unfold b60 m60
  refine q_len <| q_mk (z := 0) mk22 fun v1 z1 hz1 => q_loop (I := (fun (s : Int × (List Int)) l L => l = [.int .i64 s.1] ∧ L = [sl false v1 (s.2 : List Int)])) 0 ⟨rfl, rfl⟩ ?_ ?_ ?_
  ·rintro s1 _ _ ⟨rfl, rfl⟩
   unfold s60_0 ms60_0
   refine q_len <| q_p fr <| q_if (fun h1 => ?_) (fun h1 => ?_)
   ·exact q_ix rfl fun x1 hx1 => q_p fr <| q_ixo 0 rfl rfl fun x2 hx2 => q_stoe (y := x1) 0 rfl rfl hx2 rfl (by decide) <| q_p fr <| q_norm 0 ⟨rfl, rfl⟩
   ·exact q_exit 0 ⟨rfl, rfl⟩
  ·rintro i1 s2 _ _ ⟨rfl, rfl⟩
   refine q_ite (fun _ => ?_) (fun _ => ?_)
   ·exact q_ret (cv_o 0 rfl) rfl
   ·exact q_none
  ·rintro s2 _ _ ⟨rfl, rfl⟩
   exact q_ret (cv_r (α := Int) (l0 := false) (fl := true) (xs := [])) rfl
def m123 (a0 : TReplica) : TReplica :=
 a0
theorem w123 {d : Nat} (hd : 1 ≤ d) (k0 : Bool) (a0 : TReplica) : Fit (R NN d 123 [.agg (Enc.cs k0 a0)] []) (some (m123 a0)) (P0 (fun (t : TReplica) => AV.agg (Enc.cs false t))) := by
  obtain ⟨d, rfl, g⟩ := up hd
  refine q_in (t123 NN d _) ?_
  unfold b123 m123
  refine q_box (n := 4) rfl rfl (by decide) fun b1 => q_new rfl fun b2 => q_new rfl fun b3 => q_p fr <| q_ld 2 rfl rfl <| q_p fr <| q_st 0 rfl rfl rfl (by decide) rfl <| q_p fr <| q_ld 2 rfl rfl <| q_p fr <| q_st 0 rfl rfl rfl (by decide) rfl <| q_p fr <| q_ld 2 rfl rfl ?_
  exact q_p fr <| q_st 0 rfl rfl rfl (by decide) rfl <| q_p fr <| q_ld 2 rfl rfl <| q_p fr <| q_st 0 rfl rfl rfl (by decide) rfl <| q_lda 0 rfl rfl rfl <| q_st 1 rfl rfl rfl (by decide) rfl <| q_retm (fun S hS => hS.lda 1 rfl rfl) (cv_a (cvs_e (l0 := false) (x := a0))) rfl
def ms61_0 (a0 : List TReplica) (s1 : Int × (List TReplica)) : Option (LO (Int × (List TReplica))) :=
 bif decide (s1.1 < (a0.length : Int)) then
  (getI a0 s1.1).bind fun x1 =>
  (getI s1.2 s1.1).bind fun x2 =>
  some (LO.norm (wi .i64 (s1.1 + 1), s1.2.set (Int.toNat s1.1) (m123 x1)))
 else
  some (LO.exit 0 (s1.1, s1.2))
def m61 (a0 : List TReplica) : Option ((List TReplica)) :=
 (mkO 32 (a0.length : Int) (⟨0, 0, 0, 0⟩ : TReplica)).bind fun z1 =>
 (loopO (ms61_0 a0) NN (0, z1)).bind (contO (fun _ => none) (fun i1 s2 =>
  if i1 = 0 then
   some s2.2
  else
   none) (fun s2 =>
  some []))
theorem w61 {d : Nat} (hd : 2 ≤ d) (k0 : Bool) (a0 : List TReplica) : Fit (R NN d 61 [.rsl k0 false (a0.map (Enc.cs k0))] []) (m61 a0) (P0 (fun (t : List TReplica) => AV.rsl false false (t.map (Enc.cs false)))) := by
  obtain ⟨d, rfl, g⟩ := up hd
  refine q_in (t61 NN d _) ?_
  unfold b61 m61
  refine q_len <| q_mk (z := (⟨0, 0, 0, 0⟩ : TReplica)) mk30 fun v1 z1 hz1 => q_loop (I := (fun (s : Int × (List TReplica)) l L => l = [.int .i64 s.1] ∧ L = [sl false v1 (s.2 : List TReplica)])) 0 ⟨rfl, rfl⟩ ?_ ?_ ?_
  ·rintro s1 _ _ ⟨rfl, rfl⟩
   unfold s61_0 ms61_0
   refine q_len <| q_p fr <| q_if (fun h1 => ?_) (fun h1 => ?_)
   ·exact q_ix rfl fun x1 hx1 => q_p fr <| q_c0t (fun S hS => argF1 (cv_a (cvs_e (l0 := k0) (x := x1))) hS fun l0_ => w123 (by omega) l0_ x1) <| q_ixo 0 rfl rfl fun x2 hx2 => q_stoe (y := (m123 x1)) 0 rfl rfl hx2 rfl (by decide) <| q_p fr <| q_norm 0 ⟨rfl, rfl⟩
   ·exact q_exit 0 ⟨rfl, rfl⟩
  ·rintro i1 s2 _ _ ⟨rfl, rfl⟩
   refine q_ite (fun _ => ?_) (fun _ => ?_)
   ·exact q_ret (cv_o 0 rfl) rfl
   ·exact q_none
  ·rintro s2 _ _ ⟨rfl, rfl⟩
   exact q_ret (cv_r (α := TReplica) (l0 := false) (fl := true) (xs := [])) rfl
def m231 (a0 : TCert) : TCert :=
 a0
theorem w231 {d : Nat} (hd : 1 ≤ d) (k0 : Bool) (a0 : TCert) : Fit (R NN d 231 [.agg (Enc.cs k0 a0)] []) (some (m231 a0)) (P0 (fun (t : TCert) => AV.agg (Enc.cs false t))) := by
  obtain ⟨d, rfl, g⟩ := up hd
  refine q_in (t231 NN d _) ?_
  unfold b231 m231
  refine q_box (n := 3) rfl rfl (by decide) fun b1 => q_new rfl fun b2 => q_new rfl fun b3 => q_p fr <| q_ld 2 rfl rfl <| q_p fr <| q_st 0 rfl rfl rfl (by decide) rfl <| q_p fr <| q_ld 2 rfl rfl <| q_p fr <| q_st 0 rfl rfl rfl (by decide) rfl <| q_p fr <| q_ld 2 rfl rfl ?_
  exact q_p fr <| q_st 0 rfl rfl rfl (by decide) rfl <| q_lda 0 rfl rfl rfl <| q_st 1 rfl rfl rfl (by decide) rfl <| q_retm (fun S hS => hS.lda 1 rfl rfl) (cv_a (cvs_e (l0 := false) (x := a0))) rfl
def ms191_0 (a0 : List TCert) (s1 : Int × (List TCert)) : Option (LO (Int × (List TCert))) :=
 bif decide (s1.1 < (a0.length : Int)) then
  (getI a0 s1.1).bind fun x1 =>
  (getI s1.2 s1.1).bind fun x2 =>
  some (LO.norm (wi .i64 (s1.1 + 1), s1.2.set (Int.toNat s1.1) (m231 x1)))
 else
  some (LO.exit 0 (s1.1, s1.2))
def m191 (a0 : List TCert) : Option ((List TCert)) :=
 (mkO 24 (a0.length : Int) (⟨0, 0, 0⟩ : TCert)).bind fun z1 =>
 (loopO (ms191_0 a0) NN (0, z1)).bind (contO (fun _ => none) (fun i1 s2 =>
  if i1 = 0 then
   some s2.2
  else
   none) (fun s2 =>
  some []))
theorem w191 {d : Nat} (hd : 2 ≤ d) (k0 : Bool) (a0 : List TCert) : Fit (R NN d 191 [.rsl k0 false (a0.map (Enc.cs k0))] []) (m191 a0) (P0 (fun (t : List TCert) => AV.rsl false false (t.map (Enc.cs false)))) := by
  obtain ⟨d, rfl, g⟩ := up hd
  refine q_in (t191 NN d _) ?_
  unfold b191 m191
  refine q_len <| q_mk (z := (⟨0, 0, 0⟩ : TCert)) mk101 fun v1 z1 hz1 => q_loop (I := (fun (s : Int × (List TCert)) l L => l = [.int .i64 s.1] ∧ L = [sl false v1 (s.2 : List TCert)])) 0 ⟨rfl, rfl⟩ ?_ ?_ ?_
  ·rintro s1 _ _ ⟨rfl, rfl⟩
   unfold s191_0 ms191_0
   refine q_len <| q_p fr <| q_if (fun h1 => ?_) (fun h1 => ?_)
   ·exact q_ix rfl fun x1 hx1 => q_p fr <| q_c0t (fun S hS => argF1 (cv_a (cvs_e (l0 := k0) (x := x1))) hS fun l0_ => w231 (by omega) l0_ x1) <| q_ixo 0 rfl rfl fun x2 hx2 => q_stoe (y := (m231 x1)) 0 rfl rfl hx2 rfl (by decide) <| q_p fr <| q_norm 0 ⟨rfl, rfl⟩
   ·exact q_exit 0 ⟨rfl, rfl⟩
  ·rintro i1 s2 _ _ ⟨rfl, rfl⟩
   refine q_ite (fun _ => ?_) (fun _ => ?_)
   ·exact q_ret (cv_o 0 rfl) rfl
   ·exact q_none
  ·rintro s2 _ _ ⟨rfl, rfl⟩
   exact q_ret (cv_r (α := TCert) (l0 := false) (fl := true) (xs := [])) rfl
def m124 (a0 : TMsg) : Option (TMsg) :=
 (m191 a0.Certs).bind fun y1 =>
 (m60 a0.Refs).bind fun y2 =>
 some (⟨a0.Kind, a0.View, a0.From, a0.Slot, a0.Value, y1, y2⟩ : TMsg)
theorem w124 {d : Nat} (hd : 3 ≤ d) (k0 : Bool) (a0 : TMsg) : Fit (R NN d 124 [.agg (Enc.cs k0 a0)] []) (m124 a0) (P0 (fun (t : TMsg) => AV.agg (Enc.cs false t))) := by
  obtain ⟨d, rfl, g⟩ := up hd
  refine q_in (t124 NN d _) ?_
  unfold b124 m124
  refine q_box (n := 7) rfl rfl (by decide) fun b1 => q_new rfl fun b2 => q_new rfl fun b3 => q_p fr <| q_ld 2 rfl rfl <| q_p fr <| q_st 0 rfl rfl rfl (by decide) rfl <| q_p fr <| q_ld 2 rfl rfl <| q_p fr <| q_st 0 rfl rfl rfl (by decide) rfl <| q_p fr <| q_ld 2 rfl rfl ?_
  refine q_p fr <| q_st 0 rfl rfl rfl (by decide) rfl <| q_p fr <| q_ld 2 rfl rfl <| q_p fr <| q_st 0 rfl rfl rfl (by decide) rfl <| q_p fr <| q_ld 2 rfl rfl <| q_p fr <| q_st 0 rfl rfl rfl (by decide) rfl <| q_p fr <| q_ld 2 rfl rfl <| q_c0 (fun S hS => argF1 cv_r hS fun l0_ => w191 (by omega) l0_ a0.Certs) fun y1 hy1 => ?_
  exact q_p fr <| q_st 0 rfl rfl rfl (by decide) rfl <| q_p fr <| q_ld 2 rfl rfl <| q_c0 (fun S hS => argF1 cv_r hS fun l0_ => w60 (by omega) l0_ a0.Refs) fun y2 hy2 => q_p fr <| q_st 0 rfl rfl rfl (by decide) rfl <| q_lda 0 rfl rfl rfl <| q_st 1 rfl rfl rfl (by decide) rfl <| q_retm (fun S hS => hS.lda 1 rfl rfl) (cv_a (cvs_cons (cv_p rfl) (cvs_cons (cv_p rfl) (cvs_cons (cv_p rfl) (cvs_cons (cv_p rfl) (cvs_cons (cv_p rfl) (cvs_cons cv_r (cvs_cons cv_r cvs_nil)))))))) rfl
def ms62_0 (a0 : List TMsg) (s1 : Int × (List TMsg)) : Option (LO (Int × (List TMsg))) :=
 bif decide (s1.1 < (a0.length : Int)) then
  (getI a0 s1.1).bind fun x1 =>
  (m124 x1).bind fun y1 =>
  (getI s1.2 s1.1).bind fun x2 =>
  some (LO.norm (wi .i64 (s1.1 + 1), s1.2.set (Int.toNat s1.1) y1))
 else
  some (LO.exit 0 (s1.1, s1.2))
def m62 (a0 : List TMsg) : Option ((List TMsg)) :=
 (mkO 88 (a0.length : Int) (⟨0, 0, 0, 0, 0, [], []⟩ : TMsg)).bind fun z1 =>
 (loopO (ms62_0 a0) NN (0, z1)).bind (contO (fun _ => none) (fun i1 s2 =>
  if i1 = 0 then
   some s2.2
  else
   none) (fun s2 =>
  some []))
theorem w62 {d : Nat} (hd : 4 ≤ d) (k0 : Bool) (a0 : List TMsg) : Fit (R NN d 62 [.rsl k0 false (a0.map (Enc.cs k0))] []) (m62 a0) (P0 (fun (t : List TMsg) => AV.rsl false false (t.map (Enc.cs false)))) := by
  obtain ⟨d, rfl, g⟩ := up hd
  refine q_in (t62 NN d _) ?_
  unfold b62 m62
  refine q_len <| q_mk (z := (⟨0, 0, 0, 0, 0, [], []⟩ : TMsg)) mk31 fun v1 z1 hz1 => q_loop (I := (fun (s : Int × (List TMsg)) l L => l = [.int .i64 s.1] ∧ L = [sl false v1 (s.2 : List TMsg)])) 0 ⟨rfl, rfl⟩ ?_ ?_ ?_
  ·rintro s1 _ _ ⟨rfl, rfl⟩
   unfold s62_0 ms62_0
   refine q_len <| q_p fr <| q_if (fun h1 => ?_) (fun h1 => ?_)
   ·exact q_ix rfl fun x1 hx1 => q_p fr <| q_c0 (fun S hS => argF1 (cv_a (cvs_e (l0 := k0) (x := x1))) hS fun l0_ => w124 (by omega) l0_ x1) fun y1 hy1 => q_ixo 0 rfl rfl fun x2 hx2 => q_stoe (y := y1) 0 rfl rfl hx2 rfl (by decide) <| q_p fr <| q_norm 0 ⟨rfl, rfl⟩
   ·exact q_exit 0 ⟨rfl, rfl⟩
  ·rintro i1 s2 _ _ ⟨rfl, rfl⟩
   refine q_ite (fun _ => ?_) (fun _ => ?_)
   ·exact q_ret (cv_o 0 rfl) rfl
   ·exact q_none
  ·rintro s2 _ _ ⟨rfl, rfl⟩
   exact q_ret (cv_r (α := TMsg) (l0 := false) (fl := true) (xs := [])) rfl
def m173 (a0 : TOp) : TOp :=
 a0
theorem w173 {d : Nat} (hd : 1 ≤ d) (k0 : Bool) (a0 : TOp) : Fit (R NN d 173 [.agg (Enc.cs k0 a0)] []) (some (m173 a0)) (P0 (fun (t : TOp) => AV.agg (Enc.cs false t))) := by
  obtain ⟨d, rfl, g⟩ := up hd
  refine q_in (t173 NN d _) ?_
  unfold b173 m173
  refine q_box (n := 6) rfl rfl (by decide) fun b1 => q_new rfl fun b2 => q_new rfl fun b3 => q_p fr <| q_ld 2 rfl rfl <| q_p fr <| q_st 0 rfl rfl rfl (by decide) rfl <| q_p fr <| q_ld 2 rfl rfl <| q_p fr <| q_st 0 rfl rfl rfl (by decide) rfl <| q_p fr <| q_ld 2 rfl rfl ?_
  refine q_p fr <| q_st 0 rfl rfl rfl (by decide) rfl <| q_p fr <| q_ld 2 rfl rfl <| q_p fr <| q_st 0 rfl rfl rfl (by decide) rfl <| q_p fr <| q_ld 2 rfl rfl <| q_p fr <| q_st 0 rfl rfl rfl (by decide) rfl <| q_p fr <| q_ld 2 rfl rfl <| q_p fr ?_
  exact q_st 0 rfl rfl rfl (by decide) rfl <| q_lda 0 rfl rfl rfl <| q_st 1 rfl rfl rfl (by decide) rfl <| q_retm (fun S hS => hS.lda 1 rfl rfl) (cv_a (cvs_e (l0 := false) (x := a0))) rfl
def ms108_0 (a0 : List TOp) (s1 : Int × (List TOp)) : Option (LO (Int × (List TOp))) :=
 bif decide (s1.1 < (a0.length : Int)) then
  (getI a0 s1.1).bind fun x1 =>
  (getI s1.2 s1.1).bind fun x2 =>
  some (LO.norm (wi .i64 (s1.1 + 1), s1.2.set (Int.toNat s1.1) (m173 x1)))
 else
  some (LO.exit 0 (s1.1, s1.2))
def m108 (a0 : List TOp) : Option ((List TOp)) :=
 (mkO 48 (a0.length : Int) (⟨0, [], 0, 0, false, false⟩ : TOp)).bind fun z1 =>
 (loopO (ms108_0 a0) NN (0, z1)).bind (contO (fun _ => none) (fun i1 s2 =>
  if i1 = 0 then
   some s2.2
  else
   none) (fun s2 =>
  some []))
theorem w108 {d : Nat} (hd : 2 ≤ d) (k0 : Bool) (a0 : List TOp) : Fit (R NN d 108 [.rsl k0 false (a0.map (Enc.cs k0))] []) (m108 a0) (P0 (fun (t : List TOp) => AV.rsl false false (t.map (Enc.cs false)))) := by
  obtain ⟨d, rfl, g⟩ := up hd
  refine q_in (t108 NN d _) ?_
  unfold b108 m108
  refine q_len <| q_mk (z := (⟨0, [], 0, 0, false, false⟩ : TOp)) mk63 fun v1 z1 hz1 => q_loop (I := (fun (s : Int × (List TOp)) l L => l = [.int .i64 s.1] ∧ L = [sl false v1 (s.2 : List TOp)])) 0 ⟨rfl, rfl⟩ ?_ ?_ ?_
  ·rintro s1 _ _ ⟨rfl, rfl⟩
   unfold s108_0 ms108_0
   refine q_len <| q_p fr <| q_if (fun h1 => ?_) (fun h1 => ?_)
   ·exact q_ix rfl fun x1 hx1 => q_p fr <| q_c0t (fun S hS => argF1 (cv_a (cvs_e (l0 := k0) (x := x1))) hS fun l0_ => w173 (by omega) l0_ x1) <| q_ixo 0 rfl rfl fun x2 hx2 => q_stoe (y := (m173 x1)) 0 rfl rfl hx2 rfl (by decide) <| q_p fr <| q_norm 0 ⟨rfl, rfl⟩
   ·exact q_exit 0 ⟨rfl, rfl⟩
  ·rintro i1 s2 _ _ ⟨rfl, rfl⟩
   refine q_ite (fun _ => ?_) (fun _ => ?_)
   ·exact q_ret (cv_o 0 rfl) rfl
   ·exact q_none
  ·rintro s2 _ _ ⟨rfl, rfl⟩
   exact q_ret (cv_r (α := TOp) (l0 := false) (fl := true) (xs := [])) rfl
def m44 (a0 : TRequest) : Option (TRequest) :=
 (m108 a0.Ops).bind fun y1 =>
 some (⟨a0.Client, a0.Number, a0.Time, y1⟩ : TRequest)
theorem w44 {d : Nat} (hd : 3 ≤ d) (k0 : Bool) (a0 : TRequest) : Fit (R NN d 44 [.agg (Enc.cs k0 a0)] []) (m44 a0) (P0 (fun (t : TRequest) => AV.agg (Enc.cs false t))) := by
  obtain ⟨d, rfl, g⟩ := up hd
  refine q_in (t44 NN d _) ?_
  unfold b44 m44
  refine q_box (n := 4) rfl rfl (by decide) fun b1 => q_new rfl fun b2 => q_new rfl fun b3 => q_p fr <| q_ld 2 rfl rfl <| q_p fr <| q_st 0 rfl rfl rfl (by decide) rfl <| q_p fr <| q_ld 2 rfl rfl <| q_p fr <| q_st 0 rfl rfl rfl (by decide) rfl <| q_p fr <| q_ld 2 rfl rfl ?_
  exact q_p fr <| q_st 0 rfl rfl rfl (by decide) rfl <| q_p fr <| q_ld 2 rfl rfl <| q_c0 (fun S hS => argF1 cv_r hS fun l0_ => w108 (by omega) l0_ a0.Ops) fun y1 hy1 => q_p fr <| q_st 0 rfl rfl rfl (by decide) rfl <| q_lda 0 rfl rfl rfl <| q_st 1 rfl rfl rfl (by decide) rfl <| q_retm (fun S hS => hS.lda 1 rfl rfl) (cv_a (cvs_cons (cv_p rfl) (cvs_cons (cv_p rfl) (cvs_cons (cv_p rfl) (cvs_cons cv_r cvs_nil))))) rfl
def ms63_0 (a0 : List TRequest) (s1 : Int × (List TRequest)) : Option (LO (Int × (List TRequest))) :=
 bif decide (s1.1 < (a0.length : Int)) then
  (getI a0 s1.1).bind fun x1 =>
  (m44 x1).bind fun y1 =>
  (getI s1.2 s1.1).bind fun x2 =>
  some (LO.norm (wi .i64 (s1.1 + 1), s1.2.set (Int.toNat s1.1) y1))
 else
  some (LO.exit 0 (s1.1, s1.2))
def m63 (a0 : List TRequest) : Option ((List TRequest)) :=
 (mkO 48 (a0.length : Int) (⟨0, 0, 0, []⟩ : TRequest)).bind fun z1 =>
 (loopO (ms63_0 a0) NN (0, z1)).bind (contO (fun _ => none) (fun i1 s2 =>
  if i1 = 0 then
   some s2.2
  else
   none) (fun s2 =>
  some []))
theorem w63 {d : Nat} (hd : 4 ≤ d) (k0 : Bool) (a0 : List TRequest) : Fit (R NN d 63 [.rsl k0 false (a0.map (Enc.cs k0))] []) (m63 a0) (P0 (fun (t : List TRequest) => AV.rsl false false (t.map (Enc.cs false)))) := by
  obtain ⟨d, rfl, g⟩ := up hd
  refine q_in (t63 NN d _) ?_
  unfold b63 m63
  refine q_len <| q_mk (z := (⟨0, 0, 0, []⟩ : TRequest)) mk32 fun v1 z1 hz1 => q_loop (I := (fun (s : Int × (List TRequest)) l L => l = [.int .i64 s.1] ∧ L = [sl false v1 (s.2 : List TRequest)])) 0 ⟨rfl, rfl⟩ ?_ ?_ ?_
  ·rintro s1 _ _ ⟨rfl, rfl⟩
   unfold s63_0 ms63_0
   refine q_len <| q_p fr <| q_if (fun h1 => ?_) (fun h1 => ?_)
   ·exact q_ix rfl fun x1 hx1 => q_p fr <| q_c0 (fun S hS => argF1 (cv_a (cvs_e (l0 := k0) (x := x1))) hS fun l0_ => w44 (by omega) l0_ x1) fun y1 hy1 => q_ixo 0 rfl rfl fun x2 hx2 => q_stoe (y := y1) 0 rfl rfl hx2 rfl (by decide) <| q_p fr <| q_norm 0 ⟨rfl, rfl⟩
   ·exact q_exit 0 ⟨rfl, rfl⟩
  ·rintro i1 s2 _ _ ⟨rfl, rfl⟩
   refine q_ite (fun _ => ?_) (fun _ => ?_)
   ·exact q_ret (cv_o 0 rfl) rfl
   ·exact q_none
  ·rintro s2 _ _ ⟨rfl, rfl⟩
   exact q_ret (cv_r (α := TRequest) (l0 := false) (fl := true) (xs := [])) rfl
def m17 (a0 : TCluster) : Option (TCluster) :=
 (m60 a0.Bad).bind fun y1 =>
 (m61 a0.Replicas).bind fun y2 =>
 (m62 a0.Ledger).bind fun y3 =>
 (m63 a0.Requests).bind fun y4 =>
 some (⟨a0.F, y1, y2, y3, y4⟩ : TCluster)
theorem w17 {d : Nat} (hd : 5 ≤ d) (k0 : Bool) (a0 : TCluster) : Fit (R NN d 17 [.agg (Enc.cs k0 a0)] []) (m17 a0) (P0 (fun (t : TCluster) => AV.agg (Enc.cs false t))) := by
  obtain ⟨d, rfl, g⟩ := up hd
  refine q_in (t17 NN d _) ?_
  unfold b17 m17
  refine q_box (n := 5) rfl rfl (by decide) fun b1 => q_new rfl fun b2 => q_new rfl fun b3 => q_p fr <| q_ld 2 rfl rfl <| q_p fr <| q_st 0 rfl rfl rfl (by decide) rfl <| q_p fr <| q_ld 2 rfl rfl <| q_c0 (fun S hS => argF1 cv_r hS fun l0_ => w60 (by omega) l0_ a0.Bad) fun y1 hy1 => q_p fr <| q_st 0 rfl rfl rfl (by decide) rfl <| q_p fr ?_
  refine q_ld 2 rfl rfl <| q_c0 (fun S hS => argF1 cv_r hS fun l0_ => w61 (by omega) l0_ a0.Replicas) fun y2 hy2 => q_p fr <| q_st 0 rfl rfl rfl (by decide) rfl <| q_p fr <| q_ld 2 rfl rfl <| q_c0 (fun S hS => argF1 cv_r hS fun l0_ => w62 (by omega) l0_ a0.Ledger) fun y3 hy3 => q_p fr <| q_st 0 rfl rfl rfl (by decide) rfl <| q_p fr <| q_ld 2 rfl rfl <| q_c0 (fun S hS => argF1 cv_r hS fun l0_ => w63 (by omega) l0_ a0.Requests) fun y4 hy4 => q_p fr ?_
  exact q_st 0 rfl rfl rfl (by decide) rfl <| q_lda 0 rfl rfl rfl <| q_st 1 rfl rfl rfl (by decide) rfl <| q_retm (fun S hS => hS.lda 1 rfl rfl) (cv_a (cvs_cons (cv_p rfl) (cvs_cons cv_r (cvs_cons cv_r (cvs_cons cv_r (cvs_cons cv_r cvs_nil)))))) rfl
def ms72_0 (a0 : List Int) (a1 : List Int) (s1 : Bool × Int) : Option (LO (Bool × Int)) :=
 bif decide (s1.2 < (a0.length : Int)) then
  (getI a0 s1.2).bind fun x1 =>
  (getI a1 s1.2).bind fun x2 =>
  bif x1 != x2 then
   some (LO.ret (false, s1.2))
  else
   some (LO.norm (s1.1, wi .i64 (s1.2 + 1)))
 else
  some (LO.exit 0 (s1.1, s1.2))
def m72 (a0 : List Int) (a1 : List Int) : Option (Bool) :=
 bif (a0.length : Int) != (a1.length : Int) then
  some false
 else
  (loopO (ms72_0 a0 a1) NN (false, 0)).bind (contO (fun _ => none) (fun i1 s2 =>
   if i1 = 0 then
    some true
   else
    none) (fun s2 =>
   some s2.1))
theorem w72 {d : Nat} (hd : 1 ≤ d) (k0 : Bool) (a0 : List Int) (k1 : Bool) (a1 : List Int) : Fit (R NN d 72 [.rsl k0 false (a0.map (Enc.cs k0)), .rsl k1 false (a1.map (Enc.cs k1))] []) (m72 a0 a1) (P0 (fun (t : Bool) => AV.bool t)) := by
  obtain ⟨d, rfl, g⟩ := up hd
  refine q_in (t72 NN d _ _) ?_
  unfold b72 m72
  refine q_len <| q_len <| q_p fr <| q_if (fun h3 => ?_) (fun h3 => ?_)
  ·exact q_ret (cv_p rfl) rfl
  ·refine q_loop (I := (fun (s : Bool × Int) l L => l = [.bool s.1, .int .i64 s.2] ∧ L = [])) 0 ⟨rfl, rfl⟩ ?_ ?_ ?_
   ·rintro s1 _ _ ⟨rfl, rfl⟩
    unfold s72_0 ms72_0
    refine q_len <| q_p fr <| q_if (fun h2 => ?_) (fun h2 => ?_)
    ·refine q_ix rfl fun x1 hx1 => q_p fr <| q_ix rfl fun x2 hx2 => q_p fr <| q_p fr <| q_if (fun h1 => ?_) (fun h1 => ?_)
     ·exact q_lret 0 ⟨rfl, rfl⟩
     ·exact q_p fr <| q_norm 0 ⟨rfl, rfl⟩
    ·exact q_exit 0 ⟨rfl, rfl⟩
   ·rintro i1 s2 _ _ ⟨rfl, rfl⟩
    refine q_ite (fun _ => ?_) (fun _ => ?_)
    ·exact q_ret (cv_p rfl) rfl
    ·exact q_none
   ·rintro s2 _ _ ⟨rfl, rfl⟩
    exact q_ret (cv_p rfl) rfl
def m141 (a0 : TReplica) (a1 : TReplica) : Bool :=
 bif a0.Id != a1.Id then
  false
 else
  bif a0.View != a1.View then
   false
  else
   bif a0.Start != a1.Start then
    false
   else
    bif a0.Done != a1.Done then
     false
    else
     true
theorem w141 {d : Nat} (hd : 1 ≤ d) (k0 : Bool) (a0 : TReplica) (k1 : Bool) (a1 : TReplica) : Fit (R NN d 141 [.agg (Enc.cs k0 a0), .agg (Enc.cs k1 a1)] []) (some (m141 a0 a1)) (P0 (fun (t : Bool) => AV.bool t)) := by
  obtain ⟨d, rfl, g⟩ := up hd
  refine q_in (t141 NN d _ _) ?_
  unfold b141 m141
  refine q_box (n := 4) rfl rfl (by decide) fun b1 => q_box (n := 4) rfl rfl (by decide) fun b2 => q_p fr <| q_ld 1 rfl rfl <| q_p fr <| q_ld 0 rfl rfl <| q_p fr <| q_ift (fun h4 => ?_) (fun h4 => ?_)
  ·exact q_ret (cv_p rfl) rfl
  ·refine q_p fr <| q_ld 1 rfl rfl <| q_p fr <| q_ld 0 rfl rfl <| q_p fr <| q_ift (fun h3 => ?_) (fun h3 => ?_)
   ·exact q_ret (cv_p rfl) rfl
   ·refine q_p fr <| q_ld 1 rfl rfl <| q_p fr <| q_ld 0 rfl rfl <| q_p fr <| q_ift (fun h2 => ?_) (fun h2 => ?_)
    ·exact q_ret (cv_p rfl) rfl
    ·refine q_p fr <| q_ld 1 rfl rfl <| q_p fr <| q_ld 0 rfl rfl <| q_p fr <| q_ift (fun h1 => ?_) (fun h1 => ?_)
     ·exact q_ret (cv_p rfl) rfl
     ·exact q_ret (cv_p rfl) rfl
def ms73_0 (a0 : List TReplica) (a1 : List TReplica) (s1 : Bool × Int) : Option (LO (Bool × Int)) :=
 bif decide (s1.2 < (a0.length : Int)) then
  (getI a0 s1.2).bind fun x1 =>
  (getI a1 s1.2).bind fun x2 =>
  bif !(m141 x1 x2) then
   some (LO.ret (false, s1.2))
  else
   some (LO.norm (s1.1, wi .i64 (s1.2 + 1)))
 else
  some (LO.exit 0 (s1.1, s1.2))
def m73 (a0 : List TReplica) (a1 : List TReplica) : Option (Bool) :=
 bif (a0.length : Int) != (a1.length : Int) then
  some false
 else
  (loopO (ms73_0 a0 a1) NN (false, 0)).bind (contO (fun _ => none) (fun i1 s2 =>
   if i1 = 0 then
    some true
   else
    none) (fun s2 =>
   some s2.1))
theorem w73 {d : Nat} (hd : 2 ≤ d) (k0 : Bool) (a0 : List TReplica) (k1 : Bool) (a1 : List TReplica) : Fit (R NN d 73 [.rsl k0 false (a0.map (Enc.cs k0)), .rsl k1 false (a1.map (Enc.cs k1))] []) (m73 a0 a1) (P0 (fun (t : Bool) => AV.bool t)) := by
  obtain ⟨d, rfl, g⟩ := up hd
  refine q_in (t73 NN d _ _) ?_
  unfold b73 m73
  refine q_len <| q_len <| q_p fr <| q_if (fun h3 => ?_) (fun h3 => ?_)
  ·exact q_ret (cv_p rfl) rfl
  ·refine q_loop (I := (fun (s : Bool × Int) l L => l = [.bool s.1, .int .i64 s.2] ∧ L = [])) 0 ⟨rfl, rfl⟩ ?_ ?_ ?_
   ·rintro s1 _ _ ⟨rfl, rfl⟩
    unfold s73_0 ms73_0
    refine q_len <| q_p fr <| q_if (fun h2 => ?_) (fun h2 => ?_)
    ·refine q_ix rfl fun x1 hx1 => q_p fr <| q_ix rfl fun x2 hx2 => q_p fr <| q_c0t (fun S hS => argF2 (cv_a (cvs_e (l0 := k0) (x := x1))) (cv_a (cvs_e (l0 := k1) (x := x2))) hS fun l0_ l1_ => w141 (by omega) l0_ x1 l1_ x2) <| q_p fr <| q_if (fun h1 => ?_) (fun h1 => ?_)
     ·exact q_lret 0 ⟨rfl, rfl⟩
     ·exact q_p fr <| q_norm 0 ⟨rfl, rfl⟩
    ·exact q_exit 0 ⟨rfl, rfl⟩
   ·rintro i1 s2 _ _ ⟨rfl, rfl⟩
    refine q_ite (fun _ => ?_) (fun _ => ?_)
    ·exact q_ret (cv_p rfl) rfl
    ·exact q_none
   ·rintro s2 _ _ ⟨rfl, rfl⟩
    exact q_ret (cv_p rfl) rfl
def m238 (a0 : TCert) (a1 : TCert) : Bool :=
 bif a0.Slot != a1.Slot then
  false
 else
  bif a0.View != a1.View then
   false
  else
   bif a0.Value != a1.Value then
    false
   else
    true
theorem w238 {d : Nat} (hd : 1 ≤ d) (k0 : Bool) (a0 : TCert) (k1 : Bool) (a1 : TCert) : Fit (R NN d 238 [.agg (Enc.cs k0 a0), .agg (Enc.cs k1 a1)] []) (some (m238 a0 a1)) (P0 (fun (t : Bool) => AV.bool t)) := by
  obtain ⟨d, rfl, g⟩ := up hd
  refine q_in (t238 NN d _ _) ?_
  unfold b238 m238
  refine q_box (n := 3) rfl rfl (by decide) fun b1 => q_box (n := 3) rfl rfl (by decide) fun b2 => q_p fr <| q_ld 1 rfl rfl <| q_p fr <| q_ld 0 rfl rfl <| q_p fr <| q_ift (fun h3 => ?_) (fun h3 => ?_)
  ·exact q_ret (cv_p rfl) rfl
  ·refine q_p fr <| q_ld 1 rfl rfl <| q_p fr <| q_ld 0 rfl rfl <| q_p fr <| q_ift (fun h2 => ?_) (fun h2 => ?_)
   ·exact q_ret (cv_p rfl) rfl
   ·refine q_p fr <| q_ld 1 rfl rfl <| q_p fr <| q_ld 0 rfl rfl <| q_p fr <| q_ift (fun h1 => ?_) (fun h1 => ?_)
    ·exact q_ret (cv_p rfl) rfl
    ·exact q_ret (cv_p rfl) rfl
def ms206_0 (a0 : List TCert) (a1 : List TCert) (s1 : Bool × Int) : Option (LO (Bool × Int)) :=
 bif decide (s1.2 < (a0.length : Int)) then
  (getI a0 s1.2).bind fun x1 =>
  (getI a1 s1.2).bind fun x2 =>
  bif !(m238 x1 x2) then
   some (LO.ret (false, s1.2))
  else
   some (LO.norm (s1.1, wi .i64 (s1.2 + 1)))
 else
  some (LO.exit 0 (s1.1, s1.2))
def m206 (a0 : List TCert) (a1 : List TCert) : Option (Bool) :=
 bif (a0.length : Int) != (a1.length : Int) then
  some false
 else
  (loopO (ms206_0 a0 a1) NN (false, 0)).bind (contO (fun _ => none) (fun i1 s2 =>
   if i1 = 0 then
    some true
   else
    none) (fun s2 =>
   some s2.1))
theorem w206 {d : Nat} (hd : 2 ≤ d) (k0 : Bool) (a0 : List TCert) (k1 : Bool) (a1 : List TCert) : Fit (R NN d 206 [.rsl k0 false (a0.map (Enc.cs k0)), .rsl k1 false (a1.map (Enc.cs k1))] []) (m206 a0 a1) (P0 (fun (t : Bool) => AV.bool t)) := by
  obtain ⟨d, rfl, g⟩ := up hd
  refine q_in (t206 NN d _ _) ?_
  unfold b206 m206
  refine q_len <| q_len <| q_p fr <| q_if (fun h3 => ?_) (fun h3 => ?_)
  ·exact q_ret (cv_p rfl) rfl
  ·refine q_loop (I := (fun (s : Bool × Int) l L => l = [.bool s.1, .int .i64 s.2] ∧ L = [])) 0 ⟨rfl, rfl⟩ ?_ ?_ ?_
   ·rintro s1 _ _ ⟨rfl, rfl⟩
    unfold s206_0 ms206_0
    refine q_len <| q_p fr <| q_if (fun h2 => ?_) (fun h2 => ?_)
    ·refine q_ix rfl fun x1 hx1 => q_p fr <| q_ix rfl fun x2 hx2 => q_p fr <| q_c0t (fun S hS => argF2 (cv_a (cvs_e (l0 := k0) (x := x1))) (cv_a (cvs_e (l0 := k1) (x := x2))) hS fun l0_ l1_ => w238 (by omega) l0_ x1 l1_ x2) <| q_p fr <| q_if (fun h1 => ?_) (fun h1 => ?_)
     ·exact q_lret 0 ⟨rfl, rfl⟩
     ·exact q_p fr <| q_norm 0 ⟨rfl, rfl⟩
    ·exact q_exit 0 ⟨rfl, rfl⟩
   ·rintro i1 s2 _ _ ⟨rfl, rfl⟩
    refine q_ite (fun _ => ?_) (fun _ => ?_)
    ·exact q_ret (cv_p rfl) rfl
    ·exact q_none
   ·rintro s2 _ _ ⟨rfl, rfl⟩
    exact q_ret (cv_p rfl) rfl
def m142 (a0 : TMsg) (a1 : TMsg) : Option (Bool) :=
 bif a0.Kind != a1.Kind then
  some false
 else
  bif a0.View != a1.View then
   some false
  else
   bif a0.From != a1.From then
    some false
   else
    bif a0.Slot != a1.Slot then
     some false
    else
     bif a0.Value != a1.Value then
      some false
     else
      (m206 a0.Certs a1.Certs).bind fun y1 =>
      bif !y1 then
       some false
      else
       (m72 a0.Refs a1.Refs).bind fun y2 =>
       bif !y2 then
        some false
       else
        some true
theorem w142 {d : Nat} (hd : 3 ≤ d) (k0 : Bool) (a0 : TMsg) (k1 : Bool) (a1 : TMsg) : Fit (R NN d 142 [.agg (Enc.cs k0 a0), .agg (Enc.cs k1 a1)] []) (m142 a0 a1) (P0 (fun (t : Bool) => AV.bool t)) := by
  obtain ⟨d, rfl, g⟩ := up hd
  refine q_in (t142 NN d _ _) ?_
  unfold b142 m142
  refine q_box (n := 7) rfl rfl (by decide) fun b1 => q_box (n := 7) rfl rfl (by decide) fun b2 => q_p fr <| q_ld 1 rfl rfl <| q_p fr <| q_ld 0 rfl rfl <| q_p fr <| q_if (fun h7 => ?_) (fun h7 => ?_)
  ·exact q_ret (cv_p rfl) rfl
  ·refine q_p fr <| q_ld 1 rfl rfl <| q_p fr <| q_ld 0 rfl rfl <| q_p fr <| q_if (fun h6 => ?_) (fun h6 => ?_)
   ·exact q_ret (cv_p rfl) rfl
   ·refine q_p fr <| q_ld 1 rfl rfl <| q_p fr <| q_ld 0 rfl rfl <| q_p fr <| q_if (fun h5 => ?_) (fun h5 => ?_)
    ·exact q_ret (cv_p rfl) rfl
    ·refine q_p fr <| q_ld 1 rfl rfl <| q_p fr <| q_ld 0 rfl rfl <| q_p fr <| q_if (fun h4 => ?_) (fun h4 => ?_)
     ·exact q_ret (cv_p rfl) rfl
     ·refine q_p fr <| q_ld 1 rfl rfl <| q_p fr <| q_ld 0 rfl rfl <| q_p fr <| q_if (fun h3 => ?_) (fun h3 => ?_)
      ·exact q_ret (cv_p rfl) rfl
      ·refine q_p fr <| q_ld 1 rfl rfl <| q_p fr <| q_ld 0 rfl rfl <| q_c0 (fun S hS => argF2 cv_r cv_r hS fun l0_ l1_ => w206 (by omega) l0_ a0.Certs l1_ a1.Certs) fun y1 hy1 => q_p fr <| q_if (fun h2 => ?_) (fun h2 => ?_)
       ·exact q_ret (cv_p rfl) rfl
       ·refine q_p fr <| q_ld 1 rfl rfl <| q_p fr <| q_ld 0 rfl rfl <| q_c0 (fun S hS => argF2 cv_r cv_r hS fun l0_ l1_ => w72 (by omega) l0_ a0.Refs l1_ a1.Refs) fun y2 hy2 => q_p fr <| q_if (fun h1 => ?_) (fun h1 => ?_)
        ·exact q_ret (cv_p rfl) rfl
        ·exact q_ret (cv_p rfl) rfl
def ms74_0 (a0 : List TMsg) (a1 : List TMsg) (s1 : Bool × Int) : Option (LO (Bool × Int)) :=
 bif decide (s1.2 < (a0.length : Int)) then
  (getI a0 s1.2).bind fun x1 =>
  (getI a1 s1.2).bind fun x2 =>
  (m142 x1 x2).bind fun y1 =>
  bif !y1 then
   some (LO.ret (false, s1.2))
  else
   some (LO.norm (s1.1, wi .i64 (s1.2 + 1)))
 else
  some (LO.exit 0 (s1.1, s1.2))
def m74 (a0 : List TMsg) (a1 : List TMsg) : Option (Bool) :=
 bif (a0.length : Int) != (a1.length : Int) then
  some false
 else
  (loopO (ms74_0 a0 a1) NN (false, 0)).bind (contO (fun _ => none) (fun i1 s2 =>
   if i1 = 0 then
    some true
   else
    none) (fun s2 =>
   some s2.1))
theorem w74 {d : Nat} (hd : 4 ≤ d) (k0 : Bool) (a0 : List TMsg) (k1 : Bool) (a1 : List TMsg) : Fit (R NN d 74 [.rsl k0 false (a0.map (Enc.cs k0)), .rsl k1 false (a1.map (Enc.cs k1))] []) (m74 a0 a1) (P0 (fun (t : Bool) => AV.bool t)) := by
  obtain ⟨d, rfl, g⟩ := up hd
  refine q_in (t74 NN d _ _) ?_
  unfold b74 m74
  refine q_len <| q_len <| q_p fr <| q_if (fun h3 => ?_) (fun h3 => ?_)
  ·exact q_ret (cv_p rfl) rfl
  ·refine q_loop (I := (fun (s : Bool × Int) l L => l = [.bool s.1, .int .i64 s.2] ∧ L = [])) 0 ⟨rfl, rfl⟩ ?_ ?_ ?_
   ·rintro s1 _ _ ⟨rfl, rfl⟩
    unfold s74_0 ms74_0
    refine q_len <| q_p fr <| q_if (fun h2 => ?_) (fun h2 => ?_)
    ·refine q_ix rfl fun x1 hx1 => q_p fr <| q_ix rfl fun x2 hx2 => q_p fr <| q_c0 (fun S hS => argF2 (cv_a (cvs_e (l0 := k0) (x := x1))) (cv_a (cvs_e (l0 := k1) (x := x2))) hS fun l0_ l1_ => w142 (by omega) l0_ x1 l1_ x2) fun y1 hy1 => q_p fr <| q_if (fun h1 => ?_) (fun h1 => ?_)
     ·exact q_lret 0 ⟨rfl, rfl⟩
     ·exact q_p fr <| q_norm 0 ⟨rfl, rfl⟩
    ·exact q_exit 0 ⟨rfl, rfl⟩
   ·rintro i1 s2 _ _ ⟨rfl, rfl⟩
    refine q_ite (fun _ => ?_) (fun _ => ?_)
    ·exact q_ret (cv_p rfl) rfl
    ·exact q_none
   ·rintro s2 _ _ ⟨rfl, rfl⟩
    exact q_ret (cv_p rfl) rfl
def m175 (a0 : TOp) (a1 : TOp) : Bool :=
 bif a0.Kind != a1.Kind then
  false
 else
  bif !(a0.Path == a1.Path) then
   false
  else
   bif a0.Data != a1.Data then
    false
   else
    bif a0.Version != a1.Version then
     false
    else
     bif a0.Seq != a1.Seq then
      false
     else
      bif a0.Own != a1.Own then
       false
      else
       true
theorem w175 {d : Nat} (hd : 1 ≤ d) (k0 : Bool) (a0 : TOp) (k1 : Bool) (a1 : TOp) : Fit (R NN d 175 [.agg (Enc.cs k0 a0), .agg (Enc.cs k1 a1)] []) (some (m175 a0 a1)) (P0 (fun (t : Bool) => AV.bool t)) := by
  obtain ⟨d, rfl, g⟩ := up hd
  refine q_in (t175 NN d _ _) ?_
  unfold b175 m175
  refine q_box (n := 6) rfl rfl (by decide) fun b1 => q_box (n := 6) rfl rfl (by decide) fun b2 => q_p fr <| q_ld 1 rfl rfl <| q_p fr <| q_ld 0 rfl rfl <| q_p fr <| q_ift (fun h6 => ?_) (fun h6 => ?_)
  ·exact q_ret (cv_p rfl) rfl
  ·refine q_p fr <| q_ld 1 rfl rfl <| q_p fr <| q_ld 0 rfl rfl <| q_p (fun _ => seq_neq2) <| q_ift (fun h5 => ?_) (fun h5 => ?_)
   ·exact q_ret (cv_p rfl) rfl
   ·refine q_p fr <| q_ld 1 rfl rfl <| q_p fr <| q_ld 0 rfl rfl <| q_p fr <| q_ift (fun h4 => ?_) (fun h4 => ?_)
    ·exact q_ret (cv_p rfl) rfl
    ·refine q_p fr <| q_ld 1 rfl rfl <| q_p fr <| q_ld 0 rfl rfl <| q_p fr <| q_ift (fun h3 => ?_) (fun h3 => ?_)
     ·exact q_ret (cv_p rfl) rfl
     ·refine q_p fr <| q_ld 1 rfl rfl <| q_p fr <| q_ld 0 rfl rfl <| q_p (fun _ => bneq42 _ _) <| q_ift (fun h2 => ?_) (fun h2 => ?_)
      ·exact q_ret (cv_p rfl) rfl
      ·refine q_p fr <| q_ld 1 rfl rfl <| q_p fr <| q_ld 0 rfl rfl <| q_p (fun _ => bneq42 _ _) <| q_ift (fun h1 => ?_) (fun h1 => ?_)
       ·exact q_ret (cv_p rfl) rfl
       ·exact q_ret (cv_p rfl) rfl
def ms112_0 (a0 : List TOp) (a1 : List TOp) (s1 : Bool × Int) : Option (LO (Bool × Int)) :=
 bif decide (s1.2 < (a0.length : Int)) then
  (getI a0 s1.2).bind fun x1 =>
  (getI a1 s1.2).bind fun x2 =>
  bif !(m175 x1 x2) then
   some (LO.ret (false, s1.2))
  else
   some (LO.norm (s1.1, wi .i64 (s1.2 + 1)))
 else
  some (LO.exit 0 (s1.1, s1.2))
def m112 (a0 : List TOp) (a1 : List TOp) : Option (Bool) :=
 bif (a0.length : Int) != (a1.length : Int) then
  some false
 else
  (loopO (ms112_0 a0 a1) NN (false, 0)).bind (contO (fun _ => none) (fun i1 s2 =>
   if i1 = 0 then
    some true
   else
    none) (fun s2 =>
   some s2.1))
theorem w112 {d : Nat} (hd : 2 ≤ d) (k0 : Bool) (a0 : List TOp) (k1 : Bool) (a1 : List TOp) : Fit (R NN d 112 [.rsl k0 false (a0.map (Enc.cs k0)), .rsl k1 false (a1.map (Enc.cs k1))] []) (m112 a0 a1) (P0 (fun (t : Bool) => AV.bool t)) := by
  obtain ⟨d, rfl, g⟩ := up hd
  refine q_in (t112 NN d _ _) ?_
  unfold b112 m112
  refine q_len <| q_len <| q_p fr <| q_if (fun h3 => ?_) (fun h3 => ?_)
  ·exact q_ret (cv_p rfl) rfl
  ·refine q_loop (I := (fun (s : Bool × Int) l L => l = [.bool s.1, .int .i64 s.2] ∧ L = [])) 0 ⟨rfl, rfl⟩ ?_ ?_ ?_
   ·rintro s1 _ _ ⟨rfl, rfl⟩
    unfold s112_0 ms112_0
    refine q_len <| q_p fr <| q_if (fun h2 => ?_) (fun h2 => ?_)
    ·refine q_ix rfl fun x1 hx1 => q_p fr <| q_ix rfl fun x2 hx2 => q_p fr <| q_c0t (fun S hS => argF2 (cv_a (cvs_e (l0 := k0) (x := x1))) (cv_a (cvs_e (l0 := k1) (x := x2))) hS fun l0_ l1_ => w175 (by omega) l0_ x1 l1_ x2) <| q_p fr <| q_if (fun h1 => ?_) (fun h1 => ?_)
     ·exact q_lret 0 ⟨rfl, rfl⟩
     ·exact q_p fr <| q_norm 0 ⟨rfl, rfl⟩
    ·exact q_exit 0 ⟨rfl, rfl⟩
   ·rintro i1 s2 _ _ ⟨rfl, rfl⟩
    refine q_ite (fun _ => ?_) (fun _ => ?_)
    ·exact q_ret (cv_p rfl) rfl
    ·exact q_none
   ·rintro s2 _ _ ⟨rfl, rfl⟩
    exact q_ret (cv_p rfl) rfl
def m47 (a0 : TRequest) (a1 : TRequest) : Option (Bool) :=
 bif a0.Client != a1.Client then
  some false
 else
  bif a0.Number != a1.Number then
   some false
  else
   bif a0.Time != a1.Time then
    some false
   else
    (m112 a0.Ops a1.Ops).bind fun y1 =>
    bif !y1 then
     some false
    else
     some true
theorem w47 {d : Nat} (hd : 3 ≤ d) (k0 : Bool) (a0 : TRequest) (k1 : Bool) (a1 : TRequest) : Fit (R NN d 47 [.agg (Enc.cs k0 a0), .agg (Enc.cs k1 a1)] []) (m47 a0 a1) (P0 (fun (t : Bool) => AV.bool t)) := by
  obtain ⟨d, rfl, g⟩ := up hd
  refine q_in (t47 NN d _ _) ?_
  unfold b47 m47
  refine q_box (n := 4) rfl rfl (by decide) fun b1 => q_box (n := 4) rfl rfl (by decide) fun b2 => q_p fr <| q_ld 1 rfl rfl <| q_p fr <| q_ld 0 rfl rfl <| q_p fr <| q_if (fun h4 => ?_) (fun h4 => ?_)
  ·exact q_ret (cv_p rfl) rfl
  ·refine q_p fr <| q_ld 1 rfl rfl <| q_p fr <| q_ld 0 rfl rfl <| q_p fr <| q_if (fun h3 => ?_) (fun h3 => ?_)
   ·exact q_ret (cv_p rfl) rfl
   ·refine q_p fr <| q_ld 1 rfl rfl <| q_p fr <| q_ld 0 rfl rfl <| q_p fr <| q_if (fun h2 => ?_) (fun h2 => ?_)
    ·exact q_ret (cv_p rfl) rfl
    ·refine q_p fr <| q_ld 1 rfl rfl <| q_p fr <| q_ld 0 rfl rfl <| q_c0 (fun S hS => argF2 cv_r cv_r hS fun l0_ l1_ => w112 (by omega) l0_ a0.Ops l1_ a1.Ops) fun y1 hy1 => q_p fr <| q_if (fun h1 => ?_) (fun h1 => ?_)
     ·exact q_ret (cv_p rfl) rfl
     ·exact q_ret (cv_p rfl) rfl
def ms75_0 (a0 : List TRequest) (a1 : List TRequest) (s1 : Bool × Int) : Option (LO (Bool × Int)) :=
 bif decide (s1.2 < (a0.length : Int)) then
  (getI a0 s1.2).bind fun x1 =>
  (getI a1 s1.2).bind fun x2 =>
  (m47 x1 x2).bind fun y1 =>
  bif !y1 then
   some (LO.ret (false, s1.2))
  else
   some (LO.norm (s1.1, wi .i64 (s1.2 + 1)))
 else
  some (LO.exit 0 (s1.1, s1.2))
def m75 (a0 : List TRequest) (a1 : List TRequest) : Option (Bool) :=
 bif (a0.length : Int) != (a1.length : Int) then
  some false
 else
  (loopO (ms75_0 a0 a1) NN (false, 0)).bind (contO (fun _ => none) (fun i1 s2 =>
   if i1 = 0 then
    some true
   else
    none) (fun s2 =>
   some s2.1))
theorem w75 {d : Nat} (hd : 4 ≤ d) (k0 : Bool) (a0 : List TRequest) (k1 : Bool) (a1 : List TRequest) : Fit (R NN d 75 [.rsl k0 false (a0.map (Enc.cs k0)), .rsl k1 false (a1.map (Enc.cs k1))] []) (m75 a0 a1) (P0 (fun (t : Bool) => AV.bool t)) := by
  obtain ⟨d, rfl, g⟩ := up hd
  refine q_in (t75 NN d _ _) ?_
  unfold b75 m75
  refine q_len <| q_len <| q_p fr <| q_if (fun h3 => ?_) (fun h3 => ?_)
  ·exact q_ret (cv_p rfl) rfl
  ·refine q_loop (I := (fun (s : Bool × Int) l L => l = [.bool s.1, .int .i64 s.2] ∧ L = [])) 0 ⟨rfl, rfl⟩ ?_ ?_ ?_
   ·rintro s1 _ _ ⟨rfl, rfl⟩
    unfold s75_0 ms75_0
    refine q_len <| q_p fr <| q_if (fun h2 => ?_) (fun h2 => ?_)
    ·refine q_ix rfl fun x1 hx1 => q_p fr <| q_ix rfl fun x2 hx2 => q_p fr <| q_c0 (fun S hS => argF2 (cv_a (cvs_e (l0 := k0) (x := x1))) (cv_a (cvs_e (l0 := k1) (x := x2))) hS fun l0_ l1_ => w47 (by omega) l0_ x1 l1_ x2) fun y1 hy1 => q_p fr <| q_if (fun h1 => ?_) (fun h1 => ?_)
     ·exact q_lret 0 ⟨rfl, rfl⟩
     ·exact q_p fr <| q_norm 0 ⟨rfl, rfl⟩
    ·exact q_exit 0 ⟨rfl, rfl⟩
   ·rintro i1 s2 _ _ ⟨rfl, rfl⟩
    refine q_ite (fun _ => ?_) (fun _ => ?_)
    ·exact q_ret (cv_p rfl) rfl
    ·exact q_none
   ·rintro s2 _ _ ⟨rfl, rfl⟩
    exact q_ret (cv_p rfl) rfl
def m19 (a0 : TCluster) (a1 : TCluster) : Option (Bool) :=
 bif a0.F != a1.F then
  some false
 else
  (m72 a0.Bad a1.Bad).bind fun y1 =>
  bif !y1 then
   some false
  else
   (m73 a0.Replicas a1.Replicas).bind fun y2 =>
   bif !y2 then
    some false
   else
    (m74 a0.Ledger a1.Ledger).bind fun y3 =>
    bif !y3 then
     some false
    else
     (m75 a0.Requests a1.Requests).bind fun y4 =>
     bif !y4 then
      some false
     else
      some true
theorem w19 {d : Nat} (hd : 5 ≤ d) (k0 : Bool) (a0 : TCluster) (k1 : Bool) (a1 : TCluster) : Fit (R NN d 19 [.agg (Enc.cs k0 a0), .agg (Enc.cs k1 a1)] []) (m19 a0 a1) (P0 (fun (t : Bool) => AV.bool t)) := by
  obtain ⟨d, rfl, g⟩ := up hd
  refine q_in (t19 NN d _ _) ?_
  unfold b19 m19
  refine q_box (n := 5) rfl rfl (by decide) fun b1 => q_box (n := 5) rfl rfl (by decide) fun b2 => q_p fr <| q_ld 1 rfl rfl <| q_p fr <| q_ld 0 rfl rfl <| q_p fr <| q_if (fun h5 => ?_) (fun h5 => ?_)
  ·exact q_ret (cv_p rfl) rfl
  ·refine q_p fr <| q_ld 1 rfl rfl <| q_p fr <| q_ld 0 rfl rfl <| q_c0 (fun S hS => argF2 cv_r cv_r hS fun l0_ l1_ => w72 (by omega) l0_ a0.Bad l1_ a1.Bad) fun y1 hy1 => q_p fr <| q_if (fun h4 => ?_) (fun h4 => ?_)
   ·exact q_ret (cv_p rfl) rfl
   ·refine q_p fr <| q_ld 1 rfl rfl <| q_p fr <| q_ld 0 rfl rfl <| q_c0 (fun S hS => argF2 cv_r cv_r hS fun l0_ l1_ => w73 (by omega) l0_ a0.Replicas l1_ a1.Replicas) fun y2 hy2 => q_p fr <| q_if (fun h3 => ?_) (fun h3 => ?_)
    ·exact q_ret (cv_p rfl) rfl
    ·refine q_p fr <| q_ld 1 rfl rfl <| q_p fr <| q_ld 0 rfl rfl <| q_c0 (fun S hS => argF2 cv_r cv_r hS fun l0_ l1_ => w74 (by omega) l0_ a0.Ledger l1_ a1.Ledger) fun y3 hy3 => q_p fr <| q_if (fun h2 => ?_) (fun h2 => ?_)
     ·exact q_ret (cv_p rfl) rfl
     ·refine q_p fr <| q_ld 1 rfl rfl <| q_p fr <| q_ld 0 rfl rfl <| q_c0 (fun S hS => argF2 cv_r cv_r hS fun l0_ l1_ => w75 (by omega) l0_ a0.Requests l1_ a1.Requests) fun y4 hy4 => q_p fr <| q_if (fun h1 => ?_) (fun h1 => ?_)
      ·exact q_ret (cv_p rfl) rfl
      ·exact q_ret (cv_p rfl) rfl
def m169 (a0 : Int) (a1 : Int) (a2 : Int) : Bool :=
 bif decide (a0 ≥ a1) then
  decide (a0 ≤ a2)
 else
  false
theorem w169 {d : Nat} (hd : 1 ≤ d) (a0 : Int) (a1 : Int) (a2 : Int) : Fit (R NN d 169 [.int .i64 a0, .int .i64 a1, .int .i64 a2] []) (some (m169 a0 a1 a2)) (P0 (fun (t : Bool) => AV.bool t)) := by
  obtain ⟨d, rfl, g⟩ := up hd
  refine q_in (t169 NN d _ _ _) ?_
  unfold b169 m169
  refine q_p fr <| q_gTt (fun h1 => ?_) (fun h1 => ?_)
  ·exact q_p fr <| q_ret (cv_p rfl) rfl
  ·exact q_ret (cv_p rfl) rfl
def m168 (a0 : Int) : Bool :=
 (m169 a0 1 9)
theorem w168 {d : Nat} (hd : 2 ≤ d) (a0 : Int) : Fit (R NN d 168 [.int .i64 a0] []) (some (m168 a0)) (P0 (fun (t : Bool) => AV.bool t)) := by
  obtain ⟨d, rfl, g⟩ := up hd
  refine q_in (t168 NN d _) ?_
  unfold b168 m168
  exact q_c0t (fun S hS => argF3 (cv_p rfl) (cv_p rfl) (cv_p rfl) hS fun l0_ l1_ l2_ => w169 (by omega) a0 1 9) <| q_ret (cv_p rfl) rfl
def m170 (a0 : Int) : Bool :=
 (m169 a0 0 9000)
theorem w170 {d : Nat} (hd : 2 ≤ d) (a0 : Int) : Fit (R NN d 170 [.int .i64 a0] []) (some (m170 a0)) (P0 (fun (t : Bool) => AV.bool t)) := by
  obtain ⟨d, rfl, g⟩ := up hd
  refine q_in (t170 NN d _) ?_
  unfold b170 m170
  exact q_c0t (fun S hS => argF3 (cv_p rfl) (cv_p rfl) (cv_p rfl) hS fun l0_ l1_ l2_ => w169 (by omega) a0 0 9000) <| q_ret (cv_p rfl) rfl
def m216 (a0 : Int) : Bool :=
 (m169 a0 3 8)
theorem w216 {d : Nat} (hd : 2 ≤ d) (a0 : Int) : Fit (R NN d 216 [.int .i64 a0] []) (some (m216 a0)) (P0 (fun (t : Bool) => AV.bool t)) := by
  obtain ⟨d, rfl, g⟩ := up hd
  refine q_in (t216 NN d _) ?_
  unfold b216 m216
  exact q_c0t (fun S hS => argF3 (cv_p rfl) (cv_p rfl) (cv_p rfl) hS fun l0_ l1_ l2_ => w169 (by omega) a0 3 8) <| q_ret (cv_p rfl) rfl
def m217 (a0 : Int) : Bool :=
 bif a0 == 3 then
  true
 else
  a0 == 5
theorem w217 {d : Nat} (hd : 1 ≤ d) (a0 : Int) : Fit (R NN d 217 [.int .i64 a0] []) (some (m217 a0)) (P0 (fun (t : Bool) => AV.bool t)) := by
  obtain ⟨d, rfl, g⟩ := up hd
  refine q_in (t217 NN d _) ?_
  unfold b217 m217
  refine q_p fr <| q_gFt (fun h1 => ?_) (fun h1 => ?_)
  ·exact q_ret (cv_p rfl) rfl
  ·exact q_p fr <| q_ret (cv_p rfl) rfl
def m218 (a0 : Int) : Option (Bool) :=
 (
  bif a0 == 4 then
   some (LO.norm true)
  else
   bif a0 == 5 then
    some (LO.norm true)
   else
    some (LO.norm (a0 == 8))).bind (contO (fun s2 =>
  some s2) (fun i1 s2 =>
  none) (fun s2 =>
  some s2))
theorem w218 {d : Nat} (hd : 1 ≤ d) (a0 : Int) : Fit (R NN d 218 [.int .i64 a0] []) (m218 a0) (P0 (fun (t : Bool) => AV.bool t)) := by
  obtain ⟨d, rfl, g⟩ := up hd
  refine q_in (t218 NN d _) ?_
  unfold b218 m218
  refine q_cut (I := (fun (s : Bool) l L => l = [.bool s] ∧ L = [])) ?_ ?_ ?_ ?_
  ·refine q_p fr <| q_gF (fun h2 => ?_) (fun h2 => ?_)
   ·exact q_norm 0 ⟨rfl, rfl⟩
   ·refine q_p fr <| q_gF (fun h1 => ?_) (fun h1 => ?_)
    ·exact q_norm 0 ⟨rfl, rfl⟩
    ·exact q_p fr <| q_norm 0 ⟨rfl, rfl⟩
  ·rintro s2 _ _ ⟨rfl, rfl⟩
   exact q_ret (cv_p rfl) rfl
  ·rintro i1 s2 _ _ ⟨rfl, rfl⟩
   exact q_none
  ·rintro s2 _ _ ⟨rfl, rfl⟩
   exact q_ret (cv_p rfl) rfl
def ms254_0 (a0 : Str) (a1 : Int) (s1 : Int × Int × (List Str)) : Option (LO (Int × Int × (List Str))) :=
 bif decide (s1.2.1 ≤ (a0.length : Int)) then
  (
   bif s1.2.1 == (a0.length : Int) then
    (subI a0 s1.1 s1.2.1).bind fun t2 =>
    (appO 16 s1.2.2 [t2]).bind fun z2 =>
    some (LO.norm (wi .i64 (s1.2.1 + 1), z2))
   else
    (getI a0 s1.2.1).bind fun c1 =>
    bif (c1.toNat : Int) == a1 then
     (subI a0 s1.1 s1.2.1).bind fun t1 =>
     (appO 16 s1.2.2 [t1]).bind fun z1 =>
     some (LO.norm (wi .i64 (s1.2.1 + 1), z1))
    else
     some (LO.norm (s1.1, s1.2.2))).bind (contO (fun s3 =>
   some (LO.norm (s3.1, wi .i64 (s1.2.1 + 1), s3.2))) (fun i1 s3 =>
   some (LO.exit i1 (s3.1, s1.2.1, s3.2))) (fun s3 =>
   some (LO.ret (s3.1, s1.2.1, s3.2))))
 else
  some (LO.exit 0 (s1.1, s1.2.1, s1.2.2))
def m254 (a0 : Str) (a1 : Int) : Option ((List Str)) :=
 (loopO (ms254_0 a0 a1) NN (0, 0, [])).bind (contO (fun _ => none) (fun i2 s4 =>
  if i2 = 0 then
   some s4.2.2
  else
   none) (fun s4 =>
  some []))
theorem w254 {d : Nat} (hd : 1 ≤ d) (a0 : Str) (a1 : Int) : Fit (R NN d 254 [encS a0, .int .u8 a1] []) (m254 a0 a1) (P0 (fun (t : List Str) => AV.rsl false false (t.map (Enc.cs false)))) := by
  obtain ⟨d, rfl, g⟩ := up hd
  refine q_in (t254 NN d _ _) ?_
  unfold b254 m254
  refine q_e (fun _ => bs181_0 _) <| q_nil (α := Str) false <| q_loop (I := (fun (s : Int × Int × (List Str)) l L => ∃ (v1 : AV), l = [v1, .int .i64 s.1, .int .i64 s.2.1] ∧ L = [sl false v1 (s.2.2 : List Str)])) 0 ⟨(.rsl false true []), rfl, rfl⟩ ?_ ?_ ?_
  ·rintro s1 _ _ ⟨v1, rfl, rfl⟩
   unfold s254_0 ms254_0
   refine q_slen <| q_p fr <| q_if (fun h3 => ?_) (fun h3 => ?_)
   ·refine q_cut (I := (fun (s : Int × (List Str)) l L => ∃ (v2 : AV), l = [v2, .int .i64 s.1] ∧ L = [sl false v2 (s.2 : List Str)])) ?_ ?_ ?_ ?_
    ·refine q_slen <| q_p fr <| q_gF (fun h2 => ?_) (fun h2 => ?_)
     ·first | refine q_ifT1 ?_ | skip
      exact q_ssub (.inl rfl) (.inl rfl) fun t2 ht2 => q_e (fun _ => bs181_1 rfl) <| q_app (ys := [t2]) 0 rfl rfl (fun _ _ => rfl) fun v3 z2 hz2 => q_p fr <| q_norm 0 ⟨v3, rfl, rfl⟩
     ·refine q_sx fun c1 hc1 => q_p fr <| q_if (fun h1 => ?_) (fun h1 => ?_)
      ·exact q_ssub (.inl rfl) (.inl rfl) fun t1 ht1 => q_e (fun _ => bs181_1 rfl) <| q_app (ys := [t1]) 0 rfl rfl (fun _ _ => rfl) fun v2 z1 hz1 => q_p fr <| q_norm 0 ⟨v2, rfl, rfl⟩
      ·exact q_norm 0 ⟨v1, rfl, rfl⟩
    ·rintro s3 _ _ ⟨v4, rfl, rfl⟩
     exact q_p fr <| q_norm 0 ⟨v4, rfl, rfl⟩
    ·rintro i1 s3 _ _ ⟨v5, rfl, rfl⟩
     exact q_exit 0 ⟨v5, rfl, rfl⟩
    ·rintro s3 _ _ ⟨v6, rfl, rfl⟩
     exact q_lret 0 ⟨v6, rfl, rfl⟩
   ·exact q_exit 0 ⟨v1, rfl, rfl⟩
  ·rintro i2 s4 _ _ ⟨v7, rfl, rfl⟩
   refine q_ite (fun _ => ?_) (fun _ => ?_)
   ·exact q_ret (cv_o 0 rfl) rfl
   ·exact q_none
  ·rintro s4 _ _ ⟨v8, rfl, rfl⟩
   exact q_ret (cv_r (α := Str) (l0 := false) (fl := true) (xs := [])) rfl
def ms277_0 (a0 : Str) (s1 : Bool × Int) : Option (LO (Bool × Int)) :=
 bif decide (s1.2 < (a0.length : Int)) then
  (
   (
    (getI a0 s1.2).bind fun c1 =>
    bif decide ((c1.toNat : Int) < 97) then
     (getI a0 s1.2).bind fun c5 =>
     bif decide ((c5.toNat : Int) < 48) then
      some (LO.norm true)
     else
      (getI a0 s1.2).bind fun c6 =>
      some (LO.norm (decide ((c6.toNat : Int) > 57)))
    else
     (getI a0 s1.2).bind fun c2 =>
     bif decide ((c2.toNat : Int) > 122) then
      (getI a0 s1.2).bind fun c3 =>
      bif decide ((c3.toNat : Int) < 48) then
       some (LO.norm true)
      else
       (getI a0 s1.2).bind fun c4 =>
       some (LO.norm (decide ((c4.toNat : Int) > 57)))
     else
      some (LO.norm false)).bind (contO (fun s4 =>
    bif s4 then
     some (LO.ret false)
    else
     some (LO.norm s1.1)) (fun i1 s4 =>
    if i1 = 1 then
     some (LO.norm s1.1)
    else
     some (LO.exit i1 s1.1)) (fun s4 =>
    some (LO.ret s1.1)))).bind (contO (fun s5 =>
   some (LO.norm (s5, wi .i64 (s1.2 + 1)))) (fun i2 s5 =>
   some (LO.exit i2 (s5, s1.2))) (fun s5 =>
   some (LO.ret (s5, s1.2))))
 else
  some (LO.exit 0 (s1.1, s1.2))
def m277 (a0 : Str) : Option (Bool) :=
 (loopO (ms277_0 a0) NN (false, 0)).bind (contO (fun _ => none) (fun i3 s6 =>
  if i3 = 0 then
   some (m169 (a0.length : Int) 1 8)
  else
   none) (fun s6 =>
  some s6.1))
theorem w277 {d : Nat} (hd : 2 ≤ d) (a0 : Str) : Fit (R NN d 277 [encS a0] []) (m277 a0) (P0 (fun (t : Bool) => AV.bool t)) := by
  obtain ⟨d, rfl, g⟩ := up hd
  refine q_in (t277 NN d _) ?_
  unfold b277 m277
  refine q_loop (I := (fun (s : Bool × Int) l L => l = [.bool s.1, .int .i64 s.2] ∧ L = [])) 0 ⟨rfl, rfl⟩ ?_ ?_ ?_
  ·rintro s1 _ _ ⟨rfl, rfl⟩
   unfold s277_0 ms277_0
   refine q_slen <| q_p fr <| q_if (fun h6 => ?_) (fun h6 => ?_)
   ·refine q_cut (I := (fun (s : Bool) l L => l = [.bool s] ∧ L = [])) ?_ ?_ ?_ ?_
    ·refine q_cut (I := (fun (s : Bool) l L => l = [.bool s] ∧ L = [])) ?_ ?_ ?_ ?_
     ·refine q_sx fun c1 hc1 => q_p fr <| q_gF (fun h4 => ?_) (fun h4 => ?_)
      ·refine q_sx fun c5 hc5 => q_p fr <| q_gF (fun h3 => ?_) (fun h3 => ?_)
       ·exact q_norm 0 ⟨rfl, rfl⟩
       ·exact q_sx fun c6 hc6 => q_p fr <| q_norm 0 ⟨rfl, rfl⟩
      ·refine q_sx fun c2 hc2 => q_p fr <| q_gT (fun h2 => ?_) (fun h2 => ?_)
       ·refine q_sx fun c3 hc3 => q_p fr <| q_gF (fun h1 => ?_) (fun h1 => ?_)
        ·exact q_norm 0 ⟨rfl, rfl⟩
        ·exact q_sx fun c4 hc4 => q_p fr <| q_norm 0 ⟨rfl, rfl⟩
       ·exact q_norm 0 ⟨rfl, rfl⟩
     ·rintro s4 _ _ ⟨rfl, rfl⟩
      refine q_if (fun h5 => ?_) (fun h5 => ?_)
      ·exact q_lret 0 ⟨rfl, rfl⟩
      ·exact q_norm 0 ⟨rfl, rfl⟩
     ·rintro i1 s4 _ _ ⟨rfl, rfl⟩
      refine q_ite (fun _ => ?_) (fun _ => ?_)
      ·exact q_norm 0 ⟨rfl, rfl⟩
      ·exact q_exit 0 ⟨rfl, rfl⟩
     ·rintro s4 _ _ ⟨rfl, rfl⟩
      exact q_lret 0 ⟨rfl, rfl⟩
    ·rintro s5 _ _ ⟨rfl, rfl⟩
     exact q_p fr <| q_norm 0 ⟨rfl, rfl⟩
    ·rintro i2 s5 _ _ ⟨rfl, rfl⟩
     exact q_exit 0 ⟨rfl, rfl⟩
    ·rintro s5 _ _ ⟨rfl, rfl⟩
     exact q_lret 0 ⟨rfl, rfl⟩
   ·exact q_exit 0 ⟨rfl, rfl⟩
  ·rintro i3 s6 _ _ ⟨rfl, rfl⟩
   refine q_ite (fun _ => ?_) (fun _ => ?_)
   ·exact q_slen <| q_c0t (fun S hS => argF3 (cv_p rfl) (cv_p rfl) (cv_p rfl) hS fun l0_ l1_ l2_ => w169 (by omega) (a0.length : Int) 1 8) <| q_ret (cv_p rfl) rfl
   ·exact q_none
  ·rintro s6 _ _ ⟨rfl, rfl⟩
   exact q_ret (cv_p rfl) rfl
def ms255_0 (y1 : (List Str)) (s3 : (List Str) × Bool × Int) : Option (LO ((List Str) × Bool × Int)) :=
 bif decide (s3.2.2 < (y1.length : Int)) then
  (getI y1 s3.2.2).bind fun x2 =>
  (m277 x2).bind fun y2 =>
  bif !y2 then
   some (LO.ret ([], false, s3.2.2))
  else
   some (LO.norm (s3.1, s3.2.1, wi .i64 (s3.2.2 + 1)))
 else
  some (LO.exit 0 (s3.1, s3.2.1, s3.2.2))
def m255 (a0 : Str) : Option ((List Str) × Bool) :=
 bif a0 == ([47] : Str) then
  some ([], true)
 else
  (m254 a0 47).bind fun y1 =>
  (
   bif decide ((y1.length : Int) < 2) then
    some (LO.ret ([], false))
   else
    (getI y1 0).bind fun x1 =>
    bif !(x1 == ([] : Str)) then
     some (LO.ret ([], false))
    else
     some (LO.norm ([], false))).bind (contO (fun s2 =>
   (loopO (ms255_0 y1) NN (s2.1, s2.2, 1)).bind (contO (fun _ => none) (fun i2 s4 =>
    if i2 = 0 then
     (subI y1 1 (y1.length : Int)).bind fun ys1 =>
     some (ys1, true)
    else
     none) (fun s4 =>
    some (s4.1, s4.2.1)))) (fun i1 s2 =>
   none) (fun s2 =>
   some (s2.1, s2.2)))
theorem w255 {d : Nat} (hd : 3 ≤ d) (a0 : Str) : Fit (R NN d 255 [encS a0] []) (m255 a0) (P0 (fun (t : (List Str) × Bool) => AV.tup [.rsl false false (t.1.map (Enc.cs false)), .bool t.2])) := by
  obtain ⟨d, rfl, g⟩ := up hd
  refine q_in (t255 NN d _) ?_
  unfold b255 m255
  refine q_p (fun _ => seq_eql) <| q_if (fun h5 => ?_) (fun h5 => ?_)
  ·exact q_e (fun _ => bs181_0 _) <| q_ret (cv_t (cvs_cons (cv_r (α := Str) (l0 := false) (fl := true) (xs := [])) (cvs_cons (cv_p rfl) cvs_nil))) rfl
  ·refine q_c0 (fun S hS => argF2 (cv_p rfl) (cv_p rfl) hS fun l0_ l1_ => w254 (by omega) a0 47) fun y1 hy1 => q_cut (I := (fun (s : (List Str) × Bool) l L => ∃ (fl1 : Bool), l = [.rsl false fl1 (s.1.map (Enc.cs false)), .bool s.2] ∧ L = [])) ?_ ?_ ?_ ?_
   ·refine q_len <| q_p fr <| q_gF (fun h2 => ?_) (fun h2 => ?_)
    ·first | refine q_ifT1 ?_ | skip
     exact q_lret 0 ⟨true, rfl, rfl⟩
    ·refine q_ix rfl fun x1 hx1 => q_p fr <| q_p (fun _ => seq_neq) <| q_if (fun h1 => ?_) (fun h1 => ?_)
     ·exact q_lret 0 ⟨true, rfl, rfl⟩
     ·exact q_norm 0 ⟨true, rfl, rfl⟩
   ·rintro s2 _ _ ⟨fl1, rfl, rfl⟩
    refine q_loop (I := (fun (s : (List Str) × Bool × Int) l L => ∃ (fl2 : Bool), l = [.rsl false fl2 (s.1.map (Enc.cs false)), .bool s.2.1, .int .i64 s.2.2] ∧ L = [])) 0 ⟨fl1, rfl, rfl⟩ ?_ ?_ ?_
    ·rintro s3 _ _ ⟨fl2, rfl, rfl⟩
     unfold s255_0 ms255_0
     refine q_len <| q_p fr <| q_if (fun h4 => ?_) (fun h4 => ?_)
     ·refine q_ix rfl fun x2 hx2 => q_p fr <| q_c0 (fun S hS => argF1 (cv_p rfl) hS fun l0_ => w277 (by omega) x2) fun y2 hy2 => q_p fr <| q_if (fun h3 => ?_) (fun h3 => ?_)
      ·exact q_lret 0 ⟨true, rfl, rfl⟩
      ·exact q_p fr <| q_norm 0 ⟨fl2, rfl, rfl⟩
     ·exact q_exit 0 ⟨fl2, rfl, rfl⟩
    ·rintro i2 s4 _ _ ⟨fl3, rfl, rfl⟩
     refine q_ite (fun _ => ?_) (fun _ => ?_)
     ·exact q_sub rfl (.inl rfl) (.inr ⟨rfl, rfl⟩) fun fl4 ys1 hys1 => q_ret (cv_t (cvs_cons cv_r (cvs_cons (cv_p rfl) cvs_nil))) rfl
     ·exact q_none
    ·rintro s4 _ _ ⟨fl5, rfl, rfl⟩
     exact q_ret (cv_t (cvs_cons cv_r (cvs_cons (cv_p rfl) cvs_nil))) rfl
   ·rintro i1 s2 _ _ ⟨fl6, rfl, rfl⟩
    exact q_none
   ·rintro s2 _ _ ⟨fl7, rfl, rfl⟩
    exact q_ret (cv_t (cvs_cons cv_r (cvs_cons (cv_p rfl) cvs_nil))) rfl
def m219 (a0 : Str) : Option (Int) :=
 (
  (
   bif decide ((a0.length : Int) > 24) then
    some (LO.norm true)
   else
    bif !(a0 == ([47] : Str)) then
     (m254 a0 47).bind fun y1 =>
     some (LO.norm (decide ((y1.length : Int) > 5)))
    else
     some (LO.norm false)).bind (contO (fun s3 =>
   bif s3 then
    some (LO.ret 2)
   else
    some (LO.norm 0)) (fun i1 s3 =>
   some (LO.exit i1 0)) (fun s3 =>
   some (LO.ret 0)))).bind (contO (fun s4 =>
  (m255 a0).bind fun y2 =>
  bif !y2.2 then
   some 5
  else
   some 0) (fun i2 s4 =>
  none) (fun s4 =>
  some s4))
theorem w219 {d : Nat} (hd : 4 ≤ d) (a0 : Str) : Fit (R NN d 219 [encS a0] []) (m219 a0) (P0 (fun (t : Int) => AV.int .i64 t)) := by
  obtain ⟨d, rfl, g⟩ := up hd
  refine q_in (t219 NN d _) ?_
  unfold b219 m219
  refine q_cut (I := (fun (s : Int) l L => l = [.int .i64 s] ∧ L = [])) ?_ ?_ ?_ ?_
  ·refine q_cut (I := (fun (s : Bool) l L => l = [.bool s] ∧ L = [])) ?_ ?_ ?_ ?_
   ·refine q_slen <| q_p fr <| q_gF (fun h2 => ?_) (fun h2 => ?_)
    ·exact q_norm 0 ⟨rfl, rfl⟩
    ·refine q_p (fun _ => seq_neq) <| q_gT (fun h1 => ?_) (fun h1 => ?_)
     ·exact q_c0 (fun S hS => argF2 (cv_p rfl) (cv_p rfl) hS fun l0_ l1_ => w254 (by omega) a0 47) fun y1 hy1 => q_len <| q_p fr <| q_norm 0 ⟨rfl, rfl⟩
     ·exact q_norm 0 ⟨rfl, rfl⟩
   ·rintro s3 _ _ ⟨rfl, rfl⟩
    refine q_if (fun h3 => ?_) (fun h3 => ?_)
    ·exact q_lret 0 ⟨rfl, rfl⟩
    ·exact q_norm 0 ⟨rfl, rfl⟩
   ·rintro i1 s3 _ _ ⟨rfl, rfl⟩
    exact q_exit 0 ⟨rfl, rfl⟩
   ·rintro s3 _ _ ⟨rfl, rfl⟩
    exact q_lret 0 ⟨rfl, rfl⟩
  ·rintro s4 _ _ ⟨rfl, rfl⟩
   refine q_c0 (fun S hS => argF1 (cv_p rfl) hS fun l0_ => w255 (by omega) a0) fun y2 hy2 => q_q fr <| q_q fr <| q_p fr <| q_if (fun h4 => ?_) (fun h4 => ?_)
   ·exact q_ret (cv_p rfl) rfl
   ·exact q_ret (cv_p rfl) rfl
  ·rintro i2 s4 _ _ ⟨rfl, rfl⟩
   exact q_none
  ·rintro s4 _ _ ⟨rfl, rfl⟩
   exact q_ret (cv_p rfl) rfl
def m220 (a0 : Int) : Bool :=
 (m169 a0 0 9999)
theorem w220 {d : Nat} (hd : 2 ≤ d) (a0 : Int) : Fit (R NN d 220 [.int .i64 a0] []) (some (m220 a0)) (P0 (fun (t : Bool) => AV.bool t)) := by
  obtain ⟨d, rfl, g⟩ := up hd
  refine q_in (t220 NN d _) ?_
  unfold b220 m220
  exact q_c0t (fun S hS => argF3 (cv_p rfl) (cv_p rfl) (cv_p rfl) hS fun l0_ l1_ l2_ => w169 (by omega) a0 0 9999) <| q_ret (cv_p rfl) rfl
def m171 (a0 : TOp) : Option (Int) :=
 bif !(m169 a0.Kind 1 8) then
  some 1
 else
  (
   (
    bif !(m216 a0.Kind) then
     bif !(a0.Path == ([] : Str)) then
      some (LO.norm true)
     else
      bif !(m217 a0.Kind) then
       bif a0.Data != 0 then
        some (LO.norm true)
       else
        (m218 a0.Kind).bind fun y1 =>
        bif !y1 then
         bif a0.Version != 0 then
          some (LO.norm true)
         else
          bif a0.Kind != 3 then
           bif a0.Seq then
            some (LO.norm true)
           else
            some (LO.norm a0.Own)
          else
           some (LO.norm false)
        else
         bif a0.Kind != 3 then
          bif a0.Seq then
           some (LO.norm true)
          else
           some (LO.norm a0.Own)
         else
          some (LO.norm false)
      else
       (m218 a0.Kind).bind fun y2 =>
       bif !y2 then
        bif a0.Version != 0 then
         some (LO.norm true)
        else
         bif a0.Kind != 3 then
          bif a0.Seq then
           some (LO.norm true)
          else
           some (LO.norm a0.Own)
         else
          some (LO.norm false)
       else
        bif a0.Kind != 3 then
         bif a0.Seq then
          some (LO.norm true)
         else
          some (LO.norm a0.Own)
        else
         some (LO.norm false)
    else
     bif !(m217 a0.Kind) then
      bif a0.Data != 0 then
       some (LO.norm true)
      else
       (m218 a0.Kind).bind fun y3 =>
       bif !y3 then
        bif a0.Version != 0 then
         some (LO.norm true)
        else
         bif a0.Kind != 3 then
          bif a0.Seq then
           some (LO.norm true)
          else
           some (LO.norm a0.Own)
         else
          some (LO.norm false)
       else
        bif a0.Kind != 3 then
         bif a0.Seq then
          some (LO.norm true)
         else
          some (LO.norm a0.Own)
        else
         some (LO.norm false)
     else
      (m218 a0.Kind).bind fun y4 =>
      bif !y4 then
       bif a0.Version != 0 then
        some (LO.norm true)
       else
        bif a0.Kind != 3 then
         bif a0.Seq then
          some (LO.norm true)
         else
          some (LO.norm a0.Own)
        else
         some (LO.norm false)
      else
       bif a0.Kind != 3 then
        bif a0.Seq then
         some (LO.norm true)
        else
         some (LO.norm a0.Own)
       else
        some (LO.norm false)).bind (contO (fun s3 =>
    bif s3 then
     some (LO.ret 1)
    else
     some (LO.norm 0)) (fun i1 s3 =>
    some (LO.exit i1 0)) (fun s3 =>
    some (LO.ret 0)))).bind (contO (fun s4 =>
   (
    bif (m216 a0.Kind) then
     (m219 a0.Path).bind fun y5 =>
     bif y5 != 0 then
      some (LO.ret y5)
     else
      some (LO.norm s4)
    else
     some (LO.norm s4)).bind (contO (fun s6 =>
    (
     bif !(m220 a0.Data) then
      some (LO.ret 3)
     else
      bif !(m169 a0.Version (-1) 999) then
       some (LO.ret 3)
      else
       some (LO.norm s6)).bind (contO (fun s8 =>
     some 0) (fun i4 s8 =>
     none) (fun s8 =>
     some s8))) (fun i3 s6 =>
    none) (fun s6 =>
    some s6))) (fun i2 s4 =>
   none) (fun s4 =>
   some s4))
theorem w171 {d : Nat} (hd : 5 ≤ d) (k0 : Bool) (a0 : TOp) : Fit (R NN d 171 [.rp k0 (Enc.cs k0 a0)] []) (m171 a0) (P0 (fun (t : Int) => AV.int .i64 t)) := by
  obtain ⟨d, rfl, g⟩ := up hd
  refine q_in (t171 NN d _) ?_
  unfold b171 m171
  refine q_q fr <| q_p fr <| q_p fr <| q_c0t (fun S hS => argF3 (cv_p rfl) (cv_p rfl) (cv_p rfl) hS fun l0_ l1_ l2_ => w169 (by omega) a0.Kind 1 8) <| q_p fr <| q_if (fun h36 => ?_) (fun h36 => ?_)
  ·exact q_ret (cv_p rfl) rfl
  ·refine q_cut (I := (fun (s : Int) l L => l = [.int .i64 s] ∧ L = [])) ?_ ?_ ?_ ?_
   ·refine q_cut (I := (fun (s : Bool) l L => l = [.bool s] ∧ L = [])) ?_ ?_ ?_ ?_
    ·refine q_q fr <| q_p fr <| q_p fr <| q_c0t (fun S hS => argF1 (cv_p rfl) hS fun l0_ => w216 (by omega) a0.Kind) <| q_p fr <| q_gT (fun h30 => ?_) (fun h30 => ?_)
     ·refine q_q fr <| q_p fr <| q_p fr <| q_p (fun _ => seq_neq) <| q_gF (fun h15 => ?_) (fun h15 => ?_)
      ·exact q_norm 0 ⟨rfl, rfl⟩
      ·refine q_q fr <| q_p fr <| q_p fr <| q_c0t (fun S hS => argF1 (cv_p rfl) hS fun l0_ => w217 (by omega) a0.Kind) <| q_p fr <| q_gT (fun h14 => ?_) (fun h14 => ?_)
       ·refine q_q fr <| q_p fr <| q_p fr <| q_p fr <| q_gF (fun h7 => ?_) (fun h7 => ?_)
        ·exact q_norm 0 ⟨rfl, rfl⟩
        ·refine q_q fr <| q_p fr <| q_p fr <| q_c0 (fun S hS => argF1 (cv_p rfl) hS fun l0_ => w218 (by omega) a0.Kind) fun y1 hy1 => q_p fr <| q_gT (fun h6 => ?_) (fun h6 => ?_)
         ·refine q_q fr <| q_p fr <| q_p fr <| q_p fr <| q_gF (fun h3 => ?_) (fun h3 => ?_)
          ·exact q_norm 0 ⟨rfl, rfl⟩
          ·refine q_q fr <| q_p fr <| q_p fr <| q_p fr <| q_gT (fun h2 => ?_) (fun h2 => ?_)
           ·refine q_q fr <| q_p fr <| q_p fr <| q_gF (fun h1 => ?_) (fun h1 => ?_)
            ·exact q_norm 0 ⟨rfl, rfl⟩
            ·exact q_q fr <| q_p fr <| q_p fr <| q_norm 0 ⟨rfl, rfl⟩
           ·exact q_norm 0 ⟨rfl, rfl⟩
         ·refine q_q fr <| q_p fr <| q_p fr <| q_p fr <| q_gT (fun h5 => ?_) (fun h5 => ?_)
          ·refine q_q fr <| q_p fr <| q_p fr <| q_gF (fun h4 => ?_) (fun h4 => ?_)
           ·exact q_norm 0 ⟨rfl, rfl⟩
           ·exact q_q fr <| q_p fr <| q_p fr <| q_norm 0 ⟨rfl, rfl⟩
          ·exact q_norm 0 ⟨rfl, rfl⟩
       ·refine q_q fr <| q_p fr <| q_p fr <| q_c0 (fun S hS => argF1 (cv_p rfl) hS fun l0_ => w218 (by omega) a0.Kind) fun y2 hy2 => q_p fr <| q_gT (fun h13 => ?_) (fun h13 => ?_)
        ·refine q_q fr <| q_p fr <| q_p fr <| q_p fr <| q_gF (fun h10 => ?_) (fun h10 => ?_)
         ·exact q_norm 0 ⟨rfl, rfl⟩
         ·refine q_q fr <| q_p fr <| q_p fr <| q_p fr <| q_gT (fun h9 => ?_) (fun h9 => ?_)
          ·refine q_q fr <| q_p fr <| q_p fr <| q_gF (fun h8 => ?_) (fun h8 => ?_)
           ·exact q_norm 0 ⟨rfl, rfl⟩
           ·exact q_q fr <| q_p fr <| q_p fr <| q_norm 0 ⟨rfl, rfl⟩
          ·exact q_norm 0 ⟨rfl, rfl⟩
        ·refine q_q fr <| q_p fr <| q_p fr <| q_p fr <| q_gT (fun h12 => ?_) (fun h12 => ?_)
         ·refine q_q fr <| q_p fr <| q_p fr <| q_gF (fun h11 => ?_) (fun h11 => ?_)
          ·exact q_norm 0 ⟨rfl, rfl⟩
          ·exact q_q fr <| q_p fr <| q_p fr <| q_norm 0 ⟨rfl, rfl⟩
         ·exact q_norm 0 ⟨rfl, rfl⟩
     ·refine q_q fr <| q_p fr <| q_p fr <| q_c0t (fun S hS => argF1 (cv_p rfl) hS fun l0_ => w217 (by omega) a0.Kind) <| q_p fr <| q_gT (fun h29 => ?_) (fun h29 => ?_)
      ·refine q_q fr <| q_p fr <| q_p fr <| q_p fr <| q_gF (fun h22 => ?_) (fun h22 => ?_)
       ·exact q_norm 0 ⟨rfl, rfl⟩
       ·refine q_q fr <| q_p fr <| q_p fr <| q_c0 (fun S hS => argF1 (cv_p rfl) hS fun l0_ => w218 (by omega) a0.Kind) fun y3 hy3 => q_p fr <| q_gT (fun h21 => ?_) (fun h21 => ?_)
        ·refine q_q fr <| q_p fr <| q_p fr <| q_p fr <| q_gF (fun h18 => ?_) (fun h18 => ?_)
         ·exact q_norm 0 ⟨rfl, rfl⟩
         ·refine q_q fr <| q_p fr <| q_p fr <| q_p fr <| q_gT (fun h17 => ?_) (fun h17 => ?_)
          ·refine q_q fr <| q_p fr <| q_p fr <| q_gF (fun h16 => ?_) (fun h16 => ?_)
           ·exact q_norm 0 ⟨rfl, rfl⟩
           ·exact q_q fr <| q_p fr <| q_p fr <| q_norm 0 ⟨rfl, rfl⟩
          ·exact q_norm 0 ⟨rfl, rfl⟩
        ·refine q_q fr <| q_p fr <| q_p fr <| q_p fr <| q_gT (fun h20 => ?_) (fun h20 => ?_)
         ·refine q_q fr <| q_p fr <| q_p fr <| q_gF (fun h19 => ?_) (fun h19 => ?_)
          ·exact q_norm 0 ⟨rfl, rfl⟩
          ·exact q_q fr <| q_p fr <| q_p fr <| q_norm 0 ⟨rfl, rfl⟩
         ·exact q_norm 0 ⟨rfl, rfl⟩
      ·refine q_q fr <| q_p fr <| q_p fr <| q_c0 (fun S hS => argF1 (cv_p rfl) hS fun l0_ => w218 (by omega) a0.Kind) fun y4 hy4 => q_p fr <| q_gT (fun h28 => ?_) (fun h28 => ?_)
       ·refine q_q fr <| q_p fr <| q_p fr <| q_p fr <| q_gF (fun h25 => ?_) (fun h25 => ?_)
        ·exact q_norm 0 ⟨rfl, rfl⟩
        ·refine q_q fr <| q_p fr <| q_p fr <| q_p fr <| q_gT (fun h24 => ?_) (fun h24 => ?_)
         ·refine q_q fr <| q_p fr <| q_p fr <| q_gF (fun h23 => ?_) (fun h23 => ?_)
          ·exact q_norm 0 ⟨rfl, rfl⟩
          ·exact q_q fr <| q_p fr <| q_p fr <| q_norm 0 ⟨rfl, rfl⟩
         ·exact q_norm 0 ⟨rfl, rfl⟩
       ·refine q_q fr <| q_p fr <| q_p fr <| q_p fr <| q_gT (fun h27 => ?_) (fun h27 => ?_)
        ·refine q_q fr <| q_p fr <| q_p fr <| q_gF (fun h26 => ?_) (fun h26 => ?_)
         ·exact q_norm 0 ⟨rfl, rfl⟩
         ·exact q_q fr <| q_p fr <| q_p fr <| q_norm 0 ⟨rfl, rfl⟩
        ·exact q_norm 0 ⟨rfl, rfl⟩
    ·rintro s3 _ _ ⟨rfl, rfl⟩
     refine q_if (fun h31 => ?_) (fun h31 => ?_)
     ·exact q_lret 0 ⟨rfl, rfl⟩
     ·exact q_norm 0 ⟨rfl, rfl⟩
    ·rintro i1 s3 _ _ ⟨rfl, rfl⟩
     exact q_exit 0 ⟨rfl, rfl⟩
    ·rintro s3 _ _ ⟨rfl, rfl⟩
     exact q_lret 0 ⟨rfl, rfl⟩
   ·rintro s4 _ _ ⟨rfl, rfl⟩
    refine q_cut (I := (fun (s : Int) l L => l = [.int .i64 s] ∧ L = [])) ?_ ?_ ?_ ?_
    ·refine q_q fr <| q_p fr <| q_p fr <| q_c0t (fun S hS => argF1 (cv_p rfl) hS fun l0_ => w216 (by omega) a0.Kind) <| q_if (fun h33 => ?_) (fun h33 => ?_)
     ·refine q_q fr <| q_p fr <| q_p fr <| q_c0 (fun S hS => argF1 (cv_p rfl) hS fun l0_ => w219 (by omega) a0.Path) fun y5 hy5 => q_p fr <| q_if (fun h32 => ?_) (fun h32 => ?_)
      ·exact q_lret 0 ⟨rfl, rfl⟩
      ·exact q_norm 0 ⟨rfl, rfl⟩
     ·exact q_norm 0 ⟨rfl, rfl⟩
    ·rintro s6 _ _ ⟨rfl, rfl⟩
     refine q_cut (I := (fun (s : Int) l L => l = [.int .i64 s] ∧ L = [])) ?_ ?_ ?_ ?_
     ·refine q_q fr <| q_p fr <| q_p fr <| q_c0t (fun S hS => argF1 (cv_p rfl) hS fun l0_ => w220 (by omega) a0.Data) <| q_p fr <| q_gF (fun h35 => ?_) (fun h35 => ?_)
      ·first | refine q_ifT1 ?_ | skip
       exact q_lret 0 ⟨rfl, rfl⟩
      ·refine q_q fr <| q_p fr <| q_p fr <| q_c0t (fun S hS => argF3 (cv_p rfl) (cv_p rfl) (cv_p rfl) hS fun l0_ l1_ l2_ => w169 (by omega) a0.Version (-1) 999) <| q_p fr <| q_if (fun h34 => ?_) (fun h34 => ?_)
       ·exact q_lret 0 ⟨rfl, rfl⟩
       ·exact q_norm 0 ⟨rfl, rfl⟩
     ·rintro s8 _ _ ⟨rfl, rfl⟩
      exact q_ret (cv_p rfl) rfl
     ·rintro i4 s8 _ _ ⟨rfl, rfl⟩
      exact q_none
     ·rintro s8 _ _ ⟨rfl, rfl⟩
      exact q_ret (cv_p rfl) rfl
    ·rintro i3 s6 _ _ ⟨rfl, rfl⟩
     exact q_none
    ·rintro s6 _ _ ⟨rfl, rfl⟩
     exact q_ret (cv_p rfl) rfl
   ·rintro i2 s4 _ _ ⟨rfl, rfl⟩
    exact q_none
   ·rintro s4 _ _ ⟨rfl, rfl⟩
    exact q_ret (cv_p rfl) rfl
def ms104_0 (a0 : TRequest) (s7 : Int × Int) : Option (LO (Int × Int)) :=
 bif decide (s7.2 < (a0.Ops.length : Int)) then
  (getI a0.Ops s7.2).bind fun x1 =>
  (m171 x1).bind fun y1 =>
  bif y1 != 0 then
   some (LO.ret (y1, s7.2))
  else
   some (LO.norm (s7.1, wi .i64 (s7.2 + 1)))
 else
  some (LO.exit 0 (s7.1, s7.2))
def ms104_1 (a0 : TRequest) (s9 : Int × Int) : Option (LO (Int × Int)) :=
 (
  (
   bif decide (s9.2 < (a0.Ops.length : Int)) then
    some (LO.norm (decide ((a0.Ops.length : Int) > 1)))
   else
    some (LO.norm false)).bind (contO (fun s12 =>
   bif s12 then
    some (LO.norm s12)
   else
    some (LO.exit 2 s12)) (fun i5 s12 =>
   some (LO.exit i5 s12)) (fun s12 =>
   some (LO.ret s12)))).bind (contO (fun s13 =>
  (getI a0.Ops s9.2).bind fun x2 =>
  bif decide (x2.Kind ≤ 2) then
   some (LO.ret (1, s9.2))
  else
   some (LO.norm (s9.1, wi .i64 (s9.2 + 1)))) (fun i6 s13 =>
  some (LO.exit i6 (s9.1, s9.2))) (fun s13 =>
  some (LO.ret (s9.1, s9.2))))
def m104 (a0 : TRequest) : Option (Int) :=
 (
  (
   bif !(m168 a0.Client) then
    some (LO.norm true)
   else
    bif !(m169 a0.Number 1 99) then
     some (LO.norm true)
    else
     some (LO.norm (!(m170 a0.Time)))).bind (contO (fun s3 =>
   bif s3 then
    some (LO.ret 3)
   else
    some (LO.norm 0)) (fun i1 s3 =>
   some (LO.exit i1 0)) (fun s3 =>
   some (LO.ret 0)))).bind (contO (fun s4 =>
  (
   bif decide ((a0.Ops.length : Int) < 1) then
    some (LO.ret 2)
   else
    bif decide ((a0.Ops.length : Int) > 3) then
     some (LO.ret 2)
    else
     some (LO.norm s4)).bind (contO (fun s6 =>
   (loopO (ms104_0 a0) NN (s6, 0)).bind (contO (fun _ => none) (fun i4 s8 =>
    if i4 = 0 then
     (loopO (ms104_1 a0) NN (s8.1, 0)).bind (contO (fun _ => none) (fun i7 s14 =>
      if i7 = 2 then
       some 0
      else
       none) (fun s14 =>
      some s14.1))
    else
     none) (fun s8 =>
    some s8.1))) (fun i3 s6 =>
   none) (fun s6 =>
   some s6))) (fun i2 s4 =>
  none) (fun s4 =>
  some s4))
theorem w104 {d : Nat} (hd : 6 ≤ d) (k0 : Bool) (a0 : TRequest) : Fit (R NN d 104 [.rp k0 (Enc.cs k0 a0)] []) (m104 a0) (P0 (fun (t : Int) => AV.int .i64 t)) := by
  obtain ⟨d, rfl, g⟩ := up hd
  refine q_in (t104 NN d _) ?_
  unfold b104 m104
  refine q_cut (I := (fun (s : Int) l L => l = [.int .i64 s] ∧ L = [])) ?_ ?_ ?_ ?_
  ·refine q_cut (I := (fun (s : Bool) l L => l = [.bool s] ∧ L = [])) ?_ ?_ ?_ ?_
   ·refine q_q fr <| q_p fr <| q_p fr <| q_c0t (fun S hS => argF1 (cv_p rfl) hS fun l0_ => w168 (by omega) a0.Client) <| q_p fr <| q_gF (fun h2 => ?_) (fun h2 => ?_)
    ·exact q_norm 0 ⟨rfl, rfl⟩
    ·refine q_q fr <| q_p fr <| q_p fr <| q_c0t (fun S hS => argF3 (cv_p rfl) (cv_p rfl) (cv_p rfl) hS fun l0_ l1_ l2_ => w169 (by omega) a0.Number 1 99) <| q_p fr <| q_gF (fun h1 => ?_) (fun h1 => ?_)
     ·exact q_norm 0 ⟨rfl, rfl⟩
     ·exact q_q fr <| q_p fr <| q_p fr <| q_c0t (fun S hS => argF1 (cv_p rfl) hS fun l0_ => w170 (by omega) a0.Time) <| q_p fr <| q_norm 0 ⟨rfl, rfl⟩
   ·rintro s3 _ _ ⟨rfl, rfl⟩
    refine q_if (fun h3 => ?_) (fun h3 => ?_)
    ·exact q_lret 0 ⟨rfl, rfl⟩
    ·exact q_norm 0 ⟨rfl, rfl⟩
   ·rintro i1 s3 _ _ ⟨rfl, rfl⟩
    exact q_exit 0 ⟨rfl, rfl⟩
   ·rintro s3 _ _ ⟨rfl, rfl⟩
    exact q_lret 0 ⟨rfl, rfl⟩
  ·rintro s4 _ _ ⟨rfl, rfl⟩
   refine q_cut (I := (fun (s : Int) l L => l = [.int .i64 s] ∧ L = [])) ?_ ?_ ?_ ?_
   ·refine q_q fr <| q_p fr <| q_p fr <| q_len <| q_p fr <| q_gF (fun h5 => ?_) (fun h5 => ?_)
    ·first | refine q_ifT1 ?_ | skip
     exact q_lret 0 ⟨rfl, rfl⟩
    ·refine q_q fr <| q_p fr <| q_p fr <| q_len <| q_p fr <| q_if (fun h4 => ?_) (fun h4 => ?_)
     ·exact q_lret 0 ⟨rfl, rfl⟩
     ·exact q_norm 0 ⟨rfl, rfl⟩
   ·rintro s6 _ _ ⟨rfl, rfl⟩
    refine q_loop (I := (fun (s : Int × Int) l L => l = [.int .i64 s.1, .int .i64 s.2] ∧ L = [])) 0 ⟨rfl, rfl⟩ ?_ ?_ ?_
    ·rintro s7 _ _ ⟨rfl, rfl⟩
     unfold s104_0 ms104_0
     refine q_q fr <| q_p fr <| q_p fr <| q_len <| q_p fr <| q_if (fun h7 => ?_) (fun h7 => ?_)
     ·refine q_q fr <| q_p fr <| q_p fr <| q_ix rfl fun x1 hx1 => q_c0 (fun S hS => argF1 (cv_rp (cvs_e (l0 := k0) (x := x1)) (fun _ _ _ h => Enc.frz k0 x1 _ _ _ h)) hS fun l0_ => w171 (by omega) l0_ x1) fun y1 hy1 => q_p fr <| q_if (fun h6 => ?_) (fun h6 => ?_)
      ·exact q_lret 0 ⟨rfl, rfl⟩
      ·exact q_p fr <| q_norm 0 ⟨rfl, rfl⟩
     ·exact q_exit 0 ⟨rfl, rfl⟩
    ·rintro i4 s8 _ _ ⟨rfl, rfl⟩
     refine q_ite (fun _ => ?_) (fun _ => ?_)
     ·refine q_loop (I := (fun (s : Int × Int) l L => l = [.int .i64 s.1, .int .i64 s.2] ∧ L = [])) 0 ⟨rfl, rfl⟩ ?_ ?_ ?_
      ·rintro s9 _ _ ⟨rfl, rfl⟩
       unfold s104_1 ms104_1
       refine q_cut (I := (fun (s : Bool) l L => l = [.bool s] ∧ L = [])) ?_ ?_ ?_ ?_
       ·refine q_cut (I := (fun (s : Bool) l L => l = [.bool s] ∧ L = [])) ?_ ?_ ?_ ?_
        ·refine q_q fr <| q_p fr <| q_p fr <| q_len <| q_p fr <| q_gT (fun h8 => ?_) (fun h8 => ?_)
         ·exact q_q fr <| q_p fr <| q_p fr <| q_len <| q_p fr <| q_norm 0 ⟨rfl, rfl⟩
         ·exact q_norm 0 ⟨rfl, rfl⟩
        ·rintro s12 _ _ ⟨rfl, rfl⟩
         refine q_if (fun h9 => ?_) (fun h9 => ?_)
         ·exact q_norm 0 ⟨rfl, rfl⟩
         ·exact q_exit 0 ⟨rfl, rfl⟩
        ·rintro i5 s12 _ _ ⟨rfl, rfl⟩
         exact q_exit 0 ⟨rfl, rfl⟩
        ·rintro s12 _ _ ⟨rfl, rfl⟩
         exact q_lret 0 ⟨rfl, rfl⟩
       ·rintro s13 _ _ ⟨rfl, rfl⟩
        refine q_q fr <| q_p fr <| q_p fr <| q_ix rfl fun x2 hx2 => q_p fr <| q_p fr <| q_p fr <| q_if (fun h10 => ?_) (fun h10 => ?_)
        ·exact q_lret 0 ⟨rfl, rfl⟩
        ·exact q_p fr <| q_norm 0 ⟨rfl, rfl⟩
       ·rintro i6 s13 _ _ ⟨rfl, rfl⟩
        exact q_exit 0 ⟨rfl, rfl⟩
       ·rintro s13 _ _ ⟨rfl, rfl⟩
        exact q_lret 0 ⟨rfl, rfl⟩
      ·rintro i7 s14 _ _ ⟨rfl, rfl⟩
       refine q_ite (fun _ => ?_) (fun _ => ?_)
       ·exact q_ret (cv_p rfl) rfl
       ·exact q_none
      ·rintro s14 _ _ ⟨rfl, rfl⟩
       exact q_ret (cv_p rfl) rfl
     ·exact q_none
    ·rintro s8 _ _ ⟨rfl, rfl⟩
     exact q_ret (cv_p rfl) rfl
   ·rintro i3 s6 _ _ ⟨rfl, rfl⟩
    exact q_none
   ·rintro s6 _ _ ⟨rfl, rfl⟩
    exact q_ret (cv_p rfl) rfl
  ·rintro i2 s4 _ _ ⟨rfl, rfl⟩
   exact q_none
  ·rintro s4 _ _ ⟨rfl, rfl⟩
   exact q_ret (cv_p rfl) rfl
def ms105_0 (a0 : List TRequest) (a1 : Int) (a2 : Int) (s1 : Int × Int) : Option (LO (Int × Int)) :=
 bif decide (s1.2 < (a0.length : Int)) then
  (
   (getI a0 s1.2).bind fun x1 =>
   bif x1.Client == a1 then
    (getI a0 s1.2).bind fun x2 =>
    bif x2.Number == a2 then
     some (LO.ret s1.2)
    else
     some (LO.norm s1.1)
   else
    some (LO.norm s1.1)).bind (contO (fun s3 =>
   some (LO.norm (s3, wi .i64 (s1.2 + 1)))) (fun i1 s3 =>
   some (LO.exit i1 (s3, s1.2))) (fun s3 =>
   some (LO.ret (s3, s1.2))))
 else
  some (LO.exit 0 (s1.1, s1.2))
def m105 (a0 : List TRequest) (a1 : Int) (a2 : Int) : Option (Int) :=
 (loopO (ms105_0 a0 a1 a2) NN (0, 0)).bind (contO (fun _ => none) (fun i2 s4 =>
  if i2 = 0 then
   some (-1)
  else
   none) (fun s4 =>
  some s4.1))
theorem w105 {d : Nat} (hd : 1 ≤ d) (k0 : Bool) (a0 : List TRequest) (a1 : Int) (a2 : Int) : Fit (R NN d 105 [.rsl k0 false (a0.map (Enc.cs k0)), .int .i64 a1, .int .i64 a2] []) (m105 a0 a1 a2) (P0 (fun (t : Int) => AV.int .i64 t)) := by
  obtain ⟨d, rfl, g⟩ := up hd
  refine q_in (t105 NN d _ _ _) ?_
  unfold b105 m105
  refine q_loop (I := (fun (s : Int × Int) l L => l = [.int .i64 s.1, .int .i64 s.2] ∧ L = [])) 0 ⟨rfl, rfl⟩ ?_ ?_ ?_
  ·rintro s1 _ _ ⟨rfl, rfl⟩
   unfold s105_0 ms105_0
   refine q_len <| q_p fr <| q_if (fun h3 => ?_) (fun h3 => ?_)
   ·refine q_cut (I := (fun (s : Int) l L => l = [.int .i64 s] ∧ L = [])) ?_ ?_ ?_ ?_
    ·refine q_ix rfl fun x1 hx1 => q_p fr <| q_p fr <| q_p fr <| q_gT (fun h2 => ?_) (fun h2 => ?_)
     ·refine q_ix rfl fun x2 hx2 => q_p fr <| q_p fr <| q_p fr <| q_if (fun h1 => ?_) (fun h1 => ?_)
      ·exact q_lret 0 ⟨rfl, rfl⟩
      ·exact q_norm 0 ⟨rfl, rfl⟩
     ·first | refine q_ifF1 ?_ | skip
      exact q_norm 0 ⟨rfl, rfl⟩
    ·rintro s3 _ _ ⟨rfl, rfl⟩
     exact q_p fr <| q_norm 0 ⟨rfl, rfl⟩
    ·rintro i1 s3 _ _ ⟨rfl, rfl⟩
     exact q_exit 0 ⟨rfl, rfl⟩
    ·rintro s3 _ _ ⟨rfl, rfl⟩
     exact q_lret 0 ⟨rfl, rfl⟩
   ·exact q_exit 0 ⟨rfl, rfl⟩
  ·rintro i2 s4 _ _ ⟨rfl, rfl⟩
   refine q_ite (fun _ => ?_) (fun _ => ?_)
   ·exact q_ret (cv_p rfl) rfl
   ·exact q_none
  ·rintro s4 _ _ ⟨rfl, rfl⟩
   exact q_ret (cv_p rfl) rfl
def m187 (a0 : Int) : Bool :=
 (m169 a0 1 2)
theorem w187 {d : Nat} (hd : 2 ≤ d) (a0 : Int) : Fit (R NN d 187 [.int .i64 a0] []) (some (m187 a0)) (P0 (fun (t : Bool) => AV.bool t)) := by
  obtain ⟨d, rfl, g⟩ := up hd
  refine q_in (t187 NN d _) ?_
  unfold b187 m187
  exact q_c0t (fun S hS => argF3 (cv_p rfl) (cv_p rfl) (cv_p rfl) hS fun l0_ l1_ l2_ => w169 (by omega) a0 1 2) <| q_ret (cv_p rfl) rfl
def m189 (a0 : Int) (a1 : Int) : Bool :=
 (m169 a1 1 (wi .i64 ((wi .i64 (3 * a0)) + 1)))
theorem w189 {d : Nat} (hd : 2 ≤ d) (a0 : Int) (a1 : Int) : Fit (R NN d 189 [.int .i64 a0, .int .i64 a1] []) (some (m189 a0 a1)) (P0 (fun (t : Bool) => AV.bool t)) := by
  obtain ⟨d, rfl, g⟩ := up hd
  refine q_in (t189 NN d _ _) ?_
  unfold b189 m189
  exact q_p fr <| q_p fr <| q_c0t (fun S hS => argF3 (cv_p rfl) (cv_p rfl) (cv_p rfl) hS fun l0_ l1_ l2_ => w169 (by omega) a1 1 (wi .i64 ((wi .i64 (3 * a0)) + 1))) <| q_ret (cv_p rfl) rfl
def m258 (a0 : TMsg) : Option (Bool) :=
 (
  bif (m169 a0.Kind 1 5) then
   bif (m169 a0.Kind 1 3) then
    bif a0.Kind == 4 then
     bif a0.Kind == 5 then
      some (LO.norm true)
     else
      some (LO.norm ((a0.Refs.length : Int) == 0))
    else
     bif (a0.Certs.length : Int) == 0 then
      bif a0.Kind == 5 then
       some (LO.norm true)
      else
       some (LO.norm ((a0.Refs.length : Int) == 0))
     else
      some (LO.norm false)
   else
    bif a0.Slot == 0 then
     bif a0.Value == 0 then
      bif a0.Kind == 4 then
       bif a0.Kind == 5 then
        some (LO.norm true)
       else
        some (LO.norm ((a0.Refs.length : Int) == 0))
      else
       bif (a0.Certs.length : Int) == 0 then
        bif a0.Kind == 5 then
         some (LO.norm true)
        else
         some (LO.norm ((a0.Refs.length : Int) == 0))
       else
        some (LO.norm false)
     else
      some (LO.norm false)
    else
     some (LO.norm false)
  else
   some (LO.norm false)).bind (contO (fun s2 =>
  some s2) (fun i1 s2 =>
  none) (fun s2 =>
  some s2))
theorem w258 {d : Nat} (hd : 2 ≤ d) (k0 : Bool) (a0 : TMsg) : Fit (R NN d 258 [.rp k0 (Enc.cs k0 a0)] []) (m258 a0) (P0 (fun (t : Bool) => AV.bool t)) := by
  obtain ⟨d, rfl, g⟩ := up hd
  refine q_in (t258 NN d _) ?_
  unfold b258 m258
  refine q_q fr <| q_p fr <| q_p fr <| q_c0t (fun S hS => argF3 (cv_p rfl) (cv_p rfl) (cv_p rfl) hS fun l0_ l1_ l2_ => w169 (by omega) a0.Kind 1 3) <| q_cut (I := (fun (s : Bool) l L => l = [.bool s] ∧ L = [])) ?_ ?_ ?_ ?_
  ·refine q_q fr <| q_p fr <| q_p fr <| q_c0t (fun S hS => argF3 (cv_p rfl) (cv_p rfl) (cv_p rfl) hS fun l0_ l1_ l2_ => w169 (by omega) a0.Kind 1 5) <| q_gT (fun h12 => ?_) (fun h12 => ?_)
   ·refine q_gF (fun h11 => ?_) (fun h11 => ?_)
    ·refine q_q fr <| q_p fr <| q_p fr <| q_p fr <| q_gF (fun h10 => ?_) (fun h10 => ?_)
     ·refine q_q fr <| q_p fr <| q_p fr <| q_p fr <| q_gF (fun h9 => ?_) (fun h9 => ?_)
      ·exact q_norm 0 ⟨rfl, rfl⟩
      ·exact q_q fr <| q_p fr <| q_p fr <| q_len <| q_p fr <| q_norm 0 ⟨rfl, rfl⟩
     ·refine q_q fr <| q_p fr <| q_p fr <| q_len <| q_p fr <| q_gT (fun h8 => ?_) (fun h8 => ?_)
      ·refine q_q fr <| q_p fr <| q_p fr <| q_p fr <| q_gF (fun h7 => ?_) (fun h7 => ?_)
       ·exact q_norm 0 ⟨rfl, rfl⟩
       ·exact q_q fr <| q_p fr <| q_p fr <| q_len <| q_p fr <| q_norm 0 ⟨rfl, rfl⟩
      ·exact q_norm 0 ⟨rfl, rfl⟩
    ·refine q_q fr <| q_p fr <| q_p fr <| q_p fr <| q_gT (fun h6 => ?_) (fun h6 => ?_)
     ·refine q_q fr <| q_p fr <| q_p fr <| q_p fr <| q_gT (fun h5 => ?_) (fun h5 => ?_)
      ·refine q_q fr <| q_p fr <| q_p fr <| q_p fr <| q_gF (fun h4 => ?_) (fun h4 => ?_)
       ·refine q_q fr <| q_p fr <| q_p fr <| q_p fr <| q_gF (fun h3 => ?_) (fun h3 => ?_)
        ·exact q_norm 0 ⟨rfl, rfl⟩
        ·exact q_q fr <| q_p fr <| q_p fr <| q_len <| q_p fr <| q_norm 0 ⟨rfl, rfl⟩
       ·refine q_q fr <| q_p fr <| q_p fr <| q_len <| q_p fr <| q_gT (fun h2 => ?_) (fun h2 => ?_)
        ·refine q_q fr <| q_p fr <| q_p fr <| q_p fr <| q_gF (fun h1 => ?_) (fun h1 => ?_)
         ·exact q_norm 0 ⟨rfl, rfl⟩
         ·exact q_q fr <| q_p fr <| q_p fr <| q_len <| q_p fr <| q_norm 0 ⟨rfl, rfl⟩
        ·exact q_norm 0 ⟨rfl, rfl⟩
      ·exact q_norm 0 ⟨rfl, rfl⟩
     ·exact q_norm 0 ⟨rfl, rfl⟩
   ·exact q_norm 0 ⟨rfl, rfl⟩
  ·rintro s2 _ _ ⟨rfl, rfl⟩
   exact q_ret (cv_p rfl) rfl
  ·rintro i1 s2 _ _ ⟨rfl, rfl⟩
   exact q_none
  ·rintro s2 _ _ ⟨rfl, rfl⟩
   exact q_ret (cv_p rfl) rfl
def ms259_0 (a0 : TMsg) (s1 : Int × Int) : Option (LO (Int × Int)) :=
 bif decide (s1.2 < (a0.Certs.length : Int)) then
  (getI a0.Certs s1.2).bind fun x1 =>
  (getI a0.Certs (wi .i64 (s1.2 - 1))).bind fun x2 =>
  bif decide (x1.Slot ≤ x2.Slot) then
   some (LO.ret (1, s1.2))
  else
   some (LO.norm (s1.1, wi .i64 (s1.2 + 1)))
 else
  some (LO.exit 0 (s1.1, s1.2))
def ms259_1 (a0 : TMsg) (s3 : Int × Int) : Option (LO (Int × Int)) :=
 bif decide (s3.2 < (a0.Refs.length : Int)) then
  (getI a0.Refs s3.2).bind fun x3 =>
  (getI a0.Refs (wi .i64 (s3.2 - 1))).bind fun x4 =>
  bif decide (x3 ≤ x4) then
   some (LO.ret (1, s3.2))
  else
   some (LO.norm (s3.1, wi .i64 (s3.2 + 1)))
 else
  some (LO.exit 2 (s3.1, s3.2))
def ms259_2 (a0 : TMsg) (s5 : Int × Int) : Option (LO (Int × Int)) :=
 bif decide (s5.2 < (a0.Certs.length : Int)) then
  (
   (getI a0.Certs s5.2).bind fun x5 =>
   (
    bif !(m169 x5.Slot 1 30) then
     some (LO.norm true)
    else
     bif !(m169 x5.View 0 (wi .i64 (a0.View - 1))) then
      some (LO.norm true)
     else
      some (LO.norm (!(m169 x5.Value 0 12)))).bind (contO (fun s8 =>
    bif s8 then
     some (LO.ret 3)
    else
     some (LO.norm s5.1)) (fun i3 s8 =>
    if i3 = 5 then
     some (LO.norm s5.1)
    else
     some (LO.exit i3 s5.1)) (fun s8 =>
    some (LO.ret s5.1)))).bind (contO (fun s9 =>
   some (LO.norm (s9, wi .i64 (s5.2 + 1)))) (fun i4 s9 =>
   some (LO.exit i4 (s9, s5.2))) (fun s9 =>
   some (LO.ret (s9, s5.2))))
 else
  some (LO.exit 4 (s5.1, s5.2))
def ms259_3 (a0 : TMsg) (s11 : Int × Int) : Option (LO (Int × Int)) :=
 bif decide (s11.2 < (a0.Refs.length : Int)) then
  (getI a0.Refs s11.2).bind fun x6 =>
  bif !(m169 x6 0 239) then
   some (LO.ret (3, s11.2))
  else
   some (LO.norm (s11.1, wi .i64 (s11.2 + 1)))
 else
  some (LO.exit 6 (s11.1, s11.2))
def m259 (a0 : TMsg) : Option (Int) :=
 (loopO (ms259_0 a0) NN (0, 1)).bind (contO (fun _ => none) (fun i1 s2 =>
  if i1 = 0 then
   (loopO (ms259_1 a0) NN (s2.1, 1)).bind (contO (fun _ => none) (fun i2 s4 =>
    if i2 = 2 then
     (loopO (ms259_2 a0) NN (s4.1, 0)).bind (contO (fun _ => none) (fun i5 s10 =>
      if i5 = 4 then
       (loopO (ms259_3 a0) NN (s10.1, 0)).bind (contO (fun _ => none) (fun i6 s12 =>
        if i6 = 6 then
         some 0
        else
         none) (fun s12 =>
        some s12.1))
      else
       none) (fun s10 =>
      some s10.1))
    else
     none) (fun s4 =>
    some s4.1))
  else
   none) (fun s2 =>
  some s2.1))
theorem w259 {d : Nat} (hd : 2 ≤ d) (k0 : Bool) (a0 : TMsg) : Fit (R NN d 259 [.rp k0 (Enc.cs k0 a0)] []) (m259 a0) (P0 (fun (t : Int) => AV.int .i64 t)) := by
  obtain ⟨d, rfl, g⟩ := up hd
  refine q_in (t259 NN d _) ?_
  unfold b259 m259
  refine q_loop (I := (fun (s : Int × Int) l L => l = [.int .i64 s.1, .int .i64 s.2] ∧ L = [])) 0 ⟨rfl, rfl⟩ ?_ ?_ ?_
  ·rintro s1 _ _ ⟨rfl, rfl⟩
   unfold s259_0 ms259_0
   refine q_q fr <| q_p fr <| q_p fr <| q_len <| q_p fr <| q_if (fun h2 => ?_) (fun h2 => ?_)
   ·refine q_q fr <| q_p fr <| q_p fr <| q_ix rfl fun x1 hx1 => q_p fr <| q_p fr <| q_q fr <| q_p fr <| q_p fr <| q_p fr <| q_ix rfl fun x2 hx2 => q_p fr <| q_p fr ?_
    refine q_p fr <| q_if (fun h1 => ?_) (fun h1 => ?_)
    ·exact q_lret 0 ⟨rfl, rfl⟩
    ·exact q_p fr <| q_norm 0 ⟨rfl, rfl⟩
   ·exact q_exit 0 ⟨rfl, rfl⟩
  ·rintro i1 s2 _ _ ⟨rfl, rfl⟩
   refine q_ite (fun _ => ?_) (fun _ => ?_)
   ·refine q_loop (I := (fun (s : Int × Int) l L => l = [.int .i64 s.1, .int .i64 s.2] ∧ L = [])) 0 ⟨rfl, rfl⟩ ?_ ?_ ?_
    ·rintro s3 _ _ ⟨rfl, rfl⟩
     unfold s259_1 ms259_1
     refine q_q fr <| q_p fr <| q_p fr <| q_len <| q_p fr <| q_if (fun h4 => ?_) (fun h4 => ?_)
     ·refine q_q fr <| q_p fr <| q_p fr <| q_ix rfl fun x3 hx3 => q_p fr <| q_q fr <| q_p fr <| q_p fr <| q_p fr <| q_ix rfl fun x4 hx4 => q_p fr <| q_p fr <| q_if (fun h3 => ?_) (fun h3 => ?_)
      ·exact q_lret 0 ⟨rfl, rfl⟩
      ·exact q_p fr <| q_norm 0 ⟨rfl, rfl⟩
     ·exact q_exit 0 ⟨rfl, rfl⟩
    ·rintro i2 s4 _ _ ⟨rfl, rfl⟩
     refine q_ite (fun _ => ?_) (fun _ => ?_)
     ·refine q_loop (I := (fun (s : Int × Int) l L => l = [.int .i64 s.1, .int .i64 s.2] ∧ L = [])) 0 ⟨rfl, rfl⟩ ?_ ?_ ?_
      ·rintro s5 _ _ ⟨rfl, rfl⟩
       unfold s259_2 ms259_2
       refine q_q fr <| q_p fr <| q_p fr <| q_len <| q_p fr <| q_if (fun h8 => ?_) (fun h8 => ?_)
       ·refine q_cut (I := (fun (s : Int) l L => l = [.int .i64 s] ∧ L = [])) ?_ ?_ ?_ ?_
        ·refine q_q fr <| q_p fr <| q_p fr <| q_ix rfl fun x5 hx5 => q_p fr <| q_new rfl fun b1 => q_st 0 rfl rfl rfl (by decide) rfl <| q_cut (I := (fun (s : Bool) l L => l = [.bool s] ∧ L = [bx b1 [.int .i64 x5.Slot, .int .i64 x5.View, .int .i64 x5.Value]])) ?_ ?_ ?_ ?_
         ·refine q_p fr <| q_ld 0 rfl rfl <| q_c0t (fun S hS => argF3 (cv_p rfl) (cv_p rfl) (cv_p rfl) hS fun l0_ l1_ l2_ => w169 (by omega) x5.Slot 1 30) <| q_p fr <| q_gF (fun h6 => ?_) (fun h6 => ?_)
          ·exact q_norm 0 ⟨rfl, rfl⟩
          ·refine q_p fr <| q_ld 0 rfl rfl <| q_q fr <| q_p fr <| q_p fr <| q_p fr <| q_c0t (fun S hS => argF3 (cv_p rfl) (cv_p rfl) (cv_p rfl) hS fun l0_ l1_ l2_ => w169 (by omega) x5.View 0 (wi .i64 (a0.View - 1))) <| q_p fr <| q_gF (fun h5 => ?_) (fun h5 => ?_)
           ·exact q_norm 0 ⟨rfl, rfl⟩
           ·exact q_p fr <| q_ld 0 rfl rfl <| q_c0t (fun S hS => argF3 (cv_p rfl) (cv_p rfl) (cv_p rfl) hS fun l0_ l1_ l2_ => w169 (by omega) x5.Value 0 12) <| q_p fr <| q_norm 0 ⟨rfl, rfl⟩
         ·rintro s8 _ _ ⟨rfl, rfl⟩
          refine q_if (fun h7 => ?_) (fun h7 => ?_)
          ·exact q_lret 1 ⟨rfl, rfl⟩
          ·exact q_norm 1 ⟨rfl, rfl⟩
         ·rintro i3 s8 _ _ ⟨rfl, rfl⟩
          refine q_ite (fun _ => ?_) (fun _ => ?_)
          ·exact q_norm 1 ⟨rfl, rfl⟩
          ·exact q_exit 1 ⟨rfl, rfl⟩
         ·rintro s8 _ _ ⟨rfl, rfl⟩
          exact q_lret 1 ⟨rfl, rfl⟩
        ·rintro s9 _ _ ⟨rfl, rfl⟩
         exact q_p fr <| q_norm 0 ⟨rfl, rfl⟩
        ·rintro i4 s9 _ _ ⟨rfl, rfl⟩
         exact q_exit 0 ⟨rfl, rfl⟩
        ·rintro s9 _ _ ⟨rfl, rfl⟩
         exact q_lret 0 ⟨rfl, rfl⟩
       ·exact q_exit 0 ⟨rfl, rfl⟩
      ·rintro i5 s10 _ _ ⟨rfl, rfl⟩
       refine q_ite (fun _ => ?_) (fun _ => ?_)
       ·refine q_loop (I := (fun (s : Int × Int) l L => l = [.int .i64 s.1, .int .i64 s.2] ∧ L = [])) 0 ⟨rfl, rfl⟩ ?_ ?_ ?_
        ·rintro s11 _ _ ⟨rfl, rfl⟩
         unfold s259_3 ms259_3
         refine q_q fr <| q_p fr <| q_p fr <| q_len <| q_p fr <| q_if (fun h10 => ?_) (fun h10 => ?_)
         ·refine q_q fr <| q_p fr <| q_p fr <| q_ix rfl fun x6 hx6 => q_p fr <| q_c0t (fun S hS => argF3 (cv_p rfl) (cv_p rfl) (cv_p rfl) hS fun l0_ l1_ l2_ => w169 (by omega) x6 0 239) <| q_p fr <| q_if (fun h9 => ?_) (fun h9 => ?_)
          ·exact q_lret 0 ⟨rfl, rfl⟩
          ·exact q_p fr <| q_norm 0 ⟨rfl, rfl⟩
         ·exact q_exit 0 ⟨rfl, rfl⟩
        ·rintro i6 s12 _ _ ⟨rfl, rfl⟩
         refine q_ite (fun _ => ?_) (fun _ => ?_)
         ·exact q_ret (cv_p rfl) rfl
         ·exact q_none
        ·rintro s12 _ _ ⟨rfl, rfl⟩
         exact q_ret (cv_p rfl) rfl
       ·exact q_none
      ·rintro s10 _ _ ⟨rfl, rfl⟩
       exact q_ret (cv_p rfl) rfl
     ·exact q_none
    ·rintro s4 _ _ ⟨rfl, rfl⟩
     exact q_ret (cv_p rfl) rfl
   ·exact q_none
  ·rintro s2 _ _ ⟨rfl, rfl⟩
   exact q_ret (cv_p rfl) rfl
def m227 (a0 : Int) (a1 : TMsg) : Option (Int) :=
 (m258 a1).bind fun y1 =>
 bif !y1 then
  some 1
 else
  (
   (
    bif !(m169 a1.View 0 20) then
     some (LO.norm true)
    else
     bif !(m189 a0 a1.From) then
      some (LO.norm true)
     else
      bif decide (a1.Kind ≤ 3) then
       bif !(m169 a1.Slot 1 30) then
        some (LO.norm true)
       else
        some (LO.norm (!(m169 a1.Value 0 12)))
      else
       some (LO.norm false)).bind (contO (fun s3 =>
    bif s3 then
     some (LO.ret 3)
    else
     some (LO.norm 0)) (fun i1 s3 =>
    some (LO.exit i1 0)) (fun s3 =>
    some (LO.ret 0)))).bind (contO (fun s4 =>
   (
    bif decide ((a1.Certs.length : Int) > 30) then
     some (LO.ret 2)
    else
     bif decide ((a1.Refs.length : Int) > (wi .i64 ((wi .i64 (3 * a0)) + 1))) then
      some (LO.ret 2)
     else
      some (LO.norm s4)).bind (contO (fun s6 =>
    (m259 a1).bind fun y2 =>
    some y2) (fun i3 s6 =>
    none) (fun s6 =>
    some s6))) (fun i2 s4 =>
   none) (fun s4 =>
   some s4))
theorem w227 {d : Nat} (hd : 3 ≤ d) (a0 : Int) (k1 : Bool) (a1 : TMsg) : Fit (R NN d 227 [.int .i64 a0, .rp k1 (Enc.cs k1 a1)] []) (m227 a0 a1) (P0 (fun (t : Int) => AV.int .i64 t)) := by
  obtain ⟨d, rfl, g⟩ := up hd
  refine q_in (t227 NN d _ _) ?_
  unfold b227 m227
  refine q_c0 (fun S hS => argF1 (cv_rp (cvs_e (l0 := k1) (x := a1)) (fun _ _ _ h => Enc.frz k1 a1 _ _ _ h)) hS fun l0_ => w258 (by omega) l0_ a1) fun y1 hy1 => q_p fr <| q_if (fun h8 => ?_) (fun h8 => ?_)
  ·exact q_ret (cv_p rfl) rfl
  ·refine q_q fr <| q_p fr <| q_p fr <| q_p fr <| q_cut (I := (fun (s : Int) l L => l = [.int .i64 s] ∧ L = [])) ?_ ?_ ?_ ?_
   ·refine q_cut (I := (fun (s : Bool) l L => l = [.bool s] ∧ L = [])) ?_ ?_ ?_ ?_
    ·refine q_q fr <| q_p fr <| q_p fr <| q_c0t (fun S hS => argF3 (cv_p rfl) (cv_p rfl) (cv_p rfl) hS fun l0_ l1_ l2_ => w169 (by omega) a1.View 0 20) <| q_p fr <| q_gF (fun h4 => ?_) (fun h4 => ?_)
     ·exact q_norm 0 ⟨rfl, rfl⟩
     ·refine q_q fr <| q_p fr <| q_p fr <| q_c0t (fun S hS => argF2 (cv_p rfl) (cv_p rfl) hS fun l0_ l1_ => w189 (by omega) a0 a1.From) <| q_p fr <| q_gF (fun h3 => ?_) (fun h3 => ?_)
      ·exact q_norm 0 ⟨rfl, rfl⟩
      ·refine q_gT (fun h2 => ?_) (fun h2 => ?_)
       ·refine q_q fr <| q_p fr <| q_p fr <| q_c0t (fun S hS => argF3 (cv_p rfl) (cv_p rfl) (cv_p rfl) hS fun l0_ l1_ l2_ => w169 (by omega) a1.Slot 1 30) <| q_p fr <| q_gF (fun h1 => ?_) (fun h1 => ?_)
        ·exact q_norm 0 ⟨rfl, rfl⟩
        ·exact q_q fr <| q_p fr <| q_p fr <| q_c0t (fun S hS => argF3 (cv_p rfl) (cv_p rfl) (cv_p rfl) hS fun l0_ l1_ l2_ => w169 (by omega) a1.Value 0 12) <| q_p fr <| q_norm 0 ⟨rfl, rfl⟩
       ·exact q_norm 0 ⟨rfl, rfl⟩
    ·rintro s3 _ _ ⟨rfl, rfl⟩
     refine q_if (fun h5 => ?_) (fun h5 => ?_)
     ·exact q_lret 0 ⟨rfl, rfl⟩
     ·exact q_norm 0 ⟨rfl, rfl⟩
    ·rintro i1 s3 _ _ ⟨rfl, rfl⟩
     exact q_exit 0 ⟨rfl, rfl⟩
    ·rintro s3 _ _ ⟨rfl, rfl⟩
     exact q_lret 0 ⟨rfl, rfl⟩
   ·rintro s4 _ _ ⟨rfl, rfl⟩
    refine q_cut (I := (fun (s : Int) l L => l = [.int .i64 s] ∧ L = [])) ?_ ?_ ?_ ?_
    ·refine q_q fr <| q_p fr <| q_p fr <| q_len <| q_p fr <| q_gF (fun h7 => ?_) (fun h7 => ?_)
     ·first | refine q_ifT1 ?_ | skip
      exact q_lret 0 ⟨rfl, rfl⟩
     ·refine q_q fr <| q_p fr <| q_p fr <| q_len <| q_p fr <| q_p fr <| q_p fr <| q_if (fun h6 => ?_) (fun h6 => ?_)
      ·exact q_lret 0 ⟨rfl, rfl⟩
      ·exact q_norm 0 ⟨rfl, rfl⟩
    ·rintro s6 _ _ ⟨rfl, rfl⟩
     exact q_c0 (fun S hS => argF1 (cv_rp (cvs_e (l0 := k1) (x := a1)) (fun _ _ _ h => Enc.frz k1 a1 _ _ _ h)) hS fun l0_ => w259 (by omega) l0_ a1) fun y2 hy2 => q_ret (cv_p rfl) rfl
    ·rintro i3 s6 _ _ ⟨rfl, rfl⟩
     exact q_none
    ·rintro s6 _ _ ⟨rfl, rfl⟩
     exact q_ret (cv_p rfl) rfl
   ·rintro i2 s4 _ _ ⟨rfl, rfl⟩
    exact q_none
   ·rintro s4 _ _ ⟨rfl, rfl⟩
    exact q_ret (cv_p rfl) rfl
def ms228_0 (a0 : TMsg) (a1 : Int) (s1 : Bool × Int) : Option (LO (Bool × Int)) :=
 bif decide (s1.2 < (a0.Refs.length : Int)) then
  (getI a0.Refs s1.2).bind fun x1 =>
  bif decide (x1 ≥ a1) then
   some (LO.ret (false, s1.2))
  else
   some (LO.norm (s1.1, wi .i64 (s1.2 + 1)))
 else
  some (LO.exit 0 (s1.1, s1.2))
def m228 (a0 : TMsg) (a1 : Int) : Option (Bool) :=
 (loopO (ms228_0 a0 a1) NN (false, 0)).bind (contO (fun _ => none) (fun i1 s2 =>
  if i1 = 0 then
   some true
  else
   none) (fun s2 =>
  some s2.1))
theorem w228 {d : Nat} (hd : 1 ≤ d) (k0 : Bool) (a0 : TMsg) (a1 : Int) : Fit (R NN d 228 [.rp k0 (Enc.cs k0 a0), .int .i64 a1] []) (m228 a0 a1) (P0 (fun (t : Bool) => AV.bool t)) := by
  obtain ⟨d, rfl, g⟩ := up hd
  refine q_in (t228 NN d _ _) ?_
  unfold b228 m228
  refine q_loop (I := (fun (s : Bool × Int) l L => l = [.bool s.1, .int .i64 s.2] ∧ L = [])) 0 ⟨rfl, rfl⟩ ?_ ?_ ?_
  ·rintro s1 _ _ ⟨rfl, rfl⟩
   unfold s228_0 ms228_0
   refine q_q fr <| q_p fr <| q_p fr <| q_len <| q_p fr <| q_if (fun h2 => ?_) (fun h2 => ?_)
   ·refine q_q fr <| q_p fr <| q_p fr <| q_ix rfl fun x1 hx1 => q_p fr <| q_p fr <| q_if (fun h1 => ?_) (fun h1 => ?_)
    ·exact q_lret 0 ⟨rfl, rfl⟩
    ·exact q_p fr <| q_norm 0 ⟨rfl, rfl⟩
   ·exact q_exit 0 ⟨rfl, rfl⟩
  ·rintro i1 s2 _ _ ⟨rfl, rfl⟩
   refine q_ite (fun _ => ?_) (fun _ => ?_)
   ·exact q_ret (cv_p rfl) rfl
   ·exact q_none
  ·rintro s2 _ _ ⟨rfl, rfl⟩
   exact q_ret (cv_p rfl) rfl
def ms260_0 (a0 : TMsg) (a1 : TMsg) (s5 : Bool × Int) : Option (LO (Bool × Int)) :=
 bif decide (s5.2 < (a0.Certs.length : Int)) then
  (getI a0.Certs s5.2).bind fun x1 =>
  (getI a1.Certs s5.2).bind fun x2 =>
  bif !(((x1.Slot == x2.Slot) && ((x1.View == x2.View) && ((x1.Value == x2.Value) && true)))) then
   some (LO.ret (false, s5.2))
  else
   some (LO.norm (s5.1, wi .i64 (s5.2 + 1)))
 else
  some (LO.exit 0 (s5.1, s5.2))
def ms260_1 (a0 : TMsg) (a1 : TMsg) (s7 : Bool × Int) : Option (LO (Bool × Int)) :=
 bif decide (s7.2 < (a0.Refs.length : Int)) then
  (getI a0.Refs s7.2).bind fun x3 =>
  (getI a1.Refs s7.2).bind fun x4 =>
  bif x3 != x4 then
   some (LO.ret (false, s7.2))
  else
   some (LO.norm (s7.1, wi .i64 (s7.2 + 1)))
 else
  some (LO.exit 2 (s7.1, s7.2))
def m260 (a0 : TMsg) (a1 : TMsg) : Option (Bool) :=
 (
  (
   bif a0.Kind != a1.Kind then
    some (LO.norm true)
   else
    bif a0.View != a1.View then
     some (LO.norm true)
    else
     bif a0.From != a1.From then
      some (LO.norm true)
     else
      bif a0.Slot != a1.Slot then
       some (LO.norm true)
      else
       bif a0.Value != a1.Value then
        some (LO.norm true)
       else
        bif (a0.Certs.length : Int) != (a1.Certs.length : Int) then
         some (LO.norm true)
        else
         some (LO.norm ((a0.Refs.length : Int) != (a1.Refs.length : Int)))).bind (contO (fun s3 =>
   bif s3 then
    some (LO.ret false)
   else
    some (LO.norm false)) (fun i1 s3 =>
   some (LO.exit i1 false)) (fun s3 =>
   some (LO.ret false)))).bind (contO (fun s4 =>
  (loopO (ms260_0 a0 a1) NN (s4, 0)).bind (contO (fun _ => none) (fun i3 s6 =>
   if i3 = 0 then
    (loopO (ms260_1 a0 a1) NN (s6.1, 0)).bind (contO (fun _ => none) (fun i4 s8 =>
     if i4 = 2 then
      some true
     else
      none) (fun s8 =>
     some s8.1))
   else
    none) (fun s6 =>
   some s6.1))) (fun i2 s4 =>
  none) (fun s4 =>
  some s4))
theorem w260 {d : Nat} (hd : 1 ≤ d) (k0 : Bool) (a0 : TMsg) (k1 : Bool) (a1 : TMsg) : Fit (R NN d 260 [.rp k0 (Enc.cs k0 a0), .rp k1 (Enc.cs k1 a1)] []) (m260 a0 a1) (P0 (fun (t : Bool) => AV.bool t)) := by
  obtain ⟨d, rfl, g⟩ := up hd
  refine q_in (t260 NN d _ _) ?_
  unfold b260 m260
  refine q_cut (I := (fun (s : Bool) l L => l = [.bool s] ∧ L = [])) ?_ ?_ ?_ ?_
  ·refine q_cut (I := (fun (s : Bool) l L => l = [.bool s] ∧ L = [])) ?_ ?_ ?_ ?_
   ·refine q_q fr <| q_p fr <| q_p fr <| q_q fr <| q_p fr <| q_p fr <| q_p fr <| q_gF (fun h6 => ?_) (fun h6 => ?_)
    ·exact q_norm 0 ⟨rfl, rfl⟩
    ·refine q_q fr <| q_p fr <| q_p fr <| q_q fr <| q_p fr <| q_p fr <| q_p fr <| q_gF (fun h5 => ?_) (fun h5 => ?_)
     ·exact q_norm 0 ⟨rfl, rfl⟩
     ·refine q_q fr <| q_p fr <| q_p fr <| q_q fr <| q_p fr <| q_p fr <| q_p fr <| q_gF (fun h4 => ?_) (fun h4 => ?_)
      ·exact q_norm 0 ⟨rfl, rfl⟩
      ·refine q_q fr <| q_p fr <| q_p fr <| q_q fr <| q_p fr <| q_p fr <| q_p fr <| q_gF (fun h3 => ?_) (fun h3 => ?_)
       ·exact q_norm 0 ⟨rfl, rfl⟩
       ·refine q_q fr <| q_p fr <| q_p fr <| q_q fr <| q_p fr <| q_p fr <| q_p fr <| q_gF (fun h2 => ?_) (fun h2 => ?_)
        ·exact q_norm 0 ⟨rfl, rfl⟩
        ·refine q_q fr <| q_p fr <| q_p fr <| q_len <| q_q fr <| q_p fr <| q_p fr <| q_len <| q_p fr <| q_gF (fun h1 => ?_) (fun h1 => ?_)
         ·exact q_norm 0 ⟨rfl, rfl⟩
         ·exact q_q fr <| q_p fr <| q_p fr <| q_len <| q_q fr <| q_p fr <| q_p fr <| q_len <| q_p fr <| q_norm 0 ⟨rfl, rfl⟩
   ·rintro s3 _ _ ⟨rfl, rfl⟩
    refine q_if (fun h7 => ?_) (fun h7 => ?_)
    ·exact q_lret 0 ⟨rfl, rfl⟩
    ·exact q_norm 0 ⟨rfl, rfl⟩
   ·rintro i1 s3 _ _ ⟨rfl, rfl⟩
    exact q_exit 0 ⟨rfl, rfl⟩
   ·rintro s3 _ _ ⟨rfl, rfl⟩
    exact q_lret 0 ⟨rfl, rfl⟩
  ·rintro s4 _ _ ⟨rfl, rfl⟩
   refine q_loop (I := (fun (s : Bool × Int) l L => l = [.bool s.1, .int .i64 s.2] ∧ L = [])) 0 ⟨rfl, rfl⟩ ?_ ?_ ?_
   ·rintro s5 _ _ ⟨rfl, rfl⟩
    unfold s260_0 ms260_0
    refine q_q fr <| q_p fr <| q_p fr <| q_len <| q_p fr <| q_if (fun h9 => ?_) (fun h9 => ?_)
    ·refine q_q fr <| q_p fr <| q_p fr <| q_ix rfl fun x1 hx1 => q_p fr <| q_q fr <| q_p fr <| q_p fr <| q_ix rfl fun x2 hx2 => q_p fr <| q_p (fun _ => sneq1612 _ _ _ _ _ _) <| q_if (fun h8 => ?_) (fun h8 => ?_)
     ·exact q_lret 0 ⟨rfl, rfl⟩
     ·exact q_p fr <| q_norm 0 ⟨rfl, rfl⟩
    ·exact q_exit 0 ⟨rfl, rfl⟩
   ·rintro i3 s6 _ _ ⟨rfl, rfl⟩
    refine q_ite (fun _ => ?_) (fun _ => ?_)
    ·refine q_loop (I := (fun (s : Bool × Int) l L => l = [.bool s.1, .int .i64 s.2] ∧ L = [])) 0 ⟨rfl, rfl⟩ ?_ ?_ ?_
     ·rintro s7 _ _ ⟨rfl, rfl⟩
      unfold s260_1 ms260_1
      refine q_q fr <| q_p fr <| q_p fr <| q_len <| q_p fr <| q_if (fun h11 => ?_) (fun h11 => ?_)
      ·refine q_q fr <| q_p fr <| q_p fr <| q_ix rfl fun x3 hx3 => q_p fr <| q_q fr <| q_p fr <| q_p fr <| q_ix rfl fun x4 hx4 => q_p fr <| q_p fr <| q_if (fun h10 => ?_) (fun h10 => ?_)
       ·exact q_lret 0 ⟨rfl, rfl⟩
       ·exact q_p fr <| q_norm 0 ⟨rfl, rfl⟩
      ·exact q_exit 0 ⟨rfl, rfl⟩
     ·rintro i4 s8 _ _ ⟨rfl, rfl⟩
      refine q_ite (fun _ => ?_) (fun _ => ?_)
      ·exact q_ret (cv_p rfl) rfl
      ·exact q_none
     ·rintro s8 _ _ ⟨rfl, rfl⟩
      exact q_ret (cv_p rfl) rfl
    ·exact q_none
   ·rintro s6 _ _ ⟨rfl, rfl⟩
    exact q_ret (cv_p rfl) rfl
  ·rintro i2 s4 _ _ ⟨rfl, rfl⟩
   exact q_none
  ·rintro s4 _ _ ⟨rfl, rfl⟩
   exact q_ret (cv_p rfl) rfl
def ms229_0 (a0 : List TMsg) (a1 : TMsg) (s1 : Int × Int) : Option (LO (Int × Int)) :=
 bif decide (s1.2 < (a0.length : Int)) then
  (getI a0 s1.2).bind fun x1 =>
  (m260 x1 a1).bind fun y1 =>
  bif y1 then
   some (LO.ret (s1.2, s1.2))
  else
   some (LO.norm (s1.1, wi .i64 (s1.2 + 1)))
 else
  some (LO.exit 0 (s1.1, s1.2))
def m229 (a0 : List TMsg) (a1 : TMsg) : Option (Int) :=
 (loopO (ms229_0 a0 a1) NN (0, 0)).bind (contO (fun _ => none) (fun i1 s2 =>
  if i1 = 0 then
   some (-1)
  else
   none) (fun s2 =>
  some s2.1))
theorem w229 {d : Nat} (hd : 2 ≤ d) (k0 : Bool) (a0 : List TMsg) (k1 : Bool) (a1 : TMsg) : Fit (R NN d 229 [.rsl k0 false (a0.map (Enc.cs k0)), .rp k1 (Enc.cs k1 a1)] []) (m229 a0 a1) (P0 (fun (t : Int) => AV.int .i64 t)) := by
  obtain ⟨d, rfl, g⟩ := up hd
  refine q_in (t229 NN d _ _) ?_
  unfold b229 m229
  refine q_loop (I := (fun (s : Int × Int) l L => l = [.int .i64 s.1, .int .i64 s.2] ∧ L = [])) 0 ⟨rfl, rfl⟩ ?_ ?_ ?_
  ·rintro s1 _ _ ⟨rfl, rfl⟩
   unfold s229_0 ms229_0
   refine q_len <| q_p fr <| q_if (fun h2 => ?_) (fun h2 => ?_)
   ·refine q_ix rfl fun x1 hx1 => q_c0 (fun S hS => argF2 (cv_rp (cvs_e (l0 := k0) (x := x1)) (fun _ _ _ h => Enc.frz k0 x1 _ _ _ h)) (cv_rp (cvs_e (l0 := k1) (x := a1)) (fun _ _ _ h => Enc.frz k1 a1 _ _ _ h)) hS fun l0_ l1_ => w260 (by omega) l0_ x1 l1_ a1) fun y1 hy1 => q_if (fun h1 => ?_) (fun h1 => ?_)
    ·exact q_lret 0 ⟨rfl, rfl⟩
    ·exact q_p fr <| q_norm 0 ⟨rfl, rfl⟩
   ·exact q_exit 0 ⟨rfl, rfl⟩
  ·rintro i1 s2 _ _ ⟨rfl, rfl⟩
   refine q_ite (fun _ => ?_) (fun _ => ?_)
   ·exact q_ret (cv_p rfl) rfl
   ·exact q_none
  ·rintro s2 _ _ ⟨rfl, rfl⟩
   exact q_ret (cv_p rfl) rfl
def ms188_0 (a0 : Int) (a1 : List TMsg) (s1 : Int × Int) : Option (LO (Int × Int)) :=
 bif decide (s1.2 < (a1.length : Int)) then
  (getI a1 s1.2).bind fun x1 =>
  (m227 a0 x1).bind fun y1 =>
  bif y1 != 0 then
   some (LO.ret (y1, s1.2))
  else
   (getI a1 s1.2).bind fun x2 =>
   (m228 x2 s1.2).bind fun y2 =>
   bif !y2 then
    some (LO.ret (4, s1.2))
   else
    (getI a1 s1.2).bind fun x3 =>
    (m229 a1 x3).bind fun y3 =>
    bif y3 != s1.2 then
     some (LO.ret (6, s1.2))
    else
     some (LO.norm (s1.1, wi .i64 (s1.2 + 1)))
 else
  some (LO.exit 0 (s1.1, s1.2))
def m188 (a0 : Int) (a1 : List TMsg) : Option (Int) :=
 bif decide ((a1.length : Int) > 240) then
  some 2
 else
  (loopO (ms188_0 a0 a1) NN (0, 0)).bind (contO (fun _ => none) (fun i1 s2 =>
   if i1 = 0 then
    some 0
   else
    none) (fun s2 =>
   some s2.1))
theorem w188 {d : Nat} (hd : 4 ≤ d) (a0 : Int) (k1 : Bool) (a1 : List TMsg) : Fit (R NN d 188 [.int .i64 a0, .rsl k1 false (a1.map (Enc.cs k1))] []) (m188 a0 a1) (P0 (fun (t : Int) => AV.int .i64 t)) := by
  obtain ⟨d, rfl, g⟩ := up hd
  refine q_in (t188 NN d _ _) ?_
  unfold b188 m188
  refine q_len <| q_p fr <| q_if (fun h5 => ?_) (fun h5 => ?_)
  ·exact q_ret (cv_p rfl) rfl
  ·refine q_loop (I := (fun (s : Int × Int) l L => l = [.int .i64 s.1, .int .i64 s.2] ∧ L = [])) 0 ⟨rfl, rfl⟩ ?_ ?_ ?_
   ·rintro s1 _ _ ⟨rfl, rfl⟩
    unfold s188_0 ms188_0
    refine q_len <| q_p fr <| q_if (fun h4 => ?_) (fun h4 => ?_)
    ·refine q_ix rfl fun x1 hx1 => q_c0 (fun S hS => argF2 (cv_p rfl) (cv_rp (cvs_e (l0 := k1) (x := x1)) (fun _ _ _ h => Enc.frz k1 x1 _ _ _ h)) hS fun l0_ l1_ => w227 (by omega) a0 l1_ x1) fun y1 hy1 => q_p fr <| q_if (fun h3 => ?_) (fun h3 => ?_)
     ·exact q_lret 0 ⟨rfl, rfl⟩
     ·refine q_ix rfl fun x2 hx2 => q_c0 (fun S hS => argF2 (cv_rp (cvs_e (l0 := k1) (x := x2)) (fun _ _ _ h => Enc.frz k1 x2 _ _ _ h)) (cv_p rfl) hS fun l0_ l1_ => w228 (by omega) l0_ x2 s1.2) fun y2 hy2 => q_p fr <| q_if (fun h2 => ?_) (fun h2 => ?_)
      ·exact q_lret 0 ⟨rfl, rfl⟩
      ·refine q_ix rfl fun x3 hx3 => q_c0 (fun S hS => argF2 cv_r (cv_rp (cvs_e (l0 := k1) (x := x3)) (fun _ _ _ h => Enc.frz k1 x3 _ _ _ h)) hS fun l0_ l1_ => w229 (by omega) l0_ a1 l1_ x3) fun y3 hy3 => q_p fr <| q_if (fun h1 => ?_) (fun h1 => ?_)
       ·exact q_lret 0 ⟨rfl, rfl⟩
       ·exact q_p fr <| q_norm 0 ⟨rfl, rfl⟩
    ·exact q_exit 0 ⟨rfl, rfl⟩
   ·rintro i1 s2 _ _ ⟨rfl, rfl⟩
    refine q_ite (fun _ => ?_) (fun _ => ?_)
    ·exact q_ret (cv_p rfl) rfl
    ·exact q_none
   ·rintro s2 _ _ ⟨rfl, rfl⟩
    exact q_ret (cv_p rfl) rfl
def m120 (a0 : Int) (a1 : List TMsg) : Option (Int) :=
 bif !(m187 a0) then
  some 3
 else
  (m188 a0 a1).bind fun y1 =>
  some y1
theorem w120 {d : Nat} (hd : 5 ≤ d) (a0 : Int) (k1 : Bool) (a1 : List TMsg) : Fit (R NN d 120 [.int .i64 a0, .rsl k1 false (a1.map (Enc.cs k1))] []) (m120 a0 a1) (P0 (fun (t : Int) => AV.int .i64 t)) := by
  obtain ⟨d, rfl, g⟩ := up hd
  refine q_in (t120 NN d _ _) ?_
  unfold b120 m120
  refine q_c0t (fun S hS => argF1 (cv_p rfl) hS fun l0_ => w187 (by omega) a0) <| q_p fr <| q_if (fun h1 => ?_) (fun h1 => ?_)
  ·exact q_ret (cv_p rfl) rfl
  ·exact q_c0 (fun S hS => argF2 (cv_p rfl) cv_r hS fun l0_ l1_ => w188 (by omega) a0 l1_ a1) fun y1 hy1 => q_ret (cv_p rfl) rfl
def ms121_0 (a0 : Int) (a1 : List Int) (s1 : Int × Int) : Option (LO (Int × Int)) :=
 bif decide (s1.2 < (a1.length : Int)) then
  (
   (getI a1 s1.2).bind fun x1 =>
   bif !(m189 a0 x1) then
    some (LO.ret 3)
   else
    bif decide (s1.2 > 0) then
     (getI a1 s1.2).bind fun x2 =>
     (getI a1 (wi .i64 (s1.2 - 1))).bind fun x3 =>
     bif decide (x2 ≤ x3) then
      some (LO.ret 1)
     else
      some (LO.norm s1.1)
    else
     some (LO.norm s1.1)).bind (contO (fun s3 =>
   some (LO.norm (s3, wi .i64 (s1.2 + 1)))) (fun i1 s3 =>
   some (LO.exit i1 (s3, s1.2))) (fun s3 =>
   some (LO.ret (s3, s1.2))))
 else
  some (LO.exit 0 (s1.1, s1.2))
def m121 (a0 : Int) (a1 : List Int) : Option (Int) :=
 bif decide ((a1.length : Int) > a0) then
  some 2
 else
  (loopO (ms121_0 a0 a1) NN (0, 0)).bind (contO (fun _ => none) (fun i2 s4 =>
   if i2 = 0 then
    some 0
   else
    none) (fun s4 =>
   some s4.1))
theorem w121 {d : Nat} (hd : 3 ≤ d) (a0 : Int) (k1 : Bool) (a1 : List Int) : Fit (R NN d 121 [.int .i64 a0, .rsl k1 false (a1.map (Enc.cs k1))] []) (m121 a0 a1) (P0 (fun (t : Int) => AV.int .i64 t)) := by
  obtain ⟨d, rfl, g⟩ := up hd
  refine q_in (t121 NN d _ _) ?_
  unfold b121 m121
  refine q_len <| q_p fr <| q_if (fun h5 => ?_) (fun h5 => ?_)
  ·exact q_ret (cv_p rfl) rfl
  ·refine q_loop (I := (fun (s : Int × Int) l L => l = [.int .i64 s.1, .int .i64 s.2] ∧ L = [])) 0 ⟨rfl, rfl⟩ ?_ ?_ ?_
   ·rintro s1 _ _ ⟨rfl, rfl⟩
    unfold s121_0 ms121_0
    refine q_len <| q_p fr <| q_if (fun h4 => ?_) (fun h4 => ?_)
    ·refine q_cut (I := (fun (s : Int) l L => l = [.int .i64 s] ∧ L = [])) ?_ ?_ ?_ ?_
     ·refine q_ix rfl fun x1 hx1 => q_p fr <| q_c0t (fun S hS => argF2 (cv_p rfl) (cv_p rfl) hS fun l0_ l1_ => w189 (by omega) a0 x1) <| q_p fr <| q_if (fun h3 => ?_) (fun h3 => ?_)
      ·exact q_lret 0 ⟨rfl, rfl⟩
      ·refine q_p fr <| q_gT (fun h2 => ?_) (fun h2 => ?_)
       ·refine q_ix rfl fun x2 hx2 => q_p fr <| q_p fr <| q_ix rfl fun x3 hx3 => q_p fr <| q_p fr <| q_if (fun h1 => ?_) (fun h1 => ?_)
        ·exact q_lret 0 ⟨rfl, rfl⟩
        ·exact q_norm 0 ⟨rfl, rfl⟩
       ·first | refine q_ifF1 ?_ | skip
        exact q_norm 0 ⟨rfl, rfl⟩
     ·rintro s3 _ _ ⟨rfl, rfl⟩
      exact q_p fr <| q_norm 0 ⟨rfl, rfl⟩
     ·rintro i1 s3 _ _ ⟨rfl, rfl⟩
      exact q_exit 0 ⟨rfl, rfl⟩
     ·rintro s3 _ _ ⟨rfl, rfl⟩
      exact q_lret 0 ⟨rfl, rfl⟩
    ·exact q_exit 0 ⟨rfl, rfl⟩
   ·rintro i2 s4 _ _ ⟨rfl, rfl⟩
    refine q_ite (fun _ => ?_) (fun _ => ?_)
    ·exact q_ret (cv_p rfl) rfl
    ·exact q_none
   ·rintro s4 _ _ ⟨rfl, rfl⟩
    exact q_ret (cv_p rfl) rfl
def ms80_0 (a0 : List Int) (a1 : Int) (s1 : Bool × Int) : Option (LO (Bool × Int)) :=
 bif decide (s1.2 < (a0.length : Int)) then
  (getI a0 s1.2).bind fun x1 =>
  bif x1 == a1 then
   some (LO.ret (true, s1.2))
  else
   some (LO.norm (s1.1, wi .i64 (s1.2 + 1)))
 else
  some (LO.exit 0 (s1.1, s1.2))
def m80 (a0 : List Int) (a1 : Int) : Option (Bool) :=
 (loopO (ms80_0 a0 a1) NN (false, 0)).bind (contO (fun _ => none) (fun i1 s2 =>
  if i1 = 0 then
   some false
  else
   none) (fun s2 =>
  some s2.1))
theorem w80 {d : Nat} (hd : 1 ≤ d) (k0 : Bool) (a0 : List Int) (a1 : Int) : Fit (R NN d 80 [.rsl k0 false (a0.map (Enc.cs k0)), .int .i64 a1] []) (m80 a0 a1) (P0 (fun (t : Bool) => AV.bool t)) := by
  obtain ⟨d, rfl, g⟩ := up hd
  refine q_in (t80 NN d _ _) ?_
  unfold b80 m80
  refine q_loop (I := (fun (s : Bool × Int) l L => l = [.bool s.1, .int .i64 s.2] ∧ L = [])) 0 ⟨rfl, rfl⟩ ?_ ?_ ?_
  ·rintro s1 _ _ ⟨rfl, rfl⟩
   unfold s80_0 ms80_0
   refine q_len <| q_p fr <| q_if (fun h2 => ?_) (fun h2 => ?_)
   ·refine q_ix rfl fun x1 hx1 => q_p fr <| q_p fr <| q_if (fun h1 => ?_) (fun h1 => ?_)
    ·exact q_lret 0 ⟨rfl, rfl⟩
    ·exact q_p fr <| q_norm 0 ⟨rfl, rfl⟩
   ·exact q_exit 0 ⟨rfl, rfl⟩
  ·rintro i1 s2 _ _ ⟨rfl, rfl⟩
   refine q_ite (fun _ => ?_) (fun _ => ?_)
   ·exact q_ret (cv_p rfl) rfl
   ·exact q_none
  ·rintro s2 _ _ ⟨rfl, rfl⟩
   exact q_ret (cv_p rfl) rfl
def m180 (a0 : Int) : Int :=
 wi .i64 ((wi .i64 (2 * a0)) + 1)
theorem w180 {d : Nat} (hd : 1 ≤ d) (a0 : Int) : Fit (R NN d 180 [.int .i64 a0] []) (some (m180 a0)) (P0 (fun (t : Int) => AV.int .i64 t)) := by
  obtain ⟨d, rfl, g⟩ := up hd
  refine q_in (t180 NN d _) ?_
  unfold b180 m180
  exact q_p fr <| q_p fr <| q_ret (cv_p rfl) rfl
def ms207_0 (a0 : Int) (a1 : List TMsg) (a2 : Int) (a3 : TCert) (s1 : Int × (List Int)) : Option (LO (Int × (List Int))) :=
 bif decide (s1.1 ≤ (wi .i64 ((wi .i64 (3 * a0)) + 1))) then
  (
   (m229 a1 (⟨a2, a3.View, s1.1, a3.Slot, a3.Value, [], []⟩ : TMsg)).bind fun y1 =>
   bif decide (y1 ≥ 0) then
    (appO 8 s1.2 [s1.1]).bind fun z1 =>
    some (LO.norm z1)
   else
    some (LO.norm s1.2)).bind (contO (fun s3 =>
   some (LO.norm (wi .i64 (s1.1 + 1), s3))) (fun i1 s3 =>
   some (LO.exit i1 (s1.1, s3))) (fun s3 =>
   some (LO.ret (s1.1, s3))))
 else
  some (LO.exit 0 (s1.1, s1.2))
def m207 (a0 : Int) (a1 : List TMsg) (a2 : Int) (a3 : TCert) : Option ((List Int)) :=
 (loopO (ms207_0 a0 a1 a2 a3) NN (1, [])).bind (contO (fun _ => none) (fun i2 s4 =>
  if i2 = 0 then
   some s4.2
  else
   none) (fun s4 =>
  some []))
theorem w207 {d : Nat} (hd : 3 ≤ d) (a0 : Int) (k1 : Bool) (a1 : List TMsg) (a2 : Int) (k3 : Bool) (a3 : TCert) : Fit (R NN d 207 [.int .i64 a0, .rsl k1 false (a1.map (Enc.cs k1)), .int .i64 a2, .agg (Enc.cs k3 a3)] []) (m207 a0 a1 a2 a3) (P0 (fun (t : List Int) => AV.rsl false false (t.map (Enc.cs false)))) := by
  obtain ⟨d, rfl, g⟩ := up hd
  refine q_in (t207 NN d _ _ _ _) ?_
  unfold b207 m207
  refine q_box (n := 3) rfl rfl (by decide) fun b1 => q_e (fun _ => bs22_0 _) <| q_nil (α := Int) false <| q_loop (I := (fun (s : Int × (List Int)) l L => ∃ (v1 : AV), l = [v1, .int .i64 s.1] ∧ L = [sl false v1 (s.2 : List Int), bx b1 [.int .i64 a3.Slot, .int .i64 a3.View, .int .i64 a3.Value]])) 0 ⟨(.rsl false true []), rfl, rfl⟩ ?_ ?_ ?_
  ·rintro s1 _ _ ⟨v1, rfl, rfl⟩
   unfold s207_0 ms207_0
   refine q_p fr <| q_p fr <| q_p fr <| q_if (fun h2 => ?_) (fun h2 => ?_)
   ·refine q_cut (I := (fun (s : (List Int)) l L => ∃ (v2 : AV), l = [v2] ∧ L = [sl false v2 (s : List Int), bx b1 [.int .i64 a3.Slot, .int .i64 a3.View, .int .i64 a3.Value]])) ?_ ?_ ?_ ?_
    ·refine q_p fr <| q_ld 1 rfl rfl <| q_p fr <| q_ld 1 rfl rfl <| q_p fr <| q_ld 1 rfl rfl <| q_p (fun _ => bd103_0_1_2_3_4 rfl) <| q_new rfl fun b2 => q_st 0 rfl rfl rfl (by decide) rfl <| q_c0 (fun S hS => argF2 cv_r (cv_b 0 rfl (cvs_cons (cv_p rfl) (cvs_cons (cv_p rfl) (cvs_cons (cv_p rfl) (cvs_cons (cv_p rfl) (cvs_cons (cv_p rfl) (cvs_cons (cv_r (α := TCert) (l0 := false) (fl := true) (xs := [])) (cvs_cons (cv_r (α := Int) (l0 := false) (fl := true) (xs := [])) cvs_nil)))))))) hS fun l0_ l1_ => w229 (by omega) l0_ a1 l1_ (⟨a2, a3.View, s1.1, a3.Slot, a3.Value, [], []⟩ : TMsg)) fun y1 hy1 => q_p fr <| q_if (fun h1 => ?_) (fun h1 => ?_)
     ·exact q_e (fun _ => bs22_1 rfl) <| q_app (ys := [s1.1]) 1 rfl rfl (fun _ _ => rfl) fun v2 z1 hz1 => q_norm 1 ⟨v2, rfl, rfl⟩
     ·exact q_norm 1 ⟨v1, rfl, rfl⟩
    ·rintro s3 _ _ ⟨v3, rfl, rfl⟩
     exact q_p fr <| q_norm 0 ⟨v3, rfl, rfl⟩
    ·rintro i1 s3 _ _ ⟨v4, rfl, rfl⟩
     exact q_exit 0 ⟨v4, rfl, rfl⟩
    ·rintro s3 _ _ ⟨v5, rfl, rfl⟩
     exact q_lret 0 ⟨v5, rfl, rfl⟩
   ·exact q_exit 0 ⟨v1, rfl, rfl⟩
  ·rintro i2 s4 _ _ ⟨v6, rfl, rfl⟩
   refine q_ite (fun _ => ?_) (fun _ => ?_)
   ·exact q_ret (cv_o 0 rfl) rfl
   ·exact q_none
  ·rintro s4 _ _ ⟨v7, rfl, rfl⟩
   exact q_ret (cv_r (α := Int) (l0 := false) (fl := true) (xs := [])) rfl
def m143 (a0 : Int) (a1 : List TMsg) (a2 : Int) (a3 : TCert) : Option (Bool) :=
 (m207 a0 a1 a2 a3).bind fun y1 =>
 some (decide ((y1.length : Int) ≥ (m180 a0)))
theorem w143 {d : Nat} (hd : 4 ≤ d) (a0 : Int) (k1 : Bool) (a1 : List TMsg) (a2 : Int) (k3 : Bool) (a3 : TCert) : Fit (R NN d 143 [.int .i64 a0, .rsl k1 false (a1.map (Enc.cs k1)), .int .i64 a2, .agg (Enc.cs k3 a3)] []) (m143 a0 a1 a2 a3) (P0 (fun (t : Bool) => AV.bool t)) := by
  obtain ⟨d, rfl, g⟩ := up hd
  refine q_in (t143 NN d _ _ _ _) ?_
  unfold b143 m143
  exact q_box (n := 3) rfl rfl (by decide) fun b1 => q_lda 0 rfl rfl rfl <| q_c0 (fun S hS => argF4 (cv_p rfl) cv_r (cv_p rfl) (cv_a (cvs_e (l0 := false) (x := a3))) hS fun l0_ l1_ l2_ l3_ => w207 (by omega) a0 l1_ a1 a2 l3_ a3) fun y1 hy1 => q_len <| q_c0t (fun S hS => argF1 (cv_p rfl) hS fun l0_ => w180 (by omega) a0) <| q_p fr <| q_ret (cv_p rfl) rfl
def ms76_0 (a0 : Int) (a1 : List TMsg) (a2 : Int) (s1 : Int × (List Int)) (s3 : Bool × Int) : Option (LO (Bool × Int)) :=
 (
  (
   bif decide (s3.2 < (a1.length : Int)) then
    some (LO.norm (!s3.1))
   else
    some (LO.norm false)).bind (contO (fun s6 =>
   bif s6 then
    some (LO.norm s6)
   else
    some (LO.exit 2 s6)) (fun i1 s6 =>
   some (LO.exit i1 s6)) (fun s6 =>
   some (LO.ret s6)))).bind (contO (fun s7 =>
  (
   (getI a1 s3.2).bind fun x1 =>
   (
    bif x1.Kind == 3 then
     bif x1.Slot == a2 then
      some (LO.norm (x1.Value == s1.1))
     else
      some (LO.norm false)
    else
     some (LO.norm false)).bind (contO (fun s10 =>
    bif s10 then
     (m143 a0 a1 3 (⟨a2, x1.View, s1.1⟩ : TCert)).bind fun y1 =>
     some (LO.norm y1)
    else
     some (LO.norm s3.1)) (fun i3 s10 =>
    if i3 = 3 then
     some (LO.norm s3.1)
    else
     some (LO.exit i3 s3.1)) (fun s10 =>
    some (LO.ret s3.1)))).bind (contO (fun s11 =>
   some (LO.norm (s11, wi .i64 (s3.2 + 1)))) (fun i4 s11 =>
   some (LO.exit i4 (s11, s3.2))) (fun s11 =>
   some (LO.ret (s11, s3.2))))) (fun i2 s7 =>
  some (LO.exit i2 (s3.1, s3.2))) (fun s7 =>
  some (LO.ret (s3.1, s3.2))))
def ms76_1 (a0 : Int) (a1 : List TMsg) (a2 : Int) (s1 : Int × (List Int)) : Option (LO (Int × (List Int))) :=
 bif decide (s1.1 ≤ 12) then
  (
   (loopO (ms76_0 a0 a1 a2 s1) NN (false, 0)).bind (contO (fun _ => none) (fun i5 s12 =>
    if i5 = 2 then
     bif s12.1 then
      (appO 8 s1.2 [s1.1]).bind fun z1 =>
      some (LO.norm z1)
     else
      some (LO.norm s1.2)
    else
     if i5 = 1 then
      some (LO.norm s1.2)
     else
      some (LO.exit i5 s1.2)) (fun s12 =>
    some (LO.ret s1.2)))).bind (contO (fun s13 =>
   some (LO.norm (wi .i64 (s1.1 + 1), s13))) (fun i6 s13 =>
   some (LO.exit i6 (s1.1, s13))) (fun s13 =>
   some (LO.ret (s1.1, s13))))
 else
  some (LO.exit 0 (s1.1, s1.2))
def m76 (a0 : Int) (a1 : List TMsg) (a2 : Int) : Option ((List Int)) :=
 (loopO (ms76_1 a0 a1 a2) NN (0, [])).bind (contO (fun _ => none) (fun i7 s14 =>
  if i7 = 0 then
   some s14.2
  else
   none) (fun s14 =>
  some []))
theorem w76 {d : Nat} (hd : 5 ≤ d) (a0 : Int) (k1 : Bool) (a1 : List TMsg) (a2 : Int) : Fit (R NN d 76 [.int .i64 a0, .rsl k1 false (a1.map (Enc.cs k1)), .int .i64 a2] []) (m76 a0 a1 a2) (P0 (fun (t : List Int) => AV.rsl false false (t.map (Enc.cs false)))) := by
  obtain ⟨d, rfl, g⟩ := up hd
  refine q_in (t76 NN d _ _ _) ?_
  unfold b76 m76
  refine q_e (fun _ => bs22_0 _) <| q_nil (α := Int) false <| q_loop (I := (fun (s : Int × (List Int)) l L => ∃ (v1 : AV), l = [v1, .int .i64 s.1] ∧ L = [sl false v1 (s.2 : List Int)])) 0 ⟨(.rsl false true []), rfl, rfl⟩ ?_ ?_ ?_
  ·rintro s1 _ _ ⟨v1, rfl, rfl⟩
   unfold s76_1 ms76_1
   refine q_p fr <| q_if (fun h7 => ?_) (fun h7 => ?_)
   ·refine q_cut (I := (fun (s : (List Int)) l L => ∃ (v2 : AV), l = [v2] ∧ L = [sl false v2 (s : List Int)])) ?_ ?_ ?_ ?_
    ·refine q_loop (I := (fun (s : Bool × Int) l L => l = [.bool s.1, .int .i64 s.2] ∧ L = [sl false v1 (s1.2 : List Int)])) 0 ⟨rfl, rfl⟩ ?_ ?_ ?_
     ·rintro s3 _ _ ⟨rfl, rfl⟩
      unfold s76_0 ms76_0
      refine q_cut (I := (fun (s : Bool) l L => l = [.bool s] ∧ L = [sl false v1 (s1.2 : List Int)])) ?_ ?_ ?_ ?_
      ·refine q_cut (I := (fun (s : Bool) l L => l = [.bool s] ∧ L = [sl false v1 (s1.2 : List Int)])) ?_ ?_ ?_ ?_
       ·refine q_len <| q_p fr <| q_gT (fun h1 => ?_) (fun h1 => ?_)
        ·exact q_p fr <| q_norm 0 ⟨rfl, rfl⟩
        ·exact q_norm 0 ⟨rfl, rfl⟩
       ·rintro s6 _ _ ⟨rfl, rfl⟩
        refine q_if (fun h2 => ?_) (fun h2 => ?_)
        ·exact q_norm 0 ⟨rfl, rfl⟩
        ·exact q_exit 0 ⟨rfl, rfl⟩
       ·rintro i1 s6 _ _ ⟨rfl, rfl⟩
        exact q_exit 0 ⟨rfl, rfl⟩
       ·rintro s6 _ _ ⟨rfl, rfl⟩
        exact q_lret 0 ⟨rfl, rfl⟩
      ·rintro s7 _ _ ⟨rfl, rfl⟩
       refine q_cut (I := (fun (s : Bool) l L => l = [.bool s] ∧ L = [sl false v1 (s1.2 : List Int)])) ?_ ?_ ?_ ?_
       ·refine q_ix rfl fun x1 hx1 => q_cut (I := (fun (s : Bool) l L => l = [.bool s] ∧ L = [sl false v1 (s1.2 : List Int)])) ?_ ?_ ?_ ?_
        ·refine q_q fr <| q_p fr <| q_p fr <| q_p fr <| q_gT (fun h4 => ?_) (fun h4 => ?_)
         ·refine q_q fr <| q_p fr <| q_p fr <| q_p fr <| q_gT (fun h3 => ?_) (fun h3 => ?_)
          ·exact q_q fr <| q_p fr <| q_p fr <| q_p fr <| q_norm 0 ⟨rfl, rfl⟩
          ·exact q_norm 0 ⟨rfl, rfl⟩
         ·exact q_norm 0 ⟨rfl, rfl⟩
        ·rintro s10 _ _ ⟨rfl, rfl⟩
         refine q_if (fun h5 => ?_) (fun h5 => ?_)
         ·exact q_q fr <| q_p fr <| q_p fr <| q_p (fun _ => bd161_0_1_2 rfl) <| q_c0 (fun S hS => argF4 (cv_p rfl) cv_r (cv_p rfl) (cv_a (cvs_cons (cv_p rfl) (cvs_cons (cv_p rfl) (cvs_cons (cv_p rfl) cvs_nil)))) hS fun l0_ l1_ l2_ l3_ => w143 (by omega) a0 l1_ a1 3 l3_ (⟨a2, x1.View, s1.1⟩ : TCert)) fun y1 hy1 => q_norm 0 ⟨rfl, rfl⟩
         ·exact q_norm 0 ⟨rfl, rfl⟩
        ·rintro i3 s10 _ _ ⟨rfl, rfl⟩
         refine q_ite (fun _ => ?_) (fun _ => ?_)
         ·exact q_norm 0 ⟨rfl, rfl⟩
         ·exact q_exit 0 ⟨rfl, rfl⟩
        ·rintro s10 _ _ ⟨rfl, rfl⟩
         exact q_lret 0 ⟨rfl, rfl⟩
       ·rintro s11 _ _ ⟨rfl, rfl⟩
        exact q_p fr <| q_norm 0 ⟨rfl, rfl⟩
       ·rintro i4 s11 _ _ ⟨rfl, rfl⟩
        exact q_exit 0 ⟨rfl, rfl⟩
       ·rintro s11 _ _ ⟨rfl, rfl⟩
        exact q_lret 0 ⟨rfl, rfl⟩
      ·rintro i2 s7 _ _ ⟨rfl, rfl⟩
       exact q_exit 0 ⟨rfl, rfl⟩
      ·rintro s7 _ _ ⟨rfl, rfl⟩
       exact q_lret 0 ⟨rfl, rfl⟩
     ·rintro i5 s12 _ _ ⟨rfl, rfl⟩
      refine q_ite (fun _ => ?_) (fun _ => ?_)
      ·refine q_if (fun h6 => ?_) (fun h6 => ?_)
       ·exact q_e (fun _ => bs22_1 rfl) <| q_app (ys := [s1.1]) 0 rfl rfl (fun _ _ => rfl) fun v2 z1 hz1 => q_norm 0 ⟨v2, rfl, rfl⟩
       ·exact q_norm 0 ⟨v1, rfl, rfl⟩
      ·refine q_ite (fun _ => ?_) (fun _ => ?_)
       ·exact q_norm 0 ⟨v1, rfl, rfl⟩
       ·exact q_exit 0 ⟨v1, rfl, rfl⟩
     ·rintro s12 _ _ ⟨rfl, rfl⟩
      exact q_lret 0 ⟨v1, rfl, rfl⟩
    ·rintro s13 _ _ ⟨v3, rfl, rfl⟩
     exact q_p fr <| q_norm 0 ⟨v3, rfl, rfl⟩
    ·rintro i6 s13 _ _ ⟨v4, rfl, rfl⟩
     exact q_exit 0 ⟨v4, rfl, rfl⟩
    ·rintro s13 _ _ ⟨v5, rfl, rfl⟩
     exact q_lret 0 ⟨v5, rfl, rfl⟩
   ·exact q_exit 0 ⟨v1, rfl, rfl⟩
  ·rintro i7 s14 _ _ ⟨v6, rfl, rfl⟩
   refine q_ite (fun _ => ?_) (fun _ => ?_)
   ·exact q_ret (cv_o 0 rfl) rfl
   ·exact q_none
  ·rintro s14 _ _ ⟨v7, rfl, rfl⟩
   exact q_ret (cv_r (α := Int) (l0 := false) (fl := true) (xs := [])) rfl
def ms88_0 (a0 : Int) (a1 : List TMsg) (s1 : Bool × Int × (List Int)) : Option (LO (Bool × Int × (List Int))) :=
 bif s1.1 then none else
 bif decide (s1.2.1 ≤ 30) then
  (m76 a0 a1 s1.2.1).bind fun y1 =>
  bif (y1.length : Int) == 0 then
   some (LO.ret (true, s1.2.1, s1.2.2))
  else
   (getI y1 0).bind fun x1 =>
   (appO 8 s1.2.2 [x1]).bind fun z1 =>
   some (LO.norm (false, wi .i64 (s1.2.1 + 1), z1))
 else
  some (LO.exit 0 (false, s1.2.1, s1.2.2))
def m88 (a0 : Int) (a1 : List TMsg) : Option ((List Int)) :=
 (loopO (ms88_0 a0 a1) NN (false, 1, [])).bind (contO (fun _ => none) (fun i1 s2 =>
  if i1 = 0 then
   some s2.2.2
  else
   none) (fun s2 =>
  some (bif s2.1 then s2.2.2 else [])))
theorem w88 {d : Nat} (hd : 6 ≤ d) (a0 : Int) (k1 : Bool) (a1 : List TMsg) : Fit (R NN d 88 [.int .i64 a0, .rsl k1 false (a1.map (Enc.cs k1))] []) (m88 a0 a1) (P0 (fun (t : List Int) => AV.rsl false false (t.map (Enc.cs false)))) := by
  obtain ⟨d, rfl, g⟩ := up hd
  refine q_in (t88 NN d _ _) ?_
  unfold b88 m88
  refine q_e (fun _ => bs22_0 _) <| q_nil (α := Int) false <| q_loop (I := (fun (s : Bool × Int × (List Int)) l L => ∃ (v1 : AV), l = [(bif s.1 then v1 else AV.rsl false true []), v1, .int .i64 s.2.1] ∧ L = [sl false v1 (s.2.2 : List Int)])) 0 ⟨(.rsl false true []), rfl, rfl⟩ ?_ ?_ ?_
  ·rintro s1 _ _ ⟨v1, rfl, rfl⟩
   unfold s88_0 ms88_0
   refine q_flag (b := s1.1) fun hfg_ => ?_
   try rw [hfg_]
   refine q_p fr <| q_if (fun h2 => ?_) (fun h2 => ?_)
   ·refine q_c0 (fun S hS => argF3 (cv_p rfl) cv_r (cv_p rfl) hS fun l0_ l1_ l2_ => w76 (by omega) a0 l1_ a1 s1.2.1) fun y1 hy1 => q_len <| q_p fr <| q_if (fun h1 => ?_) (fun h1 => ?_)
    ·exact q_lret 0 ⟨v1, rfl, rfl⟩
    ·exact q_ix rfl fun x1 hx1 => q_p fr <| q_e (fun _ => bs22_1 rfl) <| q_app (ys := [x1]) 0 rfl rfl (fun _ _ => rfl) fun v2 z1 hz1 => q_p fr <| q_norm 0 ⟨v2, rfl, rfl⟩
   ·exact q_exit 0 ⟨v1, rfl, rfl⟩
  ·rintro i1 s2 _ _ ⟨v3, rfl, rfl⟩
   refine q_ite (fun _ => ?_) (fun _ => ?_)
   ·exact q_ret (cv_o 0 rfl) rfl
   ·exact q_none
  ·rintro s2 _ _ ⟨v4, rfl, rfl⟩
   exact q_ret (cv_alt 0 rfl) rfl
def m147 (a0 : List TMsg) (a1 : Int) (a2 : Int) : Option (Bool) :=
 bif (m169 a1 0 (wi .i64 ((a0.length : Int) - 1))) then
  (getI a0 a1).bind fun x1 =>
  some (x1.Kind == a2)
 else
  some false
theorem w147 {d : Nat} (hd : 2 ≤ d) (k0 : Bool) (a0 : List TMsg) (a1 : Int) (a2 : Int) : Fit (R NN d 147 [.rsl k0 false (a0.map (Enc.cs k0)), .int .i64 a1, .int .i64 a2] []) (m147 a0 a1 a2) (P0 (fun (t : Bool) => AV.bool t)) := by
  obtain ⟨d, rfl, g⟩ := up hd
  refine q_in (t147 NN d _ _ _) ?_
  unfold b147 m147
  refine q_len <| q_p fr <| q_c0t (fun S hS => argF3 (cv_p rfl) (cv_p rfl) (cv_p rfl) hS fun l0_ l1_ l2_ => w169 (by omega) a1 0 (wi .i64 ((a0.length : Int) - 1))) <| q_gT (fun h1 => ?_) (fun h1 => ?_)
  ·exact q_ix rfl fun x1 hx1 => q_p fr <| q_p fr <| q_p fr <| q_ret (cv_p rfl) rfl
  ·exact q_ret (cv_p rfl) rfl
def ms81_0 (a0 : Int) (a1 : List TMsg) (a2 : Int) (s3 : Bool × Int) : Option (LO (Bool × Int)) :=
 (getI a1 a2).bind fun x2 =>
 bif decide (s3.2 < (x2.Certs.length : Int)) then
  (getI a1 a2).bind fun x3 =>
  (getI x3.Certs s3.2).bind fun x4 =>
  (m143 a0 a1 2 x4).bind fun y2 =>
  bif !y2 then
   some (LO.ret (false, s3.2))
  else
   some (LO.norm (s3.1, wi .i64 (s3.2 + 1)))
 else
  some (LO.exit 0 (s3.1, s3.2))
def m81 (a0 : Int) (a1 : List TMsg) (a2 : Int) : Option (Bool) :=
 (
  (m147 a1 a2 4).bind fun y1 =>
  bif !y1 then
   some (LO.ret false)
  else
   (getI a1 a2).bind fun x1 =>
   bif decide (x1.View < 1) then
    some (LO.ret false)
   else
    some (LO.norm false)).bind (contO (fun s2 =>
  (loopO (ms81_0 a0 a1 a2) NN (s2, 0)).bind (contO (fun _ => none) (fun i2 s4 =>
   if i2 = 0 then
    some true
   else
    none) (fun s4 =>
   some s4.1))) (fun i1 s2 =>
  none) (fun s2 =>
  some s2))
theorem w81 {d : Nat} (hd : 5 ≤ d) (a0 : Int) (k1 : Bool) (a1 : List TMsg) (a2 : Int) : Fit (R NN d 81 [.int .i64 a0, .rsl k1 false (a1.map (Enc.cs k1)), .int .i64 a2] []) (m81 a0 a1 a2) (P0 (fun (t : Bool) => AV.bool t)) := by
  obtain ⟨d, rfl, g⟩ := up hd
  refine q_in (t81 NN d _ _ _) ?_
  unfold b81 m81
  refine q_cut (I := (fun (s : Bool) l L => l = [.bool s] ∧ L = [])) ?_ ?_ ?_ ?_
  ·refine q_c0 (fun S hS => argF3 cv_r (cv_p rfl) (cv_p rfl) hS fun l0_ l1_ l2_ => w147 (by omega) l0_ a1 a2 4) fun y1 hy1 => q_p fr <| q_gF (fun h2 => ?_) (fun h2 => ?_)
   ·first | refine q_ifT1 ?_ | skip
    exact q_lret 0 ⟨rfl, rfl⟩
   ·refine q_ix rfl fun x1 hx1 => q_p fr <| q_p fr <| q_p fr <| q_if (fun h1 => ?_) (fun h1 => ?_)
    ·exact q_lret 0 ⟨rfl, rfl⟩
    ·exact q_norm 0 ⟨rfl, rfl⟩
  ·rintro s2 _ _ ⟨rfl, rfl⟩
   refine q_loop (I := (fun (s : Bool × Int) l L => l = [.bool s.1, .int .i64 s.2] ∧ L = [])) 0 ⟨rfl, rfl⟩ ?_ ?_ ?_
   ·rintro s3 _ _ ⟨rfl, rfl⟩
    unfold s81_0 ms81_0
    refine q_ix rfl fun x2 hx2 => q_p fr <| q_p fr <| q_len <| q_p fr <| q_if (fun h4 => ?_) (fun h4 => ?_)
    ·refine q_ix rfl fun x3 hx3 => q_p fr <| q_p fr <| q_ix rfl fun x4 hx4 => q_p fr <| q_c0 (fun S hS => argF4 (cv_p rfl) cv_r (cv_p rfl) (cv_a (cvs_e (l0 := k1) (x := x4))) hS fun l0_ l1_ l2_ l3_ => w143 (by omega) a0 l1_ a1 2 l3_ x4) fun y2 hy2 => q_p fr <| q_if (fun h3 => ?_) (fun h3 => ?_)
     ·exact q_lret 0 ⟨rfl, rfl⟩
     ·exact q_p fr <| q_norm 0 ⟨rfl, rfl⟩
    ·exact q_exit 0 ⟨rfl, rfl⟩
   ·rintro i2 s4 _ _ ⟨rfl, rfl⟩
    refine q_ite (fun _ => ?_) (fun _ => ?_)
    ·exact q_ret (cv_p rfl) rfl
    ·exact q_none
   ·rintro s4 _ _ ⟨rfl, rfl⟩
    exact q_ret (cv_p rfl) rfl
  ·rintro i1 s2 _ _ ⟨rfl, rfl⟩
   exact q_none
  ·rintro s2 _ _ ⟨rfl, rfl⟩
   exact q_ret (cv_p rfl) rfl
def m157 (a0 : Int) (a1 : Int) : Option (Int) :=
 (remO a1 (wi .i64 ((wi .i64 (3 * a0)) + 1))).bind fun q1 =>
 some (wi .i64 (1 + q1))
theorem w157 {d : Nat} (hd : 1 ≤ d) (a0 : Int) (a1 : Int) : Fit (R NN d 157 [.int .i64 a0, .int .i64 a1] []) (m157 a0 a1) (P0 (fun (t : Int) => AV.int .i64 t)) := by
  obtain ⟨d, rfl, g⟩ := up hd
  refine q_in (t157 NN d _ _) ?_
  unfold b157 m157
  exact q_p fr <| q_p fr <| q_rem2 fun q1 hq1 => q_p fr <| q_ret (cv_p rfl) rfl
def ms181_0 (a0 : List TMsg) (a1 : List Int) (a2 : Int) (s1 : Bool × Int) : Option (LO (Bool × Int)) :=
 bif decide (s1.2 < (a1.length : Int)) then
  (getI a1 s1.2).bind fun x1 =>
  (getI a0 x1).bind fun x2 =>
  bif x2.From == a2 then
   some (LO.ret (true, s1.2))
  else
   some (LO.norm (s1.1, wi .i64 (s1.2 + 1)))
 else
  some (LO.exit 0 (s1.1, s1.2))
def m181 (a0 : List TMsg) (a1 : List Int) (a2 : Int) : Option (Bool) :=
 (loopO (ms181_0 a0 a1 a2) NN (false, 0)).bind (contO (fun _ => none) (fun i1 s2 =>
  if i1 = 0 then
   some false
  else
   none) (fun s2 =>
  some s2.1))
theorem w181 {d : Nat} (hd : 1 ≤ d) (k0 : Bool) (a0 : List TMsg) (k1 : Bool) (a1 : List Int) (a2 : Int) : Fit (R NN d 181 [.rsl k0 false (a0.map (Enc.cs k0)), .rsl k1 false (a1.map (Enc.cs k1)), .int .i64 a2] []) (m181 a0 a1 a2) (P0 (fun (t : Bool) => AV.bool t)) := by
  obtain ⟨d, rfl, g⟩ := up hd
  refine q_in (t181 NN d _ _ _) ?_
  unfold b181 m181
  refine q_loop (I := (fun (s : Bool × Int) l L => l = [.bool s.1, .int .i64 s.2] ∧ L = [])) 0 ⟨rfl, rfl⟩ ?_ ?_ ?_
  ·rintro s1 _ _ ⟨rfl, rfl⟩
   unfold s181_0 ms181_0
   refine q_len <| q_p fr <| q_if (fun h2 => ?_) (fun h2 => ?_)
   ·refine q_ix rfl fun x1 hx1 => q_p fr <| q_ix rfl fun x2 hx2 => q_p fr <| q_p fr <| q_p fr <| q_if (fun h1 => ?_) (fun h1 => ?_)
    ·exact q_lret 0 ⟨rfl, rfl⟩
    ·exact q_p fr <| q_norm 0 ⟨rfl, rfl⟩
   ·exact q_exit 0 ⟨rfl, rfl⟩
  ·rintro i1 s2 _ _ ⟨rfl, rfl⟩
   refine q_ite (fun _ => ?_) (fun _ => ?_)
   ·exact q_ret (cv_p rfl) rfl
   ·exact q_none
  ·rintro s2 _ _ ⟨rfl, rfl⟩
   exact q_ret (cv_p rfl) rfl
def ms115_0 (a0 : Int) (a1 : List TMsg) (x1 : TMsg) (s5 : Bool × Int) : Option (LO (Bool × Int)) :=
 bif decide (s5.2 < (x1.Refs.length : Int)) then
  (
   (
    (getI x1.Refs s5.2).bind fun x2 =>
    (m81 a0 a1 x2).bind fun y3 =>
    bif !y3 then
     some (LO.norm true)
    else
     (getI x1.Refs s5.2).bind fun x3 =>
     (getI a1 x3).bind fun x4 =>
     bif x4.View != x1.View then
      some (LO.norm true)
     else
      (subI x1.Refs 0 s5.2).bind fun ys1 =>
      (getI x1.Refs s5.2).bind fun x5 =>
      (getI a1 x5).bind fun x6 =>
      (m181 a1 ys1 x6.From).bind fun y4 =>
      some (LO.norm y4)).bind (contO (fun s8 =>
    bif s8 then
     some (LO.ret false)
    else
     some (LO.norm s5.1)) (fun i3 s8 =>
    if i3 = 1 then
     some (LO.norm s5.1)
    else
     some (LO.exit i3 s5.1)) (fun s8 =>
    some (LO.ret s5.1)))).bind (contO (fun s9 =>
   some (LO.norm (s9, wi .i64 (s5.2 + 1)))) (fun i4 s9 =>
   some (LO.exit i4 (s9, s5.2))) (fun s9 =>
   some (LO.ret (s9, s5.2))))
 else
  some (LO.exit 0 (s5.1, s5.2))
def m115 (a0 : Int) (a1 : List TMsg) (a2 : Int) : Option (Bool) :=
 (m147 a1 a2 5).bind fun y1 =>
 bif !y1 then
  some false
 else
  (getI a1 a2).bind fun x1 =>
  (
   (
    bif decide (x1.View < 1) then
     some (LO.norm true)
    else
     (m157 a0 x1.View).bind fun y2 =>
     bif x1.From != y2 then
      some (LO.norm true)
     else
      some (LO.norm (decide ((x1.Refs.length : Int) < (m180 a0))))).bind (contO (fun s3 =>
    bif s3 then
     some (LO.ret false)
    else
     some (LO.norm false)) (fun i1 s3 =>
    some (LO.exit i1 false)) (fun s3 =>
    some (LO.ret false)))).bind (contO (fun s4 =>
   (loopO (ms115_0 a0 a1 x1) NN (s4, 0)).bind (contO (fun _ => none) (fun i5 s10 =>
    if i5 = 0 then
     some true
    else
     none) (fun s10 =>
    some s10.1))) (fun i2 s4 =>
   none) (fun s4 =>
   some s4))
theorem w115 {d : Nat} (hd : 6 ≤ d) (a0 : Int) (k1 : Bool) (a1 : List TMsg) (a2 : Int) : Fit (R NN d 115 [.int .i64 a0, .rsl k1 false (a1.map (Enc.cs k1)), .int .i64 a2] []) (m115 a0 a1 a2) (P0 (fun (t : Bool) => AV.bool t)) := by
  obtain ⟨d, rfl, g⟩ := up hd
  refine q_in (t115 NN d _ _ _) ?_
  unfold b115 m115
  refine q_c0 (fun S hS => argF3 cv_r (cv_p rfl) (cv_p rfl) hS fun l0_ l1_ l2_ => w147 (by omega) l0_ a1 a2 5) fun y1 hy1 => q_p fr <| q_if (fun h8 => ?_) (fun h8 => ?_)
  ·exact q_ret (cv_p rfl) rfl
  ·refine q_ix rfl fun x1 hx1 => q_cut (I := (fun (s : Bool) l L => l = [.bool s] ∧ L = [])) ?_ ?_ ?_ ?_
   ·refine q_cut (I := (fun (s : Bool) l L => l = [.bool s] ∧ L = [])) ?_ ?_ ?_ ?_
    ·refine q_q fr <| q_p fr <| q_p fr <| q_p fr <| q_gF (fun h2 => ?_) (fun h2 => ?_)
     ·exact q_norm 0 ⟨rfl, rfl⟩
     ·refine q_q fr <| q_p fr <| q_p fr <| q_q fr <| q_p fr <| q_p fr <| q_c0 (fun S hS => argF2 (cv_p rfl) (cv_p rfl) hS fun l0_ l1_ => w157 (by omega) a0 x1.View) fun y2 hy2 => q_p fr <| q_gF (fun h1 => ?_) (fun h1 => ?_)
      ·exact q_norm 0 ⟨rfl, rfl⟩
      ·exact q_q fr <| q_p fr <| q_p fr <| q_len <| q_c0t (fun S hS => argF1 (cv_p rfl) hS fun l0_ => w180 (by omega) a0) <| q_p fr <| q_norm 0 ⟨rfl, rfl⟩
    ·rintro s3 _ _ ⟨rfl, rfl⟩
     refine q_if (fun h3 => ?_) (fun h3 => ?_)
     ·exact q_lret 0 ⟨rfl, rfl⟩
     ·exact q_norm 0 ⟨rfl, rfl⟩
    ·rintro i1 s3 _ _ ⟨rfl, rfl⟩
     exact q_exit 0 ⟨rfl, rfl⟩
    ·rintro s3 _ _ ⟨rfl, rfl⟩
     exact q_lret 0 ⟨rfl, rfl⟩
   ·rintro s4 _ _ ⟨rfl, rfl⟩
    refine q_loop (I := (fun (s : Bool × Int) l L => l = [.bool s.1, .int .i64 s.2] ∧ L = [])) 0 ⟨rfl, rfl⟩ ?_ ?_ ?_
    ·rintro s5 _ _ ⟨rfl, rfl⟩
     unfold s115_0 ms115_0
     refine q_q fr <| q_p fr <| q_p fr <| q_len <| q_p fr <| q_if (fun h7 => ?_) (fun h7 => ?_)
     ·refine q_cut (I := (fun (s : Bool) l L => l = [.bool s] ∧ L = [])) ?_ ?_ ?_ ?_
      ·refine q_cut (I := (fun (s : Bool) l L => l = [.bool s] ∧ L = [])) ?_ ?_ ?_ ?_
       ·refine q_q fr <| q_p fr <| q_p fr <| q_ix rfl fun x2 hx2 => q_p fr <| q_c0 (fun S hS => argF3 (cv_p rfl) cv_r (cv_p rfl) hS fun l0_ l1_ l2_ => w81 (by omega) a0 l1_ a1 x2) fun y3 hy3 => q_p fr <| q_gF (fun h5 => ?_) (fun h5 => ?_)
        ·exact q_norm 0 ⟨rfl, rfl⟩
        ·refine q_q fr <| q_p fr <| q_p fr <| q_ix rfl fun x3 hx3 => q_p fr <| q_ix rfl fun x4 hx4 => q_p fr <| q_p fr <| q_q fr <| q_p fr <| q_p fr <| q_p fr <| q_gF (fun h4 => ?_) (fun h4 => ?_)
         ·exact q_norm 0 ⟨rfl, rfl⟩
         ·refine q_q fr <| q_p fr <| q_p fr <| q_sub rfl (.inr ⟨rfl, rfl⟩) (.inl rfl) fun fl1 ys1 hys1 => q_q fr <| q_p fr <| q_p fr <| q_ix rfl fun x5 hx5 => q_p fr <| q_ix rfl fun x6 hx6 => q_p fr <| q_p fr <| q_c0 (fun S hS => argF3 cv_r cv_r (cv_p rfl) hS fun l0_ l1_ l2_ => w181 (by omega) l0_ a1 l1_ ys1 x6.From) fun y4 hy4 => ?_
          exact q_norm 0 ⟨rfl, rfl⟩
       ·rintro s8 _ _ ⟨rfl, rfl⟩
        refine q_if (fun h6 => ?_) (fun h6 => ?_)
        ·exact q_lret 0 ⟨rfl, rfl⟩
        ·exact q_norm 0 ⟨rfl, rfl⟩
       ·rintro i3 s8 _ _ ⟨rfl, rfl⟩
        refine q_ite (fun _ => ?_) (fun _ => ?_)
        ·exact q_norm 0 ⟨rfl, rfl⟩
        ·exact q_exit 0 ⟨rfl, rfl⟩
       ·rintro s8 _ _ ⟨rfl, rfl⟩
        exact q_lret 0 ⟨rfl, rfl⟩
      ·rintro s9 _ _ ⟨rfl, rfl⟩
       exact q_p fr <| q_norm 0 ⟨rfl, rfl⟩
      ·rintro i4 s9 _ _ ⟨rfl, rfl⟩
       exact q_exit 0 ⟨rfl, rfl⟩
      ·rintro s9 _ _ ⟨rfl, rfl⟩
       exact q_lret 0 ⟨rfl, rfl⟩
     ·exact q_exit 0 ⟨rfl, rfl⟩
    ·rintro i5 s10 _ _ ⟨rfl, rfl⟩
     refine q_ite (fun _ => ?_) (fun _ => ?_)
     ·exact q_ret (cv_p rfl) rfl
     ·exact q_none
    ·rintro s10 _ _ ⟨rfl, rfl⟩
     exact q_ret (cv_p rfl) rfl
   ·rintro i2 s4 _ _ ⟨rfl, rfl⟩
    exact q_none
   ·rintro s4 _ _ ⟨rfl, rfl⟩
    exact q_ret (cv_p rfl) rfl
def m230 (a0 : Int) (a1 : List TMsg) (a2 : Int) (a3 : Int) : Option (Bool) :=
 bif a2 == 0 then
  some (a3 == (-1))
 else
  (m115 a0 a1 a3).bind fun y1 =>
  bif y1 then
   (getI a1 a3).bind fun x1 =>
   some (x1.View == a2)
  else
   some false
theorem w230 {d : Nat} (hd : 7 ≤ d) (a0 : Int) (k1 : Bool) (a1 : List TMsg) (a2 : Int) (a3 : Int) : Fit (R NN d 230 [.int .i64 a0, .rsl k1 false (a1.map (Enc.cs k1)), .int .i64 a2, .int .i64 a3] []) (m230 a0 a1 a2 a3) (P0 (fun (t : Bool) => AV.bool t)) := by
  obtain ⟨d, rfl, g⟩ := up hd
  refine q_in (t230 NN d _ _ _ _) ?_
  unfold b230 m230
  refine q_p fr <| q_if (fun h2 => ?_) (fun h2 => ?_)
  ·exact q_p fr <| q_ret (cv_p rfl) rfl
  ·refine q_c0 (fun S hS => argF3 (cv_p rfl) cv_r (cv_p rfl) hS fun l0_ l1_ l2_ => w115 (by omega) a0 l1_ a1 a3) fun y1 hy1 => q_gT (fun h1 => ?_) (fun h1 => ?_)
   ·exact q_ix rfl fun x1 hx1 => q_p fr <| q_p fr <| q_p fr <| q_ret (cv_p rfl) rfl
   ·exact q_ret (cv_p rfl) rfl
def m190 (a0 : Int) (a1 : List TMsg) (a2 : TReplica) : Option (Int) :=
 (
  (
   bif !(m189 a0 a2.Id) then
    some (LO.norm true)
   else
    bif !(m169 a2.View 0 20) then
     some (LO.norm true)
    else
     some (LO.norm (!(m169 a2.Done 0 30)))).bind (contO (fun s3 =>
   bif s3 then
    some (LO.ret 3)
   else
    some (LO.norm 0)) (fun i1 s3 =>
   some (LO.exit i1 0)) (fun s3 =>
   some (LO.ret 0)))).bind (contO (fun s4 =>
  (
   (
    bif a2.Start != (-1) then
     bif a2.View == 0 then
      some (LO.norm true)
     else
      (m230 a0 a1 a2.View a2.Start).bind fun y1 =>
      some (LO.norm (!y1))
    else
     some (LO.norm false)).bind (contO (fun s7 =>
    bif s7 then
     some (LO.ret 1)
    else
     some (LO.norm s4)) (fun i3 s7 =>
    some (LO.exit i3 s4)) (fun s7 =>
    some (LO.ret s4)))).bind (contO (fun s8 =>
   (
    bif decide (a2.Done > 0) then
     (m88 a0 a1).bind fun y2 =>
     bif decide (a2.Done > (y2.length : Int)) then
      some (LO.ret 8)
     else
      some (LO.norm s8)
    else
     some (LO.norm s8)).bind (contO (fun s10 =>
    some 0) (fun i5 s10 =>
    none) (fun s10 =>
    some s10))) (fun i4 s8 =>
   none) (fun s8 =>
   some s8))) (fun i2 s4 =>
  none) (fun s4 =>
  some s4))
theorem w190 {d : Nat} (hd : 8 ≤ d) (a0 : Int) (k1 : Bool) (a1 : List TMsg) (k2 : Bool) (a2 : TReplica) : Fit (R NN d 190 [.int .i64 a0, .rsl k1 false (a1.map (Enc.cs k1)), .rp k2 (Enc.cs k2 a2)] []) (m190 a0 a1 a2) (P0 (fun (t : Int) => AV.int .i64 t)) := by
  obtain ⟨d, rfl, g⟩ := up hd
  refine q_in (t190 NN d _ _ _) ?_
  unfold b190 m190
  refine q_cut (I := (fun (s : Int) l L => l = [.int .i64 s] ∧ L = [])) ?_ ?_ ?_ ?_
  ·refine q_cut (I := (fun (s : Bool) l L => l = [.bool s] ∧ L = [])) ?_ ?_ ?_ ?_
   ·refine q_q fr <| q_p fr <| q_p fr <| q_c0t (fun S hS => argF2 (cv_p rfl) (cv_p rfl) hS fun l0_ l1_ => w189 (by omega) a0 a2.Id) <| q_p fr <| q_gF (fun h2 => ?_) (fun h2 => ?_)
    ·exact q_norm 0 ⟨rfl, rfl⟩
    ·refine q_q fr <| q_p fr <| q_p fr <| q_c0t (fun S hS => argF3 (cv_p rfl) (cv_p rfl) (cv_p rfl) hS fun l0_ l1_ l2_ => w169 (by omega) a2.View 0 20) <| q_p fr <| q_gF (fun h1 => ?_) (fun h1 => ?_)
     ·exact q_norm 0 ⟨rfl, rfl⟩
     ·exact q_q fr <| q_p fr <| q_p fr <| q_c0t (fun S hS => argF3 (cv_p rfl) (cv_p rfl) (cv_p rfl) hS fun l0_ l1_ l2_ => w169 (by omega) a2.Done 0 30) <| q_p fr <| q_norm 0 ⟨rfl, rfl⟩
   ·rintro s3 _ _ ⟨rfl, rfl⟩
    refine q_if (fun h3 => ?_) (fun h3 => ?_)
    ·exact q_lret 0 ⟨rfl, rfl⟩
    ·exact q_norm 0 ⟨rfl, rfl⟩
   ·rintro i1 s3 _ _ ⟨rfl, rfl⟩
    exact q_exit 0 ⟨rfl, rfl⟩
   ·rintro s3 _ _ ⟨rfl, rfl⟩
    exact q_lret 0 ⟨rfl, rfl⟩
  ·rintro s4 _ _ ⟨rfl, rfl⟩
   refine q_cut (I := (fun (s : Int) l L => l = [.int .i64 s] ∧ L = [])) ?_ ?_ ?_ ?_
   ·refine q_cut (I := (fun (s : Bool) l L => l = [.bool s] ∧ L = [])) ?_ ?_ ?_ ?_
    ·refine q_q fr <| q_p fr <| q_p fr <| q_p fr <| q_gT (fun h5 => ?_) (fun h5 => ?_)
     ·refine q_q fr <| q_p fr <| q_p fr <| q_p fr <| q_gF (fun h4 => ?_) (fun h4 => ?_)
      ·exact q_norm 0 ⟨rfl, rfl⟩
      ·exact q_q fr <| q_p fr <| q_p fr <| q_q fr <| q_p fr <| q_p fr <| q_c0 (fun S hS => argF4 (cv_p rfl) cv_r (cv_p rfl) (cv_p rfl) hS fun l0_ l1_ l2_ l3_ => w230 (by omega) a0 l1_ a1 a2.View a2.Start) fun y1 hy1 => q_p fr <| q_norm 0 ⟨rfl, rfl⟩
     ·exact q_norm 0 ⟨rfl, rfl⟩
    ·rintro s7 _ _ ⟨rfl, rfl⟩
     refine q_if (fun h6 => ?_) (fun h6 => ?_)
     ·exact q_lret 0 ⟨rfl, rfl⟩
     ·exact q_norm 0 ⟨rfl, rfl⟩
    ·rintro i3 s7 _ _ ⟨rfl, rfl⟩
     exact q_exit 0 ⟨rfl, rfl⟩
    ·rintro s7 _ _ ⟨rfl, rfl⟩
     exact q_lret 0 ⟨rfl, rfl⟩
   ·rintro s8 _ _ ⟨rfl, rfl⟩
    refine q_cut (I := (fun (s : Int) l L => l = [.int .i64 s] ∧ L = [])) ?_ ?_ ?_ ?_
    ·refine q_q fr <| q_p fr <| q_p fr <| q_p fr <| q_gT (fun h8 => ?_) (fun h8 => ?_)
     ·refine q_q fr <| q_p fr <| q_p fr <| q_c0 (fun S hS => argF2 (cv_p rfl) cv_r hS fun l0_ l1_ => w88 (by omega) a0 l1_ a1) fun y2 hy2 => q_len <| q_p fr <| q_if (fun h7 => ?_) (fun h7 => ?_)
      ·exact q_lret 0 ⟨rfl, rfl⟩
      ·exact q_norm 0 ⟨rfl, rfl⟩
     ·first | refine q_ifF1 ?_ | skip
      exact q_norm 0 ⟨rfl, rfl⟩
    ·rintro s10 _ _ ⟨rfl, rfl⟩
     exact q_ret (cv_p rfl) rfl
    ·rintro i5 s10 _ _ ⟨rfl, rfl⟩
     exact q_none
    ·rintro s10 _ _ ⟨rfl, rfl⟩
     exact q_ret (cv_p rfl) rfl
   ·rintro i4 s8 _ _ ⟨rfl, rfl⟩
    exact q_none
   ·rintro s8 _ _ ⟨rfl, rfl⟩
    exact q_ret (cv_p rfl) rfl
  ·rintro i2 s4 _ _ ⟨rfl, rfl⟩
   exact q_none
  ·rintro s4 _ _ ⟨rfl, rfl⟩
   exact q_ret (cv_p rfl) rfl
def ms122_0 (a0 : TCluster) (s1 : Int × Int × Int) : Option (LO (Int × Int × Int)) :=
 bif decide (s1.2.2 ≤ (wi .i64 ((wi .i64 (3 * a0.F)) + 1))) then
  (
   (m80 a0.Bad s1.2.2).bind fun y1 =>
   bif y1 then
    some (LO.norm (s1.1, s1.2.1))
   else
    (
     bif decide (s1.2.1 ≥ (a0.Replicas.length : Int)) then
      some (LO.ret 1)
     else
      (getI a0.Replicas s1.2.1).bind fun x1 =>
      bif x1.Id != s1.2.2 then
       some (LO.ret 1)
      else
       some (LO.norm s1.1)).bind (contO (fun s4 =>
     some (LO.norm (s4, wi .i64 (s1.2.1 + 1)))) (fun i1 s4 =>
     if i1 = 1 then
      some (LO.norm (s4, s1.2.1))
     else
      some (LO.exit i1 (s4, s1.2.1))) (fun s4 =>
     some (LO.ret (s4, s1.2.1))))).bind (contO (fun s5 =>
   some (LO.norm (s5.1, s5.2, wi .i64 (s1.2.2 + 1)))) (fun i2 s5 =>
   some (LO.exit i2 (s5.1, s5.2, s1.2.2))) (fun s5 =>
   some (LO.ret (s5.1, s5.2, s1.2.2))))
 else
  some (LO.exit 0 (s1.1, s1.2.1, s1.2.2))
def ms122_1 (a0 : TCluster) (s7 : Int × Int) : Option (LO (Int × Int)) :=
 bif decide (s7.2 < (a0.Replicas.length : Int)) then
  (getI a0.Replicas s7.2).bind fun x2 =>
  (m190 a0.F a0.Ledger x2).bind fun y2 =>
  bif y2 != 0 then
   some (LO.ret (y2, s7.2))
  else
   some (LO.norm (s7.1, wi .i64 (s7.2 + 1)))
 else
  some (LO.exit 2 (s7.1, s7.2))
def m122 (a0 : TCluster) : Option (Int) :=
 (loopO (ms122_0 a0) NN (0, 0, 1)).bind (contO (fun _ => none) (fun i3 s6 =>
  if i3 = 0 then
   bif s6.2.1 != (a0.Replicas.length : Int) then
    some 1
   else
    (loopO (ms122_1 a0) NN (s6.1, 0)).bind (contO (fun _ => none) (fun i4 s8 =>
     if i4 = 2 then
      some 0
     else
      none) (fun s8 =>
     some s8.1))
  else
   none) (fun s6 =>
  some s6.1))
theorem w122 {d : Nat} (hd : 9 ≤ d) (k0 : Bool) (a0 : TCluster) : Fit (R NN d 122 [.rp k0 (Enc.cs k0 a0)] []) (m122 a0) (P0 (fun (t : Int) => AV.int .i64 t)) := by
  obtain ⟨d, rfl, g⟩ := up hd
  refine q_in (t122 NN d _) ?_
  unfold b122 m122
  refine q_loop (I := (fun (s : Int × Int × Int) l L => l = [.int .i64 s.1, .int .i64 s.2.1, .int .i64 s.2.2] ∧ L = [])) 0 ⟨rfl, rfl⟩ ?_ ?_ ?_
  ·rintro s1 _ _ ⟨rfl, rfl⟩
   unfold s122_0 ms122_0
   refine q_q fr <| q_p fr <| q_p fr <| q_p fr <| q_p fr <| q_p fr <| q_if (fun h4 => ?_) (fun h4 => ?_)
   ·refine q_cut (I := (fun (s : Int × Int) l L => l = [.int .i64 s.1, .int .i64 s.2] ∧ L = [])) ?_ ?_ ?_ ?_
    ·refine q_q fr <| q_p fr <| q_p fr <| q_c0 (fun S hS => argF2 cv_r (cv_p rfl) hS fun l0_ l1_ => w80 (by omega) l0_ a0.Bad s1.2.2) fun y1 hy1 => q_if (fun h3 => ?_) (fun h3 => ?_)
     ·exact q_norm 0 ⟨rfl, rfl⟩
     ·refine q_cut (I := (fun (s : Int) l L => l = [.int .i64 s] ∧ L = [])) ?_ ?_ ?_ ?_
      ·refine q_q fr <| q_p fr <| q_p fr <| q_len <| q_p fr <| q_gF (fun h2 => ?_) (fun h2 => ?_)
       ·first | refine q_ifT1 ?_ | skip
        exact q_lret 0 ⟨rfl, rfl⟩
       ·refine q_q fr <| q_p fr <| q_p fr <| q_ix rfl fun x1 hx1 => q_p fr <| q_p fr <| q_p fr <| q_if (fun h1 => ?_) (fun h1 => ?_)
        ·exact q_lret 0 ⟨rfl, rfl⟩
        ·exact q_norm 0 ⟨rfl, rfl⟩
      ·rintro s4 _ _ ⟨rfl, rfl⟩
       exact q_p fr <| q_norm 0 ⟨rfl, rfl⟩
      ·rintro i1 s4 _ _ ⟨rfl, rfl⟩
       refine q_ite (fun _ => ?_) (fun _ => ?_)
       ·exact q_norm 0 ⟨rfl, rfl⟩
       ·exact q_exit 0 ⟨rfl, rfl⟩
      ·rintro s4 _ _ ⟨rfl, rfl⟩
       exact q_lret 0 ⟨rfl, rfl⟩
    ·rintro s5 _ _ ⟨rfl, rfl⟩
     exact q_p fr <| q_norm 0 ⟨rfl, rfl⟩
    ·rintro i2 s5 _ _ ⟨rfl, rfl⟩
     exact q_exit 0 ⟨rfl, rfl⟩
    ·rintro s5 _ _ ⟨rfl, rfl⟩
     exact q_lret 0 ⟨rfl, rfl⟩
   ·exact q_exit 0 ⟨rfl, rfl⟩
  ·rintro i3 s6 _ _ ⟨rfl, rfl⟩
   refine q_ite (fun _ => ?_) (fun _ => ?_)
   ·refine q_q fr <| q_p fr <| q_p fr <| q_len <| q_p fr <| q_if (fun h7 => ?_) (fun h7 => ?_)
    ·exact q_ret (cv_p rfl) rfl
    ·refine q_loop (I := (fun (s : Int × Int) l L => l = [.int .i64 s.1, .int .i64 s.2] ∧ L = [])) 0 ⟨rfl, rfl⟩ ?_ ?_ ?_
     ·rintro s7 _ _ ⟨rfl, rfl⟩
      unfold s122_1 ms122_1
      refine q_q fr <| q_p fr <| q_p fr <| q_len <| q_p fr <| q_if (fun h6 => ?_) (fun h6 => ?_)
      ·refine q_q fr <| q_p fr <| q_p fr <| q_q fr <| q_p fr <| q_p fr <| q_q fr <| q_p fr <| q_p fr <| q_ix rfl fun x2 hx2 => q_c0 (fun S hS => argF3 (cv_p rfl) cv_r (cv_rp (cvs_e (l0 := k0) (x := x2)) (fun _ _ _ h => Enc.frz k0 x2 _ _ _ h)) hS fun l0_ l1_ l2_ => w190 (by omega) a0.F l1_ a0.Ledger l2_ x2) fun y2 hy2 => q_p fr <| q_if (fun h5 => ?_) (fun h5 => ?_)
       ·exact q_lret 0 ⟨rfl, rfl⟩
       ·exact q_p fr <| q_norm 0 ⟨rfl, rfl⟩
      ·exact q_exit 0 ⟨rfl, rfl⟩
     ·rintro i4 s8 _ _ ⟨rfl, rfl⟩
      refine q_ite (fun _ => ?_) (fun _ => ?_)
      ·exact q_ret (cv_p rfl) rfl
      ·exact q_none
     ·rintro s8 _ _ ⟨rfl, rfl⟩
      exact q_ret (cv_p rfl) rfl
   ·exact q_none
  ·rintro s6 _ _ ⟨rfl, rfl⟩
   exact q_ret (cv_p rfl) rfl
def ms59_0 (a0 : TCluster) (s1 : Int × Int) : Option (LO (Int × Int)) :=
 bif decide (s1.2 < (a0.Requests.length : Int)) then
  (getI a0.Requests s1.2).bind fun x1 =>
  (m104 x1).bind fun y4 =>
  bif y4 != 0 then
   some (LO.ret (y4, s1.2))
  else
   (getI a0.Requests s1.2).bind fun x2 =>
   (getI a0.Requests s1.2).bind fun x3 =>
   (m105 a0.Requests x2.Client x3.Number).bind fun y5 =>
   bif y5 != s1.2 then
    some (LO.ret (6, s1.2))
   else
    some (LO.norm (s1.1, wi .i64 (s1.2 + 1)))
 else
  some (LO.exit 0 (s1.1, s1.2))
def m59 (a0 : TCluster) : Option (Int) :=
 (m120 a0.F a0.Ledger).bind fun y1 =>
 bif y1 != 0 then
  some y1
 else
  bif decide ((a0.Requests.length : Int) > 12) then
   some 2
  else
   (m121 a0.F a0.Bad).bind fun y2 =>
   bif y2 != 0 then
    some y2
   else
    (m122 a0).bind fun y3 =>
    bif y3 != 0 then
     some y3
    else
     (loopO (ms59_0 a0) NN (0, 0)).bind (contO (fun _ => none) (fun i1 s2 =>
      if i1 = 0 then
       some 0
      else
       none) (fun s2 =>
      some s2.1))
theorem w59 {d : Nat} (hd : 10 ≤ d) (k0 : Bool) (a0 : TCluster) : Fit (R NN d 59 [.rp k0 (Enc.cs k0 a0)] []) (m59 a0) (P0 (fun (t : Int) => AV.int .i64 t)) := by
  obtain ⟨d, rfl, g⟩ := up hd
  refine q_in (t59 NN d _) ?_
  unfold b59 m59
  refine q_q fr <| q_p fr <| q_p fr <| q_q fr <| q_p fr <| q_p fr <| q_c0 (fun S hS => argF2 (cv_p rfl) cv_r hS fun l0_ l1_ => w120 (by omega) a0.F l1_ a0.Ledger) fun y1 hy1 => q_p fr <| q_if (fun h7 => ?_) (fun h7 => ?_)
  ·exact q_ret (cv_p rfl) rfl
  ·refine q_q fr <| q_p fr <| q_p fr <| q_len <| q_p fr <| q_if (fun h6 => ?_) (fun h6 => ?_)
   ·exact q_ret (cv_p rfl) rfl
   ·refine q_q fr <| q_p fr <| q_p fr <| q_q fr <| q_p fr <| q_p fr <| q_c0 (fun S hS => argF2 (cv_p rfl) cv_r hS fun l0_ l1_ => w121 (by omega) a0.F l1_ a0.Bad) fun y2 hy2 => q_p fr <| q_if (fun h5 => ?_) (fun h5 => ?_)
    ·exact q_ret (cv_p rfl) rfl
    ·refine q_c0 (fun S hS => argF1 (cv_rp (cvs_e (l0 := k0) (x := a0)) (fun _ _ _ h => Enc.frz k0 a0 _ _ _ h)) hS fun l0_ => w122 (by omega) l0_ a0) fun y3 hy3 => q_p fr <| q_if (fun h4 => ?_) (fun h4 => ?_)
     ·exact q_ret (cv_p rfl) rfl
     ·refine q_loop (I := (fun (s : Int × Int) l L => l = [.int .i64 s.1, .int .i64 s.2] ∧ L = [])) 0 ⟨rfl, rfl⟩ ?_ ?_ ?_
      ·rintro s1 _ _ ⟨rfl, rfl⟩
       unfold s59_0 ms59_0
       refine q_q fr <| q_p fr <| q_p fr <| q_len <| q_p fr <| q_if (fun h3 => ?_) (fun h3 => ?_)
       ·refine q_q fr <| q_p fr <| q_p fr <| q_ix rfl fun x1 hx1 => q_c0 (fun S hS => argF1 (cv_rp (cvs_e (l0 := k0) (x := x1)) (fun _ _ _ h => Enc.frz k0 x1 _ _ _ h)) hS fun l0_ => w104 (by omega) l0_ x1) fun y4 hy4 => q_p fr <| q_if (fun h2 => ?_) (fun h2 => ?_)
        ·exact q_lret 0 ⟨rfl, rfl⟩
        ·refine q_q fr <| q_p fr <| q_p fr <| q_q fr <| q_p fr <| q_p fr <| q_ix rfl fun x2 hx2 => q_p fr <| q_p fr <| q_q fr <| q_p fr <| q_p fr <| q_ix rfl fun x3 hx3 => ?_
         refine q_p fr <| q_p fr <| q_c0 (fun S hS => argF3 cv_r (cv_p rfl) (cv_p rfl) hS fun l0_ l1_ l2_ => w105 (by omega) l0_ a0.Requests x2.Client x3.Number) fun y5 hy5 => q_p fr <| q_if (fun h1 => ?_) (fun h1 => ?_)
         ·exact q_lret 0 ⟨rfl, rfl⟩
         ·exact q_p fr <| q_norm 0 ⟨rfl, rfl⟩
       ·exact q_exit 0 ⟨rfl, rfl⟩
      ·rintro i1 s2 _ _ ⟨rfl, rfl⟩
       refine q_ite (fun _ => ?_) (fun _ => ?_)
       ·exact q_ret (cv_p rfl) rfl
       ·exact q_none
      ·rintro s2 _ _ ⟨rfl, rfl⟩
       exact q_ret (cv_p rfl) rfl
def ms24_0 (a0 : TCluster) (s1 : Bool × Int) (x1 : TMsg) (s5 : Bool × Int) : Option (LO (Bool × Int)) :=
 (
  (
   bif decide (s5.2 < s1.2) then
    some (LO.norm (decide (x1.Kind ≤ 3)))
   else
    some (LO.norm false)).bind (contO (fun s8 =>
   bif s8 then
    some (LO.norm s8)
   else
    some (LO.exit 2 s8)) (fun i2 s8 =>
   some (LO.exit i2 s8)) (fun s8 =>
   some (LO.ret s8)))).bind (contO (fun s9 =>
  (
   (getI a0.Ledger s5.2).bind fun x2 =>
   (
    bif x2.Kind == x1.Kind then
     bif x2.From == x1.From then
      bif x2.View == x1.View then
       some (LO.norm (x2.Slot == x1.Slot))
      else
       some (LO.norm false)
     else
      some (LO.norm false)
    else
     some (LO.norm false)).bind (contO (fun s12 =>
    bif s12 then
     some (LO.ret false)
    else
     some (LO.norm s5.1)) (fun i4 s12 =>
    if i4 = 3 then
     some (LO.norm s5.1)
    else
     some (LO.exit i4 s5.1)) (fun s12 =>
    some (LO.ret s5.1)))).bind (contO (fun s13 =>
   some (LO.norm (s13, wi .i64 (s5.2 + 1)))) (fun i5 s13 =>
   some (LO.exit i5 (s13, s5.2))) (fun s13 =>
   some (LO.ret (s13, s5.2))))) (fun i3 s9 =>
  some (LO.exit i3 (s5.1, s5.2))) (fun s9 =>
  some (LO.ret (s5.1, s5.2))))
def ms24_1 (a0 : TCluster) (s1 : Bool × Int) : Option (LO (Bool × Int)) :=
 bif decide (s1.2 < (a0.Ledger.length : Int)) then
  (
   (getI a0.Ledger s1.2).bind fun x1 =>
   (m80 a0.Bad x1.From).bind fun y2 =>
   bif y2 then
    some (LO.norm s1.1)
   else
    (
     bif x1.Kind == 4 then
      (m81 a0.F a0.Ledger s1.2).bind fun y3 =>
      bif !y3 then
       some (LO.ret false)
      else
       some (LO.norm s1.1)
     else
      some (LO.norm s1.1)).bind (contO (fun s4 =>
     (loopO (ms24_0 a0 s1 x1) NN (s4, 0)).bind (contO (fun _ => none) (fun i6 s14 =>
      if i6 = 2 then
       some (LO.norm s14.1)
      else
       if i6 = 1 then
        some (LO.norm s14.1)
       else
        some (LO.exit i6 s14.1)) (fun s14 =>
      some (LO.ret s14.1)))) (fun i1 s4 =>
     if i1 = 1 then
      some (LO.norm s4)
     else
      some (LO.exit i1 s4)) (fun s4 =>
     some (LO.ret s4)))).bind (contO (fun s15 =>
   some (LO.norm (s15, wi .i64 (s1.2 + 1)))) (fun i7 s15 =>
   some (LO.exit i7 (s15, s1.2))) (fun s15 =>
   some (LO.ret (s15, s1.2))))
 else
  some (LO.exit 0 (s1.1, s1.2))
def m24 (a0 : TCluster) : Option (Bool) :=
 (m59 a0).bind fun y1 =>
 bif y1 != 0 then
  some false
 else
  (loopO (ms24_1 a0) NN (false, 0)).bind (contO (fun _ => none) (fun i8 s16 =>
   if i8 = 0 then
    some true
   else
    none) (fun s16 =>
   some s16.1))
theorem w24 {d : Nat} (hd : 11 ≤ d) (k0 : Bool) (a0 : TCluster) : Fit (R NN d 24 [.agg (Enc.cs k0 a0)] []) (m24 a0) (P0 (fun (t : Bool) => AV.bool t)) := by
  obtain ⟨d, rfl, g⟩ := up hd
  refine q_in (t24 NN d _) ?_
  unfold b24 m24
  refine q_box (n := 5) rfl rfl (by decide) fun b1 => q_c0 (fun S hS => argF1 (cv_b 0 rfl (cvs_cons (cv_p rfl) (cvs_cons cv_r (cvs_cons cv_r (cvs_cons cv_r (cvs_cons cv_r cvs_nil)))))) hS fun l0_ => w59 (by omega) l0_ a0) fun y1 hy1 => q_p fr <| q_if (fun h11 => ?_) (fun h11 => ?_)
  ·exact q_ret (cv_p rfl) rfl
  ·refine q_loop (I := (fun (s : Bool × Int) l L => l = [.bool s.1, .int .i64 s.2] ∧ L = [bx b1 [.int .i64 a0.F, .rsl k0 false (a0.Bad.map (Enc.cs k0)), .rsl k0 false (a0.Replicas.map (Enc.cs k0)), .rsl k0 false (a0.Ledger.map (Enc.cs k0)), .rsl k0 false (a0.Requests.map (Enc.cs k0))]])) 0 ⟨rfl, rfl⟩ ?_ ?_ ?_
   ·rintro s1 _ _ ⟨rfl, rfl⟩
    unfold s24_1 ms24_1
    refine q_p fr <| q_ld 0 rfl rfl <| q_len <| q_p fr <| q_if (fun h10 => ?_) (fun h10 => ?_)
    ·refine q_cut (I := (fun (s : Bool) l L => l = [.bool s] ∧ L = [bx b1 [.int .i64 a0.F, .rsl k0 false (a0.Bad.map (Enc.cs k0)), .rsl k0 false (a0.Replicas.map (Enc.cs k0)), .rsl k0 false (a0.Ledger.map (Enc.cs k0)), .rsl k0 false (a0.Requests.map (Enc.cs k0))]])) ?_ ?_ ?_ ?_
     ·refine q_p fr <| q_ld 0 rfl rfl <| q_ix rfl fun x1 hx1 => q_p fr <| q_ld 0 rfl rfl <| q_q fr <| q_p fr <| q_p fr <| q_c0 (fun S hS => argF2 cv_r (cv_p rfl) hS fun l0_ l1_ => w80 (by omega) l0_ a0.Bad x1.From) fun y2 hy2 => q_if (fun h9 => ?_) (fun h9 => ?_)
      ·exact q_norm 0 ⟨rfl, rfl⟩
      ·refine q_cut (I := (fun (s : Bool) l L => l = [.bool s] ∧ L = [bx b1 [.int .i64 a0.F, .rsl k0 false (a0.Bad.map (Enc.cs k0)), .rsl k0 false (a0.Replicas.map (Enc.cs k0)), .rsl k0 false (a0.Ledger.map (Enc.cs k0)), .rsl k0 false (a0.Requests.map (Enc.cs k0))]])) ?_ ?_ ?_ ?_
       ·refine q_q fr <| q_p fr <| q_p fr <| q_p fr <| q_gT (fun h2 => ?_) (fun h2 => ?_)
        ·refine q_p fr <| q_ld 0 rfl rfl <| q_p fr <| q_ld 0 rfl rfl <| q_c0 (fun S hS => argF3 (cv_p rfl) cv_r (cv_p rfl) hS fun l0_ l1_ l2_ => w81 (by omega) a0.F l1_ a0.Ledger s1.2) fun y3 hy3 => q_p fr <| q_if (fun h1 => ?_) (fun h1 => ?_)
         ·exact q_lret 0 ⟨rfl, rfl⟩
         ·exact q_norm 0 ⟨rfl, rfl⟩
        ·first | refine q_ifF1 ?_ | skip
         exact q_norm 0 ⟨rfl, rfl⟩
       ·rintro s4 _ _ ⟨rfl, rfl⟩
        refine q_loop (I := (fun (s : Bool × Int) l L => l = [.bool s.1, .int .i64 s.2] ∧ L = [bx b1 [.int .i64 a0.F, .rsl k0 false (a0.Bad.map (Enc.cs k0)), .rsl k0 false (a0.Replicas.map (Enc.cs k0)), .rsl k0 false (a0.Ledger.map (Enc.cs k0)), .rsl k0 false (a0.Requests.map (Enc.cs k0))]])) 0 ⟨rfl, rfl⟩ ?_ ?_ ?_
        ·rintro s5 _ _ ⟨rfl, rfl⟩
         unfold s24_0 ms24_0
         refine q_cut (I := (fun (s : Bool) l L => l = [.bool s] ∧ L = [bx b1 [.int .i64 a0.F, .rsl k0 false (a0.Bad.map (Enc.cs k0)), .rsl k0 false (a0.Replicas.map (Enc.cs k0)), .rsl k0 false (a0.Ledger.map (Enc.cs k0)), .rsl k0 false (a0.Requests.map (Enc.cs k0))]])) ?_ ?_ ?_ ?_
         ·refine q_cut (I := (fun (s : Bool) l L => l = [.bool s] ∧ L = [bx b1 [.int .i64 a0.F, .rsl k0 false (a0.Bad.map (Enc.cs k0)), .rsl k0 false (a0.Replicas.map (Enc.cs k0)), .rsl k0 false (a0.Ledger.map (Enc.cs k0)), .rsl k0 false (a0.Requests.map (Enc.cs k0))]])) ?_ ?_ ?_ ?_
          ·refine q_p fr <| q_gT (fun h3 => ?_) (fun h3 => ?_)
           ·exact q_q fr <| q_p fr <| q_p fr <| q_p fr <| q_norm 0 ⟨rfl, rfl⟩
           ·exact q_norm 0 ⟨rfl, rfl⟩
          ·rintro s8 _ _ ⟨rfl, rfl⟩
           refine q_if (fun h4 => ?_) (fun h4 => ?_)
           ·exact q_norm 0 ⟨rfl, rfl⟩
           ·exact q_exit 0 ⟨rfl, rfl⟩
          ·rintro i2 s8 _ _ ⟨rfl, rfl⟩
           exact q_exit 0 ⟨rfl, rfl⟩
          ·rintro s8 _ _ ⟨rfl, rfl⟩
           exact q_lret 0 ⟨rfl, rfl⟩
         ·rintro s9 _ _ ⟨rfl, rfl⟩
          refine q_cut (I := (fun (s : Bool) l L => l = [.bool s] ∧ L = [bx b1 [.int .i64 a0.F, .rsl k0 false (a0.Bad.map (Enc.cs k0)), .rsl k0 false (a0.Replicas.map (Enc.cs k0)), .rsl k0 false (a0.Ledger.map (Enc.cs k0)), .rsl k0 false (a0.Requests.map (Enc.cs k0))]])) ?_ ?_ ?_ ?_
          ·refine q_p fr <| q_ld 0 rfl rfl <| q_ix rfl fun x2 hx2 => q_cut (I := (fun (s : Bool) l L => l = [.bool s] ∧ L = [bx b1 [.int .i64 a0.F, .rsl k0 false (a0.Bad.map (Enc.cs k0)), .rsl k0 false (a0.Replicas.map (Enc.cs k0)), .rsl k0 false (a0.Ledger.map (Enc.cs k0)), .rsl k0 false (a0.Requests.map (Enc.cs k0))]])) ?_ ?_ ?_ ?_
           ·refine q_q fr <| q_p fr <| q_p fr <| q_q fr <| q_p fr <| q_p fr <| q_p fr <| q_gT (fun h7 => ?_) (fun h7 => ?_)
            ·refine q_q fr <| q_p fr <| q_p fr <| q_q fr <| q_p fr <| q_p fr <| q_p fr <| q_gT (fun h6 => ?_) (fun h6 => ?_)
             ·refine q_q fr <| q_p fr <| q_p fr <| q_q fr <| q_p fr <| q_p fr <| q_p fr <| q_gT (fun h5 => ?_) (fun h5 => ?_)
              ·exact q_q fr <| q_p fr <| q_p fr <| q_q fr <| q_p fr <| q_p fr <| q_p fr <| q_norm 0 ⟨rfl, rfl⟩
              ·exact q_norm 0 ⟨rfl, rfl⟩
             ·exact q_norm 0 ⟨rfl, rfl⟩
            ·exact q_norm 0 ⟨rfl, rfl⟩
           ·rintro s12 _ _ ⟨rfl, rfl⟩
            refine q_if (fun h8 => ?_) (fun h8 => ?_)
            ·exact q_lret 0 ⟨rfl, rfl⟩
            ·exact q_norm 0 ⟨rfl, rfl⟩
           ·rintro i4 s12 _ _ ⟨rfl, rfl⟩
            refine q_ite (fun _ => ?_) (fun _ => ?_)
            ·exact q_norm 0 ⟨rfl, rfl⟩
            ·exact q_exit 0 ⟨rfl, rfl⟩
           ·rintro s12 _ _ ⟨rfl, rfl⟩
            exact q_lret 0 ⟨rfl, rfl⟩
          ·rintro s13 _ _ ⟨rfl, rfl⟩
           exact q_p fr <| q_norm 0 ⟨rfl, rfl⟩
          ·rintro i5 s13 _ _ ⟨rfl, rfl⟩
           exact q_exit 0 ⟨rfl, rfl⟩
          ·rintro s13 _ _ ⟨rfl, rfl⟩
           exact q_lret 0 ⟨rfl, rfl⟩
         ·rintro i3 s9 _ _ ⟨rfl, rfl⟩
          exact q_exit 0 ⟨rfl, rfl⟩
         ·rintro s9 _ _ ⟨rfl, rfl⟩
          exact q_lret 0 ⟨rfl, rfl⟩
        ·rintro i6 s14 _ _ ⟨rfl, rfl⟩
         refine q_ite (fun _ => ?_) (fun _ => ?_)
         ·exact q_norm 0 ⟨rfl, rfl⟩
         ·refine q_ite (fun _ => ?_) (fun _ => ?_)
          ·exact q_norm 0 ⟨rfl, rfl⟩
          ·exact q_exit 0 ⟨rfl, rfl⟩
        ·rintro s14 _ _ ⟨rfl, rfl⟩
         exact q_lret 0 ⟨rfl, rfl⟩
       ·rintro i1 s4 _ _ ⟨rfl, rfl⟩
        refine q_ite (fun _ => ?_) (fun _ => ?_)
        ·exact q_norm 0 ⟨rfl, rfl⟩
        ·exact q_exit 0 ⟨rfl, rfl⟩
       ·rintro s4 _ _ ⟨rfl, rfl⟩
        exact q_lret 0 ⟨rfl, rfl⟩
     ·rintro s15 _ _ ⟨rfl, rfl⟩
      exact q_p fr <| q_norm 0 ⟨rfl, rfl⟩
     ·rintro i7 s15 _ _ ⟨rfl, rfl⟩
      exact q_exit 0 ⟨rfl, rfl⟩
     ·rintro s15 _ _ ⟨rfl, rfl⟩
      exact q_lret 0 ⟨rfl, rfl⟩
    ·exact q_exit 0 ⟨rfl, rfl⟩
   ·rintro i8 s16 _ _ ⟨rfl, rfl⟩
    refine q_ite (fun _ => ?_) (fun _ => ?_)
    ·exact q_ret (cv_p rfl) rfl
    ·exact q_none
   ·rintro s16 _ _ ⟨rfl, rfl⟩
    exact q_ret (cv_p rfl) rfl
def m132 (a0 : Int) (a1 : Int) (a2 : Int) : Bool :=
 bif decide (a1 ≤ a0) then
  decide (a0 ≤ a2)
 else
  false
theorem w132 {d : Nat} (hd : 1 ≤ d) (a0 : Int) (a1 : Int) (a2 : Int) : Fit (R NN d 132 [.int .i64 a0, .int .i64 a1, .int .i64 a2] []) (some (m132 a0 a1 a2)) (P0 (fun (t : Bool) => AV.bool t)) := by
  obtain ⟨d, rfl, g⟩ := up hd
  refine q_in (t132 NN d _ _ _) ?_
  unfold b132 m132
  refine q_p fr <| q_gTt (fun h1 => ?_) (fun h1 => ?_)
  ·exact q_p fr <| q_ret (cv_p rfl) rfl
  ·exact q_ret (cv_p rfl) rfl
def m125 (a0 : Int) : Bool :=
 (m132 a0 1 2)
theorem w125 {d : Nat} (hd : 2 ≤ d) (a0 : Int) : Fit (R NN d 125 [.int .i64 a0] []) (some (m125 a0)) (P0 (fun (t : Bool) => AV.bool t)) := by
  obtain ⟨d, rfl, g⟩ := up hd
  refine q_in (t125 NN d _) ?_
  unfold b125 m125
  exact q_c0t (fun S hS => argF3 (cv_p rfl) (cv_p rfl) (cv_p rfl) hS fun l0_ l1_ l2_ => w132 (by omega) a0 1 2) <| q_ret (cv_p rfl) rfl
def m84 (a0 : Int) : Bool :=
 (m132 a0 1 3)
theorem w84 {d : Nat} (hd : 2 ≤ d) (a0 : Int) : Fit (R NN d 84 [.int .i64 a0] []) (some (m84 a0)) (P0 (fun (t : Bool) => AV.bool t)) := by
  obtain ⟨d, rfl, g⟩ := up hd
  refine q_in (t84 NN d _) ?_
  unfold b84 m84
  exact q_c0t (fun S hS => argF3 (cv_p rfl) (cv_p rfl) (cv_p rfl) hS fun l0_ l1_ l2_ => w132 (by omega) a0 1 3) <| q_ret (cv_p rfl) rfl
def m130 (a0 : Int) : Int :=
 wi .i64 ((wi .i64 (3 * a0)) + 1)
theorem w130 {d : Nat} (hd : 1 ≤ d) (a0 : Int) : Fit (R NN d 130 [.int .i64 a0] []) (some (m130 a0)) (P0 (fun (t : Int) => AV.int .i64 t)) := by
  obtain ⟨d, rfl, g⟩ := up hd
  refine q_in (t130 NN d _) ?_
  unfold b130 m130
  exact q_p fr <| q_p fr <| q_ret (cv_p rfl) rfl
def m129 (a0 : Int) (a1 : Int) : Bool :=
 (m132 a1 1 (m130 a0))
theorem w129 {d : Nat} (hd : 2 ≤ d) (a0 : Int) (a1 : Int) : Fit (R NN d 129 [.int .i64 a0, .int .i64 a1] []) (some (m129 a0 a1)) (P0 (fun (t : Bool) => AV.bool t)) := by
  obtain ⟨d, rfl, g⟩ := up hd
  refine q_in (t129 NN d _ _) ?_
  unfold b129 m129
  exact q_c0t (fun S hS => argF1 (cv_p rfl) hS fun l0_ => w130 (by omega) a0) <| q_c0t (fun S hS => argF3 (cv_p rfl) (cv_p rfl) (cv_p rfl) hS fun l0_ l1_ l2_ => w132 (by omega) a1 1 (m130 a0)) <| q_ret (cv_p rfl) rfl
def m131 (a0 : Int) : Bool :=
 (m132 a0 0 20)
theorem w131 {d : Nat} (hd : 2 ≤ d) (a0 : Int) : Fit (R NN d 131 [.int .i64 a0] []) (some (m131 a0)) (P0 (fun (t : Bool) => AV.bool t)) := by
  obtain ⟨d, rfl, g⟩ := up hd
  refine q_in (t131 NN d _) ?_
  unfold b131 m131
  exact q_c0t (fun S hS => argF3 (cv_p rfl) (cv_p rfl) (cv_p rfl) hS fun l0_ l1_ l2_ => w132 (by omega) a0 0 20) <| q_ret (cv_p rfl) rfl
def ms211_0 (a0 : List TCert) (a1 : TCert → Option (Bool)) (s1 : Int × Int) : Option (LO (Int × Int)) :=
 bif decide (s1.2 < (a0.length : Int)) then
  (getI a0 s1.2).bind fun x1 =>
  (a1 x1).bind fun y1 =>
  bif y1 then
   some (LO.ret (s1.2, s1.2))
  else
   some (LO.norm (s1.1, wi .i64 (s1.2 + 1)))
 else
  some (LO.exit 0 (s1.1, s1.2))
def m211 (a0 : List TCert) (a1 : TCert → Option (Bool)) : Option (Int) :=
 (loopO (ms211_0 a0 a1) NN (0, 0)).bind (contO (fun _ => none) (fun i1 s2 =>
  if i1 = 0 then
   some (-1)
  else
   none) (fun s2 =>
  some s2.1))
theorem w211 {Dc : Nat} {d : Nat} (hd : Dc + 1 ≤ d) (k0 : Bool) (a0 : List TCert) (c1 : Bool → AV) (hc1 : ∀ l, CV 8 [] false (c1 l) c1) (a1 : TCert → Option (Bool)) (tc1 : ∀ (d : Nat), Dc ≤ d → ∀ (l : Bool) (q0 : Bool) (x0 : TCert) (S : St) (t : Bool), a1 x0 = some t → callV (cfg NN) (R NN d) 211 (c1 l) [.agg (Enc.cs q0 x0)] S = some ((fun (t : Bool) => AV.bool t) t, S)) (k1 : Bool) : Fit (R NN d 211 [.rsl k0 false (a0.map (Enc.cs k0)), c1 k1] []) (m211 a0 a1) (P0 (fun (t : Int) => AV.int .i64 t)) := by
  obtain ⟨d, rfl, g⟩ := up hd
  refine q_in (t211 NN d _ _) ?_
  unfold b211 m211
  refine q_len <| q_loop (I := (fun (s : Int × Int) l L => l = [.int .i64 s.1, .int .i64 s.2] ∧ L = [])) 0 ⟨rfl, rfl⟩ ?_ ?_ ?_
  ·rintro s1 _ _ ⟨rfl, rfl⟩
   unfold s211_0 ms211_0
   refine q_p fr <| q_if (fun h2 => ?_) (fun h2 => ?_)
   ·refine q_ix rfl fun x1 hx1 => q_p fr <| q_cv (mg := a1 x1) (E := (fun (t : Bool) => AV.bool t)) (fun S t ht => tc1 d (by omega) k1 k0 x1 S t ht) fun y1 hy1 => q_if (fun h1 => ?_) (fun h1 => ?_)
    ·exact q_lret 0 ⟨rfl, rfl⟩
    ·exact q_p fr <| q_norm 0 ⟨rfl, rfl⟩
   ·exact q_exit 0 ⟨rfl, rfl⟩
  ·rintro i1 s2 _ _ ⟨rfl, rfl⟩
   refine q_ite (fun _ => ?_) (fun _ => ?_)
   ·exact q_ret (cv_p rfl) rfl
   ·exact q_none
  ·rintro s2 _ _ ⟨rfl, rfl⟩
   exact q_ret (cv_p rfl) rfl
def m151 (a0 : List TCert) (a1 : TCert → Option (Bool)) : Option (Bool) :=
 (m211 a0 a1).bind fun y1 =>
 some (decide (y1 ≥ 0))
theorem w151 {Dc : Nat} {d : Nat} (hd : Dc + 2 ≤ d) (k0 : Bool) (a0 : List TCert) (c1 : Bool → AV) (hc1 : ∀ l, CV 8 [] false (c1 l) c1) (a1 : TCert → Option (Bool)) (tc1 : ∀ (d : Nat), Dc ≤ d → ∀ (l : Bool) (q0 : Bool) (x0 : TCert) (S : St) (t : Bool), a1 x0 = some t → callV (cfg NN) (R NN d) 211 (c1 l) [.agg (Enc.cs q0 x0)] S = some ((fun (t : Bool) => AV.bool t) t, S)) (k1 : Bool) : Fit (R NN d 151 [.rsl k0 false (a0.map (Enc.cs k0)), c1 k1] []) (m151 a0 a1) (P0 (fun (t : Bool) => AV.bool t)) := by
  obtain ⟨d, rfl, g⟩ := up hd
  refine q_in (t151 NN d _ _) ?_
  unfold b151 m151
  exact q_c0 (fun S hS => argF2 cv_r (CV.any (hc1 k1)) hS fun l0_ l1_ => w211 (by omega) l0_ a0 c1 hc1 a1 tc1 l1_) fun y1 hy1 => q_p fr <| q_ret (cv_p rfl) rfl
def m192 (a0 : Int) : Bool :=
 (m132 a0 1 30)
theorem w192 {d : Nat} (hd : 2 ≤ d) (a0 : Int) : Fit (R NN d 192 [.int .i64 a0] []) (some (m192 a0)) (P0 (fun (t : Bool) => AV.bool t)) := by
  obtain ⟨d, rfl, g⟩ := up hd
  refine q_in (t192 NN d _) ?_
  unfold b192 m192
  exact q_c0t (fun S hS => argF3 (cv_p rfl) (cv_p rfl) (cv_p rfl) hS fun l0_ l1_ l2_ => w132 (by omega) a0 1 30) <| q_ret (cv_p rfl) rfl
def m193 (a0 : Int) : Bool :=
 (m132 a0 0 12)
theorem w193 {d : Nat} (hd : 2 ≤ d) (a0 : Int) : Fit (R NN d 193 [.int .i64 a0] []) (some (m193 a0)) (P0 (fun (t : Bool) => AV.bool t)) := by
  obtain ⟨d, rfl, g⟩ := up hd
  refine q_in (t193 NN d _) ?_
  unfold b193 m193
  exact q_c0t (fun S hS => argF3 (cv_p rfl) (cv_p rfl) (cv_p rfl) hS fun l0_ l1_ l2_ => w132 (by omega) a0 0 12) <| q_ret (cv_p rfl) rfl
def m194 (a0 : TCert) (a1 : TMsg) : Option (Bool) :=
 (
  bif !(m192 a0.Slot) then
   some (LO.norm true)
  else
   bif !(m132 a0.View 0 (wi .i64 (a1.View - 1))) then
    some (LO.norm true)
   else
    some (LO.norm (!(m193 a0.Value)))).bind (contO (fun s2 =>
  some s2) (fun i1 s2 =>
  none) (fun s2 =>
  some s2))
theorem w194 {d : Nat} (hd : 3 ≤ d) (k0 : Bool) (a0 : TCert) (k1 : Bool) (a1 : TMsg) : Fit (R NN d 194 [.agg (Enc.cs k0 a0), .rp k1 (Enc.cs k1 a1)] []) (m194 a0 a1) (P0 (fun (t : Bool) => AV.bool t)) := by
  obtain ⟨d, rfl, g⟩ := up hd
  refine q_in (t194 NN d _ _) ?_
  unfold b194 m194
  refine q_box (n := 3) rfl rfl (by decide) fun b1 => q_cut (I := (fun (s : Bool) l L => l = [.bool s] ∧ L = [bx b1 [.int .i64 a0.Slot, .int .i64 a0.View, .int .i64 a0.Value]])) ?_ ?_ ?_ ?_
  ·refine q_p fr <| q_ld 0 rfl rfl <| q_c0t (fun S hS => argF1 (cv_p rfl) hS fun l0_ => w192 (by omega) a0.Slot) <| q_p fr <| q_gF (fun h2 => ?_) (fun h2 => ?_)
   ·exact q_norm 0 ⟨rfl, rfl⟩
   ·refine q_p fr <| q_ld 0 rfl rfl <| q_p fr <| q_p fr <| q_p fr <| q_c0t (fun S hS => argF3 (cv_p rfl) (cv_p rfl) (cv_p rfl) hS fun l0_ l1_ l2_ => w132 (by omega) a0.View 0 (wi .i64 (a1.View - 1))) <| q_p fr <| q_gF (fun h1 => ?_) (fun h1 => ?_)
    ·exact q_norm 0 ⟨rfl, rfl⟩
    ·exact q_p fr <| q_ld 0 rfl rfl <| q_c0t (fun S hS => argF1 (cv_p rfl) hS fun l0_ => w193 (by omega) a0.Value) <| q_p fr <| q_norm 0 ⟨rfl, rfl⟩
  ·rintro s2 _ _ ⟨rfl, rfl⟩
   exact q_ret (cv_p rfl) rfl
  ·rintro i1 s2 _ _ ⟨rfl, rfl⟩
   exact q_none
  ·rintro s2 _ _ ⟨rfl, rfl⟩
   exact q_ret (cv_p rfl) rfl
def ms232_0 (a0 : List Int) (a1 : Int → Option (Bool)) (s1 : Int × Int) : Option (LO (Int × Int)) :=
 bif decide (s1.2 < (a0.length : Int)) then
  (getI a0 s1.2).bind fun x1 =>
  (a1 x1).bind fun y1 =>
  bif y1 then
   some (LO.ret (s1.2, s1.2))
  else
   some (LO.norm (s1.1, wi .i64 (s1.2 + 1)))
 else
  some (LO.exit 0 (s1.1, s1.2))
def m232 (a0 : List Int) (a1 : Int → Option (Bool)) : Option (Int) :=
 (loopO (ms232_0 a0 a1) NN (0, 0)).bind (contO (fun _ => none) (fun i1 s2 =>
  if i1 = 0 then
   some (-1)
  else
   none) (fun s2 =>
  some s2.1))
theorem w232 {Dc : Nat} {d : Nat} (hd : Dc + 1 ≤ d) (k0 : Bool) (a0 : List Int) (c1 : Bool → AV) (hc1 : ∀ l, CV 8 [] false (c1 l) c1) (a1 : Int → Option (Bool)) (tc1 : ∀ (d : Nat), Dc ≤ d → ∀ (l : Bool) (x0 : Int) (S : St) (t : Bool), a1 x0 = some t → callV (cfg NN) (R NN d) 232 (c1 l) [.int .i64 x0] S = some ((fun (t : Bool) => AV.bool t) t, S)) (k1 : Bool) : Fit (R NN d 232 [.rsl k0 false (a0.map (Enc.cs k0)), c1 k1] []) (m232 a0 a1) (P0 (fun (t : Int) => AV.int .i64 t)) := by
  obtain ⟨d, rfl, g⟩ := up hd
  refine q_in (t232 NN d _ _) ?_
  unfold b232 m232
  refine q_len <| q_loop (I := (fun (s : Int × Int) l L => l = [.int .i64 s.1, .int .i64 s.2] ∧ L = [])) 0 ⟨rfl, rfl⟩ ?_ ?_ ?_
  ·rintro s1 _ _ ⟨rfl, rfl⟩
   unfold s232_0 ms232_0
   refine q_p fr <| q_if (fun h2 => ?_) (fun h2 => ?_)
   ·refine q_ix rfl fun x1 hx1 => q_p fr <| q_cv (mg := a1 x1) (E := (fun (t : Bool) => AV.bool t)) (fun S t ht => tc1 d (by omega) k1 x1 S t ht) fun y1 hy1 => q_if (fun h1 => ?_) (fun h1 => ?_)
    ·exact q_lret 0 ⟨rfl, rfl⟩
    ·exact q_p fr <| q_norm 0 ⟨rfl, rfl⟩
   ·exact q_exit 0 ⟨rfl, rfl⟩
  ·rintro i1 s2 _ _ ⟨rfl, rfl⟩
   refine q_ite (fun _ => ?_) (fun _ => ?_)
   ·exact q_ret (cv_p rfl) rfl
   ·exact q_none
  ·rintro s2 _ _ ⟨rfl, rfl⟩
   exact q_ret (cv_p rfl) rfl
def m195 (a0 : List Int) (a1 : Int → Option (Bool)) : Option (Bool) :=
 (m232 a0 a1).bind fun y1 =>
 some (decide (y1 ≥ 0))
theorem w195 {Dc : Nat} {d : Nat} (hd : Dc + 2 ≤ d) (k0 : Bool) (a0 : List Int) (c1 : Bool → AV) (hc1 : ∀ l, CV 8 [] false (c1 l) c1) (a1 : Int → Option (Bool)) (tc1 : ∀ (d : Nat), Dc ≤ d → ∀ (l : Bool) (x0 : Int) (S : St) (t : Bool), a1 x0 = some t → callV (cfg NN) (R NN d) 232 (c1 l) [.int .i64 x0] S = some ((fun (t : Bool) => AV.bool t) t, S)) (k1 : Bool) : Fit (R NN d 195 [.rsl k0 false (a0.map (Enc.cs k0)), c1 k1] []) (m195 a0 a1) (P0 (fun (t : Bool) => AV.bool t)) := by
  obtain ⟨d, rfl, g⟩ := up hd
  refine q_in (t195 NN d _ _) ?_
  unfold b195 m195
  exact q_c0 (fun S hS => argF2 cv_r (CV.any (hc1 k1)) hS fun l0_ l1_ => w232 (by omega) l0_ a0 c1 hc1 a1 tc1 l1_) fun y1 hy1 => q_p fr <| q_ret (cv_p rfl) rfl
def m196 (a0 : Int) : Bool :=
 !(m132 a0 0 239)
theorem w196 {d : Nat} (hd : 2 ≤ d) (a0 : Int) : Fit (R NN d 196 [.int .i64 a0] []) (some (m196 a0)) (P0 (fun (t : Bool) => AV.bool t)) := by
  obtain ⟨d, rfl, g⟩ := up hd
  refine q_in (t196 NN d _) ?_
  unfold b196 m196
  exact q_c0t (fun S hS => argF3 (cv_p rfl) (cv_p rfl) (cv_p rfl) hS fun l0_ l1_ l2_ => w132 (by omega) a0 0 239) <| q_p fr <| q_ret (cv_p rfl) rfl
def ms126_0 (a1 : TMsg) (s7 : Int × Int) : Option (LO (Int × Int)) :=
 bif decide (s7.2 < (a1.Certs.length : Int)) then
  (
   (getI a1.Certs s7.2).bind fun x1 =>
   bif decide (s7.2 > 0) then
    (getI a1.Certs (wi .i64 (s7.2 - 1))).bind fun x2 =>
    bif decide (x1.Slot ≤ x2.Slot) then
     some (LO.ret 1)
    else
     some (LO.norm s7.1)
   else
    some (LO.norm s7.1)).bind (contO (fun s9 =>
   some (LO.norm (s9, wi .i64 (s7.2 + 1)))) (fun i4 s9 =>
   some (LO.exit i4 (s9, s7.2))) (fun s9 =>
   some (LO.ret (s9, s7.2))))
 else
  some (LO.exit 1 (s7.1, s7.2))
def ms126_1 (a1 : TMsg) (s11 : Int × Int) : Option (LO (Int × Int)) :=
 bif decide (s11.2 < (a1.Refs.length : Int)) then
  (
   (getI a1.Refs s11.2).bind fun x3 =>
   bif decide (s11.2 > 0) then
    (getI a1.Refs (wi .i64 (s11.2 - 1))).bind fun x4 =>
    bif decide (x3 ≤ x4) then
     some (LO.ret 1)
    else
     some (LO.norm s11.1)
   else
    some (LO.norm s11.1)).bind (contO (fun s13 =>
   some (LO.norm (s13, wi .i64 (s11.2 + 1)))) (fun i6 s13 =>
   some (LO.exit i6 (s13, s11.2))) (fun s13 =>
   some (LO.ret (s13, s11.2))))
 else
  some (LO.exit 3 (s11.1, s11.2))
def m126 (a0 : Int) (a1 : TMsg) : Option (Int) :=
 (
  (
   bif !(m132 a1.Kind 1 5) then
    some (LO.norm true)
   else
    bif !(m84 a1.Kind) then
     bif a1.Slot != 0 then
      some (LO.norm true)
     else
      bif a1.Value != 0 then
       some (LO.norm true)
      else
       bif a1.Kind != 4 then
        bif decide ((a1.Certs.length : Int) > 0) then
         some (LO.norm true)
        else
         bif a1.Kind != 5 then
          some (LO.norm (decide ((a1.Refs.length : Int) > 0)))
         else
          some (LO.norm false)
       else
        bif a1.Kind != 5 then
         some (LO.norm (decide ((a1.Refs.length : Int) > 0)))
        else
         some (LO.norm false)
    else
     bif a1.Kind != 4 then
      bif decide ((a1.Certs.length : Int) > 0) then
       some (LO.norm true)
      else
       bif a1.Kind != 5 then
        some (LO.norm (decide ((a1.Refs.length : Int) > 0)))
       else
        some (LO.norm false)
     else
      bif a1.Kind != 5 then
       some (LO.norm (decide ((a1.Refs.length : Int) > 0)))
      else
       some (LO.norm false)).bind (contO (fun s3 =>
   bif s3 then
    some (LO.ret 1)
   else
    (
     bif !(m131 a1.View) then
      some (LO.norm true)
     else
      bif !(m129 a0 a1.From) then
       some (LO.norm true)
      else
       bif (m84 a1.Kind) then
        bif !(m192 a1.Slot) then
         some (LO.norm true)
        else
         some (LO.norm (!(m193 a1.Value)))
       else
        some (LO.norm false)).bind (contO (fun s5 =>
     bif s5 then
      some (LO.ret 3)
     else
      bif decide ((a1.Certs.length : Int) > 30) then
       some (LO.ret 2)
      else
       bif decide ((a1.Refs.length : Int) > (m130 a0)) then
        some (LO.ret 2)
       else
        some (LO.norm 0)) (fun i2 s5 =>
     if i2 = 0 then
      some (LO.norm 0)
     else
      some (LO.exit i2 0)) (fun s5 =>
     some (LO.ret 0)))) (fun i1 s3 =>
   if i1 = 0 then
    some (LO.norm 0)
   else
    some (LO.exit i1 0)) (fun s3 =>
   some (LO.ret 0)))).bind (contO (fun s6 =>
  (loopO (ms126_0 a1) NN (s6, 0)).bind (contO (fun _ => none) (fun i5 s10 =>
   if i5 = 1 then
    (loopO (ms126_1 a1) NN (s10.1, 0)).bind (contO (fun _ => none) (fun i7 s14 =>
     if i7 = 3 then
      (m151 a1.Certs (fun x0_ => m194 x0_ a1)).bind fun y1 =>
      bif y1 then
       some 3
      else
       (m195 a1.Refs (fun x0_ => some (m196 x0_))).bind fun y2 =>
       bif y2 then
        some 3
       else
        some 0
     else
      none) (fun s14 =>
     some s14.1))
   else
    none) (fun s10 =>
   some s10.1))) (fun i3 s6 =>
  none) (fun s6 =>
  some s6))
theorem w126 {d : Nat} (hd : 6 ≤ d) (a0 : Int) (k1 : Bool) (a1 : TMsg) : Fit (R NN d 126 [.int .i64 a0, .agg (Enc.cs k1 a1)] []) (m126 a0 a1) (P0 (fun (t : Int) => AV.int .i64 t)) := by
  obtain ⟨d, rfl, g⟩ := up hd
  refine q_in (t126 NN d _ _) ?_
  unfold b126 m126
  refine q_box (n := 7) rfl rfl (by decide) fun b1 => q_p fr <| q_ld 0 rfl rfl <| q_c0t (fun S hS => argF1 (cv_p rfl) hS fun l0_ => w84 (by omega) a1.Kind) <| q_cut (I := (fun (s : Int) l L => l = [.int .i64 s] ∧ L = [bx b1 [.int .i64 a1.Kind, .int .i64 a1.View, .int .i64 a1.From, .int .i64 a1.Slot, .int .i64 a1.Value, .rsl k1 false (a1.Certs.map (Enc.cs k1)), .rsl k1 false (a1.Refs.map (Enc.cs k1))]])) ?_ ?_ ?_ ?_
  ·refine q_cut (I := (fun (s : Bool) l L => l = [.bool s] ∧ L = [bx b1 [.int .i64 a1.Kind, .int .i64 a1.View, .int .i64 a1.From, .int .i64 a1.Slot, .int .i64 a1.Value, .rsl k1 false (a1.Certs.map (Enc.cs k1)), .rsl k1 false (a1.Refs.map (Enc.cs k1))]])) ?_ ?_ ?_ ?_
   ·refine q_p fr <| q_ld 0 rfl rfl <| q_c0t (fun S hS => argF3 (cv_p rfl) (cv_p rfl) (cv_p rfl) hS fun l0_ l1_ l2_ => w132 (by omega) a1.Kind 1 5) <| q_p fr <| q_gF (fun h12 => ?_) (fun h12 => ?_)
    ·exact q_norm 0 ⟨rfl, rfl⟩
    ·refine q_p fr <| q_gT (fun h11 => ?_) (fun h11 => ?_)
     ·refine q_p fr <| q_ld 0 rfl rfl <| q_p fr <| q_gF (fun h6 => ?_) (fun h6 => ?_)
      ·exact q_norm 0 ⟨rfl, rfl⟩
      ·refine q_p fr <| q_ld 0 rfl rfl <| q_p fr <| q_gF (fun h5 => ?_) (fun h5 => ?_)
       ·exact q_norm 0 ⟨rfl, rfl⟩
       ·refine q_p fr <| q_ld 0 rfl rfl <| q_p fr <| q_gT (fun h4 => ?_) (fun h4 => ?_)
        ·refine q_p fr <| q_ld 0 rfl rfl <| q_len <| q_p fr <| q_gF (fun h2 => ?_) (fun h2 => ?_)
         ·exact q_norm 0 ⟨rfl, rfl⟩
         ·refine q_p fr <| q_ld 0 rfl rfl <| q_p fr <| q_gT (fun h1 => ?_) (fun h1 => ?_)
          ·exact q_p fr <| q_ld 0 rfl rfl <| q_len <| q_p fr <| q_norm 0 ⟨rfl, rfl⟩
          ·exact q_norm 0 ⟨rfl, rfl⟩
        ·refine q_p fr <| q_ld 0 rfl rfl <| q_p fr <| q_gT (fun h3 => ?_) (fun h3 => ?_)
         ·exact q_p fr <| q_ld 0 rfl rfl <| q_len <| q_p fr <| q_norm 0 ⟨rfl, rfl⟩
         ·exact q_norm 0 ⟨rfl, rfl⟩
     ·refine q_p fr <| q_ld 0 rfl rfl <| q_p fr <| q_gT (fun h10 => ?_) (fun h10 => ?_)
      ·refine q_p fr <| q_ld 0 rfl rfl <| q_len <| q_p fr <| q_gF (fun h8 => ?_) (fun h8 => ?_)
       ·exact q_norm 0 ⟨rfl, rfl⟩
       ·refine q_p fr <| q_ld 0 rfl rfl <| q_p fr <| q_gT (fun h7 => ?_) (fun h7 => ?_)
        ·exact q_p fr <| q_ld 0 rfl rfl <| q_len <| q_p fr <| q_norm 0 ⟨rfl, rfl⟩
        ·exact q_norm 0 ⟨rfl, rfl⟩
      ·refine q_p fr <| q_ld 0 rfl rfl <| q_p fr <| q_gT (fun h9 => ?_) (fun h9 => ?_)
       ·exact q_p fr <| q_ld 0 rfl rfl <| q_len <| q_p fr <| q_norm 0 ⟨rfl, rfl⟩
       ·exact q_norm 0 ⟨rfl, rfl⟩
   ·rintro s3 _ _ ⟨rfl, rfl⟩
    refine q_if (fun h20 => ?_) (fun h20 => ?_)
    ·exact q_lret 0 ⟨rfl, rfl⟩
    ·refine q_cut (I := (fun (s : Bool) l L => l = [.bool s] ∧ L = [bx b1 [.int .i64 a1.Kind, .int .i64 a1.View, .int .i64 a1.From, .int .i64 a1.Slot, .int .i64 a1.Value, .rsl k1 false (a1.Certs.map (Enc.cs k1)), .rsl k1 false (a1.Refs.map (Enc.cs k1))]])) ?_ ?_ ?_ ?_
     ·refine q_p fr <| q_ld 0 rfl rfl <| q_c0t (fun S hS => argF1 (cv_p rfl) hS fun l0_ => w131 (by omega) a1.View) <| q_p fr <| q_gF (fun h16 => ?_) (fun h16 => ?_)
      ·exact q_norm 0 ⟨rfl, rfl⟩
      ·refine q_p fr <| q_ld 0 rfl rfl <| q_c0t (fun S hS => argF2 (cv_p rfl) (cv_p rfl) hS fun l0_ l1_ => w129 (by omega) a0 a1.From) <| q_p fr <| q_gF (fun h15 => ?_) (fun h15 => ?_)
       ·exact q_norm 0 ⟨rfl, rfl⟩
       ·refine q_gT (fun h14 => ?_) (fun h14 => ?_)
        ·refine q_p fr <| q_ld 0 rfl rfl <| q_c0t (fun S hS => argF1 (cv_p rfl) hS fun l0_ => w192 (by omega) a1.Slot) <| q_p fr <| q_gF (fun h13 => ?_) (fun h13 => ?_)
         ·exact q_norm 0 ⟨rfl, rfl⟩
         ·exact q_p fr <| q_ld 0 rfl rfl <| q_c0t (fun S hS => argF1 (cv_p rfl) hS fun l0_ => w193 (by omega) a1.Value) <| q_p fr <| q_norm 0 ⟨rfl, rfl⟩
        ·exact q_norm 0 ⟨rfl, rfl⟩
     ·rintro s5 _ _ ⟨rfl, rfl⟩
      refine q_if (fun h19 => ?_) (fun h19 => ?_)
      ·exact q_lret 0 ⟨rfl, rfl⟩
      ·refine q_p fr <| q_ld 0 rfl rfl <| q_len <| q_p fr <| q_gF (fun h18 => ?_) (fun h18 => ?_)
       ·first | refine q_ifT1 ?_ | skip
        exact q_lret 0 ⟨rfl, rfl⟩
       ·refine q_p fr <| q_ld 0 rfl rfl <| q_len <| q_c0t (fun S hS => argF1 (cv_p rfl) hS fun l0_ => w130 (by omega) a0) <| q_p fr <| q_if (fun h17 => ?_) (fun h17 => ?_)
        ·exact q_lret 0 ⟨rfl, rfl⟩
        ·exact q_norm 0 ⟨rfl, rfl⟩
     ·rintro i2 s5 _ _ ⟨rfl, rfl⟩
      refine q_ite (fun _ => ?_) (fun _ => ?_)
      ·exact q_norm 0 ⟨rfl, rfl⟩
      ·exact q_exit 0 ⟨rfl, rfl⟩
     ·rintro s5 _ _ ⟨rfl, rfl⟩
      exact q_lret 0 ⟨rfl, rfl⟩
   ·rintro i1 s3 _ _ ⟨rfl, rfl⟩
    refine q_ite (fun _ => ?_) (fun _ => ?_)
    ·exact q_norm 0 ⟨rfl, rfl⟩
    ·exact q_exit 0 ⟨rfl, rfl⟩
   ·rintro s3 _ _ ⟨rfl, rfl⟩
    exact q_lret 0 ⟨rfl, rfl⟩
  ·rintro s6 _ _ ⟨rfl, rfl⟩
   refine q_p fr <| q_ld 0 rfl rfl <| q_len <| q_loop (I := (fun (s : Int × Int) l L => l = [.int .i64 s.1, .int .i64 s.2] ∧ L = [bx b1 [.int .i64 a1.Kind, .int .i64 a1.View, .int .i64 a1.From, .int .i64 a1.Slot, .int .i64 a1.Value, .rsl k1 false (a1.Certs.map (Enc.cs k1)), .rsl k1 false (a1.Refs.map (Enc.cs k1))]])) 0 ⟨rfl, rfl⟩ ?_ ?_ ?_
   ·rintro s7 _ _ ⟨rfl, rfl⟩
    unfold s126_0 ms126_0
    refine q_p fr <| q_if (fun h23 => ?_) (fun h23 => ?_)
    ·refine q_cut (I := (fun (s : Int) l L => l = [.int .i64 s] ∧ L = [bx b1 [.int .i64 a1.Kind, .int .i64 a1.View, .int .i64 a1.From, .int .i64 a1.Slot, .int .i64 a1.Value, .rsl k1 false (a1.Certs.map (Enc.cs k1)), .rsl k1 false (a1.Refs.map (Enc.cs k1))]])) ?_ ?_ ?_ ?_
     ·refine q_ix rfl fun x1 hx1 => q_p fr <| q_new rfl fun b2 => q_st 0 rfl rfl rfl (by decide) rfl <| q_p fr <| q_gT (fun h22 => ?_) (fun h22 => ?_)
      ·refine q_p fr <| q_ld 0 rfl rfl <| q_p fr <| q_ld 1 rfl rfl <| q_p fr <| q_ix rfl fun x2 hx2 => q_p fr <| q_p fr <| q_p fr <| q_if (fun h21 => ?_) (fun h21 => ?_)
       ·exact q_lret 1 ⟨rfl, rfl⟩
       ·exact q_norm 1 ⟨rfl, rfl⟩
      ·first | refine q_ifF1 ?_ | skip
       exact q_norm 1 ⟨rfl, rfl⟩
     ·rintro s9 _ _ ⟨rfl, rfl⟩
      exact q_p fr <| q_norm 0 ⟨rfl, rfl⟩
     ·rintro i4 s9 _ _ ⟨rfl, rfl⟩
      exact q_exit 0 ⟨rfl, rfl⟩
     ·rintro s9 _ _ ⟨rfl, rfl⟩
      exact q_lret 0 ⟨rfl, rfl⟩
    ·exact q_exit 0 ⟨rfl, rfl⟩
   ·rintro i5 s10 _ _ ⟨rfl, rfl⟩
    refine q_ite (fun _ => ?_) (fun _ => ?_)
    ·refine q_p fr <| q_ld 0 rfl rfl <| q_len <| q_loop (I := (fun (s : Int × Int) l L => l = [.int .i64 s.1, .int .i64 s.2] ∧ L = [bx b1 [.int .i64 a1.Kind, .int .i64 a1.View, .int .i64 a1.From, .int .i64 a1.Slot, .int .i64 a1.Value, .rsl k1 false (a1.Certs.map (Enc.cs k1)), .rsl k1 false (a1.Refs.map (Enc.cs k1))]])) 0 ⟨rfl, rfl⟩ ?_ ?_ ?_
     ·rintro s11 _ _ ⟨rfl, rfl⟩
      unfold s126_1 ms126_1
      refine q_p fr <| q_if (fun h26 => ?_) (fun h26 => ?_)
      ·refine q_cut (I := (fun (s : Int) l L => l = [.int .i64 s] ∧ L = [bx b1 [.int .i64 a1.Kind, .int .i64 a1.View, .int .i64 a1.From, .int .i64 a1.Slot, .int .i64 a1.Value, .rsl k1 false (a1.Certs.map (Enc.cs k1)), .rsl k1 false (a1.Refs.map (Enc.cs k1))]])) ?_ ?_ ?_ ?_
       ·refine q_ix rfl fun x3 hx3 => q_p fr <| q_p fr <| q_gT (fun h25 => ?_) (fun h25 => ?_)
        ·refine q_p fr <| q_ld 0 rfl rfl <| q_p fr <| q_ix rfl fun x4 hx4 => q_p fr <| q_p fr <| q_if (fun h24 => ?_) (fun h24 => ?_)
         ·exact q_lret 0 ⟨rfl, rfl⟩
         ·exact q_norm 0 ⟨rfl, rfl⟩
        ·first | refine q_ifF1 ?_ | skip
         exact q_norm 0 ⟨rfl, rfl⟩
       ·rintro s13 _ _ ⟨rfl, rfl⟩
        exact q_p fr <| q_norm 0 ⟨rfl, rfl⟩
       ·rintro i6 s13 _ _ ⟨rfl, rfl⟩
        exact q_exit 0 ⟨rfl, rfl⟩
       ·rintro s13 _ _ ⟨rfl, rfl⟩
        exact q_lret 0 ⟨rfl, rfl⟩
      ·exact q_exit 0 ⟨rfl, rfl⟩
     ·rintro i7 s14 _ _ ⟨rfl, rfl⟩
      refine q_ite (fun _ => ?_) (fun _ => ?_)
      ·refine q_p fr <| q_ld 0 rfl rfl <| q_c0 (fun S hS => argF2 cv_r (cv_f (cvs_cons (cv_b 0 rfl (cvs_e (l0 := k1) (x := a1))) cvs_nil)) hS fun l0_ l1_ => w151 (Dc := 3) (by omega) l0_ a1.Certs (fun l => .fn 194 [.rp l (Enc.cs l a1)]) (fun l => cv_f (cvs_cons (cv_rp (cvs_e (x := a1)) (fun _ _ _ h => Enc.frz _ a1 _ _ _ h)) cvs_nil)) (fun x0_ => m194 x0_ a1) (fun d hd l q0_ x0_ S t ht => (cv211_194 _ _ _ _).trans (call0_of (E := (fun (t : Bool) => AV.bool t)) (mg := m194 x0_ a1) (args2 (M := fun a => Fit (R NN d 194 a []) _ _) (cv_a (cvs_e (l0 := q0_) (x := x0_))) (cv_rp (cvs_e (l0 := l) (x := a1)) (fun _ _ _ h => Enc.frz _ a1 _ _ _ h)) HP.nil fun u0_ v0_ => w194 hd u0_ x0_ v0_ a1) ht)) l1_) fun y1 hy1 => q_if (fun h28 => ?_) (fun h28 => ?_)
       ·exact q_ret (cv_p rfl) rfl
       ·refine q_p fr <| q_ld 0 rfl rfl <| q_c0 (fun S hS => argF2 cv_r (cv_f cvs_nil) hS fun l0_ l1_ => w195 (Dc := 2) (by omega) l0_ a1.Refs (fun l => .fn 196 []) (fun l => cv_f cvs_nil) (fun x0_ => some (m196 x0_)) (fun d hd l x0_ S t ht => (cv232_196 _ _ _ _).trans (call0_of (E := (fun (t : Bool) => AV.bool t)) (mg := some (m196 x0_)) (args1 (M := fun a => Fit (R NN d 196 a []) _ _) (cv_p rfl) HP.nil fun u0_ => w196 hd x0_) ht)) l1_) fun y2 hy2 => q_if (fun h27 => ?_) (fun h27 => ?_)
        ·exact q_ret (cv_p rfl) rfl
        ·exact q_ret (cv_p rfl) rfl
      ·exact q_none
     ·rintro s14 _ _ ⟨rfl, rfl⟩
      exact q_ret (cv_p rfl) rfl
    ·exact q_none
   ·rintro s10 _ _ ⟨rfl, rfl⟩
    exact q_ret (cv_p rfl) rfl
  ·rintro i3 s6 _ _ ⟨rfl, rfl⟩
   exact q_none
  ·rintro s6 _ _ ⟨rfl, rfl⟩
   exact q_ret (cv_p rfl) rfl
def m197 (a0 : Int) (a1 : Int) : Bool :=
 decide (a0 ≥ a1)
theorem w197 {d : Nat} (hd : 1 ≤ d) (a0 : Int) (k1 : Bool) (a1 : Int) : Fit (R NN d 197 [.int .i64 a0, .rp k1 (Enc.cs k1 a1)] []) (some (m197 a0 a1)) (P0 (fun (t : Bool) => AV.bool t)) := by
  obtain ⟨d, rfl, g⟩ := up hd
  refine q_in (t197 NN d _ _) ?_
  unfold b197 m197
  exact q_p fr <| q_p fr <| q_ret (cv_p rfl) rfl
def m127 (a0 : TMsg) (a1 : Int) : Option (Bool) :=
 (m195 a0.Refs (fun x0_ => some (m197 x0_ a1))).bind fun y1 =>
 some (!y1)
theorem w127 {d : Nat} (hd : 4 ≤ d) (k0 : Bool) (a0 : TMsg) (a1 : Int) : Fit (R NN d 127 [.agg (Enc.cs k0 a0), .int .i64 a1] []) (m127 a0 a1) (P0 (fun (t : Bool) => AV.bool t)) := by
  obtain ⟨d, rfl, g⟩ := up hd
  refine q_in (t127 NN d _ _) ?_
  unfold b127 m127
  exact q_box (n := 7) rfl rfl (by decide) fun b1 => q_box (n := 1) rfl rfl (by decide) fun b2 => q_p fr <| q_ld 1 rfl rfl <| q_c0 (fun S hS => argF2 cv_r (cv_f (cvs_cons (cv_b 0 rfl (cvs_e (l0 := false) (x := a1))) cvs_nil)) hS fun l0_ l1_ => w195 (Dc := 1) (by omega) l0_ a0.Refs (fun l => .fn 197 [.rp l (Enc.cs l a1)]) (fun l => cv_f (cvs_cons (cv_rp (cvs_e (x := a1)) (fun _ _ _ h => Enc.frz _ a1 _ _ _ h)) cvs_nil)) (fun x0_ => some (m197 x0_ a1)) (fun d hd l x0_ S t ht => (cv232_197 _ _ _ _).trans (call0_of (E := (fun (t : Bool) => AV.bool t)) (mg := some (m197 x0_ a1)) (args2 (M := fun a => Fit (R NN d 197 a []) _ _) (cv_p rfl) (cv_rp (cvs_e (l0 := l) (x := a1)) (fun _ _ _ h => Enc.frz _ a1 _ _ _ h)) HP.nil fun u0_ v0_ => w197 hd x0_ v0_ a1) ht)) l1_) fun y1 hy1 => q_p fr <| q_ret (cv_p rfl) rfl
def ms154_0 (a0 : List TMsg) (a1 : TMsg → Option (Bool)) (s1 : Int × Int) : Option (LO (Int × Int)) :=
 bif decide (s1.2 < (a0.length : Int)) then
  (getI a0 s1.2).bind fun x1 =>
  (a1 x1).bind fun y1 =>
  bif y1 then
   some (LO.ret (s1.2, s1.2))
  else
   some (LO.norm (s1.1, wi .i64 (s1.2 + 1)))
 else
  some (LO.exit 0 (s1.1, s1.2))
def m154 (a0 : List TMsg) (a1 : TMsg → Option (Bool)) : Option (Int) :=
 (loopO (ms154_0 a0 a1) NN (0, 0)).bind (contO (fun _ => none) (fun i1 s2 =>
  if i1 = 0 then
   some (-1)
  else
   none) (fun s2 =>
  some s2.1))
theorem w154 {Dc : Nat} {d : Nat} (hd : Dc + 1 ≤ d) (k0 : Bool) (a0 : List TMsg) (c1 : Bool → AV) (hc1 : ∀ l, CV 8 [] false (c1 l) c1) (a1 : TMsg → Option (Bool)) (tc1 : ∀ (d : Nat), Dc ≤ d → ∀ (l : Bool) (q0 : Bool) (x0 : TMsg) (S : St) (t : Bool), a1 x0 = some t → callV (cfg NN) (R NN d) 154 (c1 l) [.agg (Enc.cs q0 x0)] S = some ((fun (t : Bool) => AV.bool t) t, S)) (k1 : Bool) : Fit (R NN d 154 [.rsl k0 false (a0.map (Enc.cs k0)), c1 k1] []) (m154 a0 a1) (P0 (fun (t : Int) => AV.int .i64 t)) := by
  obtain ⟨d, rfl, g⟩ := up hd
  refine q_in (t154 NN d _ _) ?_
  unfold b154 m154
  refine q_len <| q_loop (I := (fun (s : Int × Int) l L => l = [.int .i64 s.1, .int .i64 s.2] ∧ L = [])) 0 ⟨rfl, rfl⟩ ?_ ?_ ?_
  ·rintro s1 _ _ ⟨rfl, rfl⟩
   unfold s154_0 ms154_0
   refine q_p fr <| q_if (fun h2 => ?_) (fun h2 => ?_)
   ·refine q_ix rfl fun x1 hx1 => q_p fr <| q_cv (mg := a1 x1) (E := (fun (t : Bool) => AV.bool t)) (fun S t ht => tc1 d (by omega) k1 k0 x1 S t ht) fun y1 hy1 => q_if (fun h1 => ?_) (fun h1 => ?_)
    ·exact q_lret 0 ⟨rfl, rfl⟩
    ·exact q_p fr <| q_norm 0 ⟨rfl, rfl⟩
   ·exact q_exit 0 ⟨rfl, rfl⟩
  ·rintro i1 s2 _ _ ⟨rfl, rfl⟩
   refine q_ite (fun _ => ?_) (fun _ => ?_)
   ·exact q_ret (cv_p rfl) rfl
   ·exact q_none
  ·rintro s2 _ _ ⟨rfl, rfl⟩
   exact q_ret (cv_p rfl) rfl
def ms66_0 (a0 : List Int) (a1 : List Int) (s1 : Bool × Int) : Option (LO (Bool × Int)) :=
 bif decide (s1.2 < (a0.length : Int)) then
  (getI a0 s1.2).bind fun x1 =>
  (getI a1 s1.2).bind fun x2 =>
  bif x1 != x2 then
   some (LO.ret (false, s1.2))
  else
   some (LO.norm (s1.1, wi .i64 (s1.2 + 1)))
 else
  some (LO.exit 0 (s1.1, s1.2))
def m66 (a0 : List Int) (a1 : List Int) : Option (Bool) :=
 bif (a0.length : Int) != (a1.length : Int) then
  some false
 else
  (loopO (ms66_0 a0 a1) NN (false, 0)).bind (contO (fun _ => none) (fun i1 s2 =>
   if i1 = 0 then
    some true
   else
    none) (fun s2 =>
   some s2.1))
theorem w66 {d : Nat} (hd : 1 ≤ d) (k0 : Bool) (a0 : List Int) (k1 : Bool) (a1 : List Int) : Fit (R NN d 66 [.rsl k0 false (a0.map (Enc.cs k0)), .rsl k1 false (a1.map (Enc.cs k1))] []) (m66 a0 a1) (P0 (fun (t : Bool) => AV.bool t)) := by
  obtain ⟨d, rfl, g⟩ := up hd
  refine q_in (t66 NN d _ _) ?_
  unfold b66 m66
  refine q_len <| q_len <| q_p fr <| q_if (fun h3 => ?_) (fun h3 => ?_)
  ·exact q_ret (cv_p rfl) rfl
  ·refine q_len <| q_loop (I := (fun (s : Bool × Int) l L => l = [.bool s.1, .int .i64 s.2] ∧ L = [])) 0 ⟨rfl, rfl⟩ ?_ ?_ ?_
   ·rintro s1 _ _ ⟨rfl, rfl⟩
    unfold s66_0 ms66_0
    refine q_p fr <| q_if (fun h2 => ?_) (fun h2 => ?_)
    ·refine q_ix rfl fun x1 hx1 => q_p fr <| q_ix rfl fun x2 hx2 => q_p fr <| q_p fr <| q_if (fun h1 => ?_) (fun h1 => ?_)
     ·exact q_lret 0 ⟨rfl, rfl⟩
     ·exact q_p fr <| q_norm 0 ⟨rfl, rfl⟩
    ·exact q_exit 0 ⟨rfl, rfl⟩
   ·rintro i1 s2 _ _ ⟨rfl, rfl⟩
    refine q_ite (fun _ => ?_) (fun _ => ?_)
    ·exact q_ret (cv_p rfl) rfl
    ·exact q_none
   ·rintro s2 _ _ ⟨rfl, rfl⟩
    exact q_ret (cv_p rfl) rfl
def ms233_0 (a0 : List TCert) (a1 : List TCert) (s1 : Bool × Int) : Option (LO (Bool × Int)) :=
 bif decide (s1.2 < (a0.length : Int)) then
  (getI a0 s1.2).bind fun x1 =>
  (getI a1 s1.2).bind fun x2 =>
  bif !(((x1.Slot == x2.Slot) && ((x1.View == x2.View) && ((x1.Value == x2.Value) && true)))) then
   some (LO.ret (false, s1.2))
  else
   some (LO.norm (s1.1, wi .i64 (s1.2 + 1)))
 else
  some (LO.exit 0 (s1.1, s1.2))
def m233 (a0 : List TCert) (a1 : List TCert) : Option (Bool) :=
 bif (a0.length : Int) != (a1.length : Int) then
  some false
 else
  (loopO (ms233_0 a0 a1) NN (false, 0)).bind (contO (fun _ => none) (fun i1 s2 =>
   if i1 = 0 then
    some true
   else
    none) (fun s2 =>
   some s2.1))
theorem w233 {d : Nat} (hd : 1 ≤ d) (k0 : Bool) (a0 : List TCert) (k1 : Bool) (a1 : List TCert) : Fit (R NN d 233 [.rsl k0 false (a0.map (Enc.cs k0)), .rsl k1 false (a1.map (Enc.cs k1))] []) (m233 a0 a1) (P0 (fun (t : Bool) => AV.bool t)) := by
  obtain ⟨d, rfl, g⟩ := up hd
  refine q_in (t233 NN d _ _) ?_
  unfold b233 m233
  refine q_len <| q_len <| q_p fr <| q_if (fun h3 => ?_) (fun h3 => ?_)
  ·exact q_ret (cv_p rfl) rfl
  ·refine q_len <| q_loop (I := (fun (s : Bool × Int) l L => l = [.bool s.1, .int .i64 s.2] ∧ L = [])) 0 ⟨rfl, rfl⟩ ?_ ?_ ?_
   ·rintro s1 _ _ ⟨rfl, rfl⟩
    unfold s233_0 ms233_0
    refine q_p fr <| q_if (fun h2 => ?_) (fun h2 => ?_)
    ·refine q_ix rfl fun x1 hx1 => q_p fr <| q_ix rfl fun x2 hx2 => q_p fr <| q_p (fun _ => sneq1612 _ _ _ _ _ _) <| q_if (fun h1 => ?_) (fun h1 => ?_)
     ·exact q_lret 0 ⟨rfl, rfl⟩
     ·exact q_p fr <| q_norm 0 ⟨rfl, rfl⟩
    ·exact q_exit 0 ⟨rfl, rfl⟩
   ·rintro i1 s2 _ _ ⟨rfl, rfl⟩
    refine q_ite (fun _ => ?_) (fun _ => ?_)
    ·exact q_ret (cv_p rfl) rfl
    ·exact q_none
   ·rintro s2 _ _ ⟨rfl, rfl⟩
    exact q_ret (cv_p rfl) rfl
def m199 (a0 : TMsg) (a1 : TMsg) : Option (Bool) :=
 (
  bif a0.Kind == a1.Kind then
   bif a0.View == a1.View then
    bif a0.From == a1.From then
     bif a0.Slot == a1.Slot then
      bif a0.Value == a1.Value then
       (m233 a0.Certs a1.Certs).bind fun y1 =>
       bif y1 then
        (m66 a0.Refs a1.Refs).bind fun y2 =>
        some (LO.norm y2)
       else
        some (LO.norm false)
      else
       some (LO.norm false)
     else
      some (LO.norm false)
    else
     some (LO.norm false)
   else
    some (LO.norm false)
  else
   some (LO.norm false)).bind (contO (fun s2 =>
  some s2) (fun i1 s2 =>
  none) (fun s2 =>
  some s2))
theorem w199 {d : Nat} (hd : 2 ≤ d) (k0 : Bool) (a0 : TMsg) (k1 : Bool) (a1 : TMsg) : Fit (R NN d 199 [.agg (Enc.cs k0 a0), .agg (Enc.cs k1 a1)] []) (m199 a0 a1) (P0 (fun (t : Bool) => AV.bool t)) := by
  obtain ⟨d, rfl, g⟩ := up hd
  refine q_in (t199 NN d _ _) ?_
  unfold b199 m199
  refine q_box (n := 7) rfl rfl (by decide) fun b1 => q_box (n := 7) rfl rfl (by decide) fun b2 => q_cut (I := (fun (s : Bool) l L => l = [.bool s] ∧ L = [bx b2 [.int .i64 a1.Kind, .int .i64 a1.View, .int .i64 a1.From, .int .i64 a1.Slot, .int .i64 a1.Value, .rsl k1 false (a1.Certs.map (Enc.cs k1)), .rsl k1 false (a1.Refs.map (Enc.cs k1))], bx b1 [.int .i64 a0.Kind, .int .i64 a0.View, .int .i64 a0.From, .int .i64 a0.Slot, .int .i64 a0.Value, .rsl k0 false (a0.Certs.map (Enc.cs k0)), .rsl k0 false (a0.Refs.map (Enc.cs k0))]])) ?_ ?_ ?_ ?_
  ·refine q_p fr <| q_ld 1 rfl rfl <| q_p fr <| q_ld 0 rfl rfl <| q_p fr <| q_gT (fun h6 => ?_) (fun h6 => ?_)
   ·refine q_p fr <| q_ld 1 rfl rfl <| q_p fr <| q_ld 0 rfl rfl <| q_p fr <| q_gT (fun h5 => ?_) (fun h5 => ?_)
    ·refine q_p fr <| q_ld 1 rfl rfl <| q_p fr <| q_ld 0 rfl rfl <| q_p fr <| q_gT (fun h4 => ?_) (fun h4 => ?_)
     ·refine q_p fr <| q_ld 1 rfl rfl <| q_p fr <| q_ld 0 rfl rfl <| q_p fr <| q_gT (fun h3 => ?_) (fun h3 => ?_)
      ·refine q_p fr <| q_ld 1 rfl rfl <| q_p fr <| q_ld 0 rfl rfl <| q_p fr <| q_gT (fun h2 => ?_) (fun h2 => ?_)
       ·refine q_p fr <| q_ld 1 rfl rfl <| q_p fr <| q_ld 0 rfl rfl <| q_c0 (fun S hS => argF2 cv_r cv_r hS fun l0_ l1_ => w233 (by omega) l0_ a0.Certs l1_ a1.Certs) fun y1 hy1 => q_gT (fun h1 => ?_) (fun h1 => ?_)
        ·exact q_p fr <| q_ld 1 rfl rfl <| q_p fr <| q_ld 0 rfl rfl <| q_c0 (fun S hS => argF2 cv_r cv_r hS fun l0_ l1_ => w66 (by omega) l0_ a0.Refs l1_ a1.Refs) fun y2 hy2 => q_norm 0 ⟨rfl, rfl⟩
        ·exact q_norm 0 ⟨rfl, rfl⟩
       ·exact q_norm 0 ⟨rfl, rfl⟩
      ·exact q_norm 0 ⟨rfl, rfl⟩
     ·exact q_norm 0 ⟨rfl, rfl⟩
    ·exact q_norm 0 ⟨rfl, rfl⟩
   ·exact q_norm 0 ⟨rfl, rfl⟩
  ·rintro s2 _ _ ⟨rfl, rfl⟩
   exact q_ret (cv_p rfl) rfl
  ·rintro i1 s2 _ _ ⟨rfl, rfl⟩
   exact q_none
  ·rintro s2 _ _ ⟨rfl, rfl⟩
   exact q_ret (cv_p rfl) rfl
def m198 (a0 : TMsg) (a1 : TMsg) : Option (Bool) :=
 (m199 a0 a1).bind fun y1 =>
 some y1
theorem w198 {d : Nat} (hd : 3 ≤ d) (k0 : Bool) (a0 : TMsg) (k1 : Bool) (a1 : TMsg) : Fit (R NN d 198 [.agg (Enc.cs k0 a0), .rp k1 (Enc.cs k1 a1)] []) (m198 a0 a1) (P0 (fun (t : Bool) => AV.bool t)) := by
  obtain ⟨d, rfl, g⟩ := up hd
  refine q_in (t198 NN d _ _) ?_
  unfold b198 m198
  exact q_box (n := 7) rfl rfl (by decide) fun b1 => q_lda 0 rfl rfl rfl <| q_p fr <| q_c0 (fun S hS => argF2 (cv_a (cvs_e (l0 := k0) (x := a0))) (cv_a (cvs_e (l0 := k1) (x := a1))) hS fun l0_ l1_ => w199 (by omega) l0_ a0 l1_ a1) fun y1 hy1 => q_ret (cv_p rfl) rfl
def m128 (a0 : List TMsg) (a1 : TMsg) : Option (Int) :=
 (m154 a0 (fun x0_ => m198 x0_ a1)).bind fun y1 =>
 some y1
theorem w128 {d : Nat} (hd : 5 ≤ d) (k0 : Bool) (a0 : List TMsg) (k1 : Bool) (a1 : TMsg) : Fit (R NN d 128 [.rsl k0 false (a0.map (Enc.cs k0)), .agg (Enc.cs k1 a1)] []) (m128 a0 a1) (P0 (fun (t : Int) => AV.int .i64 t)) := by
  obtain ⟨d, rfl, g⟩ := up hd
  refine q_in (t128 NN d _ _) ?_
  unfold b128 m128
  exact q_box (n := 7) rfl rfl (by decide) fun b1 => q_c0 (fun S hS => argF2 cv_r (cv_f (cvs_cons (cv_b 0 rfl (cvs_e (l0 := k1) (x := a1))) cvs_nil)) hS fun l0_ l1_ => w154 (Dc := 3) (by omega) l0_ a0 (fun l => .fn 198 [.rp l (Enc.cs l a1)]) (fun l => cv_f (cvs_cons (cv_rp (cvs_e (x := a1)) (fun _ _ _ h => Enc.frz _ a1 _ _ _ h)) cvs_nil)) (fun x0_ => m198 x0_ a1) (fun d hd l q0_ x0_ S t ht => (cv154_198 _ _ _ _).trans (call0_of (E := (fun (t : Bool) => AV.bool t)) (mg := m198 x0_ a1) (args2 (M := fun a => Fit (R NN d 198 a []) _ _) (cv_a (cvs_e (l0 := q0_) (x := x0_))) (cv_rp (cvs_e (l0 := l) (x := a1)) (fun _ _ _ h => Enc.frz _ a1 _ _ _ h)) HP.nil fun u0_ v0_ => w198 hd u0_ x0_ v0_ a1) ht)) l1_) fun y1 hy1 => q_ret (cv_p rfl) rfl
def ms64_0 (a0 : Int) (a1 : List TMsg) (s1 : Int × Int) : Option (LO (Int × Int)) :=
 bif decide (s1.2 < (a1.length : Int)) then
  (getI a1 s1.2).bind fun x1 =>
  (m126 a0 x1).bind fun y1 =>
  bif y1 != 0 then
   some (LO.ret (y1, s1.2))
  else
   (m127 x1 s1.2).bind fun y2 =>
   bif !y2 then
    some (LO.ret (4, s1.2))
   else
    (subI a1 0 s1.2).bind fun ys1 =>
    (m128 ys1 x1).bind fun y3 =>
    bif decide (y3 ≥ 0) then
     some (LO.ret (6, s1.2))
    else
     some (LO.norm (s1.1, wi .i64 (s1.2 + 1)))
 else
  some (LO.exit 1 (s1.1, s1.2))
def m64 (a0 : Int) (a1 : List TMsg) : Option (Int) :=
 bif !(m125 a0) then
  some 3
 else
  bif decide ((a1.length : Int) > 240) then
   some 2
  else
   (loopO (ms64_0 a0 a1) NN (0, 0)).bind (contO (fun _ => none) (fun i1 s2 =>
    if i1 = 1 then
     some 0
    else
     none) (fun s2 =>
    some s2.1))
theorem w64 {d : Nat} (hd : 7 ≤ d) (a0 : Int) (k1 : Bool) (a1 : List TMsg) : Fit (R NN d 64 [.int .i64 a0, .rsl k1 false (a1.map (Enc.cs k1))] []) (m64 a0 a1) (P0 (fun (t : Int) => AV.int .i64 t)) := by
  obtain ⟨d, rfl, g⟩ := up hd
  refine q_in (t64 NN d _ _) ?_
  unfold b64 m64
  refine q_c0t (fun S hS => argF1 (cv_p rfl) hS fun l0_ => w125 (by omega) a0) <| q_p fr <| q_if (fun h6 => ?_) (fun h6 => ?_)
  ·exact q_ret (cv_p rfl) rfl
  ·refine q_len <| q_p fr <| q_if (fun h5 => ?_) (fun h5 => ?_)
   ·exact q_ret (cv_p rfl) rfl
   ·refine q_len <| q_loop (I := (fun (s : Int × Int) l L => l = [.int .i64 s.1, .int .i64 s.2] ∧ L = [])) 0 ⟨rfl, rfl⟩ ?_ ?_ ?_
    ·rintro s1 _ _ ⟨rfl, rfl⟩
     unfold s64_0 ms64_0
     refine q_p fr <| q_if (fun h4 => ?_) (fun h4 => ?_)
     ·refine q_ix rfl fun x1 hx1 => q_p fr <| q_new rfl fun b1 => q_st 0 rfl rfl rfl (by decide) rfl <| q_lda 0 rfl rfl rfl <| q_c0 (fun S hS => argF2 (cv_p rfl) (cv_a (cvs_e (l0 := k1) (x := x1))) hS fun l0_ l1_ => w126 (by omega) a0 l1_ x1) fun y1 hy1 => q_p fr <| q_if (fun h3 => ?_) (fun h3 => ?_)
      ·exact q_lret 1 ⟨rfl, rfl⟩
      ·refine q_lda 0 rfl rfl rfl <| q_c0 (fun S hS => argF2 (cv_a (cvs_e (l0 := k1) (x := x1))) (cv_p rfl) hS fun l0_ l1_ => w127 (by omega) l0_ x1 s1.2) fun y2 hy2 => q_p fr <| q_if (fun h2 => ?_) (fun h2 => ?_)
       ·exact q_lret 1 ⟨rfl, rfl⟩
       ·refine q_sub rfl (.inr ⟨rfl, rfl⟩) (.inl rfl) fun fl1 ys1 hys1 => q_lda 0 rfl rfl rfl <| q_c0 (fun S hS => argF2 cv_r (cv_a (cvs_e (l0 := k1) (x := x1))) hS fun l0_ l1_ => w128 (by omega) l0_ ys1 l1_ x1) fun y3 hy3 => q_p fr <| q_if (fun h1 => ?_) (fun h1 => ?_)
        ·exact q_lret 1 ⟨rfl, rfl⟩
        ·exact q_p fr <| q_norm 1 ⟨rfl, rfl⟩
     ·exact q_exit 0 ⟨rfl, rfl⟩
    ·rintro i1 s2 _ _ ⟨rfl, rfl⟩
     refine q_ite (fun _ => ?_) (fun _ => ?_)
     ·exact q_ret (cv_p rfl) rfl
     ·exact q_none
    ·rintro s2 _ _ ⟨rfl, rfl⟩
     exact q_ret (cv_p rfl) rfl
def ms65_0 (a0 : Int) (a1 : List Int) (s1 : Int × Int) : Option (LO (Int × Int)) :=
 bif decide (s1.2 < (a1.length : Int)) then
  (
   (getI a1 s1.2).bind fun x1 =>
   bif !(m129 a0 x1) then
    some (LO.ret 3)
   else
    bif decide (s1.2 > 0) then
     (getI a1 (wi .i64 (s1.2 - 1))).bind fun x2 =>
     bif decide (x1 ≤ x2) then
      some (LO.ret 1)
     else
      some (LO.norm s1.1)
    else
     some (LO.norm s1.1)).bind (contO (fun s3 =>
   some (LO.norm (s3, wi .i64 (s1.2 + 1)))) (fun i1 s3 =>
   some (LO.exit i1 (s3, s1.2))) (fun s3 =>
   some (LO.ret (s3, s1.2))))
 else
  some (LO.exit 0 (s1.1, s1.2))
def m65 (a0 : Int) (a1 : List Int) : Option (Int) :=
 (loopO (ms65_0 a0 a1) NN (0, 0)).bind (contO (fun _ => none) (fun i2 s4 =>
  if i2 = 0 then
   some 0
  else
   none) (fun s4 =>
  some s4.1))
theorem w65 {d : Nat} (hd : 3 ≤ d) (a0 : Int) (k1 : Bool) (a1 : List Int) : Fit (R NN d 65 [.int .i64 a0, .rsl k1 false (a1.map (Enc.cs k1))] []) (m65 a0 a1) (P0 (fun (t : Int) => AV.int .i64 t)) := by
  obtain ⟨d, rfl, g⟩ := up hd
  refine q_in (t65 NN d _ _) ?_
  unfold b65 m65
  refine q_len <| q_loop (I := (fun (s : Int × Int) l L => l = [.int .i64 s.1, .int .i64 s.2] ∧ L = [])) 0 ⟨rfl, rfl⟩ ?_ ?_ ?_
  ·rintro s1 _ _ ⟨rfl, rfl⟩
   unfold s65_0 ms65_0
   refine q_p fr <| q_if (fun h4 => ?_) (fun h4 => ?_)
   ·refine q_cut (I := (fun (s : Int) l L => l = [.int .i64 s] ∧ L = [])) ?_ ?_ ?_ ?_
    ·refine q_ix rfl fun x1 hx1 => q_p fr <| q_c0t (fun S hS => argF2 (cv_p rfl) (cv_p rfl) hS fun l0_ l1_ => w129 (by omega) a0 x1) <| q_p fr <| q_if (fun h3 => ?_) (fun h3 => ?_)
     ·exact q_lret 0 ⟨rfl, rfl⟩
     ·refine q_p fr <| q_gT (fun h2 => ?_) (fun h2 => ?_)
      ·refine q_p fr <| q_ix rfl fun x2 hx2 => q_p fr <| q_p fr <| q_if (fun h1 => ?_) (fun h1 => ?_)
       ·exact q_lret 0 ⟨rfl, rfl⟩
       ·exact q_norm 0 ⟨rfl, rfl⟩
      ·first | refine q_ifF1 ?_ | skip
       exact q_norm 0 ⟨rfl, rfl⟩
    ·rintro s3 _ _ ⟨rfl, rfl⟩
     exact q_p fr <| q_norm 0 ⟨rfl, rfl⟩
    ·rintro i1 s3 _ _ ⟨rfl, rfl⟩
     exact q_exit 0 ⟨rfl, rfl⟩
    ·rintro s3 _ _ ⟨rfl, rfl⟩
     exact q_lret 0 ⟨rfl, rfl⟩
   ·exact q_exit 0 ⟨rfl, rfl⟩
  ·rintro i2 s4 _ _ ⟨rfl, rfl⟩
   refine q_ite (fun _ => ?_) (fun _ => ?_)
   ·exact q_ret (cv_p rfl) rfl
   ·exact q_none
  ·rintro s4 _ _ ⟨rfl, rfl⟩
   exact q_ret (cv_p rfl) rfl
end
end Go.Proofs.YtgjplfeejfeioaaGreatDoor
