/- Plain functions, and that the evaluator computes them. -/
import Derived.Test.YtifocmbeahpopaaGreatDoorT
import Derived.Test.YtifocmbeahpopaaGreatDoorRh6
import Derived.Test.YtifocmbeahpopaaGreatDoorRh10
import Derived.Test.YtifocmbeahpopaaGreatDoorRh11
import Derived.Test.YtifocmbeahpopaaGreatDoorRh12
namespace Go.Proofs.YtifocmbeahpopaaGreatDoor
open Go Go.Rf
set_option linter.unusedVariables false
set_option linter.unusedSimpArgs false
noncomputable section
structure TReplica where
  Id:Int
  View:Int
  Start:Int
  Done:Int
  deriving DecidableEq
instance:Enc TReplica:=(Enc.of fun x:TReplica=>(x.Id,x.View,x.Start,x.Done)).copy (fun l x=>[.int .i64 x.Id,.int .i64 x.View,.int .i64 x.Start,.int .i64 x.Done]) (fun _ _=>rfl) 4 0 rfl rfl
structure TCert where
  Slot:Int
  View:Int
  Value:Int
  deriving DecidableEq
instance:Enc TCert:=(Enc.of fun x:TCert=>(x.Slot,x.View,x.Value)).copy (fun l x=>[.int .i64 x.Slot,.int .i64 x.View,.int .i64 x.Value]) (fun _ _=>rfl) 3 0 rfl rfl
structure TMsg where
  Kind:Int
  View:Int
  From:Int
  Slot:Int
  Value:Int
  Certs:List TCert
  Refs:List Int
  deriving DecidableEq
instance:Enc TMsg:=(Enc.of fun x:TMsg=>(x.Kind,x.View,x.From,x.Slot,x.Value,x.Certs,x.Refs)).copy (fun l x=>[.int .i64 x.Kind,.int .i64 x.View,.int .i64 x.From,.int .i64 x.Slot,.int .i64 x.Value,.rsl l false (x.Certs.map (Enc.cs l)),.rsl l false (x.Refs.map (Enc.cs l))]) (fun _ _=>rfl) 7 1 rfl rfl
structure TOp where
  Kind:Int
  Path:Str
  Data:Int
  Version:Int
  Seq:Bool
  Own:Bool
  deriving DecidableEq
instance:Enc TOp:=(Enc.of fun x:TOp=>(x.Kind,x.Path,x.Data,x.Version,x.Seq,x.Own)).copy (fun l x=>[.int .i64 x.Kind,encS x.Path,.int .i64 x.Data,.int .i64 x.Version,.bool x.Seq,.bool x.Own]) (fun _ _=>rfl) 6 0 rfl rfl
structure TRequest where
  Client:Int
  Number:Int
  Time:Int
  Ops:List TOp
  deriving DecidableEq
instance:Enc TRequest:=(Enc.of fun x:TRequest=>(x.Client,x.Number,x.Time,x.Ops)).copy (fun l x=>[.int .i64 x.Client,.int .i64 x.Number,.int .i64 x.Time,.rsl l false (x.Ops.map (Enc.cs l))]) (fun _ _=>rfl) 4 1 rfl rfl
structure TCluster where
  F:Int
  Bad:List Int
  Replicas:List TReplica
  Ledger:List TMsg
  Requests:List TRequest
  deriving DecidableEq
instance:Enc TCluster:=(Enc.of fun x:TCluster=>(x.F,x.Bad,x.Replicas,x.Ledger,x.Requests)).copy (fun l x=>[.int .i64 x.F,.rsl l false (x.Bad.map (Enc.cs l)),.rsl l false (x.Replicas.map (Enc.cs l)),.rsl l false (x.Ledger.map (Enc.cs l)),.rsl l false (x.Requests.map (Enc.cs l))]) (fun _ _=>rfl) 5 2 rfl rfl
structure TTextResult where
  Code:Int
  Text:Str
  deriving DecidableEq
instance:Enc TTextResult:=(Enc.of fun x:TTextResult=>(x.Code,x.Text)).copy (fun l x=>[.int .i64 x.Code,encS x.Text]) (fun _ _=>rfl) 2 0 rfl rfl
theorem bneq42 (x y:Bool):bin2 Tryz.prog .neq 4 (.bool x) (.bool y) = some (.bool (x != y)):=beq_neq2 (P:=Tryz.prog) (t:=4) (by kernel_rfl)
theorem bd168_0_1_2 {x0 x1 x2 r:AV} (hr:(afill (plc [(0,1),(1,1),(2,1)]) [.int .i64 0,.int .i64 0,.int .i64 0] [(0,x0),(1,x1),(2,x2)]).map AV.agg = some r):abuild Tryz.prog 168 [(0,x0),(1,x1),(2,x2)] = some r:=Eq.trans (by kernel_rfl) hr
theorem bd30_0 {x0 r:AV} (hr:(afill (plc [(0,1),(1,1)]) [.int .i64 0,.str ⟨#[]⟩] [(0,x0)]).map AV.agg = some r):abuild Tryz.prog 30 [(0,x0)] = some r:=Eq.trans (by kernel_rfl) hr
theorem bd30_1 {x1 r:AV} (hr:(afill (plc [(0,1),(1,1)]) [.int .i64 0,.str ⟨#[]⟩] [(1,x1)]).map AV.agg = some r):abuild Tryz.prog 30 [(1,x1)] = some r:=Eq.trans (by kernel_rfl) hr
theorem bd70 { r:AV} (hr:(afill (plc [(0,1),(1,1),(2,1),(3,1),(4,1),(5,1),(6,1)]) [.int .i64 0,.int .i64 0,.int .i64 0,.int .i64 0,.int .i64 0,.rsl false true [],.rsl false true []] []).map AV.agg = some r):abuild Tryz.prog 70 [] = some r:=Eq.trans (by kernel_rfl) hr
theorem bd70_0_1_2_3_4 {x0 x1 x2 x3 x4 r:AV} (hr:(afill (plc [(0,1),(1,1),(2,1),(3,1),(4,1),(5,1),(6,1)]) [.int .i64 0,.int .i64 0,.int .i64 0,.int .i64 0,.int .i64 0,.rsl false true [],.rsl false true []] [(0,x0),(1,x1),(2,x2),(3,x3),(4,x4)]).map AV.agg = some r):abuild Tryz.prog 70 [(0,x0),(1,x1),(2,x2),(3,x3),(4,x4)] = some r:=Eq.trans (by kernel_rfl) hr
theorem qb142 {n:Int} {S:St}:quietS (abuildS Tryz.prog 142 1 [(0,.int .u8 n)] S) S = some (.rsl false true [[.int .u8 n]],S):=by kernel_rfl
theorem qs114_0 {S:St}:quietS (abuildS Tryz.prog 114 0 [] S) S = some (.rsl false true [],S):=by kernel_rfl
theorem qs114_1 {x0:Str} {S:St}:quietS (abuildS Tryz.prog 114 1 [(0,encS x0)] S) S = some (.rsl false true [[encS x0]],S):=by kernel_rfl
theorem qs22_0 {S:St}:quietS (abuildS Tryz.prog 22 0 [] S) S = some (.rsl false true [],S):=by kernel_rfl
theorem bs22_1 {x0 r:AV} {S:St} (hr:(aparts 1 0 [(0,x0)]).map (fun es=>mkS 1 es S) = some (r,S)):abuildS Tryz.prog 22 1 [(0,x0)] S = some (r,S):=Eq.trans (by kernel_rfl) hr
theorem cv116_168 (run:FuncId→List AV→St→Option (AV×St)) (cap args:List AV) (S:St):callV (cfg NN) run 116 (.fn 168 cap) args S = call0 run 168 (args++cap) S:=by kernel_rfl
theorem cv119_120 (run:FuncId→List AV→St→Option (AV×St)) (cap args:List AV) (S:St):callV (cfg NN) run 119 (.fn 120 cap) args S = call0 run 120 (args++cap) S:=by kernel_rfl
theorem cv158_159 (run:FuncId→List AV→St→Option (AV×St)) (cap args:List AV) (S:St):callV (cfg NN) run 158 (.fn 159 cap) args S = call0 run 159 (args++cap) S:=by kernel_rfl
theorem cv172_118 (run:FuncId→List AV→St→Option (AV×St)) (cap args:List AV) (S:St):callV (cfg NN) run 172 (.fn 118 cap) args S = call0 run 118 (args++cap) S:=by kernel_rfl
theorem cv194_154 (run:FuncId→List AV→St→Option (AV×St)) (cap args:List AV) (S:St):callV (cfg NN) run 194 (.fn 154 cap) args S = call0 run 154 (args++cap) S:=by kernel_rfl
theorem cv194_200 (run:FuncId→List AV→St→Option (AV×St)) (cap args:List AV) (S:St):callV (cfg NN) run 194 (.fn 200 cap) args S = call0 run 200 (args++cap) S:=by kernel_rfl
theorem cv195_156 (run:FuncId→List AV→St→Option (AV×St)) (cap args:List AV) (S:St):callV (cfg NN) run 195 (.fn 156 cap) args S = call0 run 156 (args++cap) S:=by kernel_rfl
theorem cv195_157 (run:FuncId→List AV→St→Option (AV×St)) (cap args:List AV) (S:St):callV (cfg NN) run 195 (.fn 157 cap) args S = call0 run 157 (args++cap) S:=by kernel_rfl
theorem cvt2_5 (n:Int) (S:St):aconv Tryz.prog 2 5 (.int .i64 n) S = some (.int .u8 (wi .u8 n)):=by kernel_rfl
theorem cvt220_3 (n:Int) (S:St):aconv Tryz.prog 220 3 (.int .u64 n) S = some (.int .i64 (wi .i64 n)):=by kernel_rfl
theorem cvt225_5 (n:Int) (S:St):aconv Tryz.prog 225 5 (.int .u64 n) S = some (.int .u8 (wi .u8 n)):=by kernel_rfl
theorem cvt3_220 (n:Int) (S:St):aconv Tryz.prog 3 220 (.int .i64 n) S = some (.int .u64 (wi .u64 n)):=by kernel_rfl
theorem cvt3_255 (n:Int) (S:St):aconv Tryz.prog 3 255 (.int .i64 n) S = some (.int .u64 (wi .u64 n)):=by kernel_rfl
theorem cvt5_3 (n:Int) (S:St):aconv Tryz.prog 5 3 (.int .u8 n) S = some (.int .i64 (wi .i64 n)):=by kernel_rfl
theorem cvb142_9 (n:Int) (S:St):aconv Tryz.prog 142 9 (.rsl false true [[.int .u8 n]]) S = some (encS [UInt8.ofNat n.toNat]):=by kernel_rfl
theorem mk114 (S:St) (n:Nat) (h:(n + 1) * (16 + 1)≤70368744177664):amake Tryz.prog 114 (.int .i64 n) (.int .i64 n) S = some (.bsl S.length 0 n n true,S++[⟨1,List.replicate n [.str ⟨#[]⟩],true⟩]):=
  amake_ok (e:=9) (sz:=1) (by_:=16) (z:=[.str ⟨#[]⟩]) (z0:=[.str ⟨#[]⟩]) (by kernel_rfl) (by kernel_rfl) (by kernel_rfl) rfl rfl (by omega) rfl rfl h
theorem mk22 (S:St) (n:Nat) (h:(n + 1) * (8 + 1)≤70368744177664):amake Tryz.prog 22 (.int .i64 n) (.int .i64 n) S = some (.bsl S.length 0 n n true,S++[⟨1,List.replicate n [.int .i64 0],true⟩]):=
  amake_ok (e:=2) (sz:=1) (by_:=8) (z:=[.int .i64 0]) (z0:=[.int .i64 0]) (by kernel_rfl) (by kernel_rfl) (by kernel_rfl) rfl rfl (by omega) rfl rfl h
theorem mk32 (S:St) (n:Nat) (h:(n + 1) * (32 + 1)≤70368744177664):amake Tryz.prog 32 (.int .i64 n) (.int .i64 n) S = some (.bsl S.length 0 n n true,S++[⟨4,List.replicate n [.int .i64 0,.int .i64 0,.int .i64 0,.int .i64 0],true⟩]):=
  amake_ok (e:=75) (sz:=4) (by_:=32) (z:=[.int .i64 0,.int .i64 0,.int .i64 0,.int .i64 0]) (z0:=[.int .i64 0,.int .i64 0,.int .i64 0,.int .i64 0]) (by kernel_rfl) (by kernel_rfl) (by kernel_rfl) rfl rfl (by omega) rfl rfl h
theorem mk33 (S:St) (n:Nat) (h:(n + 1) * (88 + 1)≤70368744177664):amake Tryz.prog 33 (.int .i64 n) (.int .i64 n) S = some (.bsl S.length 0 n n true,S++[⟨7,List.replicate n [.int .i64 0,.int .i64 0,.int .i64 0,.int .i64 0,.int .i64 0,.rsl false false [],.rsl false false []],false⟩]):=
  amake_ok (e:=70) (sz:=7) (by_:=88) (z:=[.int .i64 0,.int .i64 0,.int .i64 0,.int .i64 0,.int .i64 0,.rsl false false [],.rsl false false []]) (z0:=[.int .i64 0,.int .i64 0,.int .i64 0,.int .i64 0,.int .i64 0,.rsl false true [],.rsl false true []]) (by kernel_rfl) (by kernel_rfl) (by kernel_rfl) rfl rfl (by omega) rfl rfl h
theorem mk34 (S:St) (n:Nat) (h:(n + 1) * (48 + 1)≤70368744177664):amake Tryz.prog 34 (.int .i64 n) (.int .i64 n) S = some (.bsl S.length 0 n n true,S++[⟨4,List.replicate n [.int .i64 0,.int .i64 0,.int .i64 0,.rsl false false []],false⟩]):=
  amake_ok (e:=98) (sz:=4) (by_:=48) (z:=[.int .i64 0,.int .i64 0,.int .i64 0,.rsl false false []]) (z0:=[.int .i64 0,.int .i64 0,.int .i64 0,.rsl false true []]) (by kernel_rfl) (by kernel_rfl) (by kernel_rfl) rfl rfl (by omega) rfl rfl h
theorem mk68 (S:St) (n:Nat) (h:(n + 1) * (24 + 1)≤70368744177664):amake Tryz.prog 68 (.int .i64 n) (.int .i64 n) S = some (.bsl S.length 0 n n true,S++[⟨3,List.replicate n [.int .i64 0,.int .i64 0,.int .i64 0],true⟩]):=
  amake_ok (e:=168) (sz:=3) (by_:=24) (z:=[.int .i64 0,.int .i64 0,.int .i64 0]) (z0:=[.int .i64 0,.int .i64 0,.int .i64 0]) (by kernel_rfl) (by kernel_rfl) (by kernel_rfl) rfl rfl (by omega) rfl rfl h
theorem mk96 (S:St) (n:Nat) (h:(n + 1) * (48 + 1)≤70368744177664):amake Tryz.prog 96 (.int .i64 n) (.int .i64 n) S = some (.bsl S.length 0 n n true,S++[⟨6,List.replicate n [.int .i64 0,.str ⟨#[]⟩,.int .i64 0,.int .i64 0,.bool false,.bool false],true⟩]):=
  amake_ok (e:=141) (sz:=6) (by_:=48) (z:=[.int .i64 0,.str ⟨#[]⟩,.int .i64 0,.int .i64 0,.bool false,.bool false]) (z0:=[.int .i64 0,.str ⟨#[]⟩,.int .i64 0,.int .i64 0,.bool false,.bool false]) (by kernel_rfl) (by kernel_rfl) (by kernel_rfl) rfl rfl (by omega) rfl rfl h
theorem sneq1682 (x0:Int) (x1:Int) (x2:Int) (y0:Int) (y1:Int) (y2:Int):bin2 Tryz.prog .neq 168 (.agg [.int .i64 x0,.int .i64 x1,.int .i64 x2]) (.agg [.int .i64 y0,.int .i64 y1,.int .i64 y2]) = some (.bool (!((x0 == y0) && ((x1 == y1) && ((x2 == y2) && true))))):=by kernel_rfl
def m17 (a0:List Int) (a1:Int):Int:=bif decide ((wi .i64 (a1 - (a0.length:Int))) < 0) then (-1) else wi .i64 (a1 - (a0.length:Int))
theorem w17 {d:Nat} (hd:1≤d) (k0:Bool) (a0:List Int) (a1:Int):Fit (R NN d 17 [.rsl k0 false (a0.map (Enc.cs k0)),.int .i64 a1] []) (some (m17 a0 a1)) PI:=by
  obtain ⟨d,rfl,g⟩:=up hd
  refine q_in (t17 NN d _ _) ?_
  unfold b17 m17
  exact q_len<|q_p fr<|q_p fr<|q_ift (fun h1=>q_ret (cv_p rfl) rfl) fun h1=>q_ret (cv_p rfl) rfl
def m18 (a0:List TReplica) (a1:Int):Int:=bif decide ((wi .i64 (a1 - (a0.length:Int))) < 0) then (-1) else wi .i64 (a1 - (a0.length:Int))
theorem w18 {d:Nat} (hd:1≤d) (k0:Bool) (a0:List TReplica) (a1:Int):Fit (R NN d 18 [.rsl k0 false (a0.map (Enc.cs k0)),.int .i64 a1] []) (some (m18 a0 a1)) PI:=by
  obtain ⟨d,rfl,g⟩:=up hd
  refine q_in (t18 NN d _ _) ?_
  unfold b18 m18
  exact q_len<|q_p fr<|q_p fr<|q_ift (fun h1=>q_ret (cv_p rfl) rfl) fun h1=>q_ret (cv_p rfl) rfl
def m90 (a0:List TCert) (a1:Int):Int:=bif decide ((wi .i64 (a1 - (a0.length:Int))) < 0) then (-1) else wi .i64 (a1 - (a0.length:Int))
theorem w90 {d:Nat} (hd:1≤d) (k0:Bool) (a0:List TCert) (a1:Int):Fit (R NN d 90 [.rsl k0 false (a0.map (Enc.cs k0)),.int .i64 a1] []) (some (m90 a0 a1)) PI:=by
  obtain ⟨d,rfl,g⟩:=up hd
  refine q_in (t90 NN d _ _) ?_
  unfold b90 m90
  exact q_len<|q_p fr<|q_p fr<|q_ift (fun h1=>q_ret (cv_p rfl) rfl) fun h1=>q_ret (cv_p rfl) rfl
def m44 (a0:TMsg) (a1:Int):Int:=bif decide ((m90 a0.Certs a1) < 0) then (-1) else bif decide ((m17 a0.Refs (m90 a0.Certs a1)) < 0) then (-1) else (m17 a0.Refs (m90 a0.Certs a1))
theorem w44 {d:Nat} (hd:2≤d) (k0:Bool) (a0:TMsg) (a1:Int):Fit (R NN d 44 [.agg (Enc.cs k0 a0),.int .i64 a1] []) (some (m44 a0 a1)) PI:=by
  obtain ⟨d,rfl,g⟩:=up hd
  refine q_in (t44 NN d _ _) ?_
  unfold b44 m44
  exact q_box (n:=7) rfl rfl (by decide) fun b1=>q_p fr<|q_ld 0 rfl rfl<|q_c0t (aF2 cv_r (cv_p rfl) fun l0_ l1_=>w90 (by omega) l0_ a0.Certs a1)<|q_p fr<|q_ift (fun h2=>q_ret (cv_p rfl) rfl) fun h2=>q_p fr<|q_ld 0 rfl rfl<|q_c0t (aF2 cv_r (cv_p rfl) fun l0_ l1_=>w17 (by omega) l0_ a0.Refs (m90 a0.Certs a1))<|q_p fr<|q_ift (fun h1=>q_ret (cv_p rfl) rfl) fun h1=>q_ret (cv_p rfl) rfl
def ms19_0 (a0:List TMsg) (s1:Int×Int×Int):Option (LO (Int×Int×Int)):=bif decide (s1.2.2 < (a0.length:Int)) then (getI a0 s1.2.2).bind fun x1=>bif decide ((m44 x1 s1.1) < 0) then some (LO.ret ((m44 x1 s1.1),(-1),s1.2.2)) else some (LO.norm ((m44 x1 s1.1),s1.2.1,wi .i64 (s1.2.2 + 1))) else some (LO.exit 0 (s1.1,s1.2.1,s1.2.2))
def m19 (a0:List TMsg) (a1:Int):Option (Int):=bif decide ((wi .i64 (a1 - (a0.length:Int))) < 0) then some (-1) else (loopO (ms19_0 a0) NN (wi .i64 (a1 - (a0.length:Int)),0,0)).bind (contO (fun _=>none) (fun i1 s2=>if i1 = 0 then some s2.1 else none) (fun s2=>some s2.2.1))
theorem w19 {d:Nat} (hd:3≤d) (k0:Bool) (a0:List TMsg) (a1:Int):Fit (R NN d 19 [.rsl k0 false (a0.map (Enc.cs k0)),.int .i64 a1] []) (m19 a0 a1) PI:=by
  obtain ⟨d,rfl,g⟩:=up hd
  refine q_in (t19 NN d _ _) ?_
  unfold b19 m19
  refine q_len<|q_p fr<|q_p fr<|q_i ?_ ?_
  ·exact q_ret (cv_p rfl) rfl
  ·refine q_lp (A:=fun (s:Int×Int×Int)=>[.int .i64 s.1,.int .i64 s.2.1,.int .i64 s.2.2]) (B:=fun s=>[]) 0 rr ?_ ?_ ?_
   ·intro s1
    unfold s19_0 ms19_0
    exact q_len<|q_p fr<|q_i (q_ix rfl fun x1 hx1=>q_p fr<|q_c0t (aF2 (cv_a (cvs_e (l0:=k0) (x:=x1))) (cv_p rfl) fun l0_ l1_=>w44 (by omega) l0_ x1 s1.1)<|q_p fr<|q_i (q_lret 0 rr)<|q_p fr<|q_norm 0 rr)<|q_exit 0 rr
   ·exact fun i1 s2=>q_n (q_ret (cv_p rfl) rfl)<|q_none
   ·exact fun s2=>q_ret (cv_p rfl) rfl
def m138 (a0:TOp) (a1:Int):Int:=bif decide ((wi .i64 (a1 - (a0.Path.length:Int))) < 0) then (-1) else wi .i64 (a1 - (a0.Path.length:Int))
theorem w138 {d:Nat} (hd:1≤d) (k0:Bool) (a0:TOp) (a1:Int):Fit (R NN d 138 [.agg (Enc.cs k0 a0),.int .i64 a1] []) (some (m138 a0 a1)) PI:=by
  obtain ⟨d,rfl,g⟩:=up hd
  refine q_in (t138 NN d _ _) ?_
  unfold b138 m138
  exact q_box (n:=6) rfl rfl (by decide) fun b1=>q_p fr<|q_ld 0 rfl rfl<|q_slen<|q_p fr<|q_p fr<|q_ift (fun h1=>q_ret (cv_p rfl) rfl) fun h1=>q_ret (cv_p rfl) rfl
def ms91_0 (a0:List TOp) (s1:Int×Int×Int):Option (LO (Int×Int×Int)):=bif decide (s1.2.2 < (a0.length:Int)) then (getI a0 s1.2.2).bind fun x1=>bif decide ((m138 x1 s1.1) < 0) then some (LO.ret ((m138 x1 s1.1),(-1),s1.2.2)) else some (LO.norm ((m138 x1 s1.1),s1.2.1,wi .i64 (s1.2.2 + 1))) else some (LO.exit 0 (s1.1,s1.2.1,s1.2.2))
def m91 (a0:List TOp) (a1:Int):Option (Int):=bif decide ((wi .i64 (a1 - (a0.length:Int))) < 0) then some (-1) else (loopO (ms91_0 a0) NN (wi .i64 (a1 - (a0.length:Int)),0,0)).bind (contO (fun _=>none) (fun i1 s2=>if i1 = 0 then some s2.1 else none) (fun s2=>some s2.2.1))
theorem w91 {d:Nat} (hd:2≤d) (k0:Bool) (a0:List TOp) (a1:Int):Fit (R NN d 91 [.rsl k0 false (a0.map (Enc.cs k0)),.int .i64 a1] []) (m91 a0 a1) PI:=by
  obtain ⟨d,rfl,g⟩:=up hd
  refine q_in (t91 NN d _ _) ?_
  unfold b91 m91
  refine q_len<|q_p fr<|q_p fr<|q_i ?_ ?_
  ·exact q_ret (cv_p rfl) rfl
  ·refine q_lp (A:=fun (s:Int×Int×Int)=>[.int .i64 s.1,.int .i64 s.2.1,.int .i64 s.2.2]) (B:=fun s=>[]) 0 rr ?_ ?_ ?_
   ·intro s1
    unfold s91_0 ms91_0
    exact q_len<|q_p fr<|q_i (q_ix rfl fun x1 hx1=>q_p fr<|q_c0t (aF2 (cv_a (cvs_e (l0:=k0) (x:=x1))) (cv_p rfl) fun l0_ l1_=>w138 (by omega) l0_ x1 s1.1)<|q_p fr<|q_i (q_lret 0 rr)<|q_p fr<|q_norm 0 rr)<|q_exit 0 rr
   ·exact fun i1 s2=>q_n (q_ret (cv_p rfl) rfl)<|q_none
   ·exact fun s2=>q_ret (cv_p rfl) rfl
def m45 (a0:TRequest) (a1:Int):Option (Int):=(m91 a0.Ops a1).bind fun y1=>bif decide (y1 < 0) then some (-1) else some y1
theorem w45 {d:Nat} (hd:3≤d) (k0:Bool) (a0:TRequest) (a1:Int):Fit (R NN d 45 [.agg (Enc.cs k0 a0),.int .i64 a1] []) (m45 a0 a1) PI:=by
  obtain ⟨d,rfl,g⟩:=up hd
  refine q_in (t45 NN d _ _) ?_
  unfold b45 m45
  exact q_box (n:=4) rfl rfl (by decide) fun b1=>q_p fr<|q_ld 0 rfl rfl<|q_c0 (aF2 cv_r (cv_p rfl) fun l0_ l1_=>w91 (by omega) l0_ a0.Ops a1) fun y1 hy1=>q_p fr<|q_i (q_ret (cv_p rfl) rfl)<|q_ret (cv_p rfl) rfl
def ms20_0 (a0:List TRequest) (s1:Int×Int×Int):Option (LO (Int×Int×Int)):=bif decide (s1.2.2 < (a0.length:Int)) then (getI a0 s1.2.2).bind fun x1=>(m45 x1 s1.1).bind fun y1=>bif decide (y1 < 0) then some (LO.ret (y1,(-1),s1.2.2)) else some (LO.norm (y1,s1.2.1,wi .i64 (s1.2.2 + 1))) else some (LO.exit 0 (s1.1,s1.2.1,s1.2.2))
def m20 (a0:List TRequest) (a1:Int):Option (Int):=bif decide ((wi .i64 (a1 - (a0.length:Int))) < 0) then some (-1) else (loopO (ms20_0 a0) NN (wi .i64 (a1 - (a0.length:Int)),0,0)).bind (contO (fun _=>none) (fun i1 s2=>if i1 = 0 then some s2.1 else none) (fun s2=>some s2.2.1))
theorem w20 {d:Nat} (hd:4≤d) (k0:Bool) (a0:List TRequest) (a1:Int):Fit (R NN d 20 [.rsl k0 false (a0.map (Enc.cs k0)),.int .i64 a1] []) (m20 a0 a1) PI:=by
  obtain ⟨d,rfl,g⟩:=up hd
  refine q_in (t20 NN d _ _) ?_
  unfold b20 m20
  refine q_len<|q_p fr<|q_p fr<|q_i ?_ ?_
  ·exact q_ret (cv_p rfl) rfl
  ·refine q_lp (A:=fun (s:Int×Int×Int)=>[.int .i64 s.1,.int .i64 s.2.1,.int .i64 s.2.2]) (B:=fun s=>[]) 0 rr ?_ ?_ ?_
   ·intro s1
    unfold s20_0 ms20_0
    exact q_len<|q_p fr<|q_i (q_ix rfl fun x1 hx1=>q_p fr<|q_c0 (aF2 (cv_a (cvs_e (l0:=k0) (x:=x1))) (cv_p rfl) fun l0_ l1_=>w45 (by omega) l0_ x1 s1.1) fun y1 hy1=>q_p fr<|q_i (q_lret 0 rr)<|q_p fr<|q_norm 0 rr)<|q_exit 0 rr
   ·exact fun i1 s2=>q_n (q_ret (cv_p rfl) rfl)<|q_none
   ·exact fun s2=>q_ret (cv_p rfl) rfl
def m5 (a0:TCluster) (a1:Int):Option (Int):=bif decide ((m17 a0.Bad a1) < 0) then some (-1) else bif decide ((m18 a0.Replicas (m17 a0.Bad a1)) < 0) then some (-1) else (m19 a0.Ledger (m18 a0.Replicas (m17 a0.Bad a1))).bind fun y1=>bif decide (y1 < 0) then some (-1) else (m20 a0.Requests y1).bind fun y2=>bif decide (y2 < 0) then some (-1) else some y2
theorem w5 {d:Nat} (hd:5≤d) (k0:Bool) (a0:TCluster) (a1:Int):Fit (R NN d 5 [.agg (Enc.cs k0 a0),.int .i64 a1] []) (m5 a0 a1) PI:=by
  obtain ⟨d,rfl,g⟩:=up hd
  refine q_in (t5 NN d _ _) ?_
  unfold b5 m5
  exact q_box (n:=5) rfl rfl (by decide) fun b1=>q_p fr<|q_ld 0 rfl rfl<|q_c0t (aF2 cv_r (cv_p rfl) fun l0_ l1_=>w17 (by omega) l0_ a0.Bad a1)<|q_p fr<|q_i (q_ret (cv_p rfl) rfl)<|q_p fr<|q_ld 0 rfl rfl<|q_c0t (aF2 cv_r (cv_p rfl) fun l0_ l1_=>w18 (by omega) l0_ a0.Replicas (m17 a0.Bad a1))<|q_p fr<|q_i (q_ret (cv_p rfl) rfl)<|q_p fr<|q_ld 0 rfl rfl<|q_c0 (aF2 cv_r (cv_p rfl) fun l0_ l1_=>w19 (by omega) l0_ a0.Ledger (m18 a0.Replicas (m17 a0.Bad a1))) fun y1 hy1=>q_p fr<|q_i (q_ret (cv_p rfl) rfl)<|q_p fr<|q_ld 0 rfl rfl<|q_c0 (aF2 cv_r (cv_p rfl) fun l0_ l1_=>w20 (by omega) l0_ a0.Requests y1) fun y2 hy2=>q_p fr<|q_i (q_ret (cv_p rfl) rfl)<|q_ret (cv_p rfl) rfl
def m74 (a0:Int) (a1:Int) (a2:Int):Bool:=bif decide (a0 ≥ a1) then decide (a0≤a2) else false
theorem w74 {d:Nat} (hd:1≤d) (a0:Int) (a1:Int) (a2:Int):Fit (R NN d 74 [.int .i64 a0,.int .i64 a1,.int .i64 a2] []) (some (m74 a0 a1 a2)) PB:=by
  obtain ⟨d,rfl,g⟩:=up hd
  refine q_in (t74 NN d _ _ _) ?_
  unfold b74 m74
  exact q_p fr<|q_gTt (fun h1=>q_p fr<|q_ret (cv_p rfl) rfl) fun h1=>q_ret (cv_p rfl) rfl
def m92 (a0:Int):Bool:=(m74 a0 1 2)
theorem w92 {d:Nat} (hd:2≤d) (a0:Int):Fit (R NN d 92 [.int .i64 a0] []) (some (m92 a0)) PB:=by
  obtain ⟨d,rfl,g⟩:=up hd
  refine q_in (t92 NN d _) ?_
  unfold b92 m92
  exact q_c0t (aF3 (cv_p rfl) (cv_p rfl) (cv_p rfl) fun l0_ l1_ l2_=>w74 (by omega) a0 1 2)<|q_ret (cv_p rfl) rfl
def ms178_0 (a0:TMsg) (a1:TMsg) (s5:Bool×Int):Option (LO (Bool×Int)):=bif decide (s5.2 < (a0.Certs.length:Int)) then (getI a0.Certs s5.2).bind fun x1=>(getI a1.Certs s5.2).bind fun x2=>bif !(((x1.Slot == x2.Slot) && ((x1.View == x2.View) && ((x1.Value == x2.Value) && true)))) then some (LO.ret (false,s5.2)) else some (LO.norm (s5.1,wi .i64 (s5.2 + 1))) else some (LO.exit 0 (s5.1,s5.2))
def ms178_1 (a0:TMsg) (a1:TMsg) (s7:Bool×Int):Option (LO (Bool×Int)):=bif decide (s7.2 < (a0.Refs.length:Int)) then (getI a0.Refs s7.2).bind fun x3=>(getI a1.Refs s7.2).bind fun x4=>bif x3 != x4 then some (LO.ret (false,s7.2)) else some (LO.norm (s7.1,wi .i64 (s7.2 + 1))) else some (LO.exit 2 (s7.1,s7.2))
def m178 (a0:TMsg) (a1:TMsg):Option (Bool):=( ( bif a0.Kind != a1.Kind then some (LO.norm true) else bif a0.View != a1.View then some (LO.norm true) else bif a0.From != a1.From then some (LO.norm true) else bif a0.Slot != a1.Slot then some (LO.norm true) else bif a0.Value != a1.Value then some (LO.norm true) else bif (a0.Certs.length:Int) != (a1.Certs.length:Int) then some (LO.norm true) else some (LO.norm ((a0.Refs.length:Int) != (a1.Refs.length:Int)))).bind (contO (fun s3=>bif s3 then some (LO.ret false) else some (LO.norm false)) (fun i1 s3=>some (LO.exit i1 false)) (fun s3=>some (LO.ret false)))).bind (contO (fun s4=>(loopO (ms178_0 a0 a1) NN (s4,0)).bind (contO (fun _=>none) (fun i3 s6=>if i3 = 0 then (loopO (ms178_1 a0 a1) NN (s6.1,0)).bind (contO (fun _=>none) (fun i4 s8=>if i4 = 2 then some true else none) (fun s8=>some s8.1)) else none) (fun s6=>some s6.1))) (fun i2 s4=>none) (fun s4=>some s4))
theorem w178 {d:Nat} (hd:1≤d) (k0:Bool) (a0:TMsg) (k1:Bool) (a1:TMsg):Fit (R NN d 178 [.rp k0 (Enc.cs k0 a0),.rp k1 (Enc.cs k1 a1)] []) (m178 a0 a1) PB:=by
  obtain ⟨d,rfl,g⟩:=up hd
  refine q_in (t178 NN d _ _) ?_
  unfold b178 m178
  refine q_cu (A:=fun (s:Bool)=>[.bool s]) (B:=fun s=>[]) ?_ ?_ ?_ ?_
  ·refine q_cu (A:=fun (s:Bool)=>[.bool s]) (B:=fun s=>[]) ?_ ?_ ?_ ?_
   ·exact q_q fr<|q_p fr<|q_p fr<|q_q fr<|q_p fr<|q_p fr<|q_p fr<|q_j (q_norm 0 rr)<|q_q fr<|q_p fr<|q_p fr<|q_q fr<|q_p fr<|q_p fr<|q_p fr<|q_j (q_norm 0 rr)<|q_q fr<|q_p fr<|q_p fr<|q_q fr<|q_p fr<|q_p fr<|q_p fr<|q_j (q_norm 0 rr)<|q_q fr<|q_p fr<|q_p fr<|q_q fr<|q_p fr<|q_p fr<|q_p fr<|q_j (q_norm 0 rr)<|q_q fr<|q_p fr<|q_p fr<|q_q fr<|q_p fr<|q_p fr<|q_p fr<|q_j (q_norm 0 rr)<|q_q fr<|q_p fr<|q_p fr<|q_len<|q_q fr<|q_p fr<|q_p fr<|q_len<|q_p fr<|q_j (q_norm 0 rr)<|q_q fr<|q_p fr<|q_p fr<|q_len<|q_q fr<|q_p fr<|q_p fr<|q_len<|q_p fr<|q_norm 0 rr
   ·exact fun s3=>q_i (q_lret 0 rr)<|q_norm 0 rr
   ·exact fun i1 s3=>q_exit 0 rr
   ·exact fun s3=>q_lret 0 rr
  ·intro s4
   refine q_lp (A:=fun (s:Bool×Int)=>[.bool s.1,.int .i64 s.2]) (B:=fun s=>[]) 0 rr ?_ ?_ ?_
   ·intro s5
    unfold s178_0 ms178_0
    exact q_q fr<|q_p fr<|q_p fr<|q_len<|q_p fr<|q_i (q_q fr<|q_p fr<|q_p fr<|q_ix rfl fun x1 hx1=>q_p fr<|q_q fr<|q_p fr<|q_p fr<|q_ix rfl fun x2 hx2=>q_p fr<|q_p (fun _=>sneq1682 _ _ _ _ _ _)<|q_i (q_lret 0 rr)<|q_p fr<|q_norm 0 rr)<|q_exit 0 rr
   ·intro i3 s6
    refine q_n ?_ ?_
    ·refine q_lp (A:=fun (s:Bool×Int)=>[.bool s.1,.int .i64 s.2]) (B:=fun s=>[]) 0 rr ?_ ?_ ?_
     ·intro s7
      unfold s178_1 ms178_1
      exact q_q fr<|q_p fr<|q_p fr<|q_len<|q_p fr<|q_i (q_q fr<|q_p fr<|q_p fr<|q_ix rfl fun x3 hx3=>q_p fr<|q_q fr<|q_p fr<|q_p fr<|q_ix rfl fun x4 hx4=>q_p fr<|q_p fr<|q_i (q_lret 0 rr)<|q_p fr<|q_norm 0 rr)<|q_exit 0 rr
     ·exact fun i4 s8=>q_n (q_ret (cv_p rfl) rfl)<|q_none
     ·exact fun s8=>q_ret (cv_p rfl) rfl
    ·exact q_none
   ·exact fun s6=>q_ret (cv_p rfl) rfl
  ·exact fun i2 s4=>q_none
  ·exact fun s4=>q_ret (cv_p rfl) rfl
def ms129_0 (a0:List TMsg) (a1:TMsg) (s1:Int×Int):Option (LO (Int×Int)):=bif decide (s1.2 < (a0.length:Int)) then (getI a0 s1.2).bind fun x1=>(m178 x1 a1).bind fun y1=>bif y1 then some (LO.ret (s1.2,s1.2)) else some (LO.norm (s1.1,wi .i64 (s1.2 + 1))) else some (LO.exit 0 (s1.1,s1.2))
def m129 (a0:List TMsg) (a1:TMsg):Option (Int):=(loopO (ms129_0 a0 a1) NN (0,0)).bind (contO (fun _=>none) (fun i1 s2=>if i1 = 0 then some (-1) else none) (fun s2=>some s2.1))
theorem w129 {d:Nat} (hd:2≤d) (k0:Bool) (a0:List TMsg) (k1:Bool) (a1:TMsg):Fit (R NN d 129 [.rsl k0 false (a0.map (Enc.cs k0)),.rp k1 (Enc.cs k1 a1)] []) (m129 a0 a1) PI:=by
  obtain ⟨d,rfl,g⟩:=up hd
  refine q_in (t129 NN d _ _) ?_
  unfold b129 m129
  refine q_lp (A:=fun (s:Int×Int)=>[.int .i64 s.1,.int .i64 s.2]) (B:=fun s=>[]) 0 rr ?_ ?_ ?_
  ·intro s1
   unfold s129_0 ms129_0
   exact q_len<|q_p fr<|q_i (q_ix rfl fun x1 hx1=>q_c0 (aF2 (cv_rp (cvs_e (l0:=k0) (x:=x1)) (fun _ _ _ h=>Enc.frz k0 x1 _ _ _ h)) (cv_rp (cvs_e (l0:=k1) (x:=a1)) (fun _ _ _ h=>Enc.frz k1 a1 _ _ _ h)) fun l0_ l1_=>w178 (by omega) l0_ x1 l1_ a1) fun y1 hy1=>q_i (q_lret 0 rr)<|q_p fr<|q_norm 0 rr)<|q_exit 0 rr
  ·exact fun i1 s2=>q_n (q_ret (cv_p rfl) rfl)<|q_none
  ·exact fun s2=>q_ret (cv_p rfl) rfl
def m94 (a0:Int) (a1:Int):Bool:=(m74 a1 1 (wi .i64 ((wi .i64 (3 * a0)) + 1)))
theorem w94 {d:Nat} (hd:2≤d) (a0:Int) (a1:Int):Fit (R NN d 94 [.int .i64 a0,.int .i64 a1] []) (some (m94 a0 a1)) PB:=by
  obtain ⟨d,rfl,g⟩:=up hd
  refine q_in (t94 NN d _ _) ?_
  unfold b94 m94
  exact q_p fr<|q_p fr<|q_c0t (aF3 (cv_p rfl) (cv_p rfl) (cv_p rfl) fun l0_ l1_ l2_=>w74 (by omega) a1 1 (wi .i64 ((wi .i64 (3 * a0)) + 1)))<|q_ret (cv_p rfl) rfl
def m187 (a0:TMsg):Option (Bool):=( bif (m74 a0.Kind 1 5) then bif (m74 a0.Kind 1 3) then bif a0.Kind == 4 then bif a0.Kind == 5 then some (LO.norm true) else some (LO.norm ((a0.Refs.length:Int) == 0)) else bif (a0.Certs.length:Int) == 0 then bif a0.Kind == 5 then some (LO.norm true) else some (LO.norm ((a0.Refs.length:Int) == 0)) else some (LO.norm false) else bif a0.Slot == 0 then bif a0.Value == 0 then bif a0.Kind == 4 then bif a0.Kind == 5 then some (LO.norm true) else some (LO.norm ((a0.Refs.length:Int) == 0)) else bif (a0.Certs.length:Int) == 0 then bif a0.Kind == 5 then some (LO.norm true) else some (LO.norm ((a0.Refs.length:Int) == 0)) else some (LO.norm false) else some (LO.norm false) else some (LO.norm false) else some (LO.norm false)).bind (contO (fun s2=>some s2) (fun i1 s2=>none) (fun s2=>some s2))
theorem w187 {d:Nat} (hd:2≤d) (k0:Bool) (a0:TMsg):Fit (R NN d 187 [.rp k0 (Enc.cs k0 a0)] []) (m187 a0) PB:=by
  obtain ⟨d,rfl,g⟩:=up hd
  refine q_in (t187 NN d _) ?_
  unfold b187 m187
  refine q_q fr<|q_p fr<|q_p fr<|q_c0t (aF3 (cv_p rfl) (cv_p rfl) (cv_p rfl) fun l0_ l1_ l2_=>w74 (by omega) a0.Kind 1 3)<|q_cu (A:=fun (s:Bool)=>[.bool s]) (B:=fun s=>[]) ?_ ?_ ?_ ?_
  ·exact q_q fr<|q_p fr<|q_p fr<|q_c0t (aF3 (cv_p rfl) (cv_p rfl) (cv_p rfl) fun l0_ l1_ l2_=>w74 (by omega) a0.Kind 1 5)<|q_k (q_j (q_q fr<|q_p fr<|q_p fr<|q_p fr<|q_j (q_q fr<|q_p fr<|q_p fr<|q_p fr<|q_j (q_norm 0 rr)<|q_q fr<|q_p fr<|q_p fr<|q_len<|q_p fr<|q_norm 0 rr)<|q_q fr<|q_p fr<|q_p fr<|q_len<|q_p fr<|q_k (q_q fr<|q_p fr<|q_p fr<|q_p fr<|q_j (q_norm 0 rr)<|q_q fr<|q_p fr<|q_p fr<|q_len<|q_p fr<|q_norm 0 rr)<|q_norm 0 rr)<|q_q fr<|q_p fr<|q_p fr<|q_p fr<|q_k (q_q fr<|q_p fr<|q_p fr<|q_p fr<|q_k (q_q fr<|q_p fr<|q_p fr<|q_p fr<|q_j (q_q fr<|q_p fr<|q_p fr<|q_p fr<|q_j (q_norm 0 rr)<|q_q fr<|q_p fr<|q_p fr<|q_len<|q_p fr<|q_norm 0 rr)<|q_q fr<|q_p fr<|q_p fr<|q_len<|q_p fr<|q_k (q_q fr<|q_p fr<|q_p fr<|q_p fr<|q_j (q_norm 0 rr)<|q_q fr<|q_p fr<|q_p fr<|q_len<|q_p fr<|q_norm 0 rr)<|q_norm 0 rr)<|q_norm 0 rr)<|q_norm 0 rr)<|q_norm 0 rr
  ·exact fun s2=>q_ret (cv_p rfl) rfl
  ·exact fun i1 s2=>q_none
  ·exact fun s2=>q_ret (cv_p rfl) rfl
def ms188_0 (a0:TMsg) (s1:Int×Int):Option (LO (Int×Int)):=bif decide (s1.2 < (a0.Certs.length:Int)) then (getI a0.Certs s1.2).bind fun x1=>(getI a0.Certs (wi .i64 (s1.2 - 1))).bind fun x2=>bif decide (x1.Slot≤x2.Slot) then some (LO.ret (1,s1.2)) else some (LO.norm (s1.1,wi .i64 (s1.2 + 1))) else some (LO.exit 0 (s1.1,s1.2))
def ms188_1 (a0:TMsg) (s3:Int×Int):Option (LO (Int×Int)):=bif decide (s3.2 < (a0.Refs.length:Int)) then (getI a0.Refs s3.2).bind fun x3=>(getI a0.Refs (wi .i64 (s3.2 - 1))).bind fun x4=>bif decide (x3≤x4) then some (LO.ret (1,s3.2)) else some (LO.norm (s3.1,wi .i64 (s3.2 + 1))) else some (LO.exit 2 (s3.1,s3.2))
def ms188_2 (a0:TMsg) (s5:Int×Int):Option (LO (Int×Int)):=bif decide (s5.2 < (a0.Certs.length:Int)) then ( (getI a0.Certs s5.2).bind fun x5=>( bif !(m74 x5.Slot 1 30) then some (LO.norm true) else bif !(m74 x5.View 0 (wi .i64 (a0.View - 1))) then some (LO.norm true) else some (LO.norm (!(m74 x5.Value 0 12)))).bind (contO (fun s8=>bif s8 then some (LO.ret 3) else some (LO.norm s5.1)) (fun i3 s8=>if i3 = 5 then some (LO.norm s5.1) else some (LO.exit i3 s5.1)) (fun s8=>some (LO.ret s5.1)))).bind (contO (fun s9=>some (LO.norm (s9,wi .i64 (s5.2 + 1)))) (fun i4 s9=>some (LO.exit i4 (s9,s5.2))) (fun s9=>some (LO.ret (s9,s5.2)))) else some (LO.exit 4 (s5.1,s5.2))
def ms188_3 (a0:TMsg) (s11:Int×Int):Option (LO (Int×Int)):=bif decide (s11.2 < (a0.Refs.length:Int)) then (getI a0.Refs s11.2).bind fun x6=>bif !(m74 x6 0 239) then some (LO.ret (3,s11.2)) else some (LO.norm (s11.1,wi .i64 (s11.2 + 1))) else some (LO.exit 6 (s11.1,s11.2))
def m188 (a0:TMsg):Option (Int):=(loopO (ms188_0 a0) NN (0,1)).bind (contO (fun _=>none) (fun i1 s2=>if i1 = 0 then (loopO (ms188_1 a0) NN (s2.1,1)).bind (contO (fun _=>none) (fun i2 s4=>if i2 = 2 then (loopO (ms188_2 a0) NN (s4.1,0)).bind (contO (fun _=>none) (fun i5 s10=>if i5 = 4 then (loopO (ms188_3 a0) NN (s10.1,0)).bind (contO (fun _=>none) (fun i6 s12=>if i6 = 6 then some 0 else none) (fun s12=>some s12.1)) else none) (fun s10=>some s10.1)) else none) (fun s4=>some s4.1)) else none) (fun s2=>some s2.1))
theorem w188 {d:Nat} (hd:2≤d) (k0:Bool) (a0:TMsg):Fit (R NN d 188 [.rp k0 (Enc.cs k0 a0)] []) (m188 a0) PI:=by
  obtain ⟨d,rfl,g⟩:=up hd
  refine q_in (t188 NN d _) ?_
  unfold b188 m188
  refine q_lp (A:=fun (s:Int×Int)=>[.int .i64 s.1,.int .i64 s.2]) (B:=fun s=>[]) 0 rr ?_ ?_ ?_
  ·intro s1
   unfold s188_0 ms188_0
   exact q_q fr<|q_p fr<|q_p fr<|q_len<|q_p fr<|q_i (q_q fr<|q_p fr<|q_p fr<|q_ix rfl fun x1 hx1=>q_p fr<|q_p fr<|q_q fr<|q_p fr<|q_p fr<|q_p fr<|q_ix rfl fun x2 hx2=>q_p fr<|q_p fr<|q_p fr<|q_i (q_lret 0 rr)<|q_p fr<|q_norm 0 rr)<|q_exit 0 rr
  ·intro i1 s2
   refine q_n ?_ ?_
   ·refine q_lp (A:=fun (s:Int×Int)=>[.int .i64 s.1,.int .i64 s.2]) (B:=fun s=>[]) 0 rr ?_ ?_ ?_
    ·intro s3
     unfold s188_1 ms188_1
     exact q_q fr<|q_p fr<|q_p fr<|q_len<|q_p fr<|q_i (q_q fr<|q_p fr<|q_p fr<|q_ix rfl fun x3 hx3=>q_p fr<|q_q fr<|q_p fr<|q_p fr<|q_p fr<|q_ix rfl fun x4 hx4=>q_p fr<|q_p fr<|q_i (q_lret 0 rr)<|q_p fr<|q_norm 0 rr)<|q_exit 0 rr
    ·intro i2 s4
     refine q_n ?_ ?_
     ·refine q_lp (A:=fun (s:Int×Int)=>[.int .i64 s.1,.int .i64 s.2]) (B:=fun s=>[]) 0 rr ?_ ?_ ?_
      ·intro s5
       unfold s188_2 ms188_2
       refine q_q fr<|q_p fr<|q_p fr<|q_len<|q_p fr<|q_i ?_ ?_
       ·refine q_cu (A:=fun (s:Int)=>[.int .i64 s]) (B:=fun s=>[]) ?_ ?_ ?_ ?_
        ·refine q_q fr<|q_p fr<|q_p fr<|q_ix rfl fun x5 hx5=>q_p fr<|q_new rfl fun b1=>q_st 0 rfl rfl rfl (by decide) rfl<|q_cu (A:=fun (s:Bool)=>[.bool s]) (B:=fun s=>[bx b1 [.int .i64 x5.Slot,.int .i64 x5.View,.int .i64 x5.Value]]) ?_ ?_ ?_ ?_
         ·exact q_p fr<|q_ld 0 rfl rfl<|q_c0t (aF3 (cv_p rfl) (cv_p rfl) (cv_p rfl) fun l0_ l1_ l2_=>w74 (by omega) x5.Slot 1 30)<|q_p fr<|q_j (q_norm 0 rr)<|q_p fr<|q_ld 0 rfl rfl<|q_q fr<|q_p fr<|q_p fr<|q_p fr<|q_c0t (aF3 (cv_p rfl) (cv_p rfl) (cv_p rfl) fun l0_ l1_ l2_=>w74 (by omega) x5.View 0 (wi .i64 (a0.View - 1)))<|q_p fr<|q_j (q_norm 0 rr)<|q_p fr<|q_ld 0 rfl rfl<|q_c0t (aF3 (cv_p rfl) (cv_p rfl) (cv_p rfl) fun l0_ l1_ l2_=>w74 (by omega) x5.Value 0 12)<|q_p fr<|q_norm 0 rr
         ·exact fun s8=>q_i (q_lret 1 rr)<|q_norm 1 rr
         ·exact fun i3 s8=>q_n (q_norm 1 rr)<|q_exit 1 rr
         ·exact fun s8=>q_lret 1 rr
        ·exact fun s9=>q_p fr<|q_norm 0 rr
        ·exact fun i4 s9=>q_exit 0 rr
        ·exact fun s9=>q_lret 0 rr
       ·exact q_exit 0 rr
      ·intro i5 s10
       refine q_n ?_ ?_
       ·refine q_lp (A:=fun (s:Int×Int)=>[.int .i64 s.1,.int .i64 s.2]) (B:=fun s=>[]) 0 rr ?_ ?_ ?_
        ·intro s11
         unfold s188_3 ms188_3
         exact q_q fr<|q_p fr<|q_p fr<|q_len<|q_p fr<|q_i (q_q fr<|q_p fr<|q_p fr<|q_ix rfl fun x6 hx6=>q_p fr<|q_c0t (aF3 (cv_p rfl) (cv_p rfl) (cv_p rfl) fun l0_ l1_ l2_=>w74 (by omega) x6 0 239)<|q_p fr<|q_i (q_lret 0 rr)<|q_p fr<|q_norm 0 rr)<|q_exit 0 rr
        ·exact fun i6 s12=>q_n (q_ret (cv_p rfl) rfl)<|q_none
        ·exact fun s12=>q_ret (cv_p rfl) rfl
       ·exact q_none
      ·exact fun s10=>q_ret (cv_p rfl) rfl
     ·exact q_none
    ·exact fun s4=>q_ret (cv_p rfl) rfl
   ·exact q_none
  ·exact fun s2=>q_ret (cv_p rfl) rfl
def m139 (a0:Int) (a1:TMsg):Option (Int):=(m187 a1).bind fun y1=>bif !y1 then some 1 else ( ( bif !(m74 a1.View 0 20) then some (LO.norm true) else bif !(m94 a0 a1.From) then some (LO.norm true) else bif decide (a1.Kind≤3) then bif !(m74 a1.Slot 1 30) then some (LO.norm true) else some (LO.norm (!(m74 a1.Value 0 12))) else some (LO.norm false)).bind (contO (fun s3=>bif s3 then some (LO.ret 3) else some (LO.norm 0)) (fun i1 s3=>some (LO.exit i1 0)) (fun s3=>some (LO.ret 0)))).bind (contO (fun s4=>( bif decide ((a1.Certs.length:Int) > 30) then some (LO.ret 2) else bif decide ((a1.Refs.length:Int) > (wi .i64 ((wi .i64 (3 * a0)) + 1))) then some (LO.ret 2) else some (LO.norm s4)).bind (contO (fun s6=>(m188 a1).bind fun y2=>some y2) (fun i3 s6=>none) (fun s6=>some s6))) (fun i2 s4=>none) (fun s4=>some s4))
theorem w139 {d:Nat} (hd:3≤d) (a0:Int) (k1:Bool) (a1:TMsg):Fit (R NN d 139 [.int .i64 a0,.rp k1 (Enc.cs k1 a1)] []) (m139 a0 a1) PI:=by
  obtain ⟨d,rfl,g⟩:=up hd
  refine q_in (t139 NN d _ _) ?_
  unfold b139 m139
  refine q_c0 (aF1 (cv_rp (cvs_e (l0:=k1) (x:=a1)) (fun _ _ _ h=>Enc.frz k1 a1 _ _ _ h)) fun l0_=>w187 (by omega) l0_ a1) fun y1 hy1=>q_p fr<|q_i ?_ ?_
  ·exact q_ret (cv_p rfl) rfl
  ·refine q_q fr<|q_p fr<|q_p fr<|q_p fr<|q_cu (A:=fun (s:Int)=>[.int .i64 s]) (B:=fun s=>[]) ?_ ?_ ?_ ?_
   ·refine q_cu (A:=fun (s:Bool)=>[.bool s]) (B:=fun s=>[]) ?_ ?_ ?_ ?_
    ·exact q_q fr<|q_p fr<|q_p fr<|q_c0t (aF3 (cv_p rfl) (cv_p rfl) (cv_p rfl) fun l0_ l1_ l2_=>w74 (by omega) a1.View 0 20)<|q_p fr<|q_j (q_norm 0 rr)<|q_q fr<|q_p fr<|q_p fr<|q_c0t (aF2 (cv_p rfl) (cv_p rfl) fun l0_ l1_=>w94 (by omega) a0 a1.From)<|q_p fr<|q_j (q_norm 0 rr)<|q_k (q_q fr<|q_p fr<|q_p fr<|q_c0t (aF3 (cv_p rfl) (cv_p rfl) (cv_p rfl) fun l0_ l1_ l2_=>w74 (by omega) a1.Slot 1 30)<|q_p fr<|q_j (q_norm 0 rr)<|q_q fr<|q_p fr<|q_p fr<|q_c0t (aF3 (cv_p rfl) (cv_p rfl) (cv_p rfl) fun l0_ l1_ l2_=>w74 (by omega) a1.Value 0 12)<|q_p fr<|q_norm 0 rr)<|q_norm 0 rr
    ·exact fun s3=>q_i (q_lret 0 rr)<|q_norm 0 rr
    ·exact fun i1 s3=>q_exit 0 rr
    ·exact fun s3=>q_lret 0 rr
   ·intro s4
    refine q_cu (A:=fun (s:Int)=>[.int .i64 s]) (B:=fun s=>[]) ?_ ?_ ?_ ?_
    ·refine q_q fr<|q_p fr<|q_p fr<|q_len<|q_p fr<|q_j ?_ ?_
     ·first | refine q_ifT1 ?_ | skip
      exact q_lret 0 rr
     ·exact q_q fr<|q_p fr<|q_p fr<|q_len<|q_p fr<|q_p fr<|q_p fr<|q_i (q_lret 0 rr)<|q_norm 0 rr
    ·exact fun s6=>q_c0 (aF1 (cv_rp (cvs_e (l0:=k1) (x:=a1)) (fun _ _ _ h=>Enc.frz k1 a1 _ _ _ h)) fun l0_=>w188 (by omega) l0_ a1) fun y2 hy2=>q_ret (cv_p rfl) rfl
    ·exact fun i3 s6=>q_none
    ·exact fun s6=>q_ret (cv_p rfl) rfl
   ·exact fun i2 s4=>q_none
   ·exact fun s4=>q_ret (cv_p rfl) rfl
def ms140_0 (a0:TMsg) (a1:Int) (s1:Bool×Int):Option (LO (Bool×Int)):=bif decide (s1.2 < (a0.Refs.length:Int)) then (getI a0.Refs s1.2).bind fun x1=>bif decide (x1 ≥ a1) then some (LO.ret (false,s1.2)) else some (LO.norm (s1.1,wi .i64 (s1.2 + 1))) else some (LO.exit 0 (s1.1,s1.2))
def m140 (a0:TMsg) (a1:Int):Option (Bool):=(loopO (ms140_0 a0 a1) NN (false,0)).bind (contO (fun _=>none) (fun i1 s2=>if i1 = 0 then some true else none) (fun s2=>some s2.1))
theorem w140 {d:Nat} (hd:1≤d) (k0:Bool) (a0:TMsg) (a1:Int):Fit (R NN d 140 [.rp k0 (Enc.cs k0 a0),.int .i64 a1] []) (m140 a0 a1) PB:=by
  obtain ⟨d,rfl,g⟩:=up hd
  refine q_in (t140 NN d _ _) ?_
  unfold b140 m140
  refine q_lp (A:=fun (s:Bool×Int)=>[.bool s.1,.int .i64 s.2]) (B:=fun s=>[]) 0 rr ?_ ?_ ?_
  ·intro s1
   unfold s140_0 ms140_0
   exact q_q fr<|q_p fr<|q_p fr<|q_len<|q_p fr<|q_i (q_q fr<|q_p fr<|q_p fr<|q_ix rfl fun x1 hx1=>q_p fr<|q_p fr<|q_i (q_lret 0 rr)<|q_p fr<|q_norm 0 rr)<|q_exit 0 rr
  ·exact fun i1 s2=>q_n (q_ret (cv_p rfl) rfl)<|q_none
  ·exact fun s2=>q_ret (cv_p rfl) rfl
def ms93_0 (a0:Int) (a1:List TMsg) (s1:Int×Int):Option (LO (Int×Int)):=bif decide (s1.2 < (a1.length:Int)) then (getI a1 s1.2).bind fun x1=>(m139 a0 x1).bind fun y1=>bif y1 != 0 then some (LO.ret (y1,s1.2)) else (getI a1 s1.2).bind fun x2=>(m140 x2 s1.2).bind fun y2=>bif !y2 then some (LO.ret (4,s1.2)) else (getI a1 s1.2).bind fun x3=>(m129 a1 x3).bind fun y3=>bif y3 != s1.2 then some (LO.ret (6,s1.2)) else some (LO.norm (s1.1,wi .i64 (s1.2 + 1))) else some (LO.exit 0 (s1.1,s1.2))
def m93 (a0:Int) (a1:List TMsg):Option (Int):=bif decide ((a1.length:Int) > 240) then some 2 else (loopO (ms93_0 a0 a1) NN (0,0)).bind (contO (fun _=>none) (fun i1 s2=>if i1 = 0 then some 0 else none) (fun s2=>some s2.1))
theorem w93 {d:Nat} (hd:4≤d) (a0:Int) (k1:Bool) (a1:List TMsg):Fit (R NN d 93 [.int .i64 a0,.rsl k1 false (a1.map (Enc.cs k1))] []) (m93 a0 a1) PI:=by
  obtain ⟨d,rfl,g⟩:=up hd
  refine q_in (t93 NN d _ _) ?_
  unfold b93 m93
  refine q_len<|q_p fr<|q_i ?_ ?_
  ·exact q_ret (cv_p rfl) rfl
  ·refine q_lp (A:=fun (s:Int×Int)=>[.int .i64 s.1,.int .i64 s.2]) (B:=fun s=>[]) 0 rr ?_ ?_ ?_
   ·intro s1
    unfold s93_0 ms93_0
    exact q_len<|q_p fr<|q_i (q_ix rfl fun x1 hx1=>q_c0 (aF2 (cv_p rfl) (cv_rp (cvs_e (l0:=k1) (x:=x1)) (fun _ _ _ h=>Enc.frz k1 x1 _ _ _ h)) fun l0_ l1_=>w139 (by omega) a0 l1_ x1) fun y1 hy1=>q_p fr<|q_i (q_lret 0 rr)<|q_ix rfl fun x2 hx2=>q_c0 (aF2 (cv_rp (cvs_e (l0:=k1) (x:=x2)) (fun _ _ _ h=>Enc.frz k1 x2 _ _ _ h)) (cv_p rfl) fun l0_ l1_=>w140 (by omega) l0_ x2 s1.2) fun y2 hy2=>q_p fr<|q_i (q_lret 0 rr)<|q_ix rfl fun x3 hx3=>q_c0 (aF2 cv_r (cv_rp (cvs_e (l0:=k1) (x:=x3)) (fun _ _ _ h=>Enc.frz k1 x3 _ _ _ h)) fun l0_ l1_=>w129 (by omega) l0_ a1 l1_ x3) fun y3 hy3=>q_p fr<|q_i (q_lret 0 rr)<|q_p fr<|q_norm 0 rr)<|q_exit 0 rr
   ·exact fun i1 s2=>q_n (q_ret (cv_p rfl) rfl)<|q_none
   ·exact fun s2=>q_ret (cv_p rfl) rfl
def m46 (a0:Int) (a1:List TMsg):Option (Int):=bif !(m92 a0) then some 3 else (m93 a0 a1).bind fun y1=>some y1
theorem w46 {d:Nat} (hd:5≤d) (a0:Int) (k1:Bool) (a1:List TMsg):Fit (R NN d 46 [.int .i64 a0,.rsl k1 false (a1.map (Enc.cs k1))] []) (m46 a0 a1) PI:=by
  obtain ⟨d,rfl,g⟩:=up hd
  refine q_in (t46 NN d _ _) ?_
  unfold b46 m46
  exact q_c0t (aF1 (cv_p rfl) fun l0_=>w92 (by omega) a0)<|q_p fr<|q_i (q_ret (cv_p rfl) rfl)<|q_c0 (aF2 (cv_p rfl) cv_r fun l0_ l1_=>w93 (by omega) a0 l1_ a1) fun y1 hy1=>q_ret (cv_p rfl) rfl
def ms47_0 (a0:Int) (a1:List Int) (s1:Int×Int):Option (LO (Int×Int)):=bif decide (s1.2 < (a1.length:Int)) then ( (getI a1 s1.2).bind fun x1=>bif !(m94 a0 x1) then some (LO.ret 3) else bif decide (s1.2 > 0) then (getI a1 s1.2).bind fun x2=>(getI a1 (wi .i64 (s1.2 - 1))).bind fun x3=>bif decide (x2≤x3) then some (LO.ret 1) else some (LO.norm s1.1) else some (LO.norm s1.1)).bind (contO (fun s3=>some (LO.norm (s3,wi .i64 (s1.2 + 1)))) (fun i1 s3=>some (LO.exit i1 (s3,s1.2))) (fun s3=>some (LO.ret (s3,s1.2)))) else some (LO.exit 0 (s1.1,s1.2))
def m47 (a0:Int) (a1:List Int):Option (Int):=bif decide ((a1.length:Int) > a0) then some 2 else (loopO (ms47_0 a0 a1) NN (0,0)).bind (contO (fun _=>none) (fun i2 s4=>if i2 = 0 then some 0 else none) (fun s4=>some s4.1))
theorem w47 {d:Nat} (hd:3≤d) (a0:Int) (k1:Bool) (a1:List Int):Fit (R NN d 47 [.int .i64 a0,.rsl k1 false (a1.map (Enc.cs k1))] []) (m47 a0 a1) PI:=by
  obtain ⟨d,rfl,g⟩:=up hd
  refine q_in (t47 NN d _ _) ?_
  unfold b47 m47
  refine q_len<|q_p fr<|q_i ?_ ?_
  ·exact q_ret (cv_p rfl) rfl
  ·refine q_lp (A:=fun (s:Int×Int)=>[.int .i64 s.1,.int .i64 s.2]) (B:=fun s=>[]) 0 rr ?_ ?_ ?_
   ·intro s1
    unfold s47_0 ms47_0
    refine q_len<|q_p fr<|q_i ?_ ?_
    ·refine q_cu (A:=fun (s:Int)=>[.int .i64 s]) (B:=fun s=>[]) ?_ ?_ ?_ ?_
     ·refine q_ix rfl fun x1 hx1=>q_p fr<|q_c0t (aF2 (cv_p rfl) (cv_p rfl) fun l0_ l1_=>w94 (by omega) a0 x1)<|q_p fr<|q_i ?_ ?_
      ·exact q_lret 0 rr
      ·refine q_p fr<|q_k ?_ ?_
       ·exact q_ix rfl fun x2 hx2=>q_p fr<|q_p fr<|q_ix rfl fun x3 hx3=>q_p fr<|q_p fr<|q_i (q_lret 0 rr)<|q_norm 0 rr
       ·first | refine q_ifF1 ?_ | skip
        exact q_norm 0 rr
     ·exact fun s3=>q_p fr<|q_norm 0 rr
     ·exact fun i1 s3=>q_exit 0 rr
     ·exact fun s3=>q_lret 0 rr
    ·exact q_exit 0 rr
   ·exact fun i2 s4=>q_n (q_ret (cv_p rfl) rfl)<|q_none
   ·exact fun s4=>q_ret (cv_p rfl) rfl
def ms95_0 (a0:List Int) (a1:Int) (s1:Bool×Int):Option (LO (Bool×Int)):=bif decide (s1.2 < (a0.length:Int)) then (getI a0 s1.2).bind fun x1=>bif x1 == a1 then some (LO.ret (true,s1.2)) else some (LO.norm (s1.1,wi .i64 (s1.2 + 1))) else some (LO.exit 0 (s1.1,s1.2))
def m95 (a0:List Int) (a1:Int):Option (Bool):=(loopO (ms95_0 a0 a1) NN (false,0)).bind (contO (fun _=>none) (fun i1 s2=>if i1 = 0 then some false else none) (fun s2=>some s2.1))
theorem w95 {d:Nat} (hd:1≤d) (k0:Bool) (a0:List Int) (a1:Int):Fit (R NN d 95 [.rsl k0 false (a0.map (Enc.cs k0)),.int .i64 a1] []) (m95 a0 a1) PB:=by
  obtain ⟨d,rfl,g⟩:=up hd
  refine q_in (t95 NN d _ _) ?_
  unfold b95 m95
  refine q_lp (A:=fun (s:Bool×Int)=>[.bool s.1,.int .i64 s.2]) (B:=fun s=>[]) 0 rr ?_ ?_ ?_
  ·intro s1
   unfold s95_0 ms95_0
   exact q_len<|q_p fr<|q_i (q_ix rfl fun x1 hx1=>q_p fr<|q_p fr<|q_i (q_lret 0 rr)<|q_p fr<|q_norm 0 rr)<|q_exit 0 rr
  ·exact fun i1 s2=>q_n (q_ret (cv_p rfl) rfl)<|q_none
  ·exact fun s2=>q_ret (cv_p rfl) rfl
def ms192_0 (a0:Int) (a1:List TMsg) (a2:Int) (a3:TCert) (s1:Int×(List Int)):Option (LO (Int×(List Int))):=bif decide (s1.1≤(wi .i64 ((wi .i64 (3 * a0)) + 1))) then ( (m129 a1 (⟨a2,a3.View,s1.1,a3.Slot,a3.Value,[],[]⟩:TMsg)).bind fun y1=>bif decide (y1 ≥ 0) then (appO 8 s1.2 [s1.1]).bind fun z1=>some (LO.norm z1) else some (LO.norm s1.2)).bind (contO (fun s3=>some (LO.norm (wi .i64 (s1.1 + 1),s3))) (fun i1 s3=>some (LO.exit i1 (s1.1,s3))) (fun s3=>some (LO.ret (s1.1,s3)))) else some (LO.exit 0 (s1.1,s1.2))
def m192 (a0:Int) (a1:List TMsg) (a2:Int) (a3:TCert):Option ((List Int)):=(loopO (ms192_0 a0 a1 a2 a3) NN (1,[])).bind (contO (fun _=>none) (fun i2 s4=>if i2 = 0 then some s4.2 else none) (fun s4=>some []))
theorem w192 {d:Nat} (hd:3≤d) (a0:Int) (k1:Bool) (a1:List TMsg) (a2:Int) (k3:Bool) (a3:TCert):Fit (R NN d 192 [.int .i64 a0,.rsl k1 false (a1.map (Enc.cs k1)),.int .i64 a2,.agg (Enc.cs k3 a3)] []) (m192 a0 a1 a2 a3) (P0 (fun (t:List Int)=>AV.rsl false false (t.map (Enc.cs false)))):=by
  obtain ⟨d,rfl,g⟩:=up hd
  refine q_in (t192 NN d _ _ _ _) ?_
  unfold b192 m192
  refine q_box (n:=3) rfl rfl (by decide) fun b1=>q_q (fun _=>qs22_0)<|q_nil (α:=Int) false<|q_loop (I:=(fun (s:Int×(List Int)) l L=>∃ (v1:AV),l = [v1,.int .i64 s.1]∧L = [sl false v1 (s.2:List Int),bx b1 [.int .i64 a3.Slot,.int .i64 a3.View,.int .i64 a3.Value]])) 0 ⟨(.rsl false true []),rfl,rfl⟩ ?_ ?_ ?_
  ·rintro s1 _ _ ⟨v1,rfl,rfl⟩
   unfold s192_0 ms192_0
   refine q_p fr<|q_p fr<|q_p fr<|q_i ?_ ?_
   ·refine q_cut (I:=(fun (s:(List Int)) l L=>∃ (v2:AV),l = [v2]∧L = [sl false v2 (s:List Int),bx b1 [.int .i64 a3.Slot,.int .i64 a3.View,.int .i64 a3.Value]])) ?_ ?_ ?_ ?_
    ·exact q_p fr<|q_ld 1 rfl rfl<|q_p fr<|q_ld 1 rfl rfl<|q_p fr<|q_ld 1 rfl rfl<|q_p (fun _=>bd70_0_1_2_3_4 rfl)<|q_new rfl fun b2=>q_st 0 rfl rfl rfl (by decide) rfl<|q_c0 (aF2 cv_r (cv_b 0 rfl (cvs_cons (cv_p rfl) (cvs_cons (cv_p rfl) (cvs_cons (cv_p rfl) (cvs_cons (cv_p rfl) (cvs_cons (cv_p rfl) (cvs_cons (cv_r (α:=TCert) (l0:=false) (fl:=true) (xs:=[])) (cvs_cons (cv_r (α:=Int) (l0:=false) (fl:=true) (xs:=[])) cvs_nil)))))))) fun l0_ l1_=>w129 (by omega) l0_ a1 l1_ (⟨a2,a3.View,s1.1,a3.Slot,a3.Value,[],[]⟩:TMsg)) fun y1 hy1=>q_p fr<|q_i (q_e (fun _=>bs22_1 rfl)<|q_app (ys:=[s1.1]) 1 rfl rfl (fun _ _=>rfl) fun v2 z1 hz1=>q_norm 1 ⟨v2,rfl,rfl⟩)<|q_norm 1 ⟨v1,rfl,rfl⟩
    ·rintro s3 _ _ ⟨v3,rfl,rfl⟩
     exact q_p fr<|q_norm 0 ⟨v3,rfl,rfl⟩
    ·rintro i1 s3 _ _ ⟨v4,rfl,rfl⟩
     exact q_exit 0 ⟨v4,rfl,rfl⟩
    ·rintro s3 _ _ ⟨v5,rfl,rfl⟩
     exact q_lret 0 ⟨v5,rfl,rfl⟩
   ·exact q_exit 0 ⟨v1,rfl,rfl⟩
  ·rintro i2 s4 _ _ ⟨v6,rfl,rfl⟩
   exact q_n (q_ret (cv_o 0 rfl) rfl)<|q_none
  ·rintro s4 _ _ ⟨v7,rfl,rfl⟩
   exact q_ret (cv_r (α:=Int) (l0:=false) (fl:=true) (xs:=[])) rfl
def m193 (a0:Int):Int:=wi .i64 ((wi .i64 (2 * a0)) + 1)
theorem w193 {d:Nat} (hd:1≤d) (a0:Int):Fit (R NN d 193 [.int .i64 a0] []) (some (m193 a0)) PI:=by
  obtain ⟨d,rfl,g⟩:=up hd
  refine q_in (t193 NN d _) ?_
  unfold b193 m193
  exact q_p fr<|q_p fr<|q_ret (cv_p rfl) rfl
def m147 (a0:Int) (a1:List TMsg) (a2:Int) (a3:TCert):Option (Bool):=(m192 a0 a1 a2 a3).bind fun y1=>some (decide ((y1.length:Int) ≥ (m193 a0)))
theorem w147 {d:Nat} (hd:4≤d) (a0:Int) (k1:Bool) (a1:List TMsg) (a2:Int) (k3:Bool) (a3:TCert):Fit (R NN d 147 [.int .i64 a0,.rsl k1 false (a1.map (Enc.cs k1)),.int .i64 a2,.agg (Enc.cs k3 a3)] []) (m147 a0 a1 a2 a3) PB:=by
  obtain ⟨d,rfl,g⟩:=up hd
  refine q_in (t147 NN d _ _ _ _) ?_
  unfold b147 m147
  exact q_box (n:=3) rfl rfl (by decide) fun b1=>q_lda 0 rfl rfl rfl<|q_c0 (fun S hS=>argF4 (cv_p rfl) cv_r (cv_p rfl) (cv_a (cvs_e (l0:=false) (x:=a3))) hS fun l0_ l1_ l2_ l3_=>w192 (by omega) a0 l1_ a1 a2 l3_ a3) fun y1 hy1=>q_len<|q_c0t (aF1 (cv_p rfl) fun l0_=>w193 (by omega) a0)<|q_p fr<|q_ret (cv_p rfl) rfl
def ms100_0 (a0:Int) (a1:List TMsg) (a2:Int) (s1:Int×(List Int)) (s3:Bool×Int):Option (LO (Bool×Int)):=( ( bif decide (s3.2 < (a1.length:Int)) then some (LO.norm (!s3.1)) else some (LO.norm false)).bind (contO (fun s6=>bif s6 then some (LO.norm s6) else some (LO.exit 2 s6)) (fun i1 s6=>some (LO.exit i1 s6)) (fun s6=>some (LO.ret s6)))).bind (contO (fun s7=>( (getI a1 s3.2).bind fun x1=>( bif x1.Kind == 3 then bif x1.Slot == a2 then some (LO.norm (x1.Value == s1.1)) else some (LO.norm false) else some (LO.norm false)).bind (contO (fun s10=>bif s10 then (m147 a0 a1 3 (⟨a2,x1.View,s1.1⟩:TCert)).bind fun y1=>some (LO.norm y1) else some (LO.norm s3.1)) (fun i3 s10=>if i3 = 3 then some (LO.norm s3.1) else some (LO.exit i3 s3.1)) (fun s10=>some (LO.ret s3.1)))).bind (contO (fun s11=>some (LO.norm (s11,wi .i64 (s3.2 + 1)))) (fun i4 s11=>some (LO.exit i4 (s11,s3.2))) (fun s11=>some (LO.ret (s11,s3.2))))) (fun i2 s7=>some (LO.exit i2 (s3.1,s3.2))) (fun s7=>some (LO.ret (s3.1,s3.2))))
def ms100_1 (a0:Int) (a1:List TMsg) (a2:Int) (s1:Int×(List Int)):Option (LO (Int×(List Int))):=bif decide (s1.1≤12) then ( (loopO (ms100_0 a0 a1 a2 s1) NN (false,0)).bind (contO (fun _=>none) (fun i5 s12=>if i5 = 2 then bif s12.1 then (appO 8 s1.2 [s1.1]).bind fun z1=>some (LO.norm z1) else some (LO.norm s1.2) else if i5 = 1 then some (LO.norm s1.2) else some (LO.exit i5 s1.2)) (fun s12=>some (LO.ret s1.2)))).bind (contO (fun s13=>some (LO.norm (wi .i64 (s1.1 + 1),s13))) (fun i6 s13=>some (LO.exit i6 (s1.1,s13))) (fun s13=>some (LO.ret (s1.1,s13)))) else some (LO.exit 0 (s1.1,s1.2))
def m100 (a0:Int) (a1:List TMsg) (a2:Int):Option ((List Int)):=(loopO (ms100_1 a0 a1 a2) NN (0,[])).bind (contO (fun _=>none) (fun i7 s14=>if i7 = 0 then some s14.2 else none) (fun s14=>some []))
theorem w100 {d:Nat} (hd:5≤d) (a0:Int) (k1:Bool) (a1:List TMsg) (a2:Int):Fit (R NN d 100 [.int .i64 a0,.rsl k1 false (a1.map (Enc.cs k1)),.int .i64 a2] []) (m100 a0 a1 a2) (P0 (fun (t:List Int)=>AV.rsl false false (t.map (Enc.cs false)))):=by
  obtain ⟨d,rfl,g⟩:=up hd
  refine q_in (t100 NN d _ _ _) ?_
  unfold b100 m100
  refine q_q (fun _=>qs22_0)<|q_nil (α:=Int) false<|q_loop (I:=(fun (s:Int×(List Int)) l L=>∃ (v1:AV),l = [v1,.int .i64 s.1]∧L = [sl false v1 (s.2:List Int)])) 0 ⟨(.rsl false true []),rfl,rfl⟩ ?_ ?_ ?_
  ·rintro s1 _ _ ⟨v1,rfl,rfl⟩
   unfold s100_1 ms100_1
   refine q_p fr<|q_i ?_ ?_
   ·refine q_cut (I:=(fun (s:(List Int)) l L=>∃ (v2:AV),l = [v2]∧L = [sl false v2 (s:List Int)])) ?_ ?_ ?_ ?_
    ·refine q_lp (A:=fun (s:Bool×Int)=>[.bool s.1,.int .i64 s.2]) (B:=fun s=>[sl false v1 (s1.2:List Int)]) 0 rr ?_ ?_ ?_
     ·intro s3
      unfold s100_0 ms100_0
      refine q_cu (A:=fun (s:Bool)=>[.bool s]) (B:=fun s=>[sl false v1 (s1.2:List Int)]) ?_ ?_ ?_ ?_
      ·refine q_cu (A:=fun (s:Bool)=>[.bool s]) (B:=fun s=>[sl false v1 (s1.2:List Int)]) ?_ ?_ ?_ ?_
       ·exact q_len<|q_p fr<|q_k (q_p fr<|q_norm 0 rr)<|q_norm 0 rr
       ·exact fun s6=>q_i (q_norm 0 rr)<|q_exit 0 rr
       ·exact fun i1 s6=>q_exit 0 rr
       ·exact fun s6=>q_lret 0 rr
      ·intro s7
       refine q_cu (A:=fun (s:Bool)=>[.bool s]) (B:=fun s=>[sl false v1 (s1.2:List Int)]) ?_ ?_ ?_ ?_
       ·refine q_ix rfl fun x1 hx1=>q_cu (A:=fun (s:Bool)=>[.bool s]) (B:=fun s=>[sl false v1 (s1.2:List Int)]) ?_ ?_ ?_ ?_
        ·exact q_q fr<|q_p fr<|q_p fr<|q_p fr<|q_k (q_q fr<|q_p fr<|q_p fr<|q_p fr<|q_k (q_q fr<|q_p fr<|q_p fr<|q_p fr<|q_norm 0 rr)<|q_norm 0 rr)<|q_norm 0 rr
        ·exact fun s10=>q_i (q_q fr<|q_p fr<|q_p fr<|q_p (fun _=>bd168_0_1_2 rfl)<|q_c0 (fun S hS=>argF4 (cv_p rfl) cv_r (cv_p rfl) (cv_a (cvs_cons (cv_p rfl) (cvs_cons (cv_p rfl) (cvs_cons (cv_p rfl) cvs_nil)))) hS fun l0_ l1_ l2_ l3_=>w147 (by omega) a0 l1_ a1 3 l3_ (⟨a2,x1.View,s1.1⟩:TCert)) fun y1 hy1=>q_norm 0 rr)<|q_norm 0 rr
        ·exact fun i3 s10=>q_n (q_norm 0 rr)<|q_exit 0 rr
        ·exact fun s10=>q_lret 0 rr
       ·exact fun s11=>q_p fr<|q_norm 0 rr
       ·exact fun i4 s11=>q_exit 0 rr
       ·exact fun s11=>q_lret 0 rr
      ·exact fun i2 s7=>q_exit 0 rr
      ·exact fun s7=>q_lret 0 rr
     ·exact fun i5 s12=>q_n (q_i (q_e (fun _=>bs22_1 rfl)<|q_app (ys:=[s1.1]) 0 rfl rfl (fun _ _=>rfl) fun v2 z1 hz1=>q_norm 0 ⟨v2,rfl,rfl⟩)<|q_norm 0 ⟨v1,rfl,rfl⟩)<|q_n (q_norm 0 ⟨v1,rfl,rfl⟩)<|q_exit 0 ⟨v1,rfl,rfl⟩
     ·exact fun s12=>q_lret 0 ⟨v1,rfl,rfl⟩
    ·rintro s13 _ _ ⟨v3,rfl,rfl⟩
     exact q_p fr<|q_norm 0 ⟨v3,rfl,rfl⟩
    ·rintro i6 s13 _ _ ⟨v4,rfl,rfl⟩
     exact q_exit 0 ⟨v4,rfl,rfl⟩
    ·rintro s13 _ _ ⟨v5,rfl,rfl⟩
     exact q_lret 0 ⟨v5,rfl,rfl⟩
   ·exact q_exit 0 ⟨v1,rfl,rfl⟩
  ·rintro i7 s14 _ _ ⟨v6,rfl,rfl⟩
   exact q_n (q_ret (cv_o 0 rfl) rfl)<|q_none
  ·rintro s14 _ _ ⟨v7,rfl,rfl⟩
   exact q_ret (cv_r (α:=Int) (l0:=false) (fl:=true) (xs:=[])) rfl
def ms53_0 (a0:Int) (a1:List TMsg) (s1:Bool×Int×(List Int)):Option (LO (Bool×Int×(List Int))):=bif s1.1 then none else bif decide (s1.2.1≤30) then (m100 a0 a1 s1.2.1).bind fun y1=>bif (y1.length:Int) == 0 then some (LO.ret (true,s1.2.1,s1.2.2)) else (getI y1 0).bind fun x1=>(appO 8 s1.2.2 [x1]).bind fun z1=>some (LO.norm (false,wi .i64 (s1.2.1 + 1),z1)) else some (LO.exit 0 (false,s1.2.1,s1.2.2))
def m53 (a0:Int) (a1:List TMsg):Option ((List Int)):=(loopO (ms53_0 a0 a1) NN (false,1,[])).bind (contO (fun _=>none) (fun i1 s2=>if i1 = 0 then some s2.2.2 else none) (fun s2=>some (bif s2.1 then s2.2.2 else [])))
theorem w53 {d:Nat} (hd:6≤d) (a0:Int) (k1:Bool) (a1:List TMsg):Fit (R NN d 53 [.int .i64 a0,.rsl k1 false (a1.map (Enc.cs k1))] []) (m53 a0 a1) (P0 (fun (t:List Int)=>AV.rsl false false (t.map (Enc.cs false)))):=by
  obtain ⟨d,rfl,g⟩:=up hd
  refine q_in (t53 NN d _ _) ?_
  unfold b53 m53
  refine q_q (fun _=>qs22_0)<|q_nil (α:=Int) false<|q_loop (I:=(fun (s:Bool×Int×(List Int)) l L=>∃ (v1:AV),l = [(bif s.1 then v1 else AV.rsl false true []),v1,.int .i64 s.2.1]∧L = [sl false v1 (s.2.2:List Int)])) 0 ⟨(.rsl false true []),rfl,rfl⟩ ?_ ?_ ?_
  ·rintro s1 _ _ ⟨v1,rfl,rfl⟩
   unfold s53_0 ms53_0
   refine q_flag (b:=s1.1) fun hfg_=>?_
   try rw [hfg_]
   exact q_p fr<|q_i (q_c0 (aF3 (cv_p rfl) cv_r (cv_p rfl) fun l0_ l1_ l2_=>w100 (by omega) a0 l1_ a1 s1.2.1) fun y1 hy1=>q_len<|q_p fr<|q_i (q_lret 0 ⟨v1,rfl,rfl⟩)<|q_ix rfl fun x1 hx1=>q_p fr<|q_e (fun _=>bs22_1 rfl)<|q_app (ys:=[x1]) 0 rfl rfl (fun _ _=>rfl) fun v2 z1 hz1=>q_p fr<|q_norm 0 ⟨v2,rfl,rfl⟩)<|q_exit 0 ⟨v1,rfl,rfl⟩
  ·rintro i1 s2 _ _ ⟨v3,rfl,rfl⟩
   exact q_n (q_ret (cv_o 0 rfl) rfl)<|q_none
  ·rintro s2 _ _ ⟨v4,rfl,rfl⟩
   exact q_ret (cv_alt 0 rfl) rfl
def m214 (a0:List TMsg) (a1:Int) (a2:Int):Option (Bool):=bif (m74 a1 0 (wi .i64 ((a0.length:Int) - 1))) then (getI a0 a1).bind fun x1=>some (x1.Kind == a2) else some false
theorem w214 {d:Nat} (hd:2≤d) (k0:Bool) (a0:List TMsg) (a1:Int) (a2:Int):Fit (R NN d 214 [.rsl k0 false (a0.map (Enc.cs k0)),.int .i64 a1,.int .i64 a2] []) (m214 a0 a1 a2) PB:=by
  obtain ⟨d,rfl,g⟩:=up hd
  refine q_in (t214 NN d _ _ _) ?_
  unfold b214 m214
  exact q_len<|q_p fr<|q_c0t (aF3 (cv_p rfl) (cv_p rfl) (cv_p rfl) fun l0_ l1_ l2_=>w74 (by omega) a1 0 (wi .i64 ((a0.length:Int) - 1)))<|q_k (q_ix rfl fun x1 hx1=>q_p fr<|q_p fr<|q_p fr<|q_ret (cv_p rfl) rfl)<|q_ret (cv_p rfl) rfl
def m215 (a0:Int) (a1:Int):Option (Int):=(remO a1 (wi .i64 ((wi .i64 (3 * a0)) + 1))).bind fun q1=>some (wi .i64 (1 + q1))
theorem w215 {d:Nat} (hd:1≤d) (a0:Int) (a1:Int):Fit (R NN d 215 [.int .i64 a0,.int .i64 a1] []) (m215 a0 a1) PI:=by
  obtain ⟨d,rfl,g⟩:=up hd
  refine q_in (t215 NN d _ _) ?_
  unfold b215 m215
  exact q_p fr<|q_p fr<|q_rem2 fun q1 hq1=>q_p fr<|q_ret (cv_p rfl) rfl
def ms216_0 (a0:Int) (a1:List TMsg) (a2:Int) (s3:Bool×Int):Option (LO (Bool×Int)):=(getI a1 a2).bind fun x2=>bif decide (s3.2 < (x2.Certs.length:Int)) then (getI a1 a2).bind fun x3=>(getI x3.Certs s3.2).bind fun x4=>(m147 a0 a1 2 x4).bind fun y2=>bif !y2 then some (LO.ret (false,s3.2)) else some (LO.norm (s3.1,wi .i64 (s3.2 + 1))) else some (LO.exit 0 (s3.1,s3.2))
def m216 (a0:Int) (a1:List TMsg) (a2:Int):Option (Bool):=( (m214 a1 a2 4).bind fun y1=>bif !y1 then some (LO.ret false) else (getI a1 a2).bind fun x1=>bif decide (x1.View < 1) then some (LO.ret false) else some (LO.norm false)).bind (contO (fun s2=>(loopO (ms216_0 a0 a1 a2) NN (s2,0)).bind (contO (fun _=>none) (fun i2 s4=>if i2 = 0 then some true else none) (fun s4=>some s4.1))) (fun i1 s2=>none) (fun s2=>some s2))
theorem w216 {d:Nat} (hd:5≤d) (a0:Int) (k1:Bool) (a1:List TMsg) (a2:Int):Fit (R NN d 216 [.int .i64 a0,.rsl k1 false (a1.map (Enc.cs k1)),.int .i64 a2] []) (m216 a0 a1 a2) PB:=by
  obtain ⟨d,rfl,g⟩:=up hd
  refine q_in (t216 NN d _ _ _) ?_
  unfold b216 m216
  refine q_cu (A:=fun (s:Bool)=>[.bool s]) (B:=fun s=>[]) ?_ ?_ ?_ ?_
  ·refine q_c0 (aF3 cv_r (cv_p rfl) (cv_p rfl) fun l0_ l1_ l2_=>w214 (by omega) l0_ a1 a2 4) fun y1 hy1=>q_p fr<|q_j ?_ ?_
   ·first | refine q_ifT1 ?_ | skip
    exact q_lret 0 rr
   ·exact q_ix rfl fun x1 hx1=>q_p fr<|q_p fr<|q_p fr<|q_i (q_lret 0 rr)<|q_norm 0 rr
  ·intro s2
   refine q_lp (A:=fun (s:Bool×Int)=>[.bool s.1,.int .i64 s.2]) (B:=fun s=>[]) 0 rr ?_ ?_ ?_
   ·intro s3
    unfold s216_0 ms216_0
    exact q_ix rfl fun x2 hx2=>q_p fr<|q_p fr<|q_len<|q_p fr<|q_i (q_ix rfl fun x3 hx3=>q_p fr<|q_p fr<|q_ix rfl fun x4 hx4=>q_p fr<|q_c0 (fun S hS=>argF4 (cv_p rfl) cv_r (cv_p rfl) (cv_a (cvs_e (l0:=k1) (x:=x4))) hS fun l0_ l1_ l2_ l3_=>w147 (by omega) a0 l1_ a1 2 l3_ x4) fun y2 hy2=>q_p fr<|q_i (q_lret 0 rr)<|q_p fr<|q_norm 0 rr)<|q_exit 0 rr
   ·exact fun i2 s4=>q_n (q_ret (cv_p rfl) rfl)<|q_none
   ·exact fun s4=>q_ret (cv_p rfl) rfl
  ·exact fun i1 s2=>q_none
  ·exact fun s2=>q_ret (cv_p rfl) rfl
def ms217_0 (a0:List TMsg) (a1:List Int) (a2:Int) (s1:Bool×Int):Option (LO (Bool×Int)):=bif decide (s1.2 < (a1.length:Int)) then (getI a1 s1.2).bind fun x1=>(getI a0 x1).bind fun x2=>bif x2.From == a2 then some (LO.ret (true,s1.2)) else some (LO.norm (s1.1,wi .i64 (s1.2 + 1))) else some (LO.exit 0 (s1.1,s1.2))
def m217 (a0:List TMsg) (a1:List Int) (a2:Int):Option (Bool):=(loopO (ms217_0 a0 a1 a2) NN (false,0)).bind (contO (fun _=>none) (fun i1 s2=>if i1 = 0 then some false else none) (fun s2=>some s2.1))
theorem w217 {d:Nat} (hd:1≤d) (k0:Bool) (a0:List TMsg) (k1:Bool) (a1:List Int) (a2:Int):Fit (R NN d 217 [.rsl k0 false (a0.map (Enc.cs k0)),.rsl k1 false (a1.map (Enc.cs k1)),.int .i64 a2] []) (m217 a0 a1 a2) PB:=by
  obtain ⟨d,rfl,g⟩:=up hd
  refine q_in (t217 NN d _ _ _) ?_
  unfold b217 m217
  refine q_lp (A:=fun (s:Bool×Int)=>[.bool s.1,.int .i64 s.2]) (B:=fun s=>[]) 0 rr ?_ ?_ ?_
  ·intro s1
   unfold s217_0 ms217_0
   exact q_len<|q_p fr<|q_i (q_ix rfl fun x1 hx1=>q_p fr<|q_ix rfl fun x2 hx2=>q_p fr<|q_p fr<|q_p fr<|q_i (q_lret 0 rr)<|q_p fr<|q_norm 0 rr)<|q_exit 0 rr
  ·exact fun i1 s2=>q_n (q_ret (cv_p rfl) rfl)<|q_none
  ·exact fun s2=>q_ret (cv_p rfl) rfl
def ms189_0 (a0:Int) (a1:List TMsg) (x1:TMsg) (s5:Bool×Int):Option (LO (Bool×Int)):=bif decide (s5.2 < (x1.Refs.length:Int)) then ( ( (getI x1.Refs s5.2).bind fun x2=>(m216 a0 a1 x2).bind fun y3=>bif !y3 then some (LO.norm true) else (getI x1.Refs s5.2).bind fun x3=>(getI a1 x3).bind fun x4=>bif x4.View != x1.View then some (LO.norm true) else (subI x1.Refs 0 s5.2).bind fun ys1=>(getI x1.Refs s5.2).bind fun x5=>(getI a1 x5).bind fun x6=>(m217 a1 ys1 x6.From).bind fun y4=>some (LO.norm y4)).bind (contO (fun s8=>bif s8 then some (LO.ret false) else some (LO.norm s5.1)) (fun i3 s8=>if i3 = 1 then some (LO.norm s5.1) else some (LO.exit i3 s5.1)) (fun s8=>some (LO.ret s5.1)))).bind (contO (fun s9=>some (LO.norm (s9,wi .i64 (s5.2 + 1)))) (fun i4 s9=>some (LO.exit i4 (s9,s5.2))) (fun s9=>some (LO.ret (s9,s5.2)))) else some (LO.exit 0 (s5.1,s5.2))
def m189 (a0:Int) (a1:List TMsg) (a2:Int):Option (Bool):=(m214 a1 a2 5).bind fun y1=>bif !y1 then some false else (getI a1 a2).bind fun x1=>( ( bif decide (x1.View < 1) then some (LO.norm true) else (m215 a0 x1.View).bind fun y2=>bif x1.From != y2 then some (LO.norm true) else some (LO.norm (decide ((x1.Refs.length:Int) < (m193 a0))))).bind (contO (fun s3=>bif s3 then some (LO.ret false) else some (LO.norm false)) (fun i1 s3=>some (LO.exit i1 false)) (fun s3=>some (LO.ret false)))).bind (contO (fun s4=>(loopO (ms189_0 a0 a1 x1) NN (s4,0)).bind (contO (fun _=>none) (fun i5 s10=>if i5 = 0 then some true else none) (fun s10=>some s10.1))) (fun i2 s4=>none) (fun s4=>some s4))
theorem w189 {d:Nat} (hd:6≤d) (a0:Int) (k1:Bool) (a1:List TMsg) (a2:Int):Fit (R NN d 189 [.int .i64 a0,.rsl k1 false (a1.map (Enc.cs k1)),.int .i64 a2] []) (m189 a0 a1 a2) PB:=by
  obtain ⟨d,rfl,g⟩:=up hd
  refine q_in (t189 NN d _ _ _) ?_
  unfold b189 m189
  refine q_c0 (aF3 cv_r (cv_p rfl) (cv_p rfl) fun l0_ l1_ l2_=>w214 (by omega) l0_ a1 a2 5) fun y1 hy1=>q_p fr<|q_i ?_ ?_
  ·exact q_ret (cv_p rfl) rfl
  ·refine q_ix rfl fun x1 hx1=>q_cu (A:=fun (s:Bool)=>[.bool s]) (B:=fun s=>[]) ?_ ?_ ?_ ?_
   ·refine q_cu (A:=fun (s:Bool)=>[.bool s]) (B:=fun s=>[]) ?_ ?_ ?_ ?_
    ·exact q_q fr<|q_p fr<|q_p fr<|q_p fr<|q_j (q_norm 0 rr)<|q_q fr<|q_p fr<|q_p fr<|q_q fr<|q_p fr<|q_p fr<|q_c0 (aF2 (cv_p rfl) (cv_p rfl) fun l0_ l1_=>w215 (by omega) a0 x1.View) fun y2 hy2=>q_p fr<|q_j (q_norm 0 rr)<|q_q fr<|q_p fr<|q_p fr<|q_len<|q_c0t (aF1 (cv_p rfl) fun l0_=>w193 (by omega) a0)<|q_p fr<|q_norm 0 rr
    ·exact fun s3=>q_i (q_lret 0 rr)<|q_norm 0 rr
    ·exact fun i1 s3=>q_exit 0 rr
    ·exact fun s3=>q_lret 0 rr
   ·intro s4
    refine q_lp (A:=fun (s:Bool×Int)=>[.bool s.1,.int .i64 s.2]) (B:=fun s=>[]) 0 rr ?_ ?_ ?_
    ·intro s5
     unfold s189_0 ms189_0
     refine q_q fr<|q_p fr<|q_p fr<|q_len<|q_p fr<|q_i ?_ ?_
     ·refine q_cu (A:=fun (s:Bool)=>[.bool s]) (B:=fun s=>[]) ?_ ?_ ?_ ?_
      ·refine q_cu (A:=fun (s:Bool)=>[.bool s]) (B:=fun s=>[]) ?_ ?_ ?_ ?_
       ·exact q_q fr<|q_p fr<|q_p fr<|q_ix rfl fun x2 hx2=>q_p fr<|q_c0 (aF3 (cv_p rfl) cv_r (cv_p rfl) fun l0_ l1_ l2_=>w216 (by omega) a0 l1_ a1 x2) fun y3 hy3=>q_p fr<|q_j (q_norm 0 rr)<|q_q fr<|q_p fr<|q_p fr<|q_ix rfl fun x3 hx3=>q_p fr<|q_ix rfl fun x4 hx4=>q_p fr<|q_p fr<|q_q fr<|q_p fr<|q_p fr<|q_p fr<|q_j (q_norm 0 rr)<|q_q fr<|q_p fr<|q_p fr<|q_sub rfl (.inr ⟨rfl,rfl⟩) (.inl rfl) fun fl1 ys1 hys1=>q_q fr<|q_p fr<|q_p fr<|q_ix rfl fun x5 hx5=>q_p fr<|q_ix rfl fun x6 hx6=>q_p fr<|q_p fr<|q_c0 (aF3 cv_r cv_r (cv_p rfl) fun l0_ l1_ l2_=>w217 (by omega) l0_ a1 l1_ ys1 x6.From) fun y4 hy4=>q_norm 0 rr
       ·exact fun s8=>q_i (q_lret 0 rr)<|q_norm 0 rr
       ·exact fun i3 s8=>q_n (q_norm 0 rr)<|q_exit 0 rr
       ·exact fun s8=>q_lret 0 rr
      ·exact fun s9=>q_p fr<|q_norm 0 rr
      ·exact fun i4 s9=>q_exit 0 rr
      ·exact fun s9=>q_lret 0 rr
     ·exact q_exit 0 rr
    ·exact fun i5 s10=>q_n (q_ret (cv_p rfl) rfl)<|q_none
    ·exact fun s10=>q_ret (cv_p rfl) rfl
   ·exact fun i2 s4=>q_none
   ·exact fun s4=>q_ret (cv_p rfl) rfl
def m141 (a0:Int) (a1:List TMsg) (a2:Int) (a3:Int):Option (Bool):=bif a2 == 0 then some (a3 == (-1)) else (m189 a0 a1 a3).bind fun y1=>bif y1 then (getI a1 a3).bind fun x1=>some (x1.View == a2) else some false
theorem w141 {d:Nat} (hd:7≤d) (a0:Int) (k1:Bool) (a1:List TMsg) (a2:Int) (a3:Int):Fit (R NN d 141 [.int .i64 a0,.rsl k1 false (a1.map (Enc.cs k1)),.int .i64 a2,.int .i64 a3] []) (m141 a0 a1 a2 a3) PB:=by
  obtain ⟨d,rfl,g⟩:=up hd
  refine q_in (t141 NN d _ _ _ _) ?_
  unfold b141 m141
  exact q_p fr<|q_i (q_p fr<|q_ret (cv_p rfl) rfl)<|q_c0 (aF3 (cv_p rfl) cv_r (cv_p rfl) fun l0_ l1_ l2_=>w189 (by omega) a0 l1_ a1 a3) fun y1 hy1=>q_k (q_ix rfl fun x1 hx1=>q_p fr<|q_p fr<|q_p fr<|q_ret (cv_p rfl) rfl)<|q_ret (cv_p rfl) rfl
def m96 (a0:Int) (a1:List TMsg) (a2:TReplica):Option (Int):=( ( bif !(m94 a0 a2.Id) then some (LO.norm true) else bif !(m74 a2.View 0 20) then some (LO.norm true) else some (LO.norm (!(m74 a2.Done 0 30)))).bind (contO (fun s3=>bif s3 then some (LO.ret 3) else some (LO.norm 0)) (fun i1 s3=>some (LO.exit i1 0)) (fun s3=>some (LO.ret 0)))).bind (contO (fun s4=>( ( bif a2.Start != (-1) then bif a2.View == 0 then some (LO.norm true) else (m141 a0 a1 a2.View a2.Start).bind fun y1=>some (LO.norm (!y1)) else some (LO.norm false)).bind (contO (fun s7=>bif s7 then some (LO.ret 1) else some (LO.norm s4)) (fun i3 s7=>some (LO.exit i3 s4)) (fun s7=>some (LO.ret s4)))).bind (contO (fun s8=>( bif decide (a2.Done > 0) then (m53 a0 a1).bind fun y2=>bif decide (a2.Done > (y2.length:Int)) then some (LO.ret 8) else some (LO.norm s8) else some (LO.norm s8)).bind (contO (fun s10=>some 0) (fun i5 s10=>none) (fun s10=>some s10))) (fun i4 s8=>none) (fun s8=>some s8))) (fun i2 s4=>none) (fun s4=>some s4))
theorem w96 {d:Nat} (hd:8≤d) (a0:Int) (k1:Bool) (a1:List TMsg) (k2:Bool) (a2:TReplica):Fit (R NN d 96 [.int .i64 a0,.rsl k1 false (a1.map (Enc.cs k1)),.rp k2 (Enc.cs k2 a2)] []) (m96 a0 a1 a2) PI:=by
  obtain ⟨d,rfl,g⟩:=up hd
  refine q_in (t96 NN d _ _ _) ?_
  unfold b96 m96
  refine q_cu (A:=fun (s:Int)=>[.int .i64 s]) (B:=fun s=>[]) ?_ ?_ ?_ ?_
  ·refine q_cu (A:=fun (s:Bool)=>[.bool s]) (B:=fun s=>[]) ?_ ?_ ?_ ?_
   ·exact q_q fr<|q_p fr<|q_p fr<|q_c0t (aF2 (cv_p rfl) (cv_p rfl) fun l0_ l1_=>w94 (by omega) a0 a2.Id)<|q_p fr<|q_j (q_norm 0 rr)<|q_q fr<|q_p fr<|q_p fr<|q_c0t (aF3 (cv_p rfl) (cv_p rfl) (cv_p rfl) fun l0_ l1_ l2_=>w74 (by omega) a2.View 0 20)<|q_p fr<|q_j (q_norm 0 rr)<|q_q fr<|q_p fr<|q_p fr<|q_c0t (aF3 (cv_p rfl) (cv_p rfl) (cv_p rfl) fun l0_ l1_ l2_=>w74 (by omega) a2.Done 0 30)<|q_p fr<|q_norm 0 rr
   ·exact fun s3=>q_i (q_lret 0 rr)<|q_norm 0 rr
   ·exact fun i1 s3=>q_exit 0 rr
   ·exact fun s3=>q_lret 0 rr
  ·intro s4
   refine q_cu (A:=fun (s:Int)=>[.int .i64 s]) (B:=fun s=>[]) ?_ ?_ ?_ ?_
   ·refine q_cu (A:=fun (s:Bool)=>[.bool s]) (B:=fun s=>[]) ?_ ?_ ?_ ?_
    ·exact q_q fr<|q_p fr<|q_p fr<|q_p fr<|q_k (q_q fr<|q_p fr<|q_p fr<|q_p fr<|q_j (q_norm 0 rr)<|q_q fr<|q_p fr<|q_p fr<|q_q fr<|q_p fr<|q_p fr<|q_c0 (fun S hS=>argF4 (cv_p rfl) cv_r (cv_p rfl) (cv_p rfl) hS fun l0_ l1_ l2_ l3_=>w141 (by omega) a0 l1_ a1 a2.View a2.Start) fun y1 hy1=>q_p fr<|q_norm 0 rr)<|q_norm 0 rr
    ·exact fun s7=>q_i (q_lret 0 rr)<|q_norm 0 rr
    ·exact fun i3 s7=>q_exit 0 rr
    ·exact fun s7=>q_lret 0 rr
   ·intro s8
    refine q_cu (A:=fun (s:Int)=>[.int .i64 s]) (B:=fun s=>[]) ?_ ?_ ?_ ?_
    ·refine q_q fr<|q_p fr<|q_p fr<|q_p fr<|q_k ?_ ?_
     ·exact q_q fr<|q_p fr<|q_p fr<|q_c0 (aF2 (cv_p rfl) cv_r fun l0_ l1_=>w53 (by omega) a0 l1_ a1) fun y2 hy2=>q_len<|q_p fr<|q_i (q_lret 0 rr)<|q_norm 0 rr
     ·first | refine q_ifF1 ?_ | skip
      exact q_norm 0 rr
    ·exact fun s10=>q_ret (cv_p rfl) rfl
    ·exact fun i5 s10=>q_none
    ·exact fun s10=>q_ret (cv_p rfl) rfl
   ·exact fun i4 s8=>q_none
   ·exact fun s8=>q_ret (cv_p rfl) rfl
  ·exact fun i2 s4=>q_none
  ·exact fun s4=>q_ret (cv_p rfl) rfl
def ms48_0 (a0:TCluster) (s1:Int×Int×Int):Option (LO (Int×Int×Int)):=bif decide (s1.2.2≤(wi .i64 ((wi .i64 (3 * a0.F)) + 1))) then ( (m95 a0.Bad s1.2.2).bind fun y1=>bif y1 then some (LO.norm (s1.1,s1.2.1)) else ( bif decide (s1.2.1 ≥ (a0.Replicas.length:Int)) then some (LO.ret 1) else (getI a0.Replicas s1.2.1).bind fun x1=>bif x1.Id != s1.2.2 then some (LO.ret 1) else some (LO.norm s1.1)).bind (contO (fun s4=>some (LO.norm (s4,wi .i64 (s1.2.1 + 1)))) (fun i1 s4=>if i1 = 1 then some (LO.norm (s4,s1.2.1)) else some (LO.exit i1 (s4,s1.2.1))) (fun s4=>some (LO.ret (s4,s1.2.1))))).bind (contO (fun s5=>some (LO.norm (s5.1,s5.2,wi .i64 (s1.2.2 + 1)))) (fun i2 s5=>some (LO.exit i2 (s5.1,s5.2,s1.2.2))) (fun s5=>some (LO.ret (s5.1,s5.2,s1.2.2)))) else some (LO.exit 0 (s1.1,s1.2.1,s1.2.2))
def ms48_1 (a0:TCluster) (s7:Int×Int):Option (LO (Int×Int)):=bif decide (s7.2 < (a0.Replicas.length:Int)) then (getI a0.Replicas s7.2).bind fun x2=>(m96 a0.F a0.Ledger x2).bind fun y2=>bif y2 != 0 then some (LO.ret (y2,s7.2)) else some (LO.norm (s7.1,wi .i64 (s7.2 + 1))) else some (LO.exit 2 (s7.1,s7.2))
def m48 (a0:TCluster):Option (Int):=(loopO (ms48_0 a0) NN (0,0,1)).bind (contO (fun _=>none) (fun i3 s6=>if i3 = 0 then bif s6.2.1 != (a0.Replicas.length:Int) then some 1 else (loopO (ms48_1 a0) NN (s6.1,0)).bind (contO (fun _=>none) (fun i4 s8=>if i4 = 2 then some 0 else none) (fun s8=>some s8.1)) else none) (fun s6=>some s6.1))
theorem w48 {d:Nat} (hd:9≤d) (k0:Bool) (a0:TCluster):Fit (R NN d 48 [.rp k0 (Enc.cs k0 a0)] []) (m48 a0) PI:=by
  obtain ⟨d,rfl,g⟩:=up hd
  refine q_in (t48 NN d _) ?_
  unfold b48 m48
  refine q_lp (A:=fun (s:Int×Int×Int)=>[.int .i64 s.1,.int .i64 s.2.1,.int .i64 s.2.2]) (B:=fun s=>[]) 0 rr ?_ ?_ ?_
  ·intro s1
   unfold s48_0 ms48_0
   refine q_q fr<|q_p fr<|q_p fr<|q_p fr<|q_p fr<|q_p fr<|q_i ?_ ?_
   ·refine q_cu (A:=fun (s:Int×Int)=>[.int .i64 s.1,.int .i64 s.2]) (B:=fun s=>[]) ?_ ?_ ?_ ?_
    ·refine q_q fr<|q_p fr<|q_p fr<|q_c0 (aF2 cv_r (cv_p rfl) fun l0_ l1_=>w95 (by omega) l0_ a0.Bad s1.2.2) fun y1 hy1=>q_i ?_ ?_
     ·exact q_norm 0 rr
     ·refine q_cu (A:=fun (s:Int)=>[.int .i64 s]) (B:=fun s=>[]) ?_ ?_ ?_ ?_
      ·refine q_q fr<|q_p fr<|q_p fr<|q_len<|q_p fr<|q_j ?_ ?_
       ·first | refine q_ifT1 ?_ | skip
        exact q_lret 0 rr
       ·exact q_q fr<|q_p fr<|q_p fr<|q_ix rfl fun x1 hx1=>q_p fr<|q_p fr<|q_p fr<|q_i (q_lret 0 rr)<|q_norm 0 rr
      ·exact fun s4=>q_p fr<|q_norm 0 rr
      ·exact fun i1 s4=>q_n (q_norm 0 rr)<|q_exit 0 rr
      ·exact fun s4=>q_lret 0 rr
    ·exact fun s5=>q_p fr<|q_norm 0 rr
    ·exact fun i2 s5=>q_exit 0 rr
    ·exact fun s5=>q_lret 0 rr
   ·exact q_exit 0 rr
  ·intro i3 s6
   refine q_n ?_ ?_
   ·refine q_q fr<|q_p fr<|q_p fr<|q_len<|q_p fr<|q_i ?_ ?_
    ·exact q_ret (cv_p rfl) rfl
    ·refine q_lp (A:=fun (s:Int×Int)=>[.int .i64 s.1,.int .i64 s.2]) (B:=fun s=>[]) 0 rr ?_ ?_ ?_
     ·intro s7
      unfold s48_1 ms48_1
      exact q_q fr<|q_p fr<|q_p fr<|q_len<|q_p fr<|q_i (q_q fr<|q_p fr<|q_p fr<|q_q fr<|q_p fr<|q_p fr<|q_q fr<|q_p fr<|q_p fr<|q_ix rfl fun x2 hx2=>q_c0 (aF3 (cv_p rfl) cv_r (cv_rp (cvs_e (l0:=k0) (x:=x2)) (fun _ _ _ h=>Enc.frz k0 x2 _ _ _ h)) fun l0_ l1_ l2_=>w96 (by omega) a0.F l1_ a0.Ledger l2_ x2) fun y2 hy2=>q_p fr<|q_i (q_lret 0 rr)<|q_p fr<|q_norm 0 rr)<|q_exit 0 rr
     ·exact fun i4 s8=>q_n (q_ret (cv_p rfl) rfl)<|q_none
     ·exact fun s8=>q_ret (cv_p rfl) rfl
   ·exact q_none
  ·exact fun s6=>q_ret (cv_p rfl) rfl
def m97 (a0:Int):Bool:=(m74 a0 1 9)
theorem w97 {d:Nat} (hd:2≤d) (a0:Int):Fit (R NN d 97 [.int .i64 a0] []) (some (m97 a0)) PB:=by
  obtain ⟨d,rfl,g⟩:=up hd
  refine q_in (t97 NN d _) ?_
  unfold b97 m97
  exact q_c0t (aF3 (cv_p rfl) (cv_p rfl) (cv_p rfl) fun l0_ l1_ l2_=>w74 (by omega) a0 1 9)<|q_ret (cv_p rfl) rfl
def m98 (a0:Int):Bool:=(m74 a0 0 9000)
theorem w98 {d:Nat} (hd:2≤d) (a0:Int):Fit (R NN d 98 [.int .i64 a0] []) (some (m98 a0)) PB:=by
  obtain ⟨d,rfl,g⟩:=up hd
  refine q_in (t98 NN d _) ?_
  unfold b98 m98
  exact q_c0t (aF3 (cv_p rfl) (cv_p rfl) (cv_p rfl) fun l0_ l1_ l2_=>w74 (by omega) a0 0 9000)<|q_ret (cv_p rfl) rfl
def m142 (a0:Int):Bool:=(m74 a0 3 8)
theorem w142 {d:Nat} (hd:2≤d) (a0:Int):Fit (R NN d 142 [.int .i64 a0] []) (some (m142 a0)) PB:=by
  obtain ⟨d,rfl,g⟩:=up hd
  refine q_in (t142 NN d _) ?_
  unfold b142 m142
  exact q_c0t (aF3 (cv_p rfl) (cv_p rfl) (cv_p rfl) fun l0_ l1_ l2_=>w74 (by omega) a0 3 8)<|q_ret (cv_p rfl) rfl
def m143 (a0:Int):Bool:=bif a0 == 3 then true else a0 == 5
theorem w143 {d:Nat} (hd:1≤d) (a0:Int):Fit (R NN d 143 [.int .i64 a0] []) (some (m143 a0)) PB:=by
  obtain ⟨d,rfl,g⟩:=up hd
  refine q_in (t143 NN d _) ?_
  unfold b143 m143
  exact q_p fr<|q_gFt (fun h1=>q_ret (cv_p rfl) rfl) fun h1=>q_p fr<|q_ret (cv_p rfl) rfl
def m144 (a0:Int):Option (Bool):=( bif a0 == 4 then some (LO.norm true) else bif a0 == 5 then some (LO.norm true) else some (LO.norm (a0 == 8))).bind (contO (fun s2=>some s2) (fun i1 s2=>none) (fun s2=>some s2))
theorem w144 {d:Nat} (hd:1≤d) (a0:Int):Fit (R NN d 144 [.int .i64 a0] []) (m144 a0) PB:=by
  obtain ⟨d,rfl,g⟩:=up hd
  refine q_in (t144 NN d _) ?_
  unfold b144 m144
  refine q_cu (A:=fun (s:Bool)=>[.bool s]) (B:=fun s=>[]) ?_ ?_ ?_ ?_
  ·exact q_p fr<|q_j (q_norm 0 rr)<|q_p fr<|q_j (q_norm 0 rr)<|q_p fr<|q_norm 0 rr
  ·exact fun s2=>q_ret (cv_p rfl) rfl
  ·exact fun i1 s2=>q_none
  ·exact fun s2=>q_ret (cv_p rfl) rfl
def ms190_0 (a0:Str) (a1:Int) (s1:Int×Int×(List Str)):Option (LO (Int×Int×(List Str))):=bif decide (s1.2.1≤(a0.length:Int)) then ( bif s1.2.1 == (a0.length:Int) then (subI a0 s1.1 s1.2.1).bind fun t2=>(appO 16 s1.2.2 [t2]).bind fun z2=>some (LO.norm (wi .i64 (s1.2.1 + 1),z2)) else (getI a0 s1.2.1).bind fun c1=>bif (c1.toNat:Int) == a1 then (subI a0 s1.1 s1.2.1).bind fun t1=>(appO 16 s1.2.2 [t1]).bind fun z1=>some (LO.norm (wi .i64 (s1.2.1 + 1),z1)) else some (LO.norm (s1.1,s1.2.2))).bind (contO (fun s3=>some (LO.norm (s3.1,wi .i64 (s1.2.1 + 1),s3.2))) (fun i1 s3=>some (LO.exit i1 (s3.1,s1.2.1,s3.2))) (fun s3=>some (LO.ret (s3.1,s1.2.1,s3.2)))) else some (LO.exit 0 (s1.1,s1.2.1,s1.2.2))
def m190 (a0:Str) (a1:Int):Option ((List Str)):=(loopO (ms190_0 a0 a1) NN (0,0,[])).bind (contO (fun _=>none) (fun i2 s4=>if i2 = 0 then some s4.2.2 else none) (fun s4=>some []))
theorem w190 {d:Nat} (hd:1≤d) (a0:Str) (a1:Int):Fit (R NN d 190 [encS a0,.int .u8 a1] []) (m190 a0 a1) (P0 (fun (t:List Str)=>AV.rsl false false (t.map (Enc.cs false)))):=by
  obtain ⟨d,rfl,g⟩:=up hd
  refine q_in (t190 NN d _ _) ?_
  unfold b190 m190
  refine q_q (fun _=>qs114_0)<|q_nil (α:=Str) false<|q_loop (I:=(fun (s:Int×Int×(List Str)) l L=>∃ (v1:AV),l = [v1,.int .i64 s.1,.int .i64 s.2.1]∧L = [sl false v1 (s.2.2:List Str)])) 0 ⟨(.rsl false true []),rfl,rfl⟩ ?_ ?_ ?_
  ·rintro s1 _ _ ⟨v1,rfl,rfl⟩
   unfold s190_0 ms190_0
   refine q_slen<|q_p fr<|q_i ?_ ?_
   ·refine q_cut (I:=(fun (s:Int×(List Str)) l L=>∃ (v2:AV),l = [v2,.int .i64 s.1]∧L = [sl false v2 (s.2:List Str)])) ?_ ?_ ?_ ?_
    ·refine q_slen<|q_p fr<|q_j ?_ ?_
     ·first | refine q_ifT1 ?_ | skip
      exact q_ssub (.inl rfl) (.inl rfl) fun t2 ht2=>q_q (fun _=>qs114_1)<|q_app (ys:=[t2]) 0 rfl rfl (fun _ _=>rfl) fun v3 z2 hz2=>q_p fr<|q_norm 0 ⟨v3,rfl,rfl⟩
     ·exact q_sx fun c1 hc1=>q_p fr<|q_i (q_ssub (.inl rfl) (.inl rfl) fun t1 ht1=>q_q (fun _=>qs114_1)<|q_app (ys:=[t1]) 0 rfl rfl (fun _ _=>rfl) fun v2 z1 hz1=>q_p fr<|q_norm 0 ⟨v2,rfl,rfl⟩)<|q_norm 0 ⟨v1,rfl,rfl⟩
    ·rintro s3 _ _ ⟨v4,rfl,rfl⟩
     exact q_p fr<|q_norm 0 ⟨v4,rfl,rfl⟩
    ·rintro i1 s3 _ _ ⟨v5,rfl,rfl⟩
     exact q_exit 0 ⟨v5,rfl,rfl⟩
    ·rintro s3 _ _ ⟨v6,rfl,rfl⟩
     exact q_lret 0 ⟨v6,rfl,rfl⟩
   ·exact q_exit 0 ⟨v1,rfl,rfl⟩
  ·rintro i2 s4 _ _ ⟨v7,rfl,rfl⟩
   exact q_n (q_ret (cv_o 0 rfl) rfl)<|q_none
  ·rintro s4 _ _ ⟨v8,rfl,rfl⟩
   exact q_ret (cv_r (α:=Str) (l0:=false) (fl:=true) (xs:=[])) rfl
def ms218_0 (a0:Str) (s1:Bool×Int):Option (LO (Bool×Int)):=bif decide (s1.2 < (a0.length:Int)) then ( ( (getI a0 s1.2).bind fun c1=>bif decide ((c1.toNat:Int) < 97) then (getI a0 s1.2).bind fun c5=>bif decide ((c5.toNat:Int) < 48) then some (LO.norm true) else (getI a0 s1.2).bind fun c6=>some (LO.norm (decide ((c6.toNat:Int) > 57))) else (getI a0 s1.2).bind fun c2=>bif decide ((c2.toNat:Int) > 122) then (getI a0 s1.2).bind fun c3=>bif decide ((c3.toNat:Int) < 48) then some (LO.norm true) else (getI a0 s1.2).bind fun c4=>some (LO.norm (decide ((c4.toNat:Int) > 57))) else some (LO.norm false)).bind (contO (fun s4=>bif s4 then some (LO.ret false) else some (LO.norm s1.1)) (fun i1 s4=>if i1 = 1 then some (LO.norm s1.1) else some (LO.exit i1 s1.1)) (fun s4=>some (LO.ret s1.1)))).bind (contO (fun s5=>some (LO.norm (s5,wi .i64 (s1.2 + 1)))) (fun i2 s5=>some (LO.exit i2 (s5,s1.2))) (fun s5=>some (LO.ret (s5,s1.2)))) else some (LO.exit 0 (s1.1,s1.2))
def m218 (a0:Str):Option (Bool):=(loopO (ms218_0 a0) NN (false,0)).bind (contO (fun _=>none) (fun i3 s6=>if i3 = 0 then some (m74 (a0.length:Int) 1 8) else none) (fun s6=>some s6.1))
theorem w218 {d:Nat} (hd:2≤d) (a0:Str):Fit (R NN d 218 [encS a0] []) (m218 a0) PB:=by
  obtain ⟨d,rfl,g⟩:=up hd
  refine q_in (t218 NN d _) ?_
  unfold b218 m218
  refine q_lp (A:=fun (s:Bool×Int)=>[.bool s.1,.int .i64 s.2]) (B:=fun s=>[]) 0 rr ?_ ?_ ?_
  ·intro s1
   unfold s218_0 ms218_0
   refine q_slen<|q_p fr<|q_i ?_ ?_
   ·refine q_cu (A:=fun (s:Bool)=>[.bool s]) (B:=fun s=>[]) ?_ ?_ ?_ ?_
    ·refine q_cu (A:=fun (s:Bool)=>[.bool s]) (B:=fun s=>[]) ?_ ?_ ?_ ?_
     ·exact q_sx fun c1 hc1=>q_p fr<|q_j (q_sx fun c5 hc5=>q_p fr<|q_j (q_norm 0 rr)<|q_sx fun c6 hc6=>q_p fr<|q_norm 0 rr)<|q_sx fun c2 hc2=>q_p fr<|q_k (q_sx fun c3 hc3=>q_p fr<|q_j (q_norm 0 rr)<|q_sx fun c4 hc4=>q_p fr<|q_norm 0 rr)<|q_norm 0 rr
     ·exact fun s4=>q_i (q_lret 0 rr)<|q_norm 0 rr
     ·exact fun i1 s4=>q_n (q_norm 0 rr)<|q_exit 0 rr
     ·exact fun s4=>q_lret 0 rr
    ·exact fun s5=>q_p fr<|q_norm 0 rr
    ·exact fun i2 s5=>q_exit 0 rr
    ·exact fun s5=>q_lret 0 rr
   ·exact q_exit 0 rr
  ·exact fun i3 s6=>q_n (q_slen<|q_c0t (aF3 (cv_p rfl) (cv_p rfl) (cv_p rfl) fun l0_ l1_ l2_=>w74 (by omega) (a0.length:Int) 1 8)<|q_ret (cv_p rfl) rfl)<|q_none
  ·exact fun s6=>q_ret (cv_p rfl) rfl
def ms191_0 (y1:(List Str)) (s3:(List Str)×Bool×Int):Option (LO ((List Str)×Bool×Int)):=bif decide (s3.2.2 < (y1.length:Int)) then (getI y1 s3.2.2).bind fun x2=>(m218 x2).bind fun y2=>bif !y2 then some (LO.ret ([],false,s3.2.2)) else some (LO.norm (s3.1,s3.2.1,wi .i64 (s3.2.2 + 1))) else some (LO.exit 0 (s3.1,s3.2.1,s3.2.2))
def m191 (a0:Str):Option ((List Str)×Bool):=bif a0 == ([47]:Str) then some ([],true) else (m190 a0 47).bind fun y1=>( bif decide ((y1.length:Int) < 2) then some (LO.ret ([],false)) else (getI y1 0).bind fun x1=>bif !(x1 == ([]:Str)) then some (LO.ret ([],false)) else some (LO.norm ([],false))).bind (contO (fun s2=>(loopO (ms191_0 y1) NN (s2.1,s2.2,1)).bind (contO (fun _=>none) (fun i2 s4=>if i2 = 0 then (subI y1 1 (y1.length:Int)).bind fun ys1=>some (ys1,true) else none) (fun s4=>some (s4.1,s4.2.1)))) (fun i1 s2=>none) (fun s2=>some (s2.1,s2.2)))
theorem w191 {d:Nat} (hd:3≤d) (a0:Str):Fit (R NN d 191 [encS a0] []) (m191 a0) (P0 (fun (t:(List Str)×Bool)=>AV.tup [.rsl false false (t.1.map (Enc.cs false)),.bool t.2])):=by
  obtain ⟨d,rfl,g⟩:=up hd
  refine q_in (t191 NN d _) ?_
  unfold b191 m191
  refine q_p (fun _=>seq_eql)<|q_i ?_ ?_
  ·exact q_q (fun _=>qs114_0)<|q_ret (cv_t (cvs_cons (cv_r (α:=Str) (l0:=false) (fl:=true) (xs:=[])) (cvs_cons (cv_p rfl) cvs_nil))) rfl
  ·refine q_c0 (aF2 (cv_p rfl) (cv_p rfl) fun l0_ l1_=>w190 (by omega) a0 47) fun y1 hy1=>q_cut (I:=(fun (s:(List Str)×Bool) l L=>∃ (fl1:Bool),l = [.rsl false fl1 (s.1.map (Enc.cs false)),.bool s.2]∧L = [])) ?_ ?_ ?_ ?_
   ·refine q_len<|q_p fr<|q_j ?_ ?_
    ·first | refine q_ifT1 ?_ | skip
     exact q_lret 0 ⟨true,rfl,rfl⟩
    ·exact q_ix rfl fun x1 hx1=>q_p fr<|q_p (fun _=>seq_neq)<|q_i (q_lret 0 ⟨true,rfl,rfl⟩)<|q_norm 0 ⟨true,rfl,rfl⟩
   ·rintro s2 _ _ ⟨fl1,rfl,rfl⟩
    refine q_loop (I:=(fun (s:(List Str)×Bool×Int) l L=>∃ (fl2:Bool),l = [.rsl false fl2 (s.1.map (Enc.cs false)),.bool s.2.1,.int .i64 s.2.2]∧L = [])) 0 ⟨fl1,rfl,rfl⟩ ?_ ?_ ?_
    ·rintro s3 _ _ ⟨fl2,rfl,rfl⟩
     unfold s191_0 ms191_0
     exact q_len<|q_p fr<|q_i (q_ix rfl fun x2 hx2=>q_p fr<|q_c0 (aF1 (cv_p rfl) fun l0_=>w218 (by omega) x2) fun y2 hy2=>q_p fr<|q_i (q_lret 0 ⟨true,rfl,rfl⟩)<|q_p fr<|q_norm 0 ⟨fl2,rfl,rfl⟩)<|q_exit 0 ⟨fl2,rfl,rfl⟩
    ·rintro i2 s4 _ _ ⟨fl3,rfl,rfl⟩
     exact q_n (q_sub rfl (.inl rfl) (.inr ⟨rfl,rfl⟩) fun fl4 ys1 hys1=>q_ret (cv_t (cvs_cons cv_r (cvs_cons (cv_p rfl) cvs_nil))) rfl)<|q_none
    ·rintro s4 _ _ ⟨fl5,rfl,rfl⟩
     exact q_ret (cv_t (cvs_cons cv_r (cvs_cons (cv_p rfl) cvs_nil))) rfl
   ·rintro i1 s2 _ _ ⟨fl6,rfl,rfl⟩
    exact q_none
   ·rintro s2 _ _ ⟨fl7,rfl,rfl⟩
    exact q_ret (cv_t (cvs_cons cv_r (cvs_cons (cv_p rfl) cvs_nil))) rfl
def m145 (a0:Str):Option (Int):=( ( bif decide ((a0.length:Int) > 24) then some (LO.norm true) else bif !(a0 == ([47]:Str)) then (m190 a0 47).bind fun y1=>some (LO.norm (decide ((y1.length:Int) > 5))) else some (LO.norm false)).bind (contO (fun s3=>bif s3 then some (LO.ret 2) else some (LO.norm 0)) (fun i1 s3=>some (LO.exit i1 0)) (fun s3=>some (LO.ret 0)))).bind (contO (fun s4=>(m191 a0).bind fun y2=>bif !y2.2 then some 5 else some 0) (fun i2 s4=>none) (fun s4=>some s4))
theorem w145 {d:Nat} (hd:4≤d) (a0:Str):Fit (R NN d 145 [encS a0] []) (m145 a0) PI:=by
  obtain ⟨d,rfl,g⟩:=up hd
  refine q_in (t145 NN d _) ?_
  unfold b145 m145
  refine q_cu (A:=fun (s:Int)=>[.int .i64 s]) (B:=fun s=>[]) ?_ ?_ ?_ ?_
  ·refine q_cu (A:=fun (s:Bool)=>[.bool s]) (B:=fun s=>[]) ?_ ?_ ?_ ?_
   ·exact q_slen<|q_p fr<|q_j (q_norm 0 rr)<|q_p (fun _=>seq_neq)<|q_k (q_c0 (aF2 (cv_p rfl) (cv_p rfl) fun l0_ l1_=>w190 (by omega) a0 47) fun y1 hy1=>q_len<|q_p fr<|q_norm 0 rr)<|q_norm 0 rr
   ·exact fun s3=>q_i (q_lret 0 rr)<|q_norm 0 rr
   ·exact fun i1 s3=>q_exit 0 rr
   ·exact fun s3=>q_lret 0 rr
  ·exact fun s4=>q_c0 (aF1 (cv_p rfl) fun l0_=>w191 (by omega) a0) fun y2 hy2=>q_q fr<|q_q fr<|q_p fr<|q_i (q_ret (cv_p rfl) rfl)<|q_ret (cv_p rfl) rfl
  ·exact fun i2 s4=>q_none
  ·exact fun s4=>q_ret (cv_p rfl) rfl
def m146 (a0:Int):Bool:=(m74 a0 0 9999)
theorem w146 {d:Nat} (hd:2≤d) (a0:Int):Fit (R NN d 146 [.int .i64 a0] []) (some (m146 a0)) PB:=by
  obtain ⟨d,rfl,g⟩:=up hd
  refine q_in (t146 NN d _) ?_
  unfold b146 m146
  exact q_c0t (aF3 (cv_p rfl) (cv_p rfl) (cv_p rfl) fun l0_ l1_ l2_=>w74 (by omega) a0 0 9999)<|q_ret (cv_p rfl) rfl
def m99 (a0:TOp):Option (Int):=bif !(m74 a0.Kind 1 8) then some 1 else ( ( bif !(m142 a0.Kind) then bif !(a0.Path == ([]:Str)) then some (LO.norm true) else bif !(m143 a0.Kind) then bif a0.Data != 0 then some (LO.norm true) else (m144 a0.Kind).bind fun y1=>bif !y1 then bif a0.Version != 0 then some (LO.norm true) else bif a0.Kind != 3 then bif a0.Seq then some (LO.norm true) else some (LO.norm a0.Own) else some (LO.norm false) else bif a0.Kind != 3 then bif a0.Seq then some (LO.norm true) else some (LO.norm a0.Own) else some (LO.norm false) else (m144 a0.Kind).bind fun y2=>bif !y2 then bif a0.Version != 0 then some (LO.norm true) else bif a0.Kind != 3 then bif a0.Seq then some (LO.norm true) else some (LO.norm a0.Own) else some (LO.norm false) else bif a0.Kind != 3 then bif a0.Seq then some (LO.norm true) else some (LO.norm a0.Own) else some (LO.norm false) else bif !(m143 a0.Kind) then bif a0.Data != 0 then some (LO.norm true) else (m144 a0.Kind).bind fun y3=>bif !y3 then bif a0.Version != 0 then some (LO.norm true) else bif a0.Kind != 3 then bif a0.Seq then some (LO.norm true) else some (LO.norm a0.Own) else some (LO.norm false) else bif a0.Kind != 3 then bif a0.Seq then some (LO.norm true) else some (LO.norm a0.Own) else some (LO.norm false) else (m144 a0.Kind).bind fun y4=>bif !y4 then bif a0.Version != 0 then some (LO.norm true) else bif a0.Kind != 3 then bif a0.Seq then some (LO.norm true) else some (LO.norm a0.Own) else some (LO.norm false) else bif a0.Kind != 3 then bif a0.Seq then some (LO.norm true) else some (LO.norm a0.Own) else some (LO.norm false)).bind (contO (fun s3=>bif s3 then some (LO.ret 1) else some (LO.norm 0)) (fun i1 s3=>some (LO.exit i1 0)) (fun s3=>some (LO.ret 0)))).bind (contO (fun s4=>( bif (m142 a0.Kind) then (m145 a0.Path).bind fun y5=>bif y5 != 0 then some (LO.ret y5) else some (LO.norm s4) else some (LO.norm s4)).bind (contO (fun s6=>( bif !(m146 a0.Data) then some (LO.ret 3) else bif !(m74 a0.Version (-1) 999) then some (LO.ret 3) else some (LO.norm s6)).bind (contO (fun s8=>some 0) (fun i4 s8=>none) (fun s8=>some s8))) (fun i3 s6=>none) (fun s6=>some s6))) (fun i2 s4=>none) (fun s4=>some s4))
theorem w99 {d:Nat} (hd:5≤d) (k0:Bool) (a0:TOp):Fit (R NN d 99 [.rp k0 (Enc.cs k0 a0)] []) (m99 a0) PI:=by
  obtain ⟨d,rfl,g⟩:=up hd
  refine q_in (t99 NN d _) ?_
  unfold b99 m99
  refine q_q fr<|q_p fr<|q_p fr<|q_c0t (aF3 (cv_p rfl) (cv_p rfl) (cv_p rfl) fun l0_ l1_ l2_=>w74 (by omega) a0.Kind 1 8)<|q_p fr<|q_i ?_ ?_
  ·exact q_ret (cv_p rfl) rfl
  ·refine q_cu (A:=fun (s:Int)=>[.int .i64 s]) (B:=fun s=>[]) ?_ ?_ ?_ ?_
   ·refine q_cu (A:=fun (s:Bool)=>[.bool s]) (B:=fun s=>[]) ?_ ?_ ?_ ?_
    ·exact q_q fr<|q_p fr<|q_p fr<|q_c0t (aF1 (cv_p rfl) fun l0_=>w142 (by omega) a0.Kind)<|q_p fr<|q_k (q_q fr<|q_p fr<|q_p fr<|q_p (fun _=>seq_neq)<|q_j (q_norm 0 rr)<|q_q fr<|q_p fr<|q_p fr<|q_c0t (aF1 (cv_p rfl) fun l0_=>w143 (by omega) a0.Kind)<|q_p fr<|q_k (q_q fr<|q_p fr<|q_p fr<|q_p fr<|q_j (q_norm 0 rr)<|q_q fr<|q_p fr<|q_p fr<|q_c0 (aF1 (cv_p rfl) fun l0_=>w144 (by omega) a0.Kind) fun y1 hy1=>q_p fr<|q_k (q_q fr<|q_p fr<|q_p fr<|q_p fr<|q_j (q_norm 0 rr)<|q_q fr<|q_p fr<|q_p fr<|q_p fr<|q_k (q_q fr<|q_p fr<|q_p fr<|q_j (q_norm 0 rr)<|q_q fr<|q_p fr<|q_p fr<|q_norm 0 rr)<|q_norm 0 rr)<|q_q fr<|q_p fr<|q_p fr<|q_p fr<|q_k (q_q fr<|q_p fr<|q_p fr<|q_j (q_norm 0 rr)<|q_q fr<|q_p fr<|q_p fr<|q_norm 0 rr)<|q_norm 0 rr)<|q_q fr<|q_p fr<|q_p fr<|q_c0 (aF1 (cv_p rfl) fun l0_=>w144 (by omega) a0.Kind) fun y2 hy2=>q_p fr<|q_k (q_q fr<|q_p fr<|q_p fr<|q_p fr<|q_j (q_norm 0 rr)<|q_q fr<|q_p fr<|q_p fr<|q_p fr<|q_k (q_q fr<|q_p fr<|q_p fr<|q_j (q_norm 0 rr)<|q_q fr<|q_p fr<|q_p fr<|q_norm 0 rr)<|q_norm 0 rr)<|q_q fr<|q_p fr<|q_p fr<|q_p fr<|q_k (q_q fr<|q_p fr<|q_p fr<|q_j (q_norm 0 rr)<|q_q fr<|q_p fr<|q_p fr<|q_norm 0 rr)<|q_norm 0 rr)<|q_q fr<|q_p fr<|q_p fr<|q_c0t (aF1 (cv_p rfl) fun l0_=>w143 (by omega) a0.Kind)<|q_p fr<|q_k (q_q fr<|q_p fr<|q_p fr<|q_p fr<|q_j (q_norm 0 rr)<|q_q fr<|q_p fr<|q_p fr<|q_c0 (aF1 (cv_p rfl) fun l0_=>w144 (by omega) a0.Kind) fun y3 hy3=>q_p fr<|q_k (q_q fr<|q_p fr<|q_p fr<|q_p fr<|q_j (q_norm 0 rr)<|q_q fr<|q_p fr<|q_p fr<|q_p fr<|q_k (q_q fr<|q_p fr<|q_p fr<|q_j (q_norm 0 rr)<|q_q fr<|q_p fr<|q_p fr<|q_norm 0 rr)<|q_norm 0 rr)<|q_q fr<|q_p fr<|q_p fr<|q_p fr<|q_k (q_q fr<|q_p fr<|q_p fr<|q_j (q_norm 0 rr)<|q_q fr<|q_p fr<|q_p fr<|q_norm 0 rr)<|q_norm 0 rr)<|q_q fr<|q_p fr<|q_p fr<|q_c0 (aF1 (cv_p rfl) fun l0_=>w144 (by omega) a0.Kind) fun y4 hy4=>q_p fr<|q_k (q_q fr<|q_p fr<|q_p fr<|q_p fr<|q_j (q_norm 0 rr)<|q_q fr<|q_p fr<|q_p fr<|q_p fr<|q_k (q_q fr<|q_p fr<|q_p fr<|q_j (q_norm 0 rr)<|q_q fr<|q_p fr<|q_p fr<|q_norm 0 rr)<|q_norm 0 rr)<|q_q fr<|q_p fr<|q_p fr<|q_p fr<|q_k (q_q fr<|q_p fr<|q_p fr<|q_j (q_norm 0 rr)<|q_q fr<|q_p fr<|q_p fr<|q_norm 0 rr)<|q_norm 0 rr
    ·exact fun s3=>q_i (q_lret 0 rr)<|q_norm 0 rr
    ·exact fun i1 s3=>q_exit 0 rr
    ·exact fun s3=>q_lret 0 rr
   ·intro s4
    refine q_cu (A:=fun (s:Int)=>[.int .i64 s]) (B:=fun s=>[]) ?_ ?_ ?_ ?_
    ·exact q_q fr<|q_p fr<|q_p fr<|q_c0t (aF1 (cv_p rfl) fun l0_=>w142 (by omega) a0.Kind)<|q_i (q_q fr<|q_p fr<|q_p fr<|q_c0 (aF1 (cv_p rfl) fun l0_=>w145 (by omega) a0.Path) fun y5 hy5=>q_p fr<|q_i (q_lret 0 rr)<|q_norm 0 rr)<|q_norm 0 rr
    ·intro s6
     refine q_cu (A:=fun (s:Int)=>[.int .i64 s]) (B:=fun s=>[]) ?_ ?_ ?_ ?_
     ·refine q_q fr<|q_p fr<|q_p fr<|q_c0t (aF1 (cv_p rfl) fun l0_=>w146 (by omega) a0.Data)<|q_p fr<|q_j ?_ ?_
      ·first | refine q_ifT1 ?_ | skip
       exact q_lret 0 rr
      ·exact q_q fr<|q_p fr<|q_p fr<|q_c0t (aF3 (cv_p rfl) (cv_p rfl) (cv_p rfl) fun l0_ l1_ l2_=>w74 (by omega) a0.Version (-1) 999)<|q_p fr<|q_i (q_lret 0 rr)<|q_norm 0 rr
     ·exact fun s8=>q_ret (cv_p rfl) rfl
     ·exact fun i4 s8=>q_none
     ·exact fun s8=>q_ret (cv_p rfl) rfl
    ·exact fun i3 s6=>q_none
    ·exact fun s6=>q_ret (cv_p rfl) rfl
   ·exact fun i2 s4=>q_none
   ·exact fun s4=>q_ret (cv_p rfl) rfl
def ms49_0 (a0:TRequest) (s7:Int×Int):Option (LO (Int×Int)):=bif decide (s7.2 < (a0.Ops.length:Int)) then (getI a0.Ops s7.2).bind fun x1=>(m99 x1).bind fun y1=>bif y1 != 0 then some (LO.ret (y1,s7.2)) else some (LO.norm (s7.1,wi .i64 (s7.2 + 1))) else some (LO.exit 0 (s7.1,s7.2))
def ms49_1 (a0:TRequest) (s9:Int×Int):Option (LO (Int×Int)):=( ( bif decide (s9.2 < (a0.Ops.length:Int)) then some (LO.norm (decide ((a0.Ops.length:Int) > 1))) else some (LO.norm false)).bind (contO (fun s12=>bif s12 then some (LO.norm s12) else some (LO.exit 2 s12)) (fun i5 s12=>some (LO.exit i5 s12)) (fun s12=>some (LO.ret s12)))).bind (contO (fun s13=>(getI a0.Ops s9.2).bind fun x2=>bif decide (x2.Kind≤2) then some (LO.ret (1,s9.2)) else some (LO.norm (s9.1,wi .i64 (s9.2 + 1)))) (fun i6 s13=>some (LO.exit i6 (s9.1,s9.2))) (fun s13=>some (LO.ret (s9.1,s9.2))))
def m49 (a0:TRequest):Option (Int):=( ( bif !(m97 a0.Client) then some (LO.norm true) else bif !(m74 a0.Number 1 99) then some (LO.norm true) else some (LO.norm (!(m98 a0.Time)))).bind (contO (fun s3=>bif s3 then some (LO.ret 3) else some (LO.norm 0)) (fun i1 s3=>some (LO.exit i1 0)) (fun s3=>some (LO.ret 0)))).bind (contO (fun s4=>( bif decide ((a0.Ops.length:Int) < 1) then some (LO.ret 2) else bif decide ((a0.Ops.length:Int) > 3) then some (LO.ret 2) else some (LO.norm s4)).bind (contO (fun s6=>(loopO (ms49_0 a0) NN (s6,0)).bind (contO (fun _=>none) (fun i4 s8=>if i4 = 0 then (loopO (ms49_1 a0) NN (s8.1,0)).bind (contO (fun _=>none) (fun i7 s14=>if i7 = 2 then some 0 else none) (fun s14=>some s14.1)) else none) (fun s8=>some s8.1))) (fun i3 s6=>none) (fun s6=>some s6))) (fun i2 s4=>none) (fun s4=>some s4))
theorem w49 {d:Nat} (hd:6≤d) (k0:Bool) (a0:TRequest):Fit (R NN d 49 [.rp k0 (Enc.cs k0 a0)] []) (m49 a0) PI:=by
  obtain ⟨d,rfl,g⟩:=up hd
  refine q_in (t49 NN d _) ?_
  unfold b49 m49
  refine q_cu (A:=fun (s:Int)=>[.int .i64 s]) (B:=fun s=>[]) ?_ ?_ ?_ ?_
  ·refine q_cu (A:=fun (s:Bool)=>[.bool s]) (B:=fun s=>[]) ?_ ?_ ?_ ?_
   ·exact q_q fr<|q_p fr<|q_p fr<|q_c0t (aF1 (cv_p rfl) fun l0_=>w97 (by omega) a0.Client)<|q_p fr<|q_j (q_norm 0 rr)<|q_q fr<|q_p fr<|q_p fr<|q_c0t (aF3 (cv_p rfl) (cv_p rfl) (cv_p rfl) fun l0_ l1_ l2_=>w74 (by omega) a0.Number 1 99)<|q_p fr<|q_j (q_norm 0 rr)<|q_q fr<|q_p fr<|q_p fr<|q_c0t (aF1 (cv_p rfl) fun l0_=>w98 (by omega) a0.Time)<|q_p fr<|q_norm 0 rr
   ·exact fun s3=>q_i (q_lret 0 rr)<|q_norm 0 rr
   ·exact fun i1 s3=>q_exit 0 rr
   ·exact fun s3=>q_lret 0 rr
  ·intro s4
   refine q_cu (A:=fun (s:Int)=>[.int .i64 s]) (B:=fun s=>[]) ?_ ?_ ?_ ?_
   ·refine q_q fr<|q_p fr<|q_p fr<|q_len<|q_p fr<|q_j ?_ ?_
    ·first | refine q_ifT1 ?_ | skip
     exact q_lret 0 rr
    ·exact q_q fr<|q_p fr<|q_p fr<|q_len<|q_p fr<|q_i (q_lret 0 rr)<|q_norm 0 rr
   ·intro s6
    refine q_lp (A:=fun (s:Int×Int)=>[.int .i64 s.1,.int .i64 s.2]) (B:=fun s=>[]) 0 rr ?_ ?_ ?_
    ·intro s7
     unfold s49_0 ms49_0
     exact q_q fr<|q_p fr<|q_p fr<|q_len<|q_p fr<|q_i (q_q fr<|q_p fr<|q_p fr<|q_ix rfl fun x1 hx1=>q_c0 (aF1 (cv_rp (cvs_e (l0:=k0) (x:=x1)) (fun _ _ _ h=>Enc.frz k0 x1 _ _ _ h)) fun l0_=>w99 (by omega) l0_ x1) fun y1 hy1=>q_p fr<|q_i (q_lret 0 rr)<|q_p fr<|q_norm 0 rr)<|q_exit 0 rr
    ·intro i4 s8
     refine q_n ?_ ?_
     ·refine q_lp (A:=fun (s:Int×Int)=>[.int .i64 s.1,.int .i64 s.2]) (B:=fun s=>[]) 0 rr ?_ ?_ ?_
      ·intro s9
       unfold s49_1 ms49_1
       refine q_cu (A:=fun (s:Bool)=>[.bool s]) (B:=fun s=>[]) ?_ ?_ ?_ ?_
       ·refine q_cu (A:=fun (s:Bool)=>[.bool s]) (B:=fun s=>[]) ?_ ?_ ?_ ?_
        ·exact q_q fr<|q_p fr<|q_p fr<|q_len<|q_p fr<|q_k (q_q fr<|q_p fr<|q_p fr<|q_len<|q_p fr<|q_norm 0 rr)<|q_norm 0 rr
        ·exact fun s12=>q_i (q_norm 0 rr)<|q_exit 0 rr
        ·exact fun i5 s12=>q_exit 0 rr
        ·exact fun s12=>q_lret 0 rr
       ·exact fun s13=>q_q fr<|q_p fr<|q_p fr<|q_ix rfl fun x2 hx2=>q_p fr<|q_p fr<|q_p fr<|q_i (q_lret 0 rr)<|q_p fr<|q_norm 0 rr
       ·exact fun i6 s13=>q_exit 0 rr
       ·exact fun s13=>q_lret 0 rr
      ·exact fun i7 s14=>q_n (q_ret (cv_p rfl) rfl)<|q_none
      ·exact fun s14=>q_ret (cv_p rfl) rfl
     ·exact q_none
    ·exact fun s8=>q_ret (cv_p rfl) rfl
   ·exact fun i3 s6=>q_none
   ·exact fun s6=>q_ret (cv_p rfl) rfl
  ·exact fun i2 s4=>q_none
  ·exact fun s4=>q_ret (cv_p rfl) rfl
def ms50_0 (a0:List TRequest) (a1:Int) (a2:Int) (s1:Int×Int):Option (LO (Int×Int)):=bif decide (s1.2 < (a0.length:Int)) then ( (getI a0 s1.2).bind fun x1=>bif x1.Client == a1 then (getI a0 s1.2).bind fun x2=>bif x2.Number == a2 then some (LO.ret s1.2) else some (LO.norm s1.1) else some (LO.norm s1.1)).bind (contO (fun s3=>some (LO.norm (s3,wi .i64 (s1.2 + 1)))) (fun i1 s3=>some (LO.exit i1 (s3,s1.2))) (fun s3=>some (LO.ret (s3,s1.2)))) else some (LO.exit 0 (s1.1,s1.2))
def m50 (a0:List TRequest) (a1:Int) (a2:Int):Option (Int):=(loopO (ms50_0 a0 a1 a2) NN (0,0)).bind (contO (fun _=>none) (fun i2 s4=>if i2 = 0 then some (-1) else none) (fun s4=>some s4.1))
theorem w50 {d:Nat} (hd:1≤d) (k0:Bool) (a0:List TRequest) (a1:Int) (a2:Int):Fit (R NN d 50 [.rsl k0 false (a0.map (Enc.cs k0)),.int .i64 a1,.int .i64 a2] []) (m50 a0 a1 a2) PI:=by
  obtain ⟨d,rfl,g⟩:=up hd
  refine q_in (t50 NN d _ _ _) ?_
  unfold b50 m50
  refine q_lp (A:=fun (s:Int×Int)=>[.int .i64 s.1,.int .i64 s.2]) (B:=fun s=>[]) 0 rr ?_ ?_ ?_
  ·intro s1
   unfold s50_0 ms50_0
   refine q_len<|q_p fr<|q_i ?_ ?_
   ·refine q_cu (A:=fun (s:Int)=>[.int .i64 s]) (B:=fun s=>[]) ?_ ?_ ?_ ?_
    ·refine q_ix rfl fun x1 hx1=>q_p fr<|q_p fr<|q_p fr<|q_k ?_ ?_
     ·exact q_ix rfl fun x2 hx2=>q_p fr<|q_p fr<|q_p fr<|q_i (q_lret 0 rr)<|q_norm 0 rr
     ·first | refine q_ifF1 ?_ | skip
      exact q_norm 0 rr
    ·exact fun s3=>q_p fr<|q_norm 0 rr
    ·exact fun i1 s3=>q_exit 0 rr
    ·exact fun s3=>q_lret 0 rr
   ·exact q_exit 0 rr
  ·exact fun i2 s4=>q_n (q_ret (cv_p rfl) rfl)<|q_none
  ·exact fun s4=>q_ret (cv_p rfl) rfl
def ms21_0 (a0:TCluster) (s1:Int×Int):Option (LO (Int×Int)):=bif decide (s1.2 < (a0.Requests.length:Int)) then (getI a0.Requests s1.2).bind fun x1=>(m49 x1).bind fun y4=>bif y4 != 0 then some (LO.ret (y4,s1.2)) else (getI a0.Requests s1.2).bind fun x2=>(getI a0.Requests s1.2).bind fun x3=>(m50 a0.Requests x2.Client x3.Number).bind fun y5=>bif y5 != s1.2 then some (LO.ret (6,s1.2)) else some (LO.norm (s1.1,wi .i64 (s1.2 + 1))) else some (LO.exit 0 (s1.1,s1.2))
def m21 (a0:TCluster):Option (Int):=(m46 a0.F a0.Ledger).bind fun y1=>bif y1 != 0 then some y1 else bif decide ((a0.Requests.length:Int) > 12) then some 2 else (m47 a0.F a0.Bad).bind fun y2=>bif y2 != 0 then some y2 else (m48 a0).bind fun y3=>bif y3 != 0 then some y3 else (loopO (ms21_0 a0) NN (0,0)).bind (contO (fun _=>none) (fun i1 s2=>if i1 = 0 then some 0 else none) (fun s2=>some s2.1))
theorem w21 {d:Nat} (hd:10≤d) (k0:Bool) (a0:TCluster):Fit (R NN d 21 [.rp k0 (Enc.cs k0 a0)] []) (m21 a0) PI:=by
  obtain ⟨d,rfl,g⟩:=up hd
  refine q_in (t21 NN d _) ?_
  unfold b21 m21
  refine q_q fr<|q_p fr<|q_p fr<|q_q fr<|q_p fr<|q_p fr<|q_c0 (aF2 (cv_p rfl) cv_r fun l0_ l1_=>w46 (by omega) a0.F l1_ a0.Ledger) fun y1 hy1=>q_p fr<|q_i ?_ ?_
  ·exact q_ret (cv_p rfl) rfl
  ·refine q_q fr<|q_p fr<|q_p fr<|q_len<|q_p fr<|q_i ?_ ?_
   ·exact q_ret (cv_p rfl) rfl
   ·refine q_q fr<|q_p fr<|q_p fr<|q_q fr<|q_p fr<|q_p fr<|q_c0 (aF2 (cv_p rfl) cv_r fun l0_ l1_=>w47 (by omega) a0.F l1_ a0.Bad) fun y2 hy2=>q_p fr<|q_i ?_ ?_
    ·exact q_ret (cv_p rfl) rfl
    ·refine q_c0 (aF1 (cv_rp (cvs_e (l0:=k0) (x:=a0)) (fun _ _ _ h=>Enc.frz k0 a0 _ _ _ h)) fun l0_=>w48 (by omega) l0_ a0) fun y3 hy3=>q_p fr<|q_i ?_ ?_
     ·exact q_ret (cv_p rfl) rfl
     ·refine q_lp (A:=fun (s:Int×Int)=>[.int .i64 s.1,.int .i64 s.2]) (B:=fun s=>[]) 0 rr ?_ ?_ ?_
      ·intro s1
       unfold s21_0 ms21_0
       exact q_q fr<|q_p fr<|q_p fr<|q_len<|q_p fr<|q_i (q_q fr<|q_p fr<|q_p fr<|q_ix rfl fun x1 hx1=>q_c0 (aF1 (cv_rp (cvs_e (l0:=k0) (x:=x1)) (fun _ _ _ h=>Enc.frz k0 x1 _ _ _ h)) fun l0_=>w49 (by omega) l0_ x1) fun y4 hy4=>q_p fr<|q_i (q_lret 0 rr)<|q_q fr<|q_p fr<|q_p fr<|q_q fr<|q_p fr<|q_p fr<|q_ix rfl fun x2 hx2=>q_p fr<|q_p fr<|q_q fr<|q_p fr<|q_p fr<|q_ix rfl fun x3 hx3=>q_p fr<|q_p fr<|q_c0 (aF3 cv_r (cv_p rfl) (cv_p rfl) fun l0_ l1_ l2_=>w50 (by omega) l0_ a0.Requests x2.Client x3.Number) fun y5 hy5=>q_p fr<|q_i (q_lret 0 rr)<|q_p fr<|q_norm 0 rr)<|q_exit 0 rr
      ·exact fun i1 s2=>q_n (q_ret (cv_p rfl) rfl)<|q_none
      ·exact fun s2=>q_ret (cv_p rfl) rfl
def m51 (a0:TReplica):Bool:=bif a0.View == 0 then true else a0.Start != (-1)
theorem w51 {d:Nat} (hd:1≤d) (k0:Bool) (a0:TReplica):Fit (R NN d 51 [.rp k0 (Enc.cs k0 a0)] []) (some (m51 a0)) PB:=by
  obtain ⟨d,rfl,g⟩:=up hd
  refine q_in (t51 NN d _) ?_
  unfold b51 m51
  exact q_q fr<|q_p fr<|q_p fr<|q_p fr<|q_gFt (fun h1=>q_ret (cv_p rfl) rfl) fun h1=>q_q fr<|q_p fr<|q_p fr<|q_p fr<|q_ret (cv_p rfl) rfl
def m52F (rec_:Int→Option (Str)) (a0:Int):Option (Str):=bif decide (a0 < 0) then (rec_ (wi .i64 (0 - a0))).bind fun y1=>(catO ([45]:Str) y1).bind fun t1=>some t1 else bif decide (a0 < 10) then some ([UInt8.ofNat (Int.toNat (wi .u8 (wi .i64 (48 + a0))))]:Str) else (rec_ (wi .i64 (Int.tdiv a0 10))).bind fun y2=>(catO y2 ([UInt8.ofNat (Int.toNat (wi .u8 (wi .i64 (48 + (Int.tmod a0 10)))))]:Str)).bind fun t2=>some t2
def m52 (n:Nat):Int→Option (Str):=Nat.rec (fun _=>none) (fun _ ih=>m52F ih) n
theorem w52:∀ (n d:Nat) (hd:n + 65≤d) (a0:Int),Fit (R NN d 52 [.int .i64 a0] []) (m52 n a0) (P0 encS)
  | 0,_,_,a0=>(fun t ht=>by cases ht)
  | n + 1,d,hd,a0=>by
    have ih:=w52 n
    obtain ⟨d,rfl,g⟩:=up (n:=n + 65) (d:=d) (by omega)
    refine q_in (t52 NN d _) ?_
    rw [show m52 (n + 1) = m52F (m52 n) from rfl]
    unfold b52 m52F
    refine q_p fr<|q_i ?_ ?_
    ·exact q_p fr<|q_c0 (aF1 (cv_p rfl) fun l0_=>ih d (by omega) (wi .i64 (0 - a0))) fun y1 hy1=>q_cat fun t1 ht1=>q_ret (cv_p rfl) rfl
    ·refine q_p fr<|q_i ?_ ?_
     ·exact q_p fr<|q_p (fun _=>cvt2_5 _ _)<|q_q (fun _=>qb142)<|q_p (fun _=>cvb142_9 _ _)<|q_ret (cv_p rfl) rfl
     ·exact q_p fr<|q_c0 (aF1 (cv_p rfl) fun l0_=>ih d (by omega) (wi .i64 (Int.tdiv a0 10))) fun y2 hy2=>q_p fr<|q_p fr<|q_p (fun _=>cvt2_5 _ _)<|q_q (fun _=>qb142)<|q_p (fun _=>cvb142_9 _ _)<|q_cat2 fun t2 ht2=>q_ret (cv_p rfl) rfl
def ms22_0 (a0:TCluster) (s1:Str×Int):Option (LO (Str×Int)):=bif decide (s1.2 < (a0.Replicas.length:Int)) then ( (getI a0.Replicas s1.2).bind fun x1=>( bif (m51 x1) then some (LO.norm ([32,105,110,32]:Str)) else some (LO.norm ([32,111,117,116,32]:Str))).bind (contO (fun s4=>(catO s1.1 ([114,101,112,108,105,99,97,32]:Str)).bind fun t1=>(m52 64 x1.Id).bind fun y1=>(catO t1 y1).bind fun t2=>(catO t2 ([32]:Str)).bind fun t3=>(m52 64 x1.View).bind fun y2=>(catO t3 y2).bind fun t4=>(catO t4 s4).bind fun t5=>(m52 64 x1.Done).bind fun y3=>(catO t5 y3).bind fun t6=>(catO t6 ([10]:Str)).bind fun t7=>some (LO.norm t7)) (fun i1 s4=>if i1 = 1 then some (LO.norm s1.1) else some (LO.exit i1 s1.1)) (fun s4=>some (LO.ret s1.1)))).bind (contO (fun s5=>some (LO.norm (s5,wi .i64 (s1.2 + 1)))) (fun i2 s5=>some (LO.exit i2 (s5,s1.2))) (fun s5=>some (LO.ret (s5,s1.2)))) else some (LO.exit 0 (s1.1,s1.2))
def ms22_1 (y4:(List Int)) (s7:Str×Int):Option (LO (Str×Int)):=bif decide (s7.2 < (y4.length:Int)) then (catO s7.1 ([32]:Str)).bind fun t9=>(getI y4 s7.2).bind fun x2=>(m52 64 x2).bind fun y5=>(catO t9 y5).bind fun t10=>some (LO.norm (t10,wi .i64 (s7.2 + 1))) else some (LO.exit 2 (s7.1,s7.2))
def m22 (a0:TCluster):Option (Str):=(loopO (ms22_0 a0) NN (([]:Str),0)).bind (contO (fun _=>none) (fun i3 s6=>if i3 = 0 then (catO s6.1 ([108,111,103]:Str)).bind fun t8=>(m53 a0.F a0.Ledger).bind fun y4=>(loopO (ms22_1 y4) NN (t8,0)).bind (contO (fun _=>none) (fun i4 s8=>if i4 = 2 then (catO s8.1 ([10]:Str)).bind fun t11=>some t11 else none) (fun s8=>some ([]:Str))) else none) (fun s6=>some ([]:Str)))
theorem w22 {d:Nat} (hd:130≤d) (k0:Bool) (a0:TCluster):Fit (R NN d 22 [.rp k0 (Enc.cs k0 a0)] []) (m22 a0) (P0 encS):=by
  obtain ⟨d,rfl,g⟩:=up hd
  refine q_in (t22 NN d _) ?_
  unfold b22 m22
  refine q_lp (A:=fun (s:Str×Int)=>[encS s.1,.int .i64 s.2]) (B:=fun s=>[]) 0 rr ?_ ?_ ?_
  ·intro s1
   unfold s22_0 ms22_0
   refine q_q fr<|q_p fr<|q_p fr<|q_len<|q_p fr<|q_i ?_ ?_
   ·refine q_cu (A:=fun (s:Str)=>[encS s]) (B:=fun s=>[]) ?_ ?_ ?_ ?_
    ·refine q_q fr<|q_p fr<|q_p fr<|q_ix rfl fun x1 hx1=>q_cu (A:=fun (s:Str)=>[encS s]) (B:=fun s=>[]) ?_ ?_ ?_ ?_
     ·exact q_c0t (aF1 (cv_rp (cvs_e (l0:=k0) (x:=x1)) (fun _ _ _ h=>Enc.frz k0 x1 _ _ _ h)) fun l0_=>w51 (by omega) l0_ x1)<|q_i (q_norm 0 rr)<|q_norm 0 rr
     ·exact fun s4=>q_cat fun t1 ht1=>q_q fr<|q_p fr<|q_p fr<|q_c0 (aF1 (cv_p rfl) fun l0_=>w52 64 _ (by omega) x1.Id) fun y1 hy1=>q_cat2 fun t2 ht2=>q_cat fun t3 ht3=>q_q fr<|q_p fr<|q_p fr<|q_c0 (aF1 (cv_p rfl) fun l0_=>w52 64 _ (by omega) x1.View) fun y2 hy2=>q_cat2 fun t4 ht4=>q_cat2 fun t5 ht5=>q_q fr<|q_p fr<|q_p fr<|q_c0 (aF1 (cv_p rfl) fun l0_=>w52 64 _ (by omega) x1.Done) fun y3 hy3=>q_cat2 fun t6 ht6=>q_cat fun t7 ht7=>q_norm 0 rr
     ·exact fun i1 s4=>q_n (q_norm 0 rr)<|q_exit 0 rr
     ·exact fun s4=>q_lret 0 rr
    ·exact fun s5=>q_p fr<|q_norm 0 rr
    ·exact fun i2 s5=>q_exit 0 rr
    ·exact fun s5=>q_lret 0 rr
   ·exact q_exit 0 rr
  ·intro i3 s6
   refine q_n ?_ ?_
   ·refine q_cat fun t8 ht8=>q_q fr<|q_p fr<|q_p fr<|q_q fr<|q_p fr<|q_p fr<|q_c0 (aF2 (cv_p rfl) cv_r fun l0_ l1_=>w53 (by omega) a0.F l1_ a0.Ledger) fun y4 hy4=>q_lp (A:=fun (s:Str×Int)=>[encS s.1,.int .i64 s.2]) (B:=fun s=>[]) 0 rr ?_ ?_ ?_
    ·intro s7
     unfold s22_1 ms22_1
     exact q_len<|q_p fr<|q_i (q_cat fun t9 ht9=>q_ix rfl fun x2 hx2=>q_p fr<|q_c0 (aF1 (cv_p rfl) fun l0_=>w52 64 _ (by omega) x2) fun y5 hy5=>q_cat2 fun t10 ht10=>q_p fr<|q_norm 0 rr)<|q_exit 0 rr
    ·exact fun i4 s8=>q_n (q_cat fun t11 ht11=>q_ret (cv_p rfl) rfl)<|q_none
    ·exact fun s8=>q_ret (cv_p rfl) rfl
   ·exact q_none
  ·exact fun s6=>q_ret (cv_p rfl) rfl
def m6 (a0:TCluster):Option (TTextResult):=(m21 a0).bind fun y1=>bif y1 != 0 then some (⟨y1,[]⟩:TTextResult) else (m22 a0).bind fun y2=>some (⟨0,y2⟩:TTextResult)
theorem w6 {d:Nat} (hd:131≤d) (k0:Bool) (a0:TCluster):Fit (R NN d 6 [.agg (Enc.cs k0 a0)] []) (m6 a0) (P0 (fun (t:TTextResult)=>AV.agg (Enc.cs false t))):=by
  obtain ⟨d,rfl,g⟩:=up hd
  refine q_in (t6 NN d _) ?_
  unfold b6 m6
  exact q_box (n:=5) rfl rfl (by decide) fun b1=>q_new rfl fun b2=>q_c0 (aF1 (cv_b 1 rfl (cvs_cons (cv_p rfl) (cvs_cons cv_r (cvs_cons cv_r (cvs_cons cv_r (cvs_cons cv_r cvs_nil)))))) fun l0_=>w21 (by omega) l0_ a0) fun y1 hy1=>q_p fr<|q_i (q_p (fun _=>bd30_0 rfl)<|q_st 0 rfl rfl rfl (by decide) rfl<|q_retm (fun S hS=>hS.lda 0 rfl rfl) (cv_a (cvs_cons (cv_p rfl) (cvs_cons (cv_p rfl) cvs_nil))) rfl)<|q_c0 (aF1 (cv_b 1 rfl (cvs_cons (cv_p rfl) (cvs_cons cv_r (cvs_cons cv_r (cvs_cons cv_r (cvs_cons cv_r cvs_nil)))))) fun l0_=>w22 (by omega) l0_ a0) fun y2 hy2=>q_p (fun _=>bd30_1 rfl)<|q_st 0 rfl rfl rfl (by decide) rfl<|q_retm (fun S hS=>hS.lda 0 rfl rfl) (cv_a (cvs_cons (cv_p rfl) (cvs_cons (cv_p rfl) cvs_nil))) rfl
def ms23_0 (a0:List Int) (s1:Int×(List Int)):Option (LO (Int×(List Int))):=bif decide (s1.1 < (a0.length:Int)) then (getI a0 s1.1).bind fun x1=>(getI s1.2 s1.1).bind fun x2=>some (LO.norm (wi .i64 (s1.1 + 1),s1.2.set (Int.toNat s1.1) x1)) else some (LO.exit 0 (s1.1,s1.2))
def m23 (a0:List Int):Option ((List Int)):=(mkO 8 (a0.length:Int) 0).bind fun z1=>(loopO (ms23_0 a0) NN (0,z1)).bind (contO (fun _=>none) (fun i1 s2=>if i1 = 0 then some s2.2 else none) (fun s2=>some []))
theorem w23 {d:Nat} (hd:1≤d) (k0:Bool) (a0:List Int):Fit (R NN d 23 [.rsl k0 false (a0.map (Enc.cs k0))] []) (m23 a0) (P0 (fun (t:List Int)=>AV.rsl false false (t.map (Enc.cs false)))):=by
  obtain ⟨d,rfl,g⟩:=up hd
  refine q_in (t23 NN d _) ?_
  unfold b23 m23
  refine q_len<|q_mk (z:=0) mk22 fun v1 z1 hz1=>q_lp (A:=fun (s:Int×(List Int))=>[.int .i64 s.1]) (B:=fun s=>[sl false v1 (s.2:List Int)]) 0 rr ?_ ?_ ?_
  ·intro s1
   unfold s23_0 ms23_0
   exact q_len<|q_p fr<|q_i (q_ix rfl fun x1 hx1=>q_p fr<|q_ixo 0 rfl rfl fun x2 hx2=>q_stoe (y:=x1) 0 rfl rfl hx2 rfl (by decide)<|q_p fr<|q_norm 0 rr)<|q_exit 0 rr
  ·exact fun i1 s2=>q_n (q_ret (cv_o 0 rfl) rfl)<|q_none
  ·exact fun s2=>q_ret (cv_r (α:=Int) (l0:=false) (fl:=true) (xs:=[])) rfl
def m54 (a0:TReplica):TReplica:=a0
theorem w54 {d:Nat} (hd:1≤d) (k0:Bool) (a0:TReplica):Fit (R NN d 54 [.agg (Enc.cs k0 a0)] []) (some (m54 a0)) (P0 (fun (t:TReplica)=>AV.agg (Enc.cs false t))):=by
  obtain ⟨d,rfl,g⟩:=up hd
  refine q_in (t54 NN d _) ?_
  unfold b54 m54
  exact q_box (n:=4) rfl rfl (by decide) fun b1=>q_new rfl fun b2=>q_new rfl fun b3=>q_p fr<|q_ld 2 rfl rfl<|q_p fr<|q_st 0 rfl rfl rfl (by decide) rfl<|q_p fr<|q_ld 2 rfl rfl<|q_p fr<|q_st 0 rfl rfl rfl (by decide) rfl<|q_p fr<|q_ld 2 rfl rfl<|q_p fr<|q_st 0 rfl rfl rfl (by decide) rfl<|q_p fr<|q_ld 2 rfl rfl<|q_p fr<|q_st 0 rfl rfl rfl (by decide) rfl<|q_lda 0 rfl rfl rfl<|q_st 1 rfl rfl rfl (by decide) rfl<|q_retm (fun S hS=>hS.lda 1 rfl rfl) (cv_a (cvs_e (l0:=false) (x:=a0))) rfl
def ms24_0 (a0:List TReplica) (s1:Int×(List TReplica)):Option (LO (Int×(List TReplica))):=bif decide (s1.1 < (a0.length:Int)) then (getI a0 s1.1).bind fun x1=>(getI s1.2 s1.1).bind fun x2=>some (LO.norm (wi .i64 (s1.1 + 1),s1.2.set (Int.toNat s1.1) (m54 x1))) else some (LO.exit 0 (s1.1,s1.2))
def m24 (a0:List TReplica):Option ((List TReplica)):=(mkO 32 (a0.length:Int) (⟨0,0,0,0⟩:TReplica)).bind fun z1=>(loopO (ms24_0 a0) NN (0,z1)).bind (contO (fun _=>none) (fun i1 s2=>if i1 = 0 then some s2.2 else none) (fun s2=>some []))
theorem w24 {d:Nat} (hd:2≤d) (k0:Bool) (a0:List TReplica):Fit (R NN d 24 [.rsl k0 false (a0.map (Enc.cs k0))] []) (m24 a0) (P0 (fun (t:List TReplica)=>AV.rsl false false (t.map (Enc.cs false)))):=by
  obtain ⟨d,rfl,g⟩:=up hd
  refine q_in (t24 NN d _) ?_
  unfold b24 m24
  refine q_len<|q_mk (z:=(⟨0,0,0,0⟩:TReplica)) mk32 fun v1 z1 hz1=>q_lp (A:=fun (s:Int×(List TReplica))=>[.int .i64 s.1]) (B:=fun s=>[sl false v1 (s.2:List TReplica)]) 0 rr ?_ ?_ ?_
  ·intro s1
   unfold s24_0 ms24_0
   exact q_len<|q_p fr<|q_i (q_ix rfl fun x1 hx1=>q_p fr<|q_c0t (aF1 (cv_a (cvs_e (l0:=k0) (x:=x1))) fun l0_=>w54 (by omega) l0_ x1)<|q_ixo 0 rfl rfl fun x2 hx2=>q_stoe (y:=(m54 x1)) 0 rfl rfl hx2 rfl (by decide)<|q_p fr<|q_norm 0 rr)<|q_exit 0 rr
  ·exact fun i1 s2=>q_n (q_ret (cv_o 0 rfl) rfl)<|q_none
  ·exact fun s2=>q_ret (cv_r (α:=TReplica) (l0:=false) (fl:=true) (xs:=[])) rfl
def m148 (a0:TCert):TCert:=a0
theorem w148 {d:Nat} (hd:1≤d) (k0:Bool) (a0:TCert):Fit (R NN d 148 [.agg (Enc.cs k0 a0)] []) (some (m148 a0)) (P0 (fun (t:TCert)=>AV.agg (Enc.cs false t))):=by
  obtain ⟨d,rfl,g⟩:=up hd
  refine q_in (t148 NN d _) ?_
  unfold b148 m148
  exact q_box (n:=3) rfl rfl (by decide) fun b1=>q_new rfl fun b2=>q_new rfl fun b3=>q_p fr<|q_ld 2 rfl rfl<|q_p fr<|q_st 0 rfl rfl rfl (by decide) rfl<|q_p fr<|q_ld 2 rfl rfl<|q_p fr<|q_st 0 rfl rfl rfl (by decide) rfl<|q_p fr<|q_ld 2 rfl rfl<|q_p fr<|q_st 0 rfl rfl rfl (by decide) rfl<|q_lda 0 rfl rfl rfl<|q_st 1 rfl rfl rfl (by decide) rfl<|q_retm (fun S hS=>hS.lda 1 rfl rfl) (cv_a (cvs_e (l0:=false) (x:=a0))) rfl
def ms101_0 (a0:List TCert) (s1:Int×(List TCert)):Option (LO (Int×(List TCert))):=bif decide (s1.1 < (a0.length:Int)) then (getI a0 s1.1).bind fun x1=>(getI s1.2 s1.1).bind fun x2=>some (LO.norm (wi .i64 (s1.1 + 1),s1.2.set (Int.toNat s1.1) (m148 x1))) else some (LO.exit 0 (s1.1,s1.2))
def m101 (a0:List TCert):Option ((List TCert)):=(mkO 24 (a0.length:Int) (⟨0,0,0⟩:TCert)).bind fun z1=>(loopO (ms101_0 a0) NN (0,z1)).bind (contO (fun _=>none) (fun i1 s2=>if i1 = 0 then some s2.2 else none) (fun s2=>some []))
theorem w101 {d:Nat} (hd:2≤d) (k0:Bool) (a0:List TCert):Fit (R NN d 101 [.rsl k0 false (a0.map (Enc.cs k0))] []) (m101 a0) (P0 (fun (t:List TCert)=>AV.rsl false false (t.map (Enc.cs false)))):=by
  obtain ⟨d,rfl,g⟩:=up hd
  refine q_in (t101 NN d _) ?_
  unfold b101 m101
  refine q_len<|q_mk (z:=(⟨0,0,0⟩:TCert)) mk68 fun v1 z1 hz1=>q_lp (A:=fun (s:Int×(List TCert))=>[.int .i64 s.1]) (B:=fun s=>[sl false v1 (s.2:List TCert)]) 0 rr ?_ ?_ ?_
  ·intro s1
   unfold s101_0 ms101_0
   exact q_len<|q_p fr<|q_i (q_ix rfl fun x1 hx1=>q_p fr<|q_c0t (aF1 (cv_a (cvs_e (l0:=k0) (x:=x1))) fun l0_=>w148 (by omega) l0_ x1)<|q_ixo 0 rfl rfl fun x2 hx2=>q_stoe (y:=(m148 x1)) 0 rfl rfl hx2 rfl (by decide)<|q_p fr<|q_norm 0 rr)<|q_exit 0 rr
  ·exact fun i1 s2=>q_n (q_ret (cv_o 0 rfl) rfl)<|q_none
  ·exact fun s2=>q_ret (cv_r (α:=TCert) (l0:=false) (fl:=true) (xs:=[])) rfl
def m55 (a0:TMsg):Option (TMsg):=(m101 a0.Certs).bind fun y1=>(m23 a0.Refs).bind fun y2=>some (⟨a0.Kind,a0.View,a0.From,a0.Slot,a0.Value,y1,y2⟩:TMsg)
theorem w55 {d:Nat} (hd:3≤d) (k0:Bool) (a0:TMsg):Fit (R NN d 55 [.agg (Enc.cs k0 a0)] []) (m55 a0) (P0 (fun (t:TMsg)=>AV.agg (Enc.cs false t))):=by
  obtain ⟨d,rfl,g⟩:=up hd
  refine q_in (t55 NN d _) ?_
  unfold b55 m55
  exact q_box (n:=7) rfl rfl (by decide) fun b1=>q_new rfl fun b2=>q_new rfl fun b3=>q_p fr<|q_ld 2 rfl rfl<|q_p fr<|q_st 0 rfl rfl rfl (by decide) rfl<|q_p fr<|q_ld 2 rfl rfl<|q_p fr<|q_st 0 rfl rfl rfl (by decide) rfl<|q_p fr<|q_ld 2 rfl rfl<|q_p fr<|q_st 0 rfl rfl rfl (by decide) rfl<|q_p fr<|q_ld 2 rfl rfl<|q_p fr<|q_st 0 rfl rfl rfl (by decide) rfl<|q_p fr<|q_ld 2 rfl rfl<|q_p fr<|q_st 0 rfl rfl rfl (by decide) rfl<|q_p fr<|q_ld 2 rfl rfl<|q_c0 (aF1 cv_r fun l0_=>w101 (by omega) l0_ a0.Certs) fun y1 hy1=>q_p fr<|q_st 0 rfl rfl rfl (by decide) rfl<|q_p fr<|q_ld 2 rfl rfl<|q_c0 (aF1 cv_r fun l0_=>w23 (by omega) l0_ a0.Refs) fun y2 hy2=>q_p fr<|q_st 0 rfl rfl rfl (by decide) rfl<|q_lda 0 rfl rfl rfl<|q_st 1 rfl rfl rfl (by decide) rfl<|q_retm (fun S hS=>hS.lda 1 rfl rfl) (cv_a (cvs_cons (cv_p rfl) (cvs_cons (cv_p rfl) (cvs_cons (cv_p rfl) (cvs_cons (cv_p rfl) (cvs_cons (cv_p rfl) (cvs_cons cv_r (cvs_cons cv_r cvs_nil)))))))) rfl
def ms25_0 (a0:List TMsg) (s1:Int×(List TMsg)):Option (LO (Int×(List TMsg))):=bif decide (s1.1 < (a0.length:Int)) then (getI a0 s1.1).bind fun x1=>(m55 x1).bind fun y1=>(getI s1.2 s1.1).bind fun x2=>some (LO.norm (wi .i64 (s1.1 + 1),s1.2.set (Int.toNat s1.1) y1)) else some (LO.exit 0 (s1.1,s1.2))
def m25 (a0:List TMsg):Option ((List TMsg)):=(mkO 88 (a0.length:Int) (⟨0,0,0,0,0,[],[]⟩:TMsg)).bind fun z1=>(loopO (ms25_0 a0) NN (0,z1)).bind (contO (fun _=>none) (fun i1 s2=>if i1 = 0 then some s2.2 else none) (fun s2=>some []))
theorem w25 {d:Nat} (hd:4≤d) (k0:Bool) (a0:List TMsg):Fit (R NN d 25 [.rsl k0 false (a0.map (Enc.cs k0))] []) (m25 a0) (P0 (fun (t:List TMsg)=>AV.rsl false false (t.map (Enc.cs false)))):=by
  obtain ⟨d,rfl,g⟩:=up hd
  refine q_in (t25 NN d _) ?_
  unfold b25 m25
  refine q_len<|q_mk (z:=(⟨0,0,0,0,0,[],[]⟩:TMsg)) mk33 fun v1 z1 hz1=>q_lp (A:=fun (s:Int×(List TMsg))=>[.int .i64 s.1]) (B:=fun s=>[sl false v1 (s.2:List TMsg)]) 0 rr ?_ ?_ ?_
  ·intro s1
   unfold s25_0 ms25_0
   exact q_len<|q_p fr<|q_i (q_ix rfl fun x1 hx1=>q_p fr<|q_c0 (aF1 (cv_a (cvs_e (l0:=k0) (x:=x1))) fun l0_=>w55 (by omega) l0_ x1) fun y1 hy1=>q_ixo 0 rfl rfl fun x2 hx2=>q_stoe (y:=y1) 0 rfl rfl hx2 rfl (by decide)<|q_p fr<|q_norm 0 rr)<|q_exit 0 rr
  ·exact fun i1 s2=>q_n (q_ret (cv_o 0 rfl) rfl)<|q_none
  ·exact fun s2=>q_ret (cv_r (α:=TMsg) (l0:=false) (fl:=true) (xs:=[])) rfl
def m149 (a0:TOp):TOp:=a0
theorem w149 {d:Nat} (hd:1≤d) (k0:Bool) (a0:TOp):Fit (R NN d 149 [.agg (Enc.cs k0 a0)] []) (some (m149 a0)) (P0 (fun (t:TOp)=>AV.agg (Enc.cs false t))):=by
  obtain ⟨d,rfl,g⟩:=up hd
  refine q_in (t149 NN d _) ?_
  unfold b149 m149
  exact q_box (n:=6) rfl rfl (by decide) fun b1=>q_new rfl fun b2=>q_new rfl fun b3=>q_p fr<|q_ld 2 rfl rfl<|q_p fr<|q_st 0 rfl rfl rfl (by decide) rfl<|q_p fr<|q_ld 2 rfl rfl<|q_p fr<|q_st 0 rfl rfl rfl (by decide) rfl<|q_p fr<|q_ld 2 rfl rfl<|q_p fr<|q_st 0 rfl rfl rfl (by decide) rfl<|q_p fr<|q_ld 2 rfl rfl<|q_p fr<|q_st 0 rfl rfl rfl (by decide) rfl<|q_p fr<|q_ld 2 rfl rfl<|q_p fr<|q_st 0 rfl rfl rfl (by decide) rfl<|q_p fr<|q_ld 2 rfl rfl<|q_p fr<|q_st 0 rfl rfl rfl (by decide) rfl<|q_lda 0 rfl rfl rfl<|q_st 1 rfl rfl rfl (by decide) rfl<|q_retm (fun S hS=>hS.lda 1 rfl rfl) (cv_a (cvs_e (l0:=false) (x:=a0))) rfl
def ms102_0 (a0:List TOp) (s1:Int×(List TOp)):Option (LO (Int×(List TOp))):=bif decide (s1.1 < (a0.length:Int)) then (getI a0 s1.1).bind fun x1=>(getI s1.2 s1.1).bind fun x2=>some (LO.norm (wi .i64 (s1.1 + 1),s1.2.set (Int.toNat s1.1) (m149 x1))) else some (LO.exit 0 (s1.1,s1.2))
def m102 (a0:List TOp):Option ((List TOp)):=(mkO 48 (a0.length:Int) (⟨0,[],0,0,false,false⟩:TOp)).bind fun z1=>(loopO (ms102_0 a0) NN (0,z1)).bind (contO (fun _=>none) (fun i1 s2=>if i1 = 0 then some s2.2 else none) (fun s2=>some []))
theorem w102 {d:Nat} (hd:2≤d) (k0:Bool) (a0:List TOp):Fit (R NN d 102 [.rsl k0 false (a0.map (Enc.cs k0))] []) (m102 a0) (P0 (fun (t:List TOp)=>AV.rsl false false (t.map (Enc.cs false)))):=by
  obtain ⟨d,rfl,g⟩:=up hd
  refine q_in (t102 NN d _) ?_
  unfold b102 m102
  refine q_len<|q_mk (z:=(⟨0,[],0,0,false,false⟩:TOp)) mk96 fun v1 z1 hz1=>q_lp (A:=fun (s:Int×(List TOp))=>[.int .i64 s.1]) (B:=fun s=>[sl false v1 (s.2:List TOp)]) 0 rr ?_ ?_ ?_
  ·intro s1
   unfold s102_0 ms102_0
   exact q_len<|q_p fr<|q_i (q_ix rfl fun x1 hx1=>q_p fr<|q_c0t (aF1 (cv_a (cvs_e (l0:=k0) (x:=x1))) fun l0_=>w149 (by omega) l0_ x1)<|q_ixo 0 rfl rfl fun x2 hx2=>q_stoe (y:=(m149 x1)) 0 rfl rfl hx2 rfl (by decide)<|q_p fr<|q_norm 0 rr)<|q_exit 0 rr
  ·exact fun i1 s2=>q_n (q_ret (cv_o 0 rfl) rfl)<|q_none
  ·exact fun s2=>q_ret (cv_r (α:=TOp) (l0:=false) (fl:=true) (xs:=[])) rfl
def m56 (a0:TRequest):Option (TRequest):=(m102 a0.Ops).bind fun y1=>some (⟨a0.Client,a0.Number,a0.Time,y1⟩:TRequest)
theorem w56 {d:Nat} (hd:3≤d) (k0:Bool) (a0:TRequest):Fit (R NN d 56 [.agg (Enc.cs k0 a0)] []) (m56 a0) (P0 (fun (t:TRequest)=>AV.agg (Enc.cs false t))):=by
  obtain ⟨d,rfl,g⟩:=up hd
  refine q_in (t56 NN d _) ?_
  unfold b56 m56
  exact q_box (n:=4) rfl rfl (by decide) fun b1=>q_new rfl fun b2=>q_new rfl fun b3=>q_p fr<|q_ld 2 rfl rfl<|q_p fr<|q_st 0 rfl rfl rfl (by decide) rfl<|q_p fr<|q_ld 2 rfl rfl<|q_p fr<|q_st 0 rfl rfl rfl (by decide) rfl<|q_p fr<|q_ld 2 rfl rfl<|q_p fr<|q_st 0 rfl rfl rfl (by decide) rfl<|q_p fr<|q_ld 2 rfl rfl<|q_c0 (aF1 cv_r fun l0_=>w102 (by omega) l0_ a0.Ops) fun y1 hy1=>q_p fr<|q_st 0 rfl rfl rfl (by decide) rfl<|q_lda 0 rfl rfl rfl<|q_st 1 rfl rfl rfl (by decide) rfl<|q_retm (fun S hS=>hS.lda 1 rfl rfl) (cv_a (cvs_cons (cv_p rfl) (cvs_cons (cv_p rfl) (cvs_cons (cv_p rfl) (cvs_cons cv_r cvs_nil))))) rfl
def ms26_0 (a0:List TRequest) (s1:Int×(List TRequest)):Option (LO (Int×(List TRequest))):=bif decide (s1.1 < (a0.length:Int)) then (getI a0 s1.1).bind fun x1=>(m56 x1).bind fun y1=>(getI s1.2 s1.1).bind fun x2=>some (LO.norm (wi .i64 (s1.1 + 1),s1.2.set (Int.toNat s1.1) y1)) else some (LO.exit 0 (s1.1,s1.2))
def m26 (a0:List TRequest):Option ((List TRequest)):=(mkO 48 (a0.length:Int) (⟨0,0,0,[]⟩:TRequest)).bind fun z1=>(loopO (ms26_0 a0) NN (0,z1)).bind (contO (fun _=>none) (fun i1 s2=>if i1 = 0 then some s2.2 else none) (fun s2=>some []))
theorem w26 {d:Nat} (hd:4≤d) (k0:Bool) (a0:List TRequest):Fit (R NN d 26 [.rsl k0 false (a0.map (Enc.cs k0))] []) (m26 a0) (P0 (fun (t:List TRequest)=>AV.rsl false false (t.map (Enc.cs false)))):=by
  obtain ⟨d,rfl,g⟩:=up hd
  refine q_in (t26 NN d _) ?_
  unfold b26 m26
  refine q_len<|q_mk (z:=(⟨0,0,0,[]⟩:TRequest)) mk34 fun v1 z1 hz1=>q_lp (A:=fun (s:Int×(List TRequest))=>[.int .i64 s.1]) (B:=fun s=>[sl false v1 (s.2:List TRequest)]) 0 rr ?_ ?_ ?_
  ·intro s1
   unfold s26_0 ms26_0
   exact q_len<|q_p fr<|q_i (q_ix rfl fun x1 hx1=>q_p fr<|q_c0 (aF1 (cv_a (cvs_e (l0:=k0) (x:=x1))) fun l0_=>w56 (by omega) l0_ x1) fun y1 hy1=>q_ixo 0 rfl rfl fun x2 hx2=>q_stoe (y:=y1) 0 rfl rfl hx2 rfl (by decide)<|q_p fr<|q_norm 0 rr)<|q_exit 0 rr
  ·exact fun i1 s2=>q_n (q_ret (cv_o 0 rfl) rfl)<|q_none
  ·exact fun s2=>q_ret (cv_r (α:=TRequest) (l0:=false) (fl:=true) (xs:=[])) rfl
def m7 (a0:TCluster):Option (TCluster):=(m23 a0.Bad).bind fun y1=>(m24 a0.Replicas).bind fun y2=>(m25 a0.Ledger).bind fun y3=>(m26 a0.Requests).bind fun y4=>some (⟨a0.F,y1,y2,y3,y4⟩:TCluster)
theorem w7 {d:Nat} (hd:5≤d) (k0:Bool) (a0:TCluster):Fit (R NN d 7 [.agg (Enc.cs k0 a0)] []) (m7 a0) (P0 (fun (t:TCluster)=>AV.agg (Enc.cs false t))):=by
  obtain ⟨d,rfl,g⟩:=up hd
  refine q_in (t7 NN d _) ?_
  unfold b7 m7
  exact q_box (n:=5) rfl rfl (by decide) fun b1=>q_new rfl fun b2=>q_new rfl fun b3=>q_p fr<|q_ld 2 rfl rfl<|q_p fr<|q_st 0 rfl rfl rfl (by decide) rfl<|q_p fr<|q_ld 2 rfl rfl<|q_c0 (aF1 cv_r fun l0_=>w23 (by omega) l0_ a0.Bad) fun y1 hy1=>q_p fr<|q_st 0 rfl rfl rfl (by decide) rfl<|q_p fr<|q_ld 2 rfl rfl<|q_c0 (aF1 cv_r fun l0_=>w24 (by omega) l0_ a0.Replicas) fun y2 hy2=>q_p fr<|q_st 0 rfl rfl rfl (by decide) rfl<|q_p fr<|q_ld 2 rfl rfl<|q_c0 (aF1 cv_r fun l0_=>w25 (by omega) l0_ a0.Ledger) fun y3 hy3=>q_p fr<|q_st 0 rfl rfl rfl (by decide) rfl<|q_p fr<|q_ld 2 rfl rfl<|q_c0 (aF1 cv_r fun l0_=>w26 (by omega) l0_ a0.Requests) fun y4 hy4=>q_p fr<|q_st 0 rfl rfl rfl (by decide) rfl<|q_lda 0 rfl rfl rfl<|q_st 1 rfl rfl rfl (by decide) rfl<|q_retm (fun S hS=>hS.lda 1 rfl rfl) (cv_a (cvs_cons (cv_p rfl) (cvs_cons cv_r (cvs_cons cv_r (cvs_cons cv_r (cvs_cons cv_r cvs_nil)))))) rfl
def m112 (a0:Int) (a1:Int) (a2:Int):Bool:=bif decide (a1≤a0) then decide (a0≤a2) else false
theorem w112 {d:Nat} (hd:1≤d) (a0:Int) (a1:Int) (a2:Int):Fit (R NN d 112 [.int .i64 a0,.int .i64 a1,.int .i64 a2] []) (some (m112 a0 a1 a2)) PB:=by
  obtain ⟨d,rfl,g⟩:=up hd
  refine q_in (t112 NN d _ _ _) ?_
  unfold b112 m112
  exact q_p fr<|q_gTt (fun h1=>q_p fr<|q_ret (cv_p rfl) rfl) fun h1=>q_ret (cv_p rfl) rfl
def m103 (a0:Int):Bool:=(m112 a0 1 2)
theorem w103 {d:Nat} (hd:2≤d) (a0:Int):Fit (R NN d 103 [.int .i64 a0] []) (some (m103 a0)) PB:=by
  obtain ⟨d,rfl,g⟩:=up hd
  refine q_in (t103 NN d _) ?_
  unfold b103 m103
  exact q_c0t (aF3 (cv_p rfl) (cv_p rfl) (cv_p rfl) fun l0_ l1_ l2_=>w112 (by omega) a0 1 2)<|q_ret (cv_p rfl) rfl
def m108 (a0:Int):Int:=wi .i64 ((wi .i64 (3 * a0)) + 1)
theorem w108 {d:Nat} (hd:1≤d) (a0:Int):Fit (R NN d 108 [.int .i64 a0] []) (some (m108 a0)) PI:=by
  obtain ⟨d,rfl,g⟩:=up hd
  refine q_in (t108 NN d _) ?_
  unfold b108 m108
  exact q_p fr<|q_p fr<|q_ret (cv_p rfl) rfl
def m107 (a0:Int) (a1:Int):Bool:=(m112 a1 1 (m108 a0))
theorem w107 {d:Nat} (hd:2≤d) (a0:Int) (a1:Int):Fit (R NN d 107 [.int .i64 a0,.int .i64 a1] []) (some (m107 a0 a1)) PB:=by
  obtain ⟨d,rfl,g⟩:=up hd
  refine q_in (t107 NN d _ _) ?_
  unfold b107 m107
  exact q_c0t (aF1 (cv_p rfl) fun l0_=>w108 (by omega) a0)<|q_c0t (aF3 (cv_p rfl) (cv_p rfl) (cv_p rfl) fun l0_ l1_ l2_=>w112 (by omega) a1 1 (m108 a0))<|q_ret (cv_p rfl) rfl
def m111 (a0:Int):Bool:=(m112 a0 0 20)
theorem w111 {d:Nat} (hd:2≤d) (a0:Int):Fit (R NN d 111 [.int .i64 a0] []) (some (m111 a0)) PB:=by
  obtain ⟨d,rfl,g⟩:=up hd
  refine q_in (t111 NN d _) ?_
  unfold b111 m111
  exact q_c0t (aF3 (cv_p rfl) (cv_p rfl) (cv_p rfl) fun l0_ l1_ l2_=>w112 (by omega) a0 0 20)<|q_ret (cv_p rfl) rfl
def m150 (a0:Int):Bool:=(m112 a0 1 3)
theorem w150 {d:Nat} (hd:2≤d) (a0:Int):Fit (R NN d 150 [.int .i64 a0] []) (some (m150 a0)) PB:=by
  obtain ⟨d,rfl,g⟩:=up hd
  refine q_in (t150 NN d _) ?_
  unfold b150 m150
  exact q_c0t (aF3 (cv_p rfl) (cv_p rfl) (cv_p rfl) fun l0_ l1_ l2_=>w112 (by omega) a0 1 3)<|q_ret (cv_p rfl) rfl
def m151 (a0:Int):Bool:=(m112 a0 1 30)
theorem w151 {d:Nat} (hd:2≤d) (a0:Int):Fit (R NN d 151 [.int .i64 a0] []) (some (m151 a0)) PB:=by
  obtain ⟨d,rfl,g⟩:=up hd
  refine q_in (t151 NN d _) ?_
  unfold b151 m151
  exact q_c0t (aF3 (cv_p rfl) (cv_p rfl) (cv_p rfl) fun l0_ l1_ l2_=>w112 (by omega) a0 1 30)<|q_ret (cv_p rfl) rfl
def m152 (a0:Int):Bool:=(m112 a0 0 12)
theorem w152 {d:Nat} (hd:2≤d) (a0:Int):Fit (R NN d 152 [.int .i64 a0] []) (some (m152 a0)) PB:=by
  obtain ⟨d,rfl,g⟩:=up hd
  refine q_in (t152 NN d _) ?_
  unfold b152 m152
  exact q_c0t (aF3 (cv_p rfl) (cv_p rfl) (cv_p rfl) fun l0_ l1_ l2_=>w112 (by omega) a0 0 12)<|q_ret (cv_p rfl) rfl
def ms194_0 (a0:List TCert) (a1:TCert→Option (Bool)) (s1:Int×Int):Option (LO (Int×Int)):=bif decide (s1.2 < (a0.length:Int)) then (getI a0 s1.2).bind fun x1=>(a1 x1).bind fun y1=>bif y1 then some (LO.ret (s1.2,s1.2)) else some (LO.norm (s1.1,wi .i64 (s1.2 + 1))) else some (LO.exit 0 (s1.1,s1.2))
def m194 (a0:List TCert) (a1:TCert→Option (Bool)):Option (Int):=(loopO (ms194_0 a0 a1) NN (0,0)).bind (contO (fun _=>none) (fun i1 s2=>if i1 = 0 then some (-1) else none) (fun s2=>some s2.1))
theorem w194 {Dc:Nat} {d:Nat} (hd:Dc + 1≤d) (k0:Bool) (a0:List TCert) (c1:Bool→AV) (hc1:∀ l,CV 8 [] false (c1 l) c1) (a1:TCert→Option (Bool)) (tc1:∀ (d:Nat),Dc≤d→∀ (l:Bool) (q0:Bool) (x0:TCert) (S:St) (t:Bool),a1 x0 = some t→callV (cfg NN) (R NN d) 194 (c1 l) [.agg (Enc.cs q0 x0)] S = some ((fun (t:Bool)=>AV.bool t) t,S)) (k1:Bool):Fit (R NN d 194 [.rsl k0 false (a0.map (Enc.cs k0)),c1 k1] []) (m194 a0 a1) PI:=by
  obtain ⟨d,rfl,g⟩:=up hd
  refine q_in (t194 NN d _ _) ?_
  unfold b194 m194
  refine q_len<|q_lp (A:=fun (s:Int×Int)=>[.int .i64 s.1,.int .i64 s.2]) (B:=fun s=>[]) 0 rr ?_ ?_ ?_
  ·intro s1
   unfold s194_0 ms194_0
   exact q_p fr<|q_i (q_ix rfl fun x1 hx1=>q_p fr<|q_cv (mg:=a1 x1) (E:=(fun (t:Bool)=>AV.bool t)) (fun S t ht=>tc1 d (by omega) k1 k0 x1 S t ht) fun y1 hy1=>q_i (q_lret 0 rr)<|q_p fr<|q_norm 0 rr)<|q_exit 0 rr
  ·exact fun i1 s2=>q_n (q_ret (cv_p rfl) rfl)<|q_none
  ·exact fun s2=>q_ret (cv_p rfl) rfl
def m153 (a0:List TCert) (a1:TCert→Option (Bool)):Option (Bool):=(m194 a0 a1).bind fun y1=>some (decide (y1 ≥ 0))
theorem w153 {Dc:Nat} {d:Nat} (hd:Dc + 2≤d) (k0:Bool) (a0:List TCert) (c1:Bool→AV) (hc1:∀ l,CV 8 [] false (c1 l) c1) (a1:TCert→Option (Bool)) (tc1:∀ (d:Nat),Dc≤d→∀ (l:Bool) (q0:Bool) (x0:TCert) (S:St) (t:Bool),a1 x0 = some t→callV (cfg NN) (R NN d) 194 (c1 l) [.agg (Enc.cs q0 x0)] S = some ((fun (t:Bool)=>AV.bool t) t,S)) (k1:Bool):Fit (R NN d 153 [.rsl k0 false (a0.map (Enc.cs k0)),c1 k1] []) (m153 a0 a1) PB:=by
  obtain ⟨d,rfl,g⟩:=up hd
  refine q_in (t153 NN d _ _) ?_
  unfold b153 m153
  exact q_c0 (aF2 cv_r (CV.any (hc1 k1)) fun l0_ l1_=>w194 (by omega) l0_ a0 c1 hc1 a1 tc1 l1_) fun y1 hy1=>q_p fr<|q_ret (cv_p rfl) rfl
def m154 (a0:TCert) (a1:TMsg):Option (Bool):=( bif !(m151 a0.Slot) then some (LO.norm true) else bif !(m112 a0.View 0 (wi .i64 (a1.View - 1))) then some (LO.norm true) else some (LO.norm (!(m152 a0.Value)))).bind (contO (fun s2=>some s2) (fun i1 s2=>none) (fun s2=>some s2))
theorem w154 {d:Nat} (hd:3≤d) (k0:Bool) (a0:TCert) (k1:Bool) (a1:TMsg):Fit (R NN d 154 [.agg (Enc.cs k0 a0),.rp k1 (Enc.cs k1 a1)] []) (m154 a0 a1) PB:=by
  obtain ⟨d,rfl,g⟩:=up hd
  refine q_in (t154 NN d _ _) ?_
  unfold b154 m154
  refine q_box (n:=3) rfl rfl (by decide) fun b1=>q_cu (A:=fun (s:Bool)=>[.bool s]) (B:=fun s=>[bx b1 [.int .i64 a0.Slot,.int .i64 a0.View,.int .i64 a0.Value]]) ?_ ?_ ?_ ?_
  ·exact q_p fr<|q_ld 0 rfl rfl<|q_c0t (aF1 (cv_p rfl) fun l0_=>w151 (by omega) a0.Slot)<|q_p fr<|q_j (q_norm 0 rr)<|q_p fr<|q_ld 0 rfl rfl<|q_p fr<|q_p fr<|q_p fr<|q_c0t (aF3 (cv_p rfl) (cv_p rfl) (cv_p rfl) fun l0_ l1_ l2_=>w112 (by omega) a0.View 0 (wi .i64 (a1.View - 1)))<|q_p fr<|q_j (q_norm 0 rr)<|q_p fr<|q_ld 0 rfl rfl<|q_c0t (aF1 (cv_p rfl) fun l0_=>w152 (by omega) a0.Value)<|q_p fr<|q_norm 0 rr
  ·exact fun s2=>q_ret (cv_p rfl) rfl
  ·exact fun i1 s2=>q_none
  ·exact fun s2=>q_ret (cv_p rfl) rfl
def ms195_0 (a0:List Int) (a1:Int→Option (Bool)) (s1:Int×Int):Option (LO (Int×Int)):=bif decide (s1.2 < (a0.length:Int)) then (getI a0 s1.2).bind fun x1=>(a1 x1).bind fun y1=>bif y1 then some (LO.ret (s1.2,s1.2)) else some (LO.norm (s1.1,wi .i64 (s1.2 + 1))) else some (LO.exit 0 (s1.1,s1.2))
def m195 (a0:List Int) (a1:Int→Option (Bool)):Option (Int):=(loopO (ms195_0 a0 a1) NN (0,0)).bind (contO (fun _=>none) (fun i1 s2=>if i1 = 0 then some (-1) else none) (fun s2=>some s2.1))
theorem w195 {Dc:Nat} {d:Nat} (hd:Dc + 1≤d) (k0:Bool) (a0:List Int) (c1:Bool→AV) (hc1:∀ l,CV 8 [] false (c1 l) c1) (a1:Int→Option (Bool)) (tc1:∀ (d:Nat),Dc≤d→∀ (l:Bool) (x0:Int) (S:St) (t:Bool),a1 x0 = some t→callV (cfg NN) (R NN d) 195 (c1 l) [.int .i64 x0] S = some ((fun (t:Bool)=>AV.bool t) t,S)) (k1:Bool):Fit (R NN d 195 [.rsl k0 false (a0.map (Enc.cs k0)),c1 k1] []) (m195 a0 a1) PI:=by
  obtain ⟨d,rfl,g⟩:=up hd
  refine q_in (t195 NN d _ _) ?_
  unfold b195 m195
  refine q_len<|q_lp (A:=fun (s:Int×Int)=>[.int .i64 s.1,.int .i64 s.2]) (B:=fun s=>[]) 0 rr ?_ ?_ ?_
  ·intro s1
   unfold s195_0 ms195_0
   exact q_p fr<|q_i (q_ix rfl fun x1 hx1=>q_p fr<|q_cv (mg:=a1 x1) (E:=(fun (t:Bool)=>AV.bool t)) (fun S t ht=>tc1 d (by omega) k1 x1 S t ht) fun y1 hy1=>q_i (q_lret 0 rr)<|q_p fr<|q_norm 0 rr)<|q_exit 0 rr
  ·exact fun i1 s2=>q_n (q_ret (cv_p rfl) rfl)<|q_none
  ·exact fun s2=>q_ret (cv_p rfl) rfl
def m155 (a0:List Int) (a1:Int→Option (Bool)):Option (Bool):=(m195 a0 a1).bind fun y1=>some (decide (y1 ≥ 0))
theorem w155 {Dc:Nat} {d:Nat} (hd:Dc + 2≤d) (k0:Bool) (a0:List Int) (c1:Bool→AV) (hc1:∀ l,CV 8 [] false (c1 l) c1) (a1:Int→Option (Bool)) (tc1:∀ (d:Nat),Dc≤d→∀ (l:Bool) (x0:Int) (S:St) (t:Bool),a1 x0 = some t→callV (cfg NN) (R NN d) 195 (c1 l) [.int .i64 x0] S = some ((fun (t:Bool)=>AV.bool t) t,S)) (k1:Bool):Fit (R NN d 155 [.rsl k0 false (a0.map (Enc.cs k0)),c1 k1] []) (m155 a0 a1) PB:=by
  obtain ⟨d,rfl,g⟩:=up hd
  refine q_in (t155 NN d _ _) ?_
  unfold b155 m155
  exact q_c0 (aF2 cv_r (CV.any (hc1 k1)) fun l0_ l1_=>w195 (by omega) l0_ a0 c1 hc1 a1 tc1 l1_) fun y1 hy1=>q_p fr<|q_ret (cv_p rfl) rfl
def m156 (a0:Int):Bool:=!(m112 a0 0 239)
theorem w156 {d:Nat} (hd:2≤d) (a0:Int):Fit (R NN d 156 [.int .i64 a0] []) (some (m156 a0)) PB:=by
  obtain ⟨d,rfl,g⟩:=up hd
  refine q_in (t156 NN d _) ?_
  unfold b156 m156
  exact q_c0t (aF3 (cv_p rfl) (cv_p rfl) (cv_p rfl) fun l0_ l1_ l2_=>w112 (by omega) a0 0 239)<|q_p fr<|q_ret (cv_p rfl) rfl
def ms104_0 (a1:TMsg) (s7:Int×Int):Option (LO (Int×Int)):=bif decide (s7.2 < (a1.Certs.length:Int)) then ( (getI a1.Certs s7.2).bind fun x1=>bif decide (s7.2 > 0) then (getI a1.Certs (wi .i64 (s7.2 - 1))).bind fun x2=>bif decide (x1.Slot≤x2.Slot) then some (LO.ret 1) else some (LO.norm s7.1) else some (LO.norm s7.1)).bind (contO (fun s9=>some (LO.norm (s9,wi .i64 (s7.2 + 1)))) (fun i4 s9=>some (LO.exit i4 (s9,s7.2))) (fun s9=>some (LO.ret (s9,s7.2)))) else some (LO.exit 1 (s7.1,s7.2))
def ms104_1 (a1:TMsg) (s11:Int×Int):Option (LO (Int×Int)):=bif decide (s11.2 < (a1.Refs.length:Int)) then ( (getI a1.Refs s11.2).bind fun x3=>bif decide (s11.2 > 0) then (getI a1.Refs (wi .i64 (s11.2 - 1))).bind fun x4=>bif decide (x3≤x4) then some (LO.ret 1) else some (LO.norm s11.1) else some (LO.norm s11.1)).bind (contO (fun s13=>some (LO.norm (s13,wi .i64 (s11.2 + 1)))) (fun i6 s13=>some (LO.exit i6 (s13,s11.2))) (fun s13=>some (LO.ret (s13,s11.2)))) else some (LO.exit 3 (s11.1,s11.2))
def m104 (a0:Int) (a1:TMsg):Option (Int):=( ( bif !(m112 a1.Kind 1 5) then some (LO.norm true) else bif !(m150 a1.Kind) then bif a1.Slot != 0 then some (LO.norm true) else bif a1.Value != 0 then some (LO.norm true) else bif a1.Kind != 4 then bif decide ((a1.Certs.length:Int) > 0) then some (LO.norm true) else bif a1.Kind != 5 then some (LO.norm (decide ((a1.Refs.length:Int) > 0))) else some (LO.norm false) else bif a1.Kind != 5 then some (LO.norm (decide ((a1.Refs.length:Int) > 0))) else some (LO.norm false) else bif a1.Kind != 4 then bif decide ((a1.Certs.length:Int) > 0) then some (LO.norm true) else bif a1.Kind != 5 then some (LO.norm (decide ((a1.Refs.length:Int) > 0))) else some (LO.norm false) else bif a1.Kind != 5 then some (LO.norm (decide ((a1.Refs.length:Int) > 0))) else some (LO.norm false)).bind (contO (fun s3=>bif s3 then some (LO.ret 1) else ( bif !(m111 a1.View) then some (LO.norm true) else bif !(m107 a0 a1.From) then some (LO.norm true) else bif (m150 a1.Kind) then bif !(m151 a1.Slot) then some (LO.norm true) else some (LO.norm (!(m152 a1.Value))) else some (LO.norm false)).bind (contO (fun s5=>bif s5 then some (LO.ret 3) else bif decide ((a1.Certs.length:Int) > 30) then some (LO.ret 2) else bif decide ((a1.Refs.length:Int) > (m108 a0)) then some (LO.ret 2) else some (LO.norm 0)) (fun i2 s5=>if i2 = 0 then some (LO.norm 0) else some (LO.exit i2 0)) (fun s5=>some (LO.ret 0)))) (fun i1 s3=>if i1 = 0 then some (LO.norm 0) else some (LO.exit i1 0)) (fun s3=>some (LO.ret 0)))).bind (contO (fun s6=>(loopO (ms104_0 a1) NN (s6,0)).bind (contO (fun _=>none) (fun i5 s10=>if i5 = 1 then (loopO (ms104_1 a1) NN (s10.1,0)).bind (contO (fun _=>none) (fun i7 s14=>if i7 = 3 then (m153 a1.Certs (fun x0_=>m154 x0_ a1)).bind fun y1=>bif y1 then some 3 else (m155 a1.Refs (fun x0_=>some (m156 x0_))).bind fun y2=>bif y2 then some 3 else some 0 else none) (fun s14=>some s14.1)) else none) (fun s10=>some s10.1))) (fun i3 s6=>none) (fun s6=>some s6))
theorem w104 {d:Nat} (hd:6≤d) (a0:Int) (k1:Bool) (a1:TMsg):Fit (R NN d 104 [.int .i64 a0,.agg (Enc.cs k1 a1)] []) (m104 a0 a1) PI:=by
  obtain ⟨d,rfl,g⟩:=up hd
  refine q_in (t104 NN d _ _) ?_
  unfold b104 m104
  refine q_box (n:=7) rfl rfl (by decide) fun b1=>q_p fr<|q_ld 0 rfl rfl<|q_c0t (aF1 (cv_p rfl) fun l0_=>w150 (by omega) a1.Kind)<|q_cu (A:=fun (s:Int)=>[.int .i64 s]) (B:=fun s=>[bx b1 [.int .i64 a1.Kind,.int .i64 a1.View,.int .i64 a1.From,.int .i64 a1.Slot,.int .i64 a1.Value,.rsl k1 false (a1.Certs.map (Enc.cs k1)),.rsl k1 false (a1.Refs.map (Enc.cs k1))]]) ?_ ?_ ?_ ?_
  ·refine q_cu (A:=fun (s:Bool)=>[.bool s]) (B:=fun s=>[bx b1 [.int .i64 a1.Kind,.int .i64 a1.View,.int .i64 a1.From,.int .i64 a1.Slot,.int .i64 a1.Value,.rsl k1 false (a1.Certs.map (Enc.cs k1)),.rsl k1 false (a1.Refs.map (Enc.cs k1))]]) ?_ ?_ ?_ ?_
   ·exact q_p fr<|q_ld 0 rfl rfl<|q_c0t (aF3 (cv_p rfl) (cv_p rfl) (cv_p rfl) fun l0_ l1_ l2_=>w112 (by omega) a1.Kind 1 5)<|q_p fr<|q_j (q_norm 0 rr)<|q_p fr<|q_k (q_p fr<|q_ld 0 rfl rfl<|q_p fr<|q_j (q_norm 0 rr)<|q_p fr<|q_ld 0 rfl rfl<|q_p fr<|q_j (q_norm 0 rr)<|q_p fr<|q_ld 0 rfl rfl<|q_p fr<|q_k (q_p fr<|q_ld 0 rfl rfl<|q_len<|q_p fr<|q_j (q_norm 0 rr)<|q_p fr<|q_ld 0 rfl rfl<|q_p fr<|q_k (q_p fr<|q_ld 0 rfl rfl<|q_len<|q_p fr<|q_norm 0 rr)<|q_norm 0 rr)<|q_p fr<|q_ld 0 rfl rfl<|q_p fr<|q_k (q_p fr<|q_ld 0 rfl rfl<|q_len<|q_p fr<|q_norm 0 rr)<|q_norm 0 rr)<|q_p fr<|q_ld 0 rfl rfl<|q_p fr<|q_k (q_p fr<|q_ld 0 rfl rfl<|q_len<|q_p fr<|q_j (q_norm 0 rr)<|q_p fr<|q_ld 0 rfl rfl<|q_p fr<|q_k (q_p fr<|q_ld 0 rfl rfl<|q_len<|q_p fr<|q_norm 0 rr)<|q_norm 0 rr)<|q_p fr<|q_ld 0 rfl rfl<|q_p fr<|q_k (q_p fr<|q_ld 0 rfl rfl<|q_len<|q_p fr<|q_norm 0 rr)<|q_norm 0 rr
   ·intro s3
    refine q_i ?_ ?_
    ·exact q_lret 0 rr
    ·refine q_cu (A:=fun (s:Bool)=>[.bool s]) (B:=fun s=>[bx b1 [.int .i64 a1.Kind,.int .i64 a1.View,.int .i64 a1.From,.int .i64 a1.Slot,.int .i64 a1.Value,.rsl k1 false (a1.Certs.map (Enc.cs k1)),.rsl k1 false (a1.Refs.map (Enc.cs k1))]]) ?_ ?_ ?_ ?_
     ·exact q_p fr<|q_ld 0 rfl rfl<|q_c0t (aF1 (cv_p rfl) fun l0_=>w111 (by omega) a1.View)<|q_p fr<|q_j (q_norm 0 rr)<|q_p fr<|q_ld 0 rfl rfl<|q_c0t (aF2 (cv_p rfl) (cv_p rfl) fun l0_ l1_=>w107 (by omega) a0 a1.From)<|q_p fr<|q_j (q_norm 0 rr)<|q_k (q_p fr<|q_ld 0 rfl rfl<|q_c0t (aF1 (cv_p rfl) fun l0_=>w151 (by omega) a1.Slot)<|q_p fr<|q_j (q_norm 0 rr)<|q_p fr<|q_ld 0 rfl rfl<|q_c0t (aF1 (cv_p rfl) fun l0_=>w152 (by omega) a1.Value)<|q_p fr<|q_norm 0 rr)<|q_norm 0 rr
     ·intro s5
      refine q_i ?_ ?_
      ·exact q_lret 0 rr
      ·refine q_p fr<|q_ld 0 rfl rfl<|q_len<|q_p fr<|q_j ?_ ?_
       ·first | refine q_ifT1 ?_ | skip
        exact q_lret 0 rr
       ·exact q_p fr<|q_ld 0 rfl rfl<|q_len<|q_c0t (aF1 (cv_p rfl) fun l0_=>w108 (by omega) a0)<|q_p fr<|q_i (q_lret 0 rr)<|q_norm 0 rr
     ·exact fun i2 s5=>q_n (q_norm 0 rr)<|q_exit 0 rr
     ·exact fun s5=>q_lret 0 rr
   ·exact fun i1 s3=>q_n (q_norm 0 rr)<|q_exit 0 rr
   ·exact fun s3=>q_lret 0 rr
  ·intro s6
   refine q_p fr<|q_ld 0 rfl rfl<|q_len<|q_lp (A:=fun (s:Int×Int)=>[.int .i64 s.1,.int .i64 s.2]) (B:=fun s=>[bx b1 [.int .i64 a1.Kind,.int .i64 a1.View,.int .i64 a1.From,.int .i64 a1.Slot,.int .i64 a1.Value,.rsl k1 false (a1.Certs.map (Enc.cs k1)),.rsl k1 false (a1.Refs.map (Enc.cs k1))]]) 0 rr ?_ ?_ ?_
   ·intro s7
    unfold s104_0 ms104_0
    refine q_p fr<|q_i ?_ ?_
    ·refine q_cu (A:=fun (s:Int)=>[.int .i64 s]) (B:=fun s=>[bx b1 [.int .i64 a1.Kind,.int .i64 a1.View,.int .i64 a1.From,.int .i64 a1.Slot,.int .i64 a1.Value,.rsl k1 false (a1.Certs.map (Enc.cs k1)),.rsl k1 false (a1.Refs.map (Enc.cs k1))]]) ?_ ?_ ?_ ?_
     ·refine q_ix rfl fun x1 hx1=>q_p fr<|q_new rfl fun b2=>q_st 0 rfl rfl rfl (by decide) rfl<|q_p fr<|q_k ?_ ?_
      ·exact q_p fr<|q_ld 0 rfl rfl<|q_p fr<|q_ld 1 rfl rfl<|q_p fr<|q_ix rfl fun x2 hx2=>q_p fr<|q_p fr<|q_p fr<|q_i (q_lret 1 rr)<|q_norm 1 rr
      ·first | refine q_ifF1 ?_ | skip
       exact q_norm 1 rr
     ·exact fun s9=>q_p fr<|q_norm 0 rr
     ·exact fun i4 s9=>q_exit 0 rr
     ·exact fun s9=>q_lret 0 rr
    ·exact q_exit 0 rr
   ·intro i5 s10
    refine q_n ?_ ?_
    ·refine q_p fr<|q_ld 0 rfl rfl<|q_len<|q_lp (A:=fun (s:Int×Int)=>[.int .i64 s.1,.int .i64 s.2]) (B:=fun s=>[bx b1 [.int .i64 a1.Kind,.int .i64 a1.View,.int .i64 a1.From,.int .i64 a1.Slot,.int .i64 a1.Value,.rsl k1 false (a1.Certs.map (Enc.cs k1)),.rsl k1 false (a1.Refs.map (Enc.cs k1))]]) 0 rr ?_ ?_ ?_
     ·intro s11
      unfold s104_1 ms104_1
      refine q_p fr<|q_i ?_ ?_
      ·refine q_cu (A:=fun (s:Int)=>[.int .i64 s]) (B:=fun s=>[bx b1 [.int .i64 a1.Kind,.int .i64 a1.View,.int .i64 a1.From,.int .i64 a1.Slot,.int .i64 a1.Value,.rsl k1 false (a1.Certs.map (Enc.cs k1)),.rsl k1 false (a1.Refs.map (Enc.cs k1))]]) ?_ ?_ ?_ ?_
       ·refine q_ix rfl fun x3 hx3=>q_p fr<|q_p fr<|q_k ?_ ?_
        ·exact q_p fr<|q_ld 0 rfl rfl<|q_p fr<|q_ix rfl fun x4 hx4=>q_p fr<|q_p fr<|q_i (q_lret 0 rr)<|q_norm 0 rr
        ·first | refine q_ifF1 ?_ | skip
         exact q_norm 0 rr
       ·exact fun s13=>q_p fr<|q_norm 0 rr
       ·exact fun i6 s13=>q_exit 0 rr
       ·exact fun s13=>q_lret 0 rr
      ·exact q_exit 0 rr
     ·exact fun i7 s14=>q_n (q_p fr<|q_ld 0 rfl rfl<|q_c0 (aF2 cv_r (cv_f (cvs_cons (cv_b 0 rfl (cvs_e (l0:=k1) (x:=a1))) cvs_nil)) fun l0_ l1_=>w153 (Dc:=3) (by omega) l0_ a1.Certs (fun l=>.fn 154 [.rp l (Enc.cs l a1)]) (fun l=>cv_f (cvs_cons (cv_rp (cvs_e (l0:=l) (x:=a1)) (fun _ _ _ h=>Enc.frz _ a1 _ _ _ h)) cvs_nil)) (fun x0_=>m154 x0_ a1) (fun d hd l q0_ x0_ S t ht=>(cv194_154 _ _ _ _).trans (call0_of (E:=(fun (t:Bool)=>AV.bool t)) (mg:=m154 x0_ a1) (args2 (M:=fun a=>Fit (R NN d 154 a []) _ _) (cv_a (cvs_e (l0:=q0_) (x:=x0_))) (cv_rp (cvs_e (l0:=l) (x:=a1)) (fun _ _ _ h=>Enc.frz _ a1 _ _ _ h)) HP.nil fun u0_ v0_=>w154 hd u0_ x0_ v0_ a1) ht)) l1_) fun y1 hy1=>q_i (q_ret (cv_p rfl) rfl)<|q_p fr<|q_ld 0 rfl rfl<|q_c0 (aF2 cv_r (cv_f cvs_nil) fun l0_ l1_=>w155 (Dc:=2) (by omega) l0_ a1.Refs (fun l=>.fn 156 []) (fun l=>cv_f cvs_nil) (fun x0_=>some (m156 x0_)) (fun d hd l x0_ S t ht=>(cv195_156 _ _ _ _).trans (call0_of (E:=(fun (t:Bool)=>AV.bool t)) (mg:=some (m156 x0_)) (args1 (M:=fun a=>Fit (R NN d 156 a []) _ _) (cv_p rfl) HP.nil fun u0_=>w156 hd x0_) ht)) l1_) fun y2 hy2=>q_i (q_ret (cv_p rfl) rfl)<|q_ret (cv_p rfl) rfl)<|q_none
     ·exact fun s14=>q_ret (cv_p rfl) rfl
    ·exact q_none
   ·exact fun s10=>q_ret (cv_p rfl) rfl
  ·exact fun i3 s6=>q_none
  ·exact fun s6=>q_ret (cv_p rfl) rfl
def m157 (a0:Int) (a1:Int):Bool:=decide (a0 ≥ a1)
theorem w157 {d:Nat} (hd:1≤d) (a0:Int) (k1:Bool) (a1:Int):Fit (R NN d 157 [.int .i64 a0,.rp k1 (Enc.cs k1 a1)] []) (some (m157 a0 a1)) PB:=by
  obtain ⟨d,rfl,g⟩:=up hd
  refine q_in (t157 NN d _ _) ?_
  unfold b157 m157
  exact q_p fr<|q_p fr<|q_ret (cv_p rfl) rfl
def m105 (a0:TMsg) (a1:Int):Option (Bool):=(m155 a0.Refs (fun x0_=>some (m157 x0_ a1))).bind fun y1=>some (!y1)
theorem w105 {d:Nat} (hd:4≤d) (k0:Bool) (a0:TMsg) (a1:Int):Fit (R NN d 105 [.agg (Enc.cs k0 a0),.int .i64 a1] []) (m105 a0 a1) PB:=by
  obtain ⟨d,rfl,g⟩:=up hd
  refine q_in (t105 NN d _ _) ?_
  unfold b105 m105
  exact q_box (n:=7) rfl rfl (by decide) fun b1=>q_box (n:=1) rfl rfl (by decide) fun b2=>q_p fr<|q_ld 1 rfl rfl<|q_c0 (aF2 cv_r (cv_f (cvs_cons (cv_b 0 rfl (cvs_e (l0:=false) (x:=a1))) cvs_nil)) fun l0_ l1_=>w155 (Dc:=1) (by omega) l0_ a0.Refs (fun l=>.fn 157 [.rp l (Enc.cs l a1)]) (fun l=>cv_f (cvs_cons (cv_rp (cvs_e (l0:=l) (x:=a1)) (fun _ _ _ h=>Enc.frz _ a1 _ _ _ h)) cvs_nil)) (fun x0_=>some (m157 x0_ a1)) (fun d hd l x0_ S t ht=>(cv195_157 _ _ _ _).trans (call0_of (E:=(fun (t:Bool)=>AV.bool t)) (mg:=some (m157 x0_ a1)) (args2 (M:=fun a=>Fit (R NN d 157 a []) _ _) (cv_p rfl) (cv_rp (cvs_e (l0:=l) (x:=a1)) (fun _ _ _ h=>Enc.frz _ a1 _ _ _ h)) HP.nil fun u0_ v0_=>w157 hd x0_ v0_ a1) ht)) l1_) fun y1 hy1=>q_p fr<|q_ret (cv_p rfl) rfl
def ms158_0 (a0:List TMsg) (a1:TMsg→Option (Bool)) (s1:Int×Int):Option (LO (Int×Int)):=bif decide (s1.2 < (a0.length:Int)) then (getI a0 s1.2).bind fun x1=>(a1 x1).bind fun y1=>bif y1 then some (LO.ret (s1.2,s1.2)) else some (LO.norm (s1.1,wi .i64 (s1.2 + 1))) else some (LO.exit 0 (s1.1,s1.2))
def m158 (a0:List TMsg) (a1:TMsg→Option (Bool)):Option (Int):=(loopO (ms158_0 a0 a1) NN (0,0)).bind (contO (fun _=>none) (fun i1 s2=>if i1 = 0 then some (-1) else none) (fun s2=>some s2.1))
theorem w158 {Dc:Nat} {d:Nat} (hd:Dc + 1≤d) (k0:Bool) (a0:List TMsg) (c1:Bool→AV) (hc1:∀ l,CV 8 [] false (c1 l) c1) (a1:TMsg→Option (Bool)) (tc1:∀ (d:Nat),Dc≤d→∀ (l:Bool) (q0:Bool) (x0:TMsg) (S:St) (t:Bool),a1 x0 = some t→callV (cfg NN) (R NN d) 158 (c1 l) [.agg (Enc.cs q0 x0)] S = some ((fun (t:Bool)=>AV.bool t) t,S)) (k1:Bool):Fit (R NN d 158 [.rsl k0 false (a0.map (Enc.cs k0)),c1 k1] []) (m158 a0 a1) PI:=by
  obtain ⟨d,rfl,g⟩:=up hd
  refine q_in (t158 NN d _ _) ?_
  unfold b158 m158
  refine q_len<|q_lp (A:=fun (s:Int×Int)=>[.int .i64 s.1,.int .i64 s.2]) (B:=fun s=>[]) 0 rr ?_ ?_ ?_
  ·intro s1
   unfold s158_0 ms158_0
   exact q_p fr<|q_i (q_ix rfl fun x1 hx1=>q_p fr<|q_cv (mg:=a1 x1) (E:=(fun (t:Bool)=>AV.bool t)) (fun S t ht=>tc1 d (by omega) k1 k0 x1 S t ht) fun y1 hy1=>q_i (q_lret 0 rr)<|q_p fr<|q_norm 0 rr)<|q_exit 0 rr
  ·exact fun i1 s2=>q_n (q_ret (cv_p rfl) rfl)<|q_none
  ·exact fun s2=>q_ret (cv_p rfl) rfl
def ms59_0 (a0:List Int) (a1:List Int) (s1:Bool×Int):Option (LO (Bool×Int)):=bif decide (s1.2 < (a0.length:Int)) then (getI a0 s1.2).bind fun x1=>(getI a1 s1.2).bind fun x2=>bif x1 != x2 then some (LO.ret (false,s1.2)) else some (LO.norm (s1.1,wi .i64 (s1.2 + 1))) else some (LO.exit 0 (s1.1,s1.2))
def m59 (a0:List Int) (a1:List Int):Option (Bool):=bif (a0.length:Int) != (a1.length:Int) then some false else (loopO (ms59_0 a0 a1) NN (false,0)).bind (contO (fun _=>none) (fun i1 s2=>if i1 = 0 then some true else none) (fun s2=>some s2.1))
theorem w59 {d:Nat} (hd:1≤d) (k0:Bool) (a0:List Int) (k1:Bool) (a1:List Int):Fit (R NN d 59 [.rsl k0 false (a0.map (Enc.cs k0)),.rsl k1 false (a1.map (Enc.cs k1))] []) (m59 a0 a1) PB:=by
  obtain ⟨d,rfl,g⟩:=up hd
  refine q_in (t59 NN d _ _) ?_
  unfold b59 m59
  refine q_len<|q_len<|q_p fr<|q_i ?_ ?_
  ·exact q_ret (cv_p rfl) rfl
  ·refine q_len<|q_lp (A:=fun (s:Bool×Int)=>[.bool s.1,.int .i64 s.2]) (B:=fun s=>[]) 0 rr ?_ ?_ ?_
   ·intro s1
    unfold s59_0 ms59_0
    exact q_p fr<|q_i (q_ix rfl fun x1 hx1=>q_p fr<|q_ix rfl fun x2 hx2=>q_p fr<|q_p fr<|q_i (q_lret 0 rr)<|q_p fr<|q_norm 0 rr)<|q_exit 0 rr
   ·exact fun i1 s2=>q_n (q_ret (cv_p rfl) rfl)<|q_none
   ·exact fun s2=>q_ret (cv_p rfl) rfl
def ms196_0 (a0:List TCert) (a1:List TCert) (s1:Bool×Int):Option (LO (Bool×Int)):=bif decide (s1.2 < (a0.length:Int)) then (getI a0 s1.2).bind fun x1=>(getI a1 s1.2).bind fun x2=>bif !(((x1.Slot == x2.Slot) && ((x1.View == x2.View) && ((x1.Value == x2.Value) && true)))) then some (LO.ret (false,s1.2)) else some (LO.norm (s1.1,wi .i64 (s1.2 + 1))) else some (LO.exit 0 (s1.1,s1.2))
def m196 (a0:List TCert) (a1:List TCert):Option (Bool):=bif (a0.length:Int) != (a1.length:Int) then some false else (loopO (ms196_0 a0 a1) NN (false,0)).bind (contO (fun _=>none) (fun i1 s2=>if i1 = 0 then some true else none) (fun s2=>some s2.1))
theorem w196 {d:Nat} (hd:1≤d) (k0:Bool) (a0:List TCert) (k1:Bool) (a1:List TCert):Fit (R NN d 196 [.rsl k0 false (a0.map (Enc.cs k0)),.rsl k1 false (a1.map (Enc.cs k1))] []) (m196 a0 a1) PB:=by
  obtain ⟨d,rfl,g⟩:=up hd
  refine q_in (t196 NN d _ _) ?_
  unfold b196 m196
  refine q_len<|q_len<|q_p fr<|q_i ?_ ?_
  ·exact q_ret (cv_p rfl) rfl
  ·refine q_len<|q_lp (A:=fun (s:Bool×Int)=>[.bool s.1,.int .i64 s.2]) (B:=fun s=>[]) 0 rr ?_ ?_ ?_
   ·intro s1
    unfold s196_0 ms196_0
    exact q_p fr<|q_i (q_ix rfl fun x1 hx1=>q_p fr<|q_ix rfl fun x2 hx2=>q_p fr<|q_p (fun _=>sneq1682 _ _ _ _ _ _)<|q_i (q_lret 0 rr)<|q_p fr<|q_norm 0 rr)<|q_exit 0 rr
   ·exact fun i1 s2=>q_n (q_ret (cv_p rfl) rfl)<|q_none
   ·exact fun s2=>q_ret (cv_p rfl) rfl
def m160 (a0:TMsg) (a1:TMsg):Option (Bool):=( bif a0.Kind == a1.Kind then bif a0.View == a1.View then bif a0.From == a1.From then bif a0.Slot == a1.Slot then bif a0.Value == a1.Value then (m196 a0.Certs a1.Certs).bind fun y1=>bif y1 then (m59 a0.Refs a1.Refs).bind fun y2=>some (LO.norm y2) else some (LO.norm false) else some (LO.norm false) else some (LO.norm false) else some (LO.norm false) else some (LO.norm false) else some (LO.norm false)).bind (contO (fun s2=>some s2) (fun i1 s2=>none) (fun s2=>some s2))
theorem w160 {d:Nat} (hd:2≤d) (k0:Bool) (a0:TMsg) (k1:Bool) (a1:TMsg):Fit (R NN d 160 [.agg (Enc.cs k0 a0),.agg (Enc.cs k1 a1)] []) (m160 a0 a1) PB:=by
  obtain ⟨d,rfl,g⟩:=up hd
  refine q_in (t160 NN d _ _) ?_
  unfold b160 m160
  refine q_box (n:=7) rfl rfl (by decide) fun b1=>q_box (n:=7) rfl rfl (by decide) fun b2=>q_cu (A:=fun (s:Bool)=>[.bool s]) (B:=fun s=>[bx b2 [.int .i64 a1.Kind,.int .i64 a1.View,.int .i64 a1.From,.int .i64 a1.Slot,.int .i64 a1.Value,.rsl k1 false (a1.Certs.map (Enc.cs k1)),.rsl k1 false (a1.Refs.map (Enc.cs k1))],bx b1 [.int .i64 a0.Kind,.int .i64 a0.View,.int .i64 a0.From,.int .i64 a0.Slot,.int .i64 a0.Value,.rsl k0 false (a0.Certs.map (Enc.cs k0)),.rsl k0 false (a0.Refs.map (Enc.cs k0))]]) ?_ ?_ ?_ ?_
  ·exact q_p fr<|q_ld 1 rfl rfl<|q_p fr<|q_ld 0 rfl rfl<|q_p fr<|q_k (q_p fr<|q_ld 1 rfl rfl<|q_p fr<|q_ld 0 rfl rfl<|q_p fr<|q_k (q_p fr<|q_ld 1 rfl rfl<|q_p fr<|q_ld 0 rfl rfl<|q_p fr<|q_k (q_p fr<|q_ld 1 rfl rfl<|q_p fr<|q_ld 0 rfl rfl<|q_p fr<|q_k (q_p fr<|q_ld 1 rfl rfl<|q_p fr<|q_ld 0 rfl rfl<|q_p fr<|q_k (q_p fr<|q_ld 1 rfl rfl<|q_p fr<|q_ld 0 rfl rfl<|q_c0 (aF2 cv_r cv_r fun l0_ l1_=>w196 (by omega) l0_ a0.Certs l1_ a1.Certs) fun y1 hy1=>q_k (q_p fr<|q_ld 1 rfl rfl<|q_p fr<|q_ld 0 rfl rfl<|q_c0 (aF2 cv_r cv_r fun l0_ l1_=>w59 (by omega) l0_ a0.Refs l1_ a1.Refs) fun y2 hy2=>q_norm 0 rr)<|q_norm 0 rr)<|q_norm 0 rr)<|q_norm 0 rr)<|q_norm 0 rr)<|q_norm 0 rr)<|q_norm 0 rr
  ·exact fun s2=>q_ret (cv_p rfl) rfl
  ·exact fun i1 s2=>q_none
  ·exact fun s2=>q_ret (cv_p rfl) rfl
def m159 (a0:TMsg) (a1:TMsg):Option (Bool):=(m160 a0 a1).bind fun y1=>some y1
theorem w159 {d:Nat} (hd:3≤d) (k0:Bool) (a0:TMsg) (k1:Bool) (a1:TMsg):Fit (R NN d 159 [.agg (Enc.cs k0 a0),.rp k1 (Enc.cs k1 a1)] []) (m159 a0 a1) PB:=by
  obtain ⟨d,rfl,g⟩:=up hd
  refine q_in (t159 NN d _ _) ?_
  unfold b159 m159
  exact q_box (n:=7) rfl rfl (by decide) fun b1=>q_lda 0 rfl rfl rfl<|q_p fr<|q_c0 (aF2 (cv_a (cvs_e (l0:=k0) (x:=a0))) (cv_a (cvs_e (l0:=k1) (x:=a1))) fun l0_ l1_=>w160 (by omega) l0_ a0 l1_ a1) fun y1 hy1=>q_ret (cv_p rfl) rfl
def m106 (a0:List TMsg) (a1:TMsg):Option (Int):=(m158 a0 (fun x0_=>m159 x0_ a1)).bind fun y1=>some y1
theorem w106 {d:Nat} (hd:5≤d) (k0:Bool) (a0:List TMsg) (k1:Bool) (a1:TMsg):Fit (R NN d 106 [.rsl k0 false (a0.map (Enc.cs k0)),.agg (Enc.cs k1 a1)] []) (m106 a0 a1) PI:=by
  obtain ⟨d,rfl,g⟩:=up hd
  refine q_in (t106 NN d _ _) ?_
  unfold b106 m106
  exact q_box (n:=7) rfl rfl (by decide) fun b1=>q_c0 (aF2 cv_r (cv_f (cvs_cons (cv_b 0 rfl (cvs_e (l0:=k1) (x:=a1))) cvs_nil)) fun l0_ l1_=>w158 (Dc:=3) (by omega) l0_ a0 (fun l=>.fn 159 [.rp l (Enc.cs l a1)]) (fun l=>cv_f (cvs_cons (cv_rp (cvs_e (l0:=l) (x:=a1)) (fun _ _ _ h=>Enc.frz _ a1 _ _ _ h)) cvs_nil)) (fun x0_=>m159 x0_ a1) (fun d hd l q0_ x0_ S t ht=>(cv158_159 _ _ _ _).trans (call0_of (E:=(fun (t:Bool)=>AV.bool t)) (mg:=m159 x0_ a1) (args2 (M:=fun a=>Fit (R NN d 159 a []) _ _) (cv_a (cvs_e (l0:=q0_) (x:=x0_))) (cv_rp (cvs_e (l0:=l) (x:=a1)) (fun _ _ _ h=>Enc.frz _ a1 _ _ _ h)) HP.nil fun u0_ v0_=>w159 hd u0_ x0_ v0_ a1) ht)) l1_) fun y1 hy1=>q_ret (cv_p rfl) rfl
def ms57_0 (a0:Int) (a1:List TMsg) (s1:Int×Int):Option (LO (Int×Int)):=bif decide (s1.2 < (a1.length:Int)) then (getI a1 s1.2).bind fun x1=>(m104 a0 x1).bind fun y1=>bif y1 != 0 then some (LO.ret (y1,s1.2)) else (m105 x1 s1.2).bind fun y2=>bif !y2 then some (LO.ret (4,s1.2)) else (subI a1 0 s1.2).bind fun ys1=>(m106 ys1 x1).bind fun y3=>bif decide (y3 ≥ 0) then some (LO.ret (6,s1.2)) else some (LO.norm (s1.1,wi .i64 (s1.2 + 1))) else some (LO.exit 1 (s1.1,s1.2))
def m57 (a0:Int) (a1:List TMsg):Option (Int):=bif !(m103 a0) then some 3 else bif decide ((a1.length:Int) > 240) then some 2 else (loopO (ms57_0 a0 a1) NN (0,0)).bind (contO (fun _=>none) (fun i1 s2=>if i1 = 1 then some 0 else none) (fun s2=>some s2.1))
theorem w57 {d:Nat} (hd:7≤d) (a0:Int) (k1:Bool) (a1:List TMsg):Fit (R NN d 57 [.int .i64 a0,.rsl k1 false (a1.map (Enc.cs k1))] []) (m57 a0 a1) PI:=by
  obtain ⟨d,rfl,g⟩:=up hd
  refine q_in (t57 NN d _ _) ?_
  unfold b57 m57
  refine q_c0t (aF1 (cv_p rfl) fun l0_=>w103 (by omega) a0)<|q_p fr<|q_i ?_ ?_
  ·exact q_ret (cv_p rfl) rfl
  ·refine q_len<|q_p fr<|q_i ?_ ?_
   ·exact q_ret (cv_p rfl) rfl
   ·refine q_len<|q_lp (A:=fun (s:Int×Int)=>[.int .i64 s.1,.int .i64 s.2]) (B:=fun s=>[]) 0 rr ?_ ?_ ?_
    ·intro s1
     unfold s57_0 ms57_0
     exact q_p fr<|q_i (q_ix rfl fun x1 hx1=>q_p fr<|q_new rfl fun b1=>q_st 0 rfl rfl rfl (by decide) rfl<|q_lda 0 rfl rfl rfl<|q_c0 (aF2 (cv_p rfl) (cv_a (cvs_e (l0:=k1) (x:=x1))) fun l0_ l1_=>w104 (by omega) a0 l1_ x1) fun y1 hy1=>q_p fr<|q_i (q_lret 1 rr)<|q_lda 0 rfl rfl rfl<|q_c0 (aF2 (cv_a (cvs_e (l0:=k1) (x:=x1))) (cv_p rfl) fun l0_ l1_=>w105 (by omega) l0_ x1 s1.2) fun y2 hy2=>q_p fr<|q_i (q_lret 1 rr)<|q_sub rfl (.inr ⟨rfl,rfl⟩) (.inl rfl) fun fl1 ys1 hys1=>q_lda 0 rfl rfl rfl<|q_c0 (aF2 cv_r (cv_a (cvs_e (l0:=k1) (x:=x1))) fun l0_ l1_=>w106 (by omega) l0_ ys1 l1_ x1) fun y3 hy3=>q_p fr<|q_i (q_lret 1 rr)<|q_p fr<|q_norm 1 rr)<|q_exit 0 rr
    ·exact fun i1 s2=>q_n (q_ret (cv_p rfl) rfl)<|q_none
    ·exact fun s2=>q_ret (cv_p rfl) rfl
def ms58_0 (a0:Int) (a1:List Int) (s1:Int×Int):Option (LO (Int×Int)):=bif decide (s1.2 < (a1.length:Int)) then ( (getI a1 s1.2).bind fun x1=>bif !(m107 a0 x1) then some (LO.ret 3) else bif decide (s1.2 > 0) then (getI a1 (wi .i64 (s1.2 - 1))).bind fun x2=>bif decide (x1≤x2) then some (LO.ret 1) else some (LO.norm s1.1) else some (LO.norm s1.1)).bind (contO (fun s3=>some (LO.norm (s3,wi .i64 (s1.2 + 1)))) (fun i1 s3=>some (LO.exit i1 (s3,s1.2))) (fun s3=>some (LO.ret (s3,s1.2)))) else some (LO.exit 0 (s1.1,s1.2))
def m58 (a0:Int) (a1:List Int):Option (Int):=(loopO (ms58_0 a0 a1) NN (0,0)).bind (contO (fun _=>none) (fun i2 s4=>if i2 = 0 then some 0 else none) (fun s4=>some s4.1))
theorem w58 {d:Nat} (hd:3≤d) (a0:Int) (k1:Bool) (a1:List Int):Fit (R NN d 58 [.int .i64 a0,.rsl k1 false (a1.map (Enc.cs k1))] []) (m58 a0 a1) PI:=by
  obtain ⟨d,rfl,g⟩:=up hd
  refine q_in (t58 NN d _ _) ?_
  unfold b58 m58
  refine q_len<|q_lp (A:=fun (s:Int×Int)=>[.int .i64 s.1,.int .i64 s.2]) (B:=fun s=>[]) 0 rr ?_ ?_ ?_
  ·intro s1
   unfold s58_0 ms58_0
   refine q_p fr<|q_i ?_ ?_
   ·refine q_cu (A:=fun (s:Int)=>[.int .i64 s]) (B:=fun s=>[]) ?_ ?_ ?_ ?_
    ·refine q_ix rfl fun x1 hx1=>q_p fr<|q_c0t (aF2 (cv_p rfl) (cv_p rfl) fun l0_ l1_=>w107 (by omega) a0 x1)<|q_p fr<|q_i ?_ ?_
     ·exact q_lret 0 rr
     ·refine q_p fr<|q_k ?_ ?_
      ·exact q_p fr<|q_ix rfl fun x2 hx2=>q_p fr<|q_p fr<|q_i (q_lret 0 rr)<|q_norm 0 rr
      ·first | refine q_ifF1 ?_ | skip
       exact q_norm 0 rr
    ·exact fun s3=>q_p fr<|q_norm 0 rr
    ·exact fun i1 s3=>q_exit 0 rr
    ·exact fun s3=>q_lret 0 rr
   ·exact q_exit 0 rr
  ·exact fun i2 s4=>q_n (q_ret (cv_p rfl) rfl)<|q_none
  ·exact fun s4=>q_ret (cv_p rfl) rfl
def ms161_0 (a0:List Int) (a1:Int) (s1:Int×Int):Option (LO (Int×Int)):=bif decide (s1.2 < (a0.length:Int)) then (getI a0 s1.2).bind fun x1=>bif a1 == x1 then some (LO.ret (s1.2,s1.2)) else some (LO.norm (s1.1,wi .i64 (s1.2 + 1))) else some (LO.exit 0 (s1.1,s1.2))
def m161 (a0:List Int) (a1:Int):Option (Int):=(loopO (ms161_0 a0 a1) NN (0,0)).bind (contO (fun _=>none) (fun i1 s2=>if i1 = 0 then some (-1) else none) (fun s2=>some s2.1))
theorem w161 {d:Nat} (hd:1≤d) (k0:Bool) (a0:List Int) (a1:Int):Fit (R NN d 161 [.rsl k0 false (a0.map (Enc.cs k0)),.int .i64 a1] []) (m161 a0 a1) PI:=by
  obtain ⟨d,rfl,g⟩:=up hd
  refine q_in (t161 NN d _ _) ?_
  unfold b161 m161
  refine q_len<|q_lp (A:=fun (s:Int×Int)=>[.int .i64 s.1,.int .i64 s.2]) (B:=fun s=>[]) 0 rr ?_ ?_ ?_
  ·intro s1
   unfold s161_0 ms161_0
   exact q_p fr<|q_i (q_ix rfl fun x1 hx1=>q_p fr<|q_p fr<|q_i (q_lret 0 rr)<|q_p fr<|q_norm 0 rr)<|q_exit 0 rr
  ·exact fun i1 s2=>q_n (q_ret (cv_p rfl) rfl)<|q_none
  ·exact fun s2=>q_ret (cv_p rfl) rfl
def m109 (a0:List Int) (a1:Int):Option (Bool):=(m161 a0 a1).bind fun y1=>some (decide (y1 ≥ 0))
theorem w109 {d:Nat} (hd:2≤d) (k0:Bool) (a0:List Int) (a1:Int):Fit (R NN d 109 [.rsl k0 false (a0.map (Enc.cs k0)),.int .i64 a1] []) (m109 a0 a1) PB:=by
  obtain ⟨d,rfl,g⟩:=up hd
  refine q_in (t109 NN d _ _) ?_
  unfold b109 m109
  exact q_c0 (aF2 cv_r (cv_p rfl) fun l0_ l1_=>w161 (by omega) l0_ a0 a1) fun y1 hy1=>q_p fr<|q_ret (cv_p rfl) rfl
def ms60_0 (a0:Int) (a1:List Int) (s1:Int×(List Int)):Option (LO (Int×(List Int))):=bif decide (s1.1≤(m108 a0)) then ( (m109 a1 s1.1).bind fun y1=>bif !y1 then (appO 8 s1.2 [s1.1]).bind fun z1=>some (LO.norm z1) else some (LO.norm s1.2)).bind (contO (fun s3=>some (LO.norm (wi .i64 (s1.1 + 1),s3))) (fun i1 s3=>some (LO.exit i1 (s1.1,s3))) (fun s3=>some (LO.ret (s1.1,s3)))) else some (LO.exit 0 (s1.1,s1.2))
def m60 (a0:Int) (a1:List Int):Option ((List Int)):=(loopO (ms60_0 a0 a1) NN (1,[])).bind (contO (fun _=>none) (fun i2 s4=>if i2 = 0 then some s4.2 else none) (fun s4=>some []))
theorem w60 {d:Nat} (hd:3≤d) (a0:Int) (k1:Bool) (a1:List Int):Fit (R NN d 60 [.int .i64 a0,.rsl k1 false (a1.map (Enc.cs k1))] []) (m60 a0 a1) (P0 (fun (t:List Int)=>AV.rsl false false (t.map (Enc.cs false)))):=by
  obtain ⟨d,rfl,g⟩:=up hd
  refine q_in (t60 NN d _ _) ?_
  unfold b60 m60
  refine q_q (fun _=>qs22_0)<|q_nil (α:=Int) false<|q_loop (I:=(fun (s:Int×(List Int)) l L=>∃ (v1:AV),l = [v1,.int .i64 s.1]∧L = [sl false v1 (s.2:List Int)])) 0 ⟨(.rsl false true []),rfl,rfl⟩ ?_ ?_ ?_
  ·rintro s1 _ _ ⟨v1,rfl,rfl⟩
   unfold s60_0 ms60_0
   refine q_c0t (aF1 (cv_p rfl) fun l0_=>w108 (by omega) a0)<|q_p fr<|q_i ?_ ?_
   ·refine q_cut (I:=(fun (s:(List Int)) l L=>∃ (v2:AV),l = [v2]∧L = [sl false v2 (s:List Int)])) ?_ ?_ ?_ ?_
    ·exact q_c0 (aF2 cv_r (cv_p rfl) fun l0_ l1_=>w109 (by omega) l0_ a1 s1.1) fun y1 hy1=>q_p fr<|q_i (q_e (fun _=>bs22_1 rfl)<|q_app (ys:=[s1.1]) 0 rfl rfl (fun _ _=>rfl) fun v2 z1 hz1=>q_norm 0 ⟨v2,rfl,rfl⟩)<|q_norm 0 ⟨v1,rfl,rfl⟩
    ·rintro s3 _ _ ⟨v3,rfl,rfl⟩
     exact q_p fr<|q_norm 0 ⟨v3,rfl,rfl⟩
    ·rintro i1 s3 _ _ ⟨v4,rfl,rfl⟩
     exact q_exit 0 ⟨v4,rfl,rfl⟩
    ·rintro s3 _ _ ⟨v5,rfl,rfl⟩
     exact q_lret 0 ⟨v5,rfl,rfl⟩
   ·exact q_exit 0 ⟨v1,rfl,rfl⟩
  ·rintro i2 s4 _ _ ⟨v6,rfl,rfl⟩
   exact q_n (q_ret (cv_o 0 rfl) rfl)<|q_none
  ·rintro s4 _ _ ⟨v7,rfl,rfl⟩
   exact q_ret (cv_r (α:=Int) (l0:=false) (fl:=true) (xs:=[])) rfl
def m244 (a0:Int):Bool:=a0 != a0
theorem w244 {d:Nat} (hd:1≤d) (a0:Int):Fit (R NN d 244 [.int .i64 a0] []) (some (m244 a0)) PB:=by
  obtain ⟨d,rfl,g⟩:=up hd
  refine q_in (t244 NN d _) ?_
  unfold b244 m244
  exact q_p fr<|q_ret (cv_p rfl) rfl
def m226 (a0:Int) (a1:Int):Option (Bool):=( bif (m244 a0) then bif !(m244 a1) then some (LO.norm true) else some (LO.norm (decide (a0 < a1))) else some (LO.norm (decide (a0 < a1)))).bind (contO (fun s2=>some s2) (fun i1 s2=>none) (fun s2=>some s2))
theorem w226 {d:Nat} (hd:2≤d) (a0:Int) (a1:Int):Fit (R NN d 226 [.int .i64 a0,.int .i64 a1] []) (m226 a0 a1) PB:=by
  obtain ⟨d,rfl,g⟩:=up hd
  refine q_in (t226 NN d _ _) ?_
  unfold b226 m226
  refine q_cu (A:=fun (s:Bool)=>[.bool s]) (B:=fun s=>[]) ?_ ?_ ?_ ?_
  ·exact q_c0t (aF1 (cv_p rfl) fun l0_=>w244 (by omega) a0)<|q_k (q_c0t (aF1 (cv_p rfl) fun l0_=>w244 (by omega) a1)<|q_p fr<|q_j (q_norm 0 rr)<|q_p fr<|q_norm 0 rr)<|q_p fr<|q_norm 0 rr
  ·exact fun s2=>q_ret (cv_p rfl) rfl
  ·exact fun i1 s2=>q_none
  ·exact fun s2=>q_ret (cv_p rfl) rfl
def ms220_0 (a1:Int) (s2:Int×(List Int)):Option (LO (Int×(List Int))):=( ( bif decide (s2.1 > a1) then (getI s2.2 s2.1).bind fun x1=>(getI s2.2 (wi .i64 (s2.1 - 1))).bind fun x2=>(m226 x1 x2).bind fun y1=>some (LO.norm y1) else some (LO.norm false)).bind (contO (fun s5=>bif s5 then some (LO.norm s5) else some (LO.exit 2 s5)) (fun i1 s5=>some (LO.exit i1 s5)) (fun s5=>some (LO.ret s5)))).bind (contO (fun s6=>(getI s2.2 (wi .i64 (s2.1 - 1))).bind fun x3=>(getI s2.2 s2.1).bind fun x4=>(getI s2.2 s2.1).bind fun x5=>(getI (s2.2.set (Int.toNat s2.1) x3) (wi .i64 (s2.1 - 1))).bind fun x6=>some (LO.norm (wi .i64 (s2.1 - 1),(s2.2.set (Int.toNat s2.1) x3).set (Int.toNat (wi .i64 (s2.1 - 1))) x4))) (fun i2 s6=>some (LO.exit i2 (s2.1,s2.2))) (fun s6=>some (LO.ret (s2.1,s2.2))))
def ms220_1 (a1:Int) (a2:Int) (s1:Int×(List Int)):Option (LO (Int×(List Int))):=bif decide (s1.1 < a2) then (loopO (ms220_0 a1) NN (s1.1,s1.2)).bind (contO (fun _=>none) (fun i3 s7=>if i3 = 2 then some (LO.norm (wi .i64 (s1.1 + 1),s7.2)) else if i3 = 1 then some (LO.norm (wi .i64 (s1.1 + 1),s7.2)) else some (LO.exit i3 (s1.1,s7.2))) (fun s7=>some (LO.ret (s1.1,s7.2)))) else some (LO.exit 0 (s1.1,s1.2))
def m220 (a0:List Int) (a1:Int) (a2:Int):Option ((List Int)):=(loopO (ms220_1 a1 a2) NN (wi .i64 (a1 + 1),a0)).bind (contO (fun _=>none) (fun i4 s8=>if i4 = 0 then some s8.2 else none) (fun s8=>some s8.2))
theorem w220 {d:Nat} (hd:3≤d) (L0:List En) (v0_:AV) (a0:List Int) (a1:Int) (a2:Int):Okh (sl false v0_ (a0:List Int)::L0) (fun S=>R NN d 220 [v0_,.int .i64 a1,.int .i64 a2] S) (m220 a0 a1 a2) (P2 (fun (t:(List Int))=>und) (fun (t:(List Int))=>sl false v0_ t::L0)):=by
  obtain ⟨d,rfl,g⟩:=up hd
  refine q_to (t220 NN d _ _ _) ?_
  unfold b220 m220
  refine q_p fr<|q_lp (A:=fun (s:Int×(List Int))=>[.int .i64 s.1]) (B:=fun s=>sl false v0_ (s.2:List Int)::L0) 0 rr ?_ ?_ ?_
  ·intro s1
   unfold s220_1 ms220_1
   refine q_p fr<|q_i ?_ ?_
   ·refine q_lp (A:=fun (s:Int×(List Int))=>[.int .i64 s.1]) (B:=fun s=>sl false v0_ (s.2:List Int)::L0) 0 rr ?_ ?_ ?_
    ·intro s2
     unfold s220_0 ms220_0
     refine q_cu (A:=fun (s:Bool)=>[.bool s]) (B:=fun s=>sl false v0_ (s2.2:List Int)::L0) ?_ ?_ ?_ ?_
     ·refine q_cu (A:=fun (s:Bool)=>[.bool s]) (B:=fun s=>sl false v0_ (s2.2:List Int)::L0) ?_ ?_ ?_ ?_
      ·exact q_p fr<|q_k (q_ixo 0 rfl rfl fun x1 hx1=>q_ldo 0 rfl hx1 rfl<|q_p fr<|q_ixo 0 rfl rfl fun x2 hx2=>q_ldo 0 rfl hx2 rfl<|q_c0 (aF2 (cv_p rfl) (cv_p rfl) fun l0_ l1_=>w226 (by omega) x1 x2) fun y1 hy1=>q_norm 0 rr)<|q_norm 0 rr
      ·exact fun s5=>q_i (q_norm 0 rr)<|q_exit 0 rr
      ·exact fun i1 s5=>q_exit 0 rr
      ·exact fun s5=>q_lret 0 rr
     ·exact fun s6=>q_p fr<|q_p fr<|q_ixo 0 rfl rfl fun x3 hx3=>q_ldo 0 rfl hx3 rfl<|q_ixo 0 rfl rfl fun x4 hx4=>q_ldo 0 rfl hx4 rfl<|q_ixo 0 rfl rfl fun x5 hx5=>q_stoe (y:=x3) 0 rfl rfl hx5 rfl (by decide)<|q_ixo 0 rfl rfl fun x6 hx6=>q_stoe (y:=x4) 0 rfl rfl hx6 rfl (by decide)<|q_p fr<|q_norm 0 rr
     ·exact fun i2 s6=>q_exit 0 rr
     ·exact fun s6=>q_lret 0 rr
    ·exact fun i3 s7=>q_n (q_p fr<|q_norm 0 rr)<|q_n (q_p fr<|q_norm 0 rr)<|q_exit 0 rr
    ·exact fun s7=>q_lret 0 rr
   ·exact q_exit 0 rr
  ·exact fun i4 s8=>q_n (q_ret2 0 rfl rfl)<|q_none
  ·exact fun s8=>q_ret2 0 rfl rfl
def ms239_0 (a2:Int) (a3:Int) (s1:Int×(List Int)):Option (LO (Int×(List Int))):=bif decide ((wi .i64 ((wi .i64 (2 * s1.1)) + 1)) ≥ a2) then some (LO.exit 0 (s1.1,s1.2)) else ( bif decide ((wi .i64 ((wi .i64 ((wi .i64 (2 * s1.1)) + 1)) + 1)) < a2) then (getI s1.2 (wi .i64 (a3 + (wi .i64 ((wi .i64 (2 * s1.1)) + 1))))).bind fun x1=>(getI s1.2 (wi .i64 ((wi .i64 (a3 + (wi .i64 ((wi .i64 (2 * s1.1)) + 1)))) + 1))).bind fun x2=>(m226 x1 x2).bind fun y1=>bif y1 then some (LO.norm (wi .i64 ((wi .i64 ((wi .i64 (2 * s1.1)) + 1)) + 1))) else some (LO.norm (wi .i64 ((wi .i64 (2 * s1.1)) + 1))) else some (LO.norm (wi .i64 ((wi .i64 (2 * s1.1)) + 1)))).bind (contO (fun s3=>(getI s1.2 (wi .i64 (a3 + s1.1))).bind fun x3=>(getI s1.2 (wi .i64 (a3 + s3))).bind fun x4=>(m226 x3 x4).bind fun y2=>bif !y2 then some (LO.ret (s1.1,s1.2)) else (getI s1.2 (wi .i64 (a3 + s3))).bind fun x5=>(getI s1.2 (wi .i64 (a3 + s1.1))).bind fun x6=>(getI s1.2 (wi .i64 (a3 + s1.1))).bind fun x7=>(getI (s1.2.set (Int.toNat (wi .i64 (a3 + s1.1))) x5) (wi .i64 (a3 + s3))).bind fun x8=>some (LO.norm (s3,(s1.2.set (Int.toNat (wi .i64 (a3 + s1.1))) x5).set (Int.toNat (wi .i64 (a3 + s3))) x6))) (fun i1 s3=>if i1 = 1 then some (LO.norm (s1.1,s1.2)) else some (LO.exit i1 (s1.1,s1.2))) (fun s3=>some (LO.ret (s1.1,s1.2))))
def m239 (a0:List Int) (a1:Int) (a2:Int) (a3:Int):Option ((List Int)):=(loopO (ms239_0 a2 a3) NN (a1,a0)).bind (contO (fun _=>none) (fun i2 s4=>if i2 = 0 then some s4.2 else none) (fun s4=>some s4.2))
theorem w239 {d:Nat} (hd:3≤d) (L0:List En) (v0_:AV) (a0:List Int) (a1:Int) (a2:Int) (a3:Int):Okh (sl false v0_ (a0:List Int)::L0) (fun S=>R NN d 239 [v0_,.int .i64 a1,.int .i64 a2,.int .i64 a3] S) (m239 a0 a1 a2 a3) (P2 (fun (t:(List Int))=>und) (fun (t:(List Int))=>sl false v0_ t::L0)):=by
  obtain ⟨d,rfl,g⟩:=up hd
  refine q_to (t239 NN d _ _ _ _) ?_
  unfold b239 m239
  refine q_lp (A:=fun (s:Int×(List Int))=>[.int .i64 s.1]) (B:=fun s=>sl false v0_ (s.2:List Int)::L0) 0 rr ?_ ?_ ?_
  ·intro s1
   unfold s239_0 ms239_0
   refine q_p fr<|q_p fr<|q_p fr<|q_i ?_ ?_
   ·exact q_exit 0 rr
   ·refine q_cu (A:=fun (s:Int)=>[.int .i64 s]) (B:=fun s=>sl false v0_ (s1.2:List Int)::L0) ?_ ?_ ?_ ?_
    ·refine q_p fr<|q_p fr<|q_k ?_ ?_
     ·exact q_p fr<|q_ixo 0 rfl rfl fun x1 hx1=>q_ldo 0 rfl hx1 rfl<|q_p fr<|q_p fr<|q_ixo 0 rfl rfl fun x2 hx2=>q_ldo 0 rfl hx2 rfl<|q_c0 (aF2 (cv_p rfl) (cv_p rfl) fun l0_ l1_=>w226 (by omega) x1 x2) fun y1 hy1=>q_i (q_p fr<|q_norm 0 rr)<|q_norm 0 rr
     ·first | refine q_ifF1 ?_ | skip
      exact q_norm 0 rr
    ·exact fun s3=>q_p fr<|q_ixo 0 rfl rfl fun x3 hx3=>q_ldo 0 rfl hx3 rfl<|q_p fr<|q_ixo 0 rfl rfl fun x4 hx4=>q_ldo 0 rfl hx4 rfl<|q_c0 (aF2 (cv_p rfl) (cv_p rfl) fun l0_ l1_=>w226 (by omega) x3 x4) fun y2 hy2=>q_p fr<|q_i (q_lret 0 rr)<|q_p fr<|q_p fr<|q_p fr<|q_ixo 0 rfl rfl fun x5 hx5=>q_ldo 0 rfl hx5 rfl<|q_p fr<|q_ixo 0 rfl rfl fun x6 hx6=>q_ldo 0 rfl hx6 rfl<|q_ixo 0 rfl rfl fun x7 hx7=>q_stoe (y:=x5) 0 rfl rfl hx7 rfl (by decide)<|q_ixo 0 rfl rfl fun x8 hx8=>q_stoe (y:=x6) 0 rfl rfl hx8 rfl (by decide)<|q_norm 0 rr
    ·exact fun i1 s3=>q_n (q_norm 0 rr)<|q_exit 0 rr
    ·exact fun s3=>q_lret 0 rr
  ·exact fun i2 s4=>q_n (q_ret2 0 rfl rfl)<|q_none
  ·exact fun s4=>q_ret2 0 rfl rfl
def ms221_0 (a1:Int) (a2:Int) (s1:Int×(List Int)):Option (LO (Int×(List Int))):=bif decide (s1.1 ≥ 0) then (m239 s1.2 s1.1 (wi .i64 (a2 - a1)) a1).bind fun y1=>some (LO.norm (wi .i64 (s1.1 - 1),y1)) else some (LO.exit 0 (s1.1,s1.2))
def ms221_1 (a1:Int) (s3:Int×(List Int)):Option (LO (Int×(List Int))):=bif decide (s3.1 ≥ 0) then (getI s3.2 (wi .i64 (a1 + s3.1))).bind fun x1=>(getI s3.2 a1).bind fun x2=>(getI s3.2 a1).bind fun x3=>(getI (s3.2.set (Int.toNat a1) x1) (wi .i64 (a1 + s3.1))).bind fun x4=>(m239 ((s3.2.set (Int.toNat a1) x1).set (Int.toNat (wi .i64 (a1 + s3.1))) x2) 0 s3.1 a1).bind fun y2=>some (LO.norm (wi .i64 (s3.1 - 1),y2)) else some (LO.exit 2 (s3.1,s3.2))
def m221 (a0:List Int) (a1:Int) (a2:Int):Option ((List Int)):=(loopO (ms221_0 a1 a2) NN (wi .i64 (Int.tdiv (wi .i64 ((wi .i64 (a2 - a1)) - 1)) 2),a0)).bind (contO (fun _=>none) (fun i1 s2=>if i1 = 0 then (loopO (ms221_1 a1) NN (wi .i64 ((wi .i64 (a2 - a1)) - 1),s2.2)).bind (contO (fun _=>none) (fun i2 s4=>if i2 = 2 then some s4.2 else none) (fun s4=>some s4.2)) else none) (fun s2=>some s2.2))
theorem w221 {d:Nat} (hd:4≤d) (L0:List En) (v0_:AV) (a0:List Int) (a1:Int) (a2:Int):Okh (sl false v0_ (a0:List Int)::L0) (fun S=>R NN d 221 [v0_,.int .i64 a1,.int .i64 a2] S) (m221 a0 a1 a2) (P2 (fun (t:(List Int))=>und) (fun (t:(List Int))=>sl false v0_ t::L0)):=by
  obtain ⟨d,rfl,g⟩:=up hd
  refine q_to (t221 NN d _ _ _) ?_
  unfold b221 m221
  refine q_p fr<|q_p fr<|q_p fr<|q_lp (A:=fun (s:Int×(List Int))=>[.int .i64 s.1]) (B:=fun s=>sl false v0_ (s.2:List Int)::L0) 0 rr ?_ ?_ ?_
  ·intro s1
   unfold s221_0 ms221_0
   exact q_p fr<|q_i (q_s (mg:=m239 s1.2 s1.1 (wi .i64 (a2 - a1)) a1) (w239 (by omega) _ _ s1.2 s1.1 (wi .i64 (a2 - a1)) a1) fun y1 hy1=>q_p fr<|q_norm 0 rr)<|q_exit 0 rr
  ·intro i1 s2
   refine q_n ?_ ?_
   ·refine q_p fr<|q_lp (A:=fun (s:Int×(List Int))=>[.int .i64 s.1]) (B:=fun s=>sl false v0_ (s.2:List Int)::L0) 0 rr ?_ ?_ ?_
    ·intro s3
     unfold s221_1 ms221_1
     exact q_p fr<|q_i (q_p fr<|q_p fr<|q_ixo 0 rfl rfl fun x1 hx1=>q_ldo 0 rfl hx1 rfl<|q_ixo 0 rfl rfl fun x2 hx2=>q_ldo 0 rfl hx2 rfl<|q_ixo 0 rfl rfl fun x3 hx3=>q_stoe (y:=x1) 0 rfl rfl hx3 rfl (by decide)<|q_ixo 0 rfl rfl fun x4 hx4=>q_stoe (y:=x2) 0 rfl rfl hx4 rfl (by decide)<|q_s (mg:=m239 ((s3.2.set (Int.toNat a1) x1).set (Int.toNat (wi .i64 (a1 + s3.1))) x2) 0 s3.1 a1) (w239 (by omega) _ _ ((s3.2.set (Int.toNat a1) x1).set (Int.toNat (wi .i64 (a1 + s3.1))) x2) 0 s3.1 a1) fun y2 hy2=>q_p fr<|q_norm 0 rr)<|q_exit 0 rr
    ·exact fun i2 s4=>q_n (q_ret2 0 rfl rfl)<|q_none
    ·exact fun s4=>q_ret2 0 rfl rfl
   ·exact q_none
  ·exact fun s2=>q_ret2 0 rfl rfl
def m229 (a0:Int):Option (Int):=( bif decide (a0 ≥ 65536) then some (LO.norm (shrI .u32 a0 16,16)) else some (LO.norm (a0,0))).bind (contO (fun s2=>( bif decide (s2.1 ≥ 256) then some (LO.norm (shrI .u32 s2.1 8,wi .i64 (s2.2 + 8))) else some (LO.norm (s2.1,s2.2))).bind (contO (fun s4=>(getI ([0,1,2,2,3,3,3,3,4,4,4,4,4,4,4,4,5,5,5,5,5,5,5,5,5,5,5,5,5,5,5,5,6,6,6,6,6,6,6,6,6,6,6,6,6,6,6,6,6,6,6,6,6,6,6,6,6,6,6,6,6,6,6,6,7,7,7,7,7,7,7,7,7,7,7,7,7,7,7,7,7,7,7,7,7,7,7,7,7,7,7,7,7,7,7,7,7,7,7,7,7,7,7,7,7,7,7,7,7,7,7,7,7,7,7,7,7,7,7,7,7,7,7,7,7,7,7,7,8,8,8,8,8,8,8,8,8,8,8,8,8,8,8,8,8,8,8,8,8,8,8,8,8,8,8,8,8,8,8,8,8,8,8,8,8,8,8,8,8,8,8,8,8,8,8,8,8,8,8,8,8,8,8,8,8,8,8,8,8,8,8,8,8,8,8,8,8,8,8,8,8,8,8,8,8,8,8,8,8,8,8,8,8,8,8,8,8,8,8,8,8,8,8,8,8,8,8,8,8,8,8,8,8,8,8,8,8,8,8,8,8,8,8,8,8,8,8,8,8,8,8,8,8,8,8,8]:Str) (wi .u8 s4.1)).bind fun c1=>some (wi .i64 (s4.2 + (wi .i64 (c1.toNat:Int))))) (fun i2 s4=>none) (fun s4=>some s4.2))) (fun i1 s2=>none) (fun s2=>some s2.2))
def m230 (a0:Int):Option (Int):=( bif decide (a0 ≥ 4294967296) then some (LO.norm (shrI .u64 a0 32,32)) else some (LO.norm (a0,0))).bind (contO (fun s2=>( bif decide (s2.1 ≥ 65536) then some (LO.norm (shrI .u64 s2.1 16,wi .i64 (s2.2 + 16))) else some (LO.norm (s2.1,s2.2))).bind (contO (fun s4=>( bif decide (s4.1 ≥ 256) then some (LO.norm (shrI .u64 s4.1 8,wi .i64 (s4.2 + 8))) else some (LO.norm (s4.1,s4.2))).bind (contO (fun s6=>(getI ([0,1,2,2,3,3,3,3,4,4,4,4,4,4,4,4,5,5,5,5,5,5,5,5,5,5,5,5,5,5,5,5,6,6,6,6,6,6,6,6,6,6,6,6,6,6,6,6,6,6,6,6,6,6,6,6,6,6,6,6,6,6,6,6,7,7,7,7,7,7,7,7,7,7,7,7,7,7,7,7,7,7,7,7,7,7,7,7,7,7,7,7,7,7,7,7,7,7,7,7,7,7,7,7,7,7,7,7,7,7,7,7,7,7,7,7,7,7,7,7,7,7,7,7,7,7,7,7,8,8,8,8,8,8,8,8,8,8,8,8,8,8,8,8,8,8,8,8,8,8,8,8,8,8,8,8,8,8,8,8,8,8,8,8,8,8,8,8,8,8,8,8,8,8,8,8,8,8,8,8,8,8,8,8,8,8,8,8,8,8,8,8,8,8,8,8,8,8,8,8,8,8,8,8,8,8,8,8,8,8,8,8,8,8,8,8,8,8,8,8,8,8,8,8,8,8,8,8,8,8,8,8,8,8,8,8,8,8,8,8,8,8,8,8,8,8,8,8,8,8,8,8,8,8,8,8]:Str) (wi .u8 s6.1)).bind fun c1=>some (wi .i64 (s6.2 + (wi .i64 (c1.toNat:Int))))) (fun i3 s6=>none) (fun s6=>some s6.2))) (fun i2 s4=>none) (fun s4=>some s4.2))) (fun i1 s2=>none) (fun s2=>some s2.2))
theorem w230 {d:Nat} (hd:1≤d) (a0:Int):Fit (R NN d 230 [.int .u64 a0] []) (m230 a0) PI:=by
  obtain ⟨d,rfl,g⟩:=up hd
  refine q_in (t230 NN d _) ?_
  unfold b230 m230
  refine q_cu (A:=fun (s:Int×Int)=>[.int .u64 s.1,.int .i64 s.2]) (B:=fun s=>[]) ?_ ?_ ?_ ?_
  ·exact q_p fr<|q_i (q_p fr<|q_norm 0 rr)<|q_norm 0 rr
  ·intro s2
   refine q_cu (A:=fun (s:Int×Int)=>[.int .u64 s.1,.int .i64 s.2]) (B:=fun s=>[]) ?_ ?_ ?_ ?_
   ·exact q_p fr<|q_i (q_p fr<|q_p fr<|q_norm 0 rr)<|q_norm 0 rr
   ·intro s4
    refine q_cu (A:=fun (s:Int×Int)=>[.int .u64 s.1,.int .i64 s.2]) (B:=fun s=>[]) ?_ ?_ ?_ ?_
    ·exact q_p fr<|q_i (q_p fr<|q_p fr<|q_norm 0 rr)<|q_norm 0 rr
    ·exact fun s6=>q_p (fun _=>cvt225_5 _ _)<|q_sx fun c1 hc1=>q_p (fun _=>cvt5_3 _ _)<|q_p fr<|q_ret (cv_p rfl) rfl
    ·exact fun i3 s6=>q_none
    ·exact fun s6=>q_ret (cv_p rfl) rfl
   ·exact fun i2 s4=>q_none
   ·exact fun s4=>q_ret (cv_p rfl) rfl
  ·exact fun i1 s2=>q_none
  ·exact fun s2=>q_ret (cv_p rfl) rfl
def m199 (a0:Int):Option (Int):=(m230 a0).bind fun y1=>some y1
theorem w199 {d:Nat} (hd:2≤d) (a0:Int):Fit (R NN d 199 [.int .u64 a0] []) (m199 a0) PI:=by
  obtain ⟨d,rfl,g⟩:=up hd
  refine q_in (t199 NN d _) ?_
  unfold b199 m199
  first | refine q_ifF1 ?_ | skip
  exact q_c0 (aF1 (cv_p rfl) fun l0_=>w230 (by omega) a0) fun y1 hy1=>q_ret (cv_p rfl) rfl
def m240 (a0:Int):Option (Int):=(m199 (wi .u64 a0)).bind fun y1=>(shlO .u64 1 y1).bind fun q1=>some q1
theorem w240 {d:Nat} (hd:3≤d) (a0:Int):Fit (R NN d 240 [.int .i64 a0] []) (m240 a0) (P0 (fun (t:Int)=>AV.int .u64 t)):=by
  obtain ⟨d,rfl,g⟩:=up hd
  refine q_in (t240 NN d _) ?_
  unfold b240 m240
  exact q_p (fun _=>cvt3_220 _ _)<|q_c0 (aF1 (cv_p rfl) fun l0_=>w199 (by omega) (wi .u64 a0)) fun y1 hy1=>q_shl fun q1 hq1=>q_ret (cv_p rfl) rfl
def m241 (a0:Int):Int×Int:=(xorI .u64 (xorI .u64 (xorI .u64 a0 (shlI .u64 a0 13)) (shrI .u64 (xorI .u64 a0 (shlI .u64 a0 13)) 7)) (shlI .u64 (xorI .u64 (xorI .u64 a0 (shlI .u64 a0 13)) (shrI .u64 (xorI .u64 a0 (shlI .u64 a0 13)) 7)) 17),xorI .u64 (xorI .u64 (xorI .u64 a0 (shlI .u64 a0 13)) (shrI .u64 (xorI .u64 a0 (shlI .u64 a0 13)) 7)) (shlI .u64 (xorI .u64 (xorI .u64 a0 (shlI .u64 a0 13)) (shrI .u64 (xorI .u64 a0 (shlI .u64 a0 13)) 7)) 17))
theorem w241 {d:Nat} (hd:1≤d) (L0:List En) (b0_:Nat) (a0:Int):Okh (bx b0_ [.int .u64 a0]::L0) (fun S=>R NN d 241 [.bp b0_ 0 0 1 1] S) (some (m241 a0)) (P2 (fun (t:Int×Int)=>AV.int .u64 t.1) (fun (t:Int×Int)=>bx b0_ [.int .u64 t.2]::L0)):=by
  obtain ⟨d,rfl,g⟩:=up hd
  refine q_to (t241 NN d _) ?_
  unfold b241 m241
  exact q_q fr<|q_ld 0 rfl rfl<|q_q fr<|q_ld 0 rfl rfl<|q_p fr<|q_p fr<|q_q fr<|q_st 0 rfl rfl rfl (by decide) rfl<|q_q fr<|q_ld 0 rfl rfl<|q_q fr<|q_ld 0 rfl rfl<|q_p fr<|q_p fr<|q_q fr<|q_st 0 rfl rfl rfl (by decide) rfl<|q_q fr<|q_ld 0 rfl rfl<|q_q fr<|q_ld 0 rfl rfl<|q_p fr<|q_p fr<|q_q fr<|q_st 0 rfl rfl rfl (by decide) rfl<|q_q fr<|q_ld 0 rfl rfl<|q_ret2 0 rfl rfl
def ms222_0 (a1:Int) (a2:Int) (y1:Int) (s1:Int×Int×(List Int)):Option (LO (Int×Int×(List Int))):=bif decide (s1.1≤(wi .i64 ((wi .i64 (a1 + (wi .i64 ((wi .i64 (Int.tdiv (wi .i64 (a2 - a1)) 4)) * 2)))) + 1))) then ( (some (m241 s1.2.1)).bind fun y2=>( bif decide ((wi .i64 (andI .u64 y2.1 (wi .u64 (y1 - 1)))) ≥ (wi .i64 (a2 - a1))) then some (LO.norm (wi .i64 ((wi .i64 (andI .u64 y2.1 (wi .u64 (y1 - 1)))) - (wi .i64 (a2 - a1))))) else some (LO.norm (wi .i64 (andI .u64 y2.1 (wi .u64 (y1 - 1)))))).bind (contO (fun s4=>(getI s1.2.2 (wi .i64 (a1 + s4))).bind fun x1=>(getI s1.2.2 s1.1).bind fun x2=>(getI s1.2.2 s1.1).bind fun x3=>(getI (s1.2.2.set (Int.toNat s1.1) x1) (wi .i64 (a1 + s4))).bind fun x4=>some (LO.norm (y2.2,(s1.2.2.set (Int.toNat s1.1) x1).set (Int.toNat (wi .i64 (a1 + s4))) x2))) (fun i1 s4=>if i1 = 1 then some (LO.norm (y2.2,s1.2.2)) else some (LO.exit i1 (y2.2,s1.2.2))) (fun s4=>some (LO.ret (y2.2,s1.2.2))))).bind (contO (fun s5=>some (LO.norm (wi .i64 (s1.1 + 1),s5.1,s5.2))) (fun i2 s5=>some (LO.exit i2 (s1.1,s5.1,s5.2))) (fun s5=>some (LO.ret (s1.1,s5.1,s5.2)))) else some (LO.exit 0 (s1.1,s1.2.1,s1.2.2))
def m222 (a0:List Int) (a1:Int) (a2:Int):Option ((List Int)):=bif decide ((wi .i64 (a2 - a1)) ≥ 8) then (m240 (wi .i64 (a2 - a1))).bind fun y1=>(loopO (ms222_0 a1 a2 y1) NN (wi .i64 ((wi .i64 (a1 + (wi .i64 ((wi .i64 (Int.tdiv (wi .i64 (a2 - a1)) 4)) * 2)))) - 1),wi .u64 (wi .i64 (a2 - a1)),a0)).bind (contO (fun _=>none) (fun i3 s6=>if i3 = 0 then some s6.2.2 else none) (fun s6=>some s6.2.2)) else some a0
theorem w222 {d:Nat} (hd:4≤d) (L0:List En) (v0_:AV) (a0:List Int) (a1:Int) (a2:Int):Okh (sl false v0_ (a0:List Int)::L0) (fun S=>R NN d 222 [v0_,.int .i64 a1,.int .i64 a2] S) (m222 a0 a1 a2) (P2 (fun (t:(List Int))=>und) (fun (t:(List Int))=>sl false v0_ t::L0)):=by
  obtain ⟨d,rfl,g⟩:=up hd
  refine q_to (t222 NN d _ _ _) ?_
  unfold b222 m222
  refine q_p fr<|q_p fr<|q_i ?_ ?_
  ·refine q_p (fun _=>cvt3_255 _ _)<|q_new rfl fun b1=>q_st 0 rfl rfl rfl (by decide) rfl<|q_c0 (aF1 (cv_p rfl) fun l0_=>w240 (by omega) (wi .i64 (a2 - a1))) fun y1 hy1=>q_p fr<|q_p fr<|q_p fr<|q_p fr<|q_lp (A:=fun (s:Int×Int×(List Int))=>[.int .i64 s.1]) (B:=fun s=>bx b1 [.int .u64 s.2.1]::sl false v0_ (s.2.2:List Int)::L0) 0 rr ?_ ?_ ?_
   ·intro s1
    unfold s222_0 ms222_0
    refine q_p fr<|q_p fr<|q_p fr<|q_p fr<|q_p fr<|q_i ?_ ?_
    ·refine q_cu (A:=fun (s:Int×(List Int))=>[]) (B:=fun s=>bx b1 [.int .u64 s.1]::sl false v0_ (s.2:List Int)::L0) ?_ ?_ ?_ ?_
     ·refine q_s (mg:=some (m241 s1.2.1)) (w241 (by omega) _ _ s1.2.1) fun y2 hy2=>q_p fr<|q_p fr<|q_p (fun _=>cvt220_3 _ _)<|q_cu (A:=fun (s:Int)=>[.int .i64 s]) (B:=fun s=>bx b1 [.int .u64 y2.2]::sl false v0_ (s1.2.2:List Int)::L0) ?_ ?_ ?_ ?_
      ·exact q_p fr<|q_i (q_p fr<|q_norm 0 rr)<|q_norm 0 rr
      ·exact fun s4=>q_p fr<|q_p fr<|q_ixo 1 rfl rfl fun x1 hx1=>q_ldo 1 rfl hx1 rfl<|q_ixo 1 rfl rfl fun x2 hx2=>q_ldo 1 rfl hx2 rfl<|q_ixo 1 rfl rfl fun x3 hx3=>q_stoe (y:=x1) 1 rfl rfl hx3 rfl (by decide)<|q_ixo 1 rfl rfl fun x4 hx4=>q_stoe (y:=x2) 1 rfl rfl hx4 rfl (by decide)<|q_norm 0 rr
      ·exact fun i1 s4=>q_n (q_norm 0 rr)<|q_exit 0 rr
      ·exact fun s4=>q_lret 0 rr
     ·exact fun s5=>q_p fr<|q_norm 0 rr
     ·exact fun i2 s5=>q_exit 0 rr
     ·exact fun s5=>q_lret 0 rr
    ·exact q_exit 0 rr
   ·exact fun i3 s6=>q_n (q_ret2 1 rfl rfl)<|q_none
   ·exact fun s6=>q_ret2 1 rfl rfl
  ·exact q_ret2 0 rfl rfl
def m252 (a0:List Int) (a1:Int) (a2:Int) (a3:Int):Option (Int×Int×Int):=(getI a0 a2).bind fun x1=>(getI a0 a1).bind fun x2=>(m226 x1 x2).bind fun y1=>bif y1 then some (a2,a1,wi .i64 (a3 + 1)) else some (a1,a2,a3)
theorem w252 {d:Nat} (hd:3≤d) (L0:List En) (k0:Bool) (f0_:Bool) (a0:List Int) (a1:Int) (a2:Int) (b3_:Nat) (a3:Int):Okh (bx b3_ [.int .i64 a3]::L0) (fun S=>R NN d 252 [.rsl k0 f0_ (a0.map (Enc.cs k0)),.int .i64 a1,.int .i64 a2,.bp b3_ 0 0 1 1] S) (m252 a0 a1 a2 a3) (P2 (fun (t:Int×Int×Int)=>AV.tup [.int .i64 t.1,.int .i64 t.2.1]) (fun (t:Int×Int×Int)=>bx b3_ [.int .i64 t.2.2]::L0)):=by
  obtain ⟨d,rfl,g⟩:=up hd
  refine q_to (t252 NN d _ _ _ _) ?_
  unfold b252 m252
  exact q_ix rfl fun x1 hx1=>q_p fr<|q_ix rfl fun x2 hx2=>q_p fr<|q_c0 (aF2 (cv_p rfl) (cv_p rfl) fun l0_ l1_=>w226 (by omega) x1 x2) fun y1 hy1=>q_i (q_q fr<|q_ld 0 rfl rfl<|q_p fr<|q_q fr<|q_st 0 rfl rfl rfl (by decide) rfl<|q_ret2 0 rfl rfl)<|q_ret2 0 rfl rfl
def m243 (a0:List Int) (a1:Int) (a2:Int) (a3:Int) (a4:Int):Option (Int×Int):=(m252 a0 a1 a2 a4).bind fun y1=>(m252 a0 y1.2.1 a3 y1.2.2).bind fun y2=>(m252 a0 y1.1 y2.1 y2.2.2).bind fun y3=>some (y3.2.1,y3.2.2)
theorem w243 {d:Nat} (hd:4≤d) (L0:List En) (k0:Bool) (f0_:Bool) (a0:List Int) (a1:Int) (a2:Int) (a3:Int) (b4_:Nat) (a4:Int):Okh (bx b4_ [.int .i64 a4]::L0) (fun S=>R NN d 243 [.rsl k0 f0_ (a0.map (Enc.cs k0)),.int .i64 a1,.int .i64 a2,.int .i64 a3,.bp b4_ 0 0 1 1] S) (m243 a0 a1 a2 a3 a4) (P2 (fun (t:Int×Int)=>AV.int .i64 t.1) (fun (t:Int×Int)=>bx b4_ [.int .i64 t.2]::L0)):=by
  obtain ⟨d,rfl,g⟩:=up hd
  refine q_to (t243 NN d _ _ _ _ _) ?_
  unfold b243 m243
  exact q_s (mg:=m252 a0 a1 a2 a4) (w252 (by omega) _ _ _ a0 a1 a2 _ a4) fun y1 hy1=>q_q fr<|q_q fr<|q_s (mg:=m252 a0 y1.2.1 a3 y1.2.2) (w252 (by omega) _ _ _ a0 y1.2.1 a3 _ y1.2.2) fun y2 hy2=>q_q fr<|q_q fr<|q_s (mg:=m252 a0 y1.1 y2.1 y2.2.2) (w252 (by omega) _ _ _ a0 y1.1 y2.1 _ y2.2.2) fun y3 hy3=>q_q fr<|q_q fr<|q_ret2 0 rfl rfl
def m242 (a0:List Int) (a1:Int) (a2:Int):Option (Int×Int):=(m243 a0 (wi .i64 (a1 - 1)) a1 (wi .i64 (a1 + 1)) a2).bind fun y1=>some (y1.1,y1.2)
theorem w242 {d:Nat} (hd:5≤d) (L0:List En) (k0:Bool) (f0_:Bool) (a0:List Int) (a1:Int) (b2_:Nat) (a2:Int):Okh (bx b2_ [.int .i64 a2]::L0) (fun S=>R NN d 242 [.rsl k0 f0_ (a0.map (Enc.cs k0)),.int .i64 a1,.bp b2_ 0 0 1 1] S) (m242 a0 a1 a2) (P2 (fun (t:Int×Int)=>AV.int .i64 t.1) (fun (t:Int×Int)=>bx b2_ [.int .i64 t.2]::L0)):=by
  obtain ⟨d,rfl,g⟩:=up hd
  refine q_to (t242 NN d _ _ _) ?_
  unfold b242 m242
  exact q_p fr<|q_p fr<|q_s (mg:=m243 a0 (wi .i64 (a1 - 1)) a1 (wi .i64 (a1 + 1)) a2) (w243 (by omega) _ _ _ a0 (wi .i64 (a1 - 1)) a1 (wi .i64 (a1 + 1)) _ a2) fun y1 hy1=>q_ret2 0 rfl rfl
def m223 (a0:List Int) (a1:Int) (a2:Int):Option (Int×Int):=( bif decide ((wi .i64 (a2 - a1)) ≥ 8) then ( bif decide ((wi .i64 (a2 - a1)) ≥ 50) then (m242 a0 (wi .i64 (a1 + (wi .i64 ((wi .i64 (Int.tdiv (wi .i64 (a2 - a1)) 4)) * 1)))) 0).bind fun y1=>(m242 a0 (wi .i64 (a1 + (wi .i64 ((wi .i64 (Int.tdiv (wi .i64 (a2 - a1)) 4)) * 2)))) y1.2).bind fun y2=>(m242 a0 (wi .i64 (a1 + (wi .i64 ((wi .i64 (Int.tdiv (wi .i64 (a2 - a1)) 4)) * 3)))) y2.2).bind fun y3=>some (LO.norm (y1.1,y2.1,y3.1,y3.2)) else some (LO.norm (wi .i64 (a1 + (wi .i64 ((wi .i64 (Int.tdiv (wi .i64 (a2 - a1)) 4)) * 1))),wi .i64 (a1 + (wi .i64 ((wi .i64 (Int.tdiv (wi .i64 (a2 - a1)) 4)) * 2))),wi .i64 (a1 + (wi .i64 ((wi .i64 (Int.tdiv (wi .i64 (a2 - a1)) 4)) * 3))),0))).bind (contO (fun s3=>(m243 a0 s3.1 s3.2.1 s3.2.2.1 s3.2.2.2).bind fun y4=>some (LO.norm (y4.1,y4.2))) (fun i1 s3=>some (LO.exit i1 (s3.2.1,s3.2.2.2))) (fun s3=>some (LO.ret (s3.2.1,s3.2.2.2)))) else some (LO.norm (wi .i64 (a1 + (wi .i64 ((wi .i64 (Int.tdiv (wi .i64 (a2 - a1)) 4)) * 2))),0))).bind (contO (fun s4=>bif s4.2 == 0 then some (s4.1,1) else bif s4.2 == 12 then some (s4.1,2) else some (s4.1,0)) (fun i2 s4=>none) (fun s4=>some (0,0)))
theorem w223 {d:Nat} (hd:6≤d) (k0:Bool) (a0:List Int) (a1:Int) (a2:Int):Fit (R NN d 223 [.rsl k0 false (a0.map (Enc.cs k0)),.int .i64 a1,.int .i64 a2] []) (m223 a0 a1 a2) (P0 (fun (t:Int×Int)=>AV.tup [.int .i64 t.1,.int .i64 t.2])):=by
  obtain ⟨d,rfl,g⟩:=up hd
  refine q_in (t223 NN d _ _ _) ?_
  unfold b223 m223
  refine q_p fr<|q_new rfl fun b1=>q_p fr<|q_p fr<|q_p fr<|q_p fr<|q_p fr<|q_p fr<|q_p fr<|q_p fr<|q_p fr<|q_cu (A:=fun (s:Int×Int)=>[.int .i64 s.1]) (B:=fun s=>[bx b1 [.int .i64 s.2]]) ?_ ?_ ?_ ?_
  ·refine q_p fr<|q_i ?_ ?_
   ·refine q_cu (A:=fun (s:Int×Int×Int×Int)=>[.int .i64 s.1,.int .i64 s.2.1,.int .i64 s.2.2.1]) (B:=fun s=>[bx b1 [.int .i64 s.2.2.2]]) ?_ ?_ ?_ ?_
    ·exact q_p fr<|q_i (q_s (mg:=m242 a0 (wi .i64 (a1 + (wi .i64 ((wi .i64 (Int.tdiv (wi .i64 (a2 - a1)) 4)) * 1)))) 0) (w242 (by omega) _ _ _ a0 (wi .i64 (a1 + (wi .i64 ((wi .i64 (Int.tdiv (wi .i64 (a2 - a1)) 4)) * 1)))) _ 0) fun y1 hy1=>q_s (mg:=m242 a0 (wi .i64 (a1 + (wi .i64 ((wi .i64 (Int.tdiv (wi .i64 (a2 - a1)) 4)) * 2)))) y1.2) (w242 (by omega) _ _ _ a0 (wi .i64 (a1 + (wi .i64 ((wi .i64 (Int.tdiv (wi .i64 (a2 - a1)) 4)) * 2)))) _ y1.2) fun y2 hy2=>q_s (mg:=m242 a0 (wi .i64 (a1 + (wi .i64 ((wi .i64 (Int.tdiv (wi .i64 (a2 - a1)) 4)) * 3)))) y2.2) (w242 (by omega) _ _ _ a0 (wi .i64 (a1 + (wi .i64 ((wi .i64 (Int.tdiv (wi .i64 (a2 - a1)) 4)) * 3)))) _ y2.2) fun y3 hy3=>q_norm 0 rr)<|q_norm 0 rr
    ·exact fun s3=>q_s (mg:=m243 a0 s3.1 s3.2.1 s3.2.2.1 s3.2.2.2) (w243 (by omega) _ _ _ a0 s3.1 s3.2.1 s3.2.2.1 _ s3.2.2.2) fun y4 hy4=>q_norm 0 rr
    ·exact fun i1 s3=>q_exit 0 rr
    ·exact fun s3=>q_lret 0 rr
   ·exact q_norm 0 rr
  ·exact fun s4=>q_ld 0 rfl rfl<|q_p fr<|q_i (q_ret (cv_t (cvs_cons (cv_p rfl) (cvs_cons (cv_p rfl) cvs_nil))) rfl)<|q_p fr<|q_i (q_ret (cv_t (cvs_cons (cv_p rfl) (cvs_cons (cv_p rfl) cvs_nil))) rfl)<|q_ret (cv_t (cvs_cons (cv_p rfl) (cvs_cons (cv_p rfl) cvs_nil))) rfl
  ·exact fun i2 s4=>q_none
  ·exact fun s4=>q_ret (cv_t (cvs_cons (cv_p rfl) (cvs_cons (cv_p rfl) cvs_nil))) rfl
def ms224_0 (s1:Int×Int×(List Int)):Option (LO (Int×Int×(List Int))):=bif decide (s1.1 < s1.2.1) then (getI s1.2.2 s1.2.1).bind fun x1=>(getI s1.2.2 s1.1).bind fun x2=>(getI s1.2.2 s1.1).bind fun x3=>(getI (s1.2.2.set (Int.toNat s1.1) x1) s1.2.1).bind fun x4=>some (LO.norm (wi .i64 (s1.1 + 1),wi .i64 (s1.2.1 - 1),(s1.2.2.set (Int.toNat s1.1) x1).set (Int.toNat s1.2.1) x2)) else some (LO.exit 0 (s1.1,s1.2.1,s1.2.2))
def m224 (a0:List Int) (a1:Int) (a2:Int):Option ((List Int)):=(loopO (ms224_0) NN (a1,wi .i64 (a2 - 1),a0)).bind (contO (fun _=>none) (fun i1 s2=>if i1 = 0 then some s2.2.2 else none) (fun s2=>some s2.2.2))
theorem w224 {d:Nat} (hd:1≤d) (L0:List En) (v0_:AV) (a0:List Int) (a1:Int) (a2:Int):Okh (sl false v0_ (a0:List Int)::L0) (fun S=>R NN d 224 [v0_,.int .i64 a1,.int .i64 a2] S) (m224 a0 a1 a2) (P2 (fun (t:(List Int))=>und) (fun (t:(List Int))=>sl false v0_ t::L0)):=by
  obtain ⟨d,rfl,g⟩:=up hd
  refine q_to (t224 NN d _ _ _) ?_
  unfold b224 m224
  refine q_p fr<|q_lp (A:=fun (s:Int×Int×(List Int))=>[.int .i64 s.1,.int .i64 s.2.1]) (B:=fun s=>sl false v0_ (s.2.2:List Int)::L0) 0 rr ?_ ?_ ?_
  ·intro s1
   unfold s224_0 ms224_0
   exact q_p fr<|q_i (q_ixo 0 rfl rfl fun x1 hx1=>q_ldo 0 rfl hx1 rfl<|q_ixo 0 rfl rfl fun x2 hx2=>q_ldo 0 rfl hx2 rfl<|q_ixo 0 rfl rfl fun x3 hx3=>q_stoe (y:=x1) 0 rfl rfl hx3 rfl (by decide)<|q_ixo 0 rfl rfl fun x4 hx4=>q_stoe (y:=x2) 0 rfl rfl hx4 rfl (by decide)<|q_p fr<|q_p fr<|q_norm 0 rr)<|q_exit 0 rr
  ·exact fun i1 s2=>q_n (q_ret2 0 rfl rfl)<|q_none
  ·exact fun s2=>q_ret2 0 rfl rfl
def ms225_0 (a2:Int) (s1:Bool×Int×Int×(List Int)) (s3:Int):Option (LO (Int)):=( ( bif decide (s3 < a2) then (getI s1.2.2.2 s3).bind fun x1=>(getI s1.2.2.2 (wi .i64 (s3 - 1))).bind fun x2=>(m226 x1 x2).bind fun y1=>some (LO.norm (!y1)) else some (LO.norm false)).bind (contO (fun s6=>bif s6 then some (LO.norm s6) else some (LO.exit 2 s6)) (fun i1 s6=>some (LO.exit i1 s6)) (fun s6=>some (LO.ret s6)))).bind (contO (fun s7=>some (LO.norm (wi .i64 (s3 + 1)))) (fun i2 s7=>some (LO.exit i2 s3)) (fun s7=>some (LO.ret s3)))
def ms225_1 (s10:Int×(List Int)):Option (LO (Int×(List Int))):=bif decide (s10.1 ≥ 1) then (getI s10.2 s10.1).bind fun x7=>(getI s10.2 (wi .i64 (s10.1 - 1))).bind fun x8=>(m226 x7 x8).bind fun y2=>bif !y2 then some (LO.exit 4 (s10.1,s10.2)) else (getI s10.2 (wi .i64 (s10.1 - 1))).bind fun x9=>(getI s10.2 s10.1).bind fun x10=>(getI s10.2 s10.1).bind fun x11=>(getI (s10.2.set (Int.toNat s10.1) x9) (wi .i64 (s10.1 - 1))).bind fun x12=>some (LO.norm (wi .i64 (s10.1 - 1),(s10.2.set (Int.toNat s10.1) x9).set (Int.toNat (wi .i64 (s10.1 - 1))) x10)) else some (LO.exit 4 (s10.1,s10.2))
def ms225_2 (a2:Int) (s13:Int×(List Int)):Option (LO (Int×(List Int))):=bif decide (s13.1 < a2) then (getI s13.2 s13.1).bind fun x13=>(getI s13.2 (wi .i64 (s13.1 - 1))).bind fun x14=>(m226 x13 x14).bind fun y3=>bif !y3 then some (LO.exit 6 (s13.1,s13.2)) else (getI s13.2 (wi .i64 (s13.1 - 1))).bind fun x15=>(getI s13.2 s13.1).bind fun x16=>(getI s13.2 s13.1).bind fun x17=>(getI (s13.2.set (Int.toNat s13.1) x15) (wi .i64 (s13.1 - 1))).bind fun x18=>some (LO.norm (wi .i64 (s13.1 + 1),(s13.2.set (Int.toNat s13.1) x15).set (Int.toNat (wi .i64 (s13.1 - 1))) x16)) else some (LO.exit 6 (s13.1,s13.2))
def ms225_3 (a1:Int) (a2:Int) (s1:Bool×Int×Int×(List Int)):Option (LO (Bool×Int×Int×(List Int))):=bif decide (s1.2.2.1 < 5) then ( (loopO (ms225_0 a2 s1) NN s1.2.1).bind (contO (fun _=>none) (fun i3 s8=>if i3 = 2 then bif s8 == a2 then some (LO.ret (true,s8,s1.2.2.2)) else bif decide ((wi .i64 (a2 - a1)) < 50) then some (LO.ret (false,s8,s1.2.2.2)) else (getI s1.2.2.2 (wi .i64 (s8 - 1))).bind fun x3=>(getI s1.2.2.2 s8).bind fun x4=>(getI s1.2.2.2 s8).bind fun x5=>(getI (s1.2.2.2.set (Int.toNat s8) x3) (wi .i64 (s8 - 1))).bind fun x6=>( bif decide ((wi .i64 (s8 - a1)) ≥ 2) then (loopO (ms225_1) NN (wi .i64 (s8 - 1),(s1.2.2.2.set (Int.toNat s8) x3).set (Int.toNat (wi .i64 (s8 - 1))) x4)).bind (contO (fun _=>none) (fun i4 s11=>if i4 = 4 then some (LO.norm s11.2) else some (LO.exit i4 s11.2)) (fun s11=>some (LO.ret s11.2))) else some (LO.norm ((s1.2.2.2.set (Int.toNat s8) x3).set (Int.toNat (wi .i64 (s8 - 1))) x4))).bind (contO (fun s12=>bif decide ((wi .i64 (a2 - s8)) ≥ 2) then (loopO (ms225_2 a2) NN (wi .i64 (s8 + 1),s12)).bind (contO (fun _=>none) (fun i6 s14=>if i6 = 6 then some (LO.norm (s1.1,s8,s14.2)) else if i6 = 1 then some (LO.norm (s1.1,s8,s14.2)) else some (LO.exit i6 (s1.1,s8,s14.2))) (fun s14=>some (LO.ret (s1.1,s8,s14.2)))) else some (LO.norm (s1.1,s8,s12))) (fun i5 s12=>if i5 = 1 then some (LO.norm (s1.1,s8,s12)) else some (LO.exit i5 (s1.1,s8,s12))) (fun s12=>some (LO.ret (s1.1,s8,s12)))) else if i3 = 1 then some (LO.norm (s1.1,s8,s1.2.2.2)) else some (LO.exit i3 (s1.1,s8,s1.2.2.2))) (fun s8=>some (LO.ret (s1.1,s8,s1.2.2.2))))).bind (contO (fun s15=>some (LO.norm (s15.1,s15.2.1,wi .i64 (s1.2.2.1 + 1),s15.2.2))) (fun i7 s15=>some (LO.exit i7 (s15.1,s15.2.1,s1.2.2.1,s15.2.2))) (fun s15=>some (LO.ret (s15.1,s15.2.1,s1.2.2.1,s15.2.2)))) else some (LO.exit 0 (s1.1,s1.2.1,s1.2.2.1,s1.2.2.2))
def m225 (a0:List Int) (a1:Int) (a2:Int):Option (Bool×(List Int)):=(loopO (ms225_3 a1 a2) NN (false,wi .i64 (a1 + 1),0,a0)).bind (contO (fun _=>none) (fun i8 s16=>if i8 = 0 then some (false,s16.2.2.2) else none) (fun s16=>some (s16.1,s16.2.2.2)))
theorem w225 {d:Nat} (hd:3≤d) (L0:List En) (v0_:AV) (a0:List Int) (a1:Int) (a2:Int):Okh (sl false v0_ (a0:List Int)::L0) (fun S=>R NN d 225 [v0_,.int .i64 a1,.int .i64 a2] S) (m225 a0 a1 a2) (P2 (fun (t:Bool×(List Int))=>AV.bool t.1) (fun (t:Bool×(List Int))=>sl false v0_ t.2::L0)):=by
  obtain ⟨d,rfl,g⟩:=up hd
  refine q_to (t225 NN d _ _ _) ?_
  unfold b225 m225
  refine q_p fr<|q_lp (A:=fun (s:Bool×Int×Int×(List Int))=>[.bool s.1,.int .i64 s.2.1,.int .i64 s.2.2.1]) (B:=fun s=>sl false v0_ (s.2.2.2:List Int)::L0) 0 rr ?_ ?_ ?_
  ·intro s1
   unfold s225_3 ms225_3
   refine q_p fr<|q_i ?_ ?_
   ·refine q_cu (A:=fun (s:Bool×Int×(List Int))=>[.bool s.1,.int .i64 s.2.1]) (B:=fun s=>sl false v0_ (s.2.2:List Int)::L0) ?_ ?_ ?_ ?_
    ·refine q_lp (A:=fun (s:Int)=>[.int .i64 s]) (B:=fun s=>sl false v0_ (s1.2.2.2:List Int)::L0) 0 rr ?_ ?_ ?_
     ·intro s3
      unfold s225_0 ms225_0
      refine q_cu (A:=fun (s:Bool)=>[.bool s]) (B:=fun s=>sl false v0_ (s1.2.2.2:List Int)::L0) ?_ ?_ ?_ ?_
      ·refine q_cu (A:=fun (s:Bool)=>[.bool s]) (B:=fun s=>sl false v0_ (s1.2.2.2:List Int)::L0) ?_ ?_ ?_ ?_
       ·exact q_p fr<|q_k (q_ixo 0 rfl rfl fun x1 hx1=>q_ldo 0 rfl hx1 rfl<|q_p fr<|q_ixo 0 rfl rfl fun x2 hx2=>q_ldo 0 rfl hx2 rfl<|q_c0 (aF2 (cv_p rfl) (cv_p rfl) fun l0_ l1_=>w226 (by omega) x1 x2) fun y1 hy1=>q_p fr<|q_norm 0 rr)<|q_norm 0 rr
       ·exact fun s6=>q_i (q_norm 0 rr)<|q_exit 0 rr
       ·exact fun i1 s6=>q_exit 0 rr
       ·exact fun s6=>q_lret 0 rr
      ·exact fun s7=>q_p fr<|q_norm 0 rr
      ·exact fun i2 s7=>q_exit 0 rr
      ·exact fun s7=>q_lret 0 rr
     ·intro i3 s8
      refine q_n ?_ ?_
      ·refine q_p fr<|q_i ?_ ?_
       ·exact q_lret 0 rr
       ·refine q_p fr<|q_p fr<|q_i ?_ ?_
        ·exact q_lret 0 rr
        ·refine q_p fr<|q_p fr<|q_ixo 0 rfl rfl fun x3 hx3=>q_ldo 0 rfl hx3 rfl<|q_ixo 0 rfl rfl fun x4 hx4=>q_ldo 0 rfl hx4 rfl<|q_ixo 0 rfl rfl fun x5 hx5=>q_stoe (y:=x3) 0 rfl rfl hx5 rfl (by decide)<|q_ixo 0 rfl rfl fun x6 hx6=>q_stoe (y:=x4) 0 rfl rfl hx6 rfl (by decide)<|q_cu (A:=fun (s:(List Int))=>[]) (B:=fun s=>sl false v0_ (s:List Int)::L0) ?_ ?_ ?_ ?_
         ·refine q_p fr<|q_p fr<|q_i ?_ ?_
          ·refine q_p fr<|q_lp (A:=fun (s:Int×(List Int))=>[.int .i64 s.1]) (B:=fun s=>sl false v0_ (s.2:List Int)::L0) 0 rr ?_ ?_ ?_
           ·intro s10
            unfold s225_1 ms225_1
            exact q_p fr<|q_i (q_ixo 0 rfl rfl fun x7 hx7=>q_ldo 0 rfl hx7 rfl<|q_p fr<|q_ixo 0 rfl rfl fun x8 hx8=>q_ldo 0 rfl hx8 rfl<|q_c0 (aF2 (cv_p rfl) (cv_p rfl) fun l0_ l1_=>w226 (by omega) x7 x8) fun y2 hy2=>q_p fr<|q_i (q_exit 0 rr)<|q_p fr<|q_p fr<|q_ixo 0 rfl rfl fun x9 hx9=>q_ldo 0 rfl hx9 rfl<|q_ixo 0 rfl rfl fun x10 hx10=>q_ldo 0 rfl hx10 rfl<|q_ixo 0 rfl rfl fun x11 hx11=>q_stoe (y:=x9) 0 rfl rfl hx11 rfl (by decide)<|q_ixo 0 rfl rfl fun x12 hx12=>q_stoe (y:=x10) 0 rfl rfl hx12 rfl (by decide)<|q_p fr<|q_norm 0 rr)<|q_exit 0 rr
           ·exact fun i4 s11=>q_n (q_norm 0 rr)<|q_exit 0 rr
           ·exact fun s11=>q_lret 0 rr
          ·exact q_norm 0 rr
         ·intro s12
          refine q_p fr<|q_p fr<|q_i ?_ ?_
          ·refine q_p fr<|q_lp (A:=fun (s:Int×(List Int))=>[.int .i64 s.1]) (B:=fun s=>sl false v0_ (s.2:List Int)::L0) 0 rr ?_ ?_ ?_
           ·intro s13
            unfold s225_2 ms225_2
            exact q_p fr<|q_i (q_ixo 0 rfl rfl fun x13 hx13=>q_ldo 0 rfl hx13 rfl<|q_p fr<|q_ixo 0 rfl rfl fun x14 hx14=>q_ldo 0 rfl hx14 rfl<|q_c0 (aF2 (cv_p rfl) (cv_p rfl) fun l0_ l1_=>w226 (by omega) x13 x14) fun y3 hy3=>q_p fr<|q_i (q_exit 0 rr)<|q_p fr<|q_p fr<|q_ixo 0 rfl rfl fun x15 hx15=>q_ldo 0 rfl hx15 rfl<|q_ixo 0 rfl rfl fun x16 hx16=>q_ldo 0 rfl hx16 rfl<|q_ixo 0 rfl rfl fun x17 hx17=>q_stoe (y:=x15) 0 rfl rfl hx17 rfl (by decide)<|q_ixo 0 rfl rfl fun x18 hx18=>q_stoe (y:=x16) 0 rfl rfl hx18 rfl (by decide)<|q_p fr<|q_norm 0 rr)<|q_exit 0 rr
           ·exact fun i6 s14=>q_n (q_norm 0 rr)<|q_n (q_norm 0 rr)<|q_exit 0 rr
           ·exact fun s14=>q_lret 0 rr
          ·exact q_norm 0 rr
         ·exact fun i5 s12=>q_n (q_norm 0 rr)<|q_exit 0 rr
         ·exact fun s12=>q_lret 0 rr
      ·exact q_n (q_norm 0 rr)<|q_exit 0 rr
     ·exact fun s8=>q_lret 0 rr
    ·exact fun s15=>q_p fr<|q_norm 0 rr
    ·exact fun i7 s15=>q_exit 0 rr
    ·exact fun s15=>q_lret 0 rr
   ·exact q_exit 0 rr
  ·exact fun i8 s16=>q_n (q_ret2 0 rfl rfl)<|q_none
  ·exact fun s16=>q_ret2 0 rfl rfl
def ms227_0 (a1:Int) (s1:Int×Int×(List Int)) (s2:Int):Option (LO (Int)):=( ( bif decide (s2≤s1.2.1) then (getI s1.2.2 a1).bind fun x5=>(getI s1.2.2 s2).bind fun x6=>(m226 x5 x6).bind fun y1=>some (LO.norm (!y1)) else some (LO.norm false)).bind (contO (fun s5=>bif s5 then some (LO.norm s5) else some (LO.exit 2 s5)) (fun i1 s5=>some (LO.exit i1 s5)) (fun s5=>some (LO.ret s5)))).bind (contO (fun s6=>some (LO.norm (wi .i64 (s2 + 1)))) (fun i2 s6=>some (LO.exit i2 s2)) (fun s6=>some (LO.ret s2)))
def ms227_1 (a1:Int) (s1:Int×Int×(List Int)) (s7:Int) (s8:Int):Option (LO (Int)):=( ( bif decide (s7≤s8) then (getI s1.2.2 a1).bind fun x7=>(getI s1.2.2 s8).bind fun x8=>(m226 x7 x8).bind fun y2=>some (LO.norm y2) else some (LO.norm false)).bind (contO (fun s11=>bif s11 then some (LO.norm s11) else some (LO.exit 4 s11)) (fun i4 s11=>some (LO.exit i4 s11)) (fun s11=>some (LO.ret s11)))).bind (contO (fun s12=>some (LO.norm (wi .i64 (s8 - 1)))) (fun i5 s12=>some (LO.exit i5 s8)) (fun s12=>some (LO.ret s8)))
def ms227_2 (a1:Int) (s1:Int×Int×(List Int)):Option (LO (Int×Int×(List Int))):=(loopO (ms227_0 a1 s1) NN s1.1).bind (contO (fun _=>none) (fun i3 s7=>if i3 = 2 then (loopO (ms227_1 a1 s1 s7) NN s1.2.1).bind (contO (fun _=>none) (fun i6 s13=>if i6 = 4 then bif decide (s7 > s13) then some (LO.exit 0 (s7,s13,s1.2.2)) else (getI s1.2.2 s13).bind fun x9=>(getI s1.2.2 s7).bind fun x10=>(getI s1.2.2 s7).bind fun x11=>(getI (s1.2.2.set (Int.toNat s7) x9) s13).bind fun x12=>some (LO.norm (wi .i64 (s7 + 1),wi .i64 (s13 - 1),(s1.2.2.set (Int.toNat s7) x9).set (Int.toNat s13) x10)) else if i6 = 1 then some (LO.norm (s7,s13,s1.2.2)) else some (LO.exit i6 (s7,s13,s1.2.2))) (fun s13=>some (LO.ret (s7,s13,s1.2.2)))) else if i3 = 1 then some (LO.norm (s7,s1.2.1,s1.2.2)) else some (LO.exit i3 (s7,s1.2.1,s1.2.2))) (fun s7=>some (LO.ret (s7,s1.2.1,s1.2.2))))
def m227 (a0:List Int) (a1:Int) (a2:Int) (a3:Int):Option (Int×(List Int)):=(getI a0 a3).bind fun x1=>(getI a0 a1).bind fun x2=>(getI a0 a1).bind fun x3=>(getI (a0.set (Int.toNat a1) x1) a3).bind fun x4=>(loopO (ms227_2 a1) NN (wi .i64 (a1 + 1),wi .i64 (a2 - 1),(a0.set (Int.toNat a1) x1).set (Int.toNat a3) x2)).bind (contO (fun _=>none) (fun i7 s14=>if i7 = 0 then some (s14.1,s14.2.2) else none) (fun s14=>some (0,s14.2.2)))
theorem w227 {d:Nat} (hd:3≤d) (L0:List En) (v0_:AV) (a0:List Int) (a1:Int) (a2:Int) (a3:Int):Okh (sl false v0_ (a0:List Int)::L0) (fun S=>R NN d 227 [v0_,.int .i64 a1,.int .i64 a2,.int .i64 a3] S) (m227 a0 a1 a2 a3) (P2 (fun (t:Int×(List Int))=>AV.int .i64 t.1) (fun (t:Int×(List Int))=>sl false v0_ t.2::L0)):=by
  obtain ⟨d,rfl,g⟩:=up hd
  refine q_to (t227 NN d _ _ _ _) ?_
  unfold b227 m227
  refine q_ixo 0 rfl rfl fun x1 hx1=>q_ldo 0 rfl hx1 rfl<|q_ixo 0 rfl rfl fun x2 hx2=>q_ldo 0 rfl hx2 rfl<|q_ixo 0 rfl rfl fun x3 hx3=>q_stoe (y:=x1) 0 rfl rfl hx3 rfl (by decide)<|q_ixo 0 rfl rfl fun x4 hx4=>q_stoe (y:=x2) 0 rfl rfl hx4 rfl (by decide)<|q_p fr<|q_p fr<|q_lp (A:=fun (s:Int×Int×(List Int))=>[.int .i64 s.1,.int .i64 s.2.1]) (B:=fun s=>sl false v0_ (s.2.2:List Int)::L0) 0 rr ?_ ?_ ?_
  ·intro s1
   unfold s227_2 ms227_2
   refine q_lp (A:=fun (s:Int)=>[.int .i64 s]) (B:=fun s=>sl false v0_ (s1.2.2:List Int)::L0) 0 rr ?_ ?_ ?_
   ·intro s2
    unfold s227_0 ms227_0
    refine q_cu (A:=fun (s:Bool)=>[.bool s]) (B:=fun s=>sl false v0_ (s1.2.2:List Int)::L0) ?_ ?_ ?_ ?_
    ·refine q_cu (A:=fun (s:Bool)=>[.bool s]) (B:=fun s=>sl false v0_ (s1.2.2:List Int)::L0) ?_ ?_ ?_ ?_
     ·exact q_p fr<|q_k (q_ixo 0 rfl rfl fun x5 hx5=>q_ldo 0 rfl hx5 rfl<|q_ixo 0 rfl rfl fun x6 hx6=>q_ldo 0 rfl hx6 rfl<|q_c0 (aF2 (cv_p rfl) (cv_p rfl) fun l0_ l1_=>w226 (by omega) x5 x6) fun y1 hy1=>q_p fr<|q_norm 0 rr)<|q_norm 0 rr
     ·exact fun s5=>q_i (q_norm 0 rr)<|q_exit 0 rr
     ·exact fun i1 s5=>q_exit 0 rr
     ·exact fun s5=>q_lret 0 rr
    ·exact fun s6=>q_p fr<|q_norm 0 rr
    ·exact fun i2 s6=>q_exit 0 rr
    ·exact fun s6=>q_lret 0 rr
   ·intro i3 s7
    refine q_n ?_ ?_
    ·refine q_lp (A:=fun (s:Int)=>[.int .i64 s]) (B:=fun s=>sl false v0_ (s1.2.2:List Int)::L0) 0 rr ?_ ?_ ?_
     ·intro s8
      unfold s227_1 ms227_1
      refine q_cu (A:=fun (s:Bool)=>[.bool s]) (B:=fun s=>sl false v0_ (s1.2.2:List Int)::L0) ?_ ?_ ?_ ?_
      ·refine q_cu (A:=fun (s:Bool)=>[.bool s]) (B:=fun s=>sl false v0_ (s1.2.2:List Int)::L0) ?_ ?_ ?_ ?_
       ·exact q_p fr<|q_k (q_ixo 0 rfl rfl fun x7 hx7=>q_ldo 0 rfl hx7 rfl<|q_ixo 0 rfl rfl fun x8 hx8=>q_ldo 0 rfl hx8 rfl<|q_c0 (aF2 (cv_p rfl) (cv_p rfl) fun l0_ l1_=>w226 (by omega) x7 x8) fun y2 hy2=>q_norm 0 rr)<|q_norm 0 rr
       ·exact fun s11=>q_i (q_norm 0 rr)<|q_exit 0 rr
       ·exact fun i4 s11=>q_exit 0 rr
       ·exact fun s11=>q_lret 0 rr
      ·exact fun s12=>q_p fr<|q_norm 0 rr
      ·exact fun i5 s12=>q_exit 0 rr
      ·exact fun s12=>q_lret 0 rr
     ·exact fun i6 s13=>q_n (q_p fr<|q_i (q_exit 0 rr)<|q_ixo 0 rfl rfl fun x9 hx9=>q_ldo 0 rfl hx9 rfl<|q_ixo 0 rfl rfl fun x10 hx10=>q_ldo 0 rfl hx10 rfl<|q_ixo 0 rfl rfl fun x11 hx11=>q_stoe (y:=x9) 0 rfl rfl hx11 rfl (by decide)<|q_ixo 0 rfl rfl fun x12 hx12=>q_stoe (y:=x10) 0 rfl rfl hx12 rfl (by decide)<|q_p fr<|q_p fr<|q_norm 0 rr)<|q_n (q_norm 0 rr)<|q_exit 0 rr
     ·exact fun s13=>q_lret 0 rr
    ·exact q_n (q_norm 0 rr)<|q_exit 0 rr
   ·exact fun s7=>q_lret 0 rr
  ·exact fun i7 s14=>q_n (q_ret2 0 rfl rfl)<|q_none
  ·exact fun s14=>q_ret2 0 rfl rfl
end
end Go.Proofs.YtifocmbeahpopaaGreatDoor
