/- Plain functions, and that the evaluator computes them. -/
import Derived.Test.YtmjibndicekcaaaGreatDoorT
import Derived.Test.YtmjibndicekcaaaGreatDoorRh6
import Derived.Test.YtmjibndicekcaaaGreatDoorRh10
import Derived.Test.YtmjibndicekcaaaGreatDoorRh14
namespace Go.Proofs.YtmjibndicekcaaaGreatDoor
open Go Go.Rf
set_option linter.unusedVariables false
set_option linter.unusedSimpArgs false
noncomputable section
structure TReplica where
  Id:Int
  View:Int
  Start:Int
  Done:Int
  deriving DecidableEq
instance:Enc TReplica:=(Enc.of fun x:TReplica=>(x.Id,x.View,x.Start,x.Done)).copy (fun l x=>[.int .i64 x.Id,.int .i64 x.View,.int .i64 x.Start,.int .i64 x.Done]) (fun _ _=>rfl) 4 0 rfl rfl
instance:Tr TReplica:=Tr.of (fun x:TReplica=>(x.Id,x.View,x.Start,x.Done)) (fun _ _=>rfl) rfl rfl
structure TCert where
  Slot:Int
  View:Int
  Value:Int
  deriving DecidableEq
instance:Enc TCert:=(Enc.of fun x:TCert=>(x.Slot,x.View,x.Value)).copy (fun l x=>[.int .i64 x.Slot,.int .i64 x.View,.int .i64 x.Value]) (fun _ _=>rfl) 3 0 rfl rfl
instance:Tr TCert:=Tr.of (fun x:TCert=>(x.Slot,x.View,x.Value)) (fun _ _=>rfl) rfl rfl
structure TMsg where
  Kind:Int
  View:Int
  From:Int
  Slot:Int
  Value:Int
  Certs:List TCert
  Refs:List Int
  deriving DecidableEq
instance:Enc TMsg:=(Enc.of fun x:TMsg=>(x.Kind,x.View,x.From,x.Slot,x.Value,x.Certs,x.Refs)).copy (fun l x=>[.int .i64 x.Kind,.int .i64 x.View,.int .i64 x.From,.int .i64 x.Slot,.int .i64 x.Value,.rsl l false (x.Certs.map (Enc.cs l)),.rsl l false (x.Refs.map (Enc.cs l))]) (fun _ _=>rfl) 7 1 rfl rfl
instance:Tr TMsg:=Tr.of (fun x:TMsg=>(x.Kind,x.View,x.From,x.Slot,x.Value,x.Certs,x.Refs)) (fun _ _=>rfl) rfl rfl
structure TOp where
  Kind:Int
  Path:Str
  Data:Int
  Version:Int
  Seq:Bool
  Own:Bool
  deriving DecidableEq
instance:Enc TOp:=(Enc.of fun x:TOp=>(x.Kind,x.Path,x.Data,x.Version,x.Seq,x.Own)).copy (fun l x=>[.int .i64 x.Kind,encS x.Path,.int .i64 x.Data,.int .i64 x.Version,.bool x.Seq,.bool x.Own]) (fun _ _=>rfl) 6 0 rfl rfl
instance:Tr TOp:=Tr.of (fun x:TOp=>(x.Kind,x.Path,x.Data,x.Version,x.Seq,x.Own)) (fun _ _=>rfl) rfl rfl
structure TRequest where
  Client:Int
  Number:Int
  Time:Int
  Ops:List TOp
  deriving DecidableEq
instance:Enc TRequest:=(Enc.of fun x:TRequest=>(x.Client,x.Number,x.Time,x.Ops)).copy (fun l x=>[.int .i64 x.Client,.int .i64 x.Number,.int .i64 x.Time,.rsl l false (x.Ops.map (Enc.cs l))]) (fun _ _=>rfl) 4 1 rfl rfl
instance:Tr TRequest:=Tr.of (fun x:TRequest=>(x.Client,x.Number,x.Time,x.Ops)) (fun _ _=>rfl) rfl rfl
structure TCluster where
  F:Int
  Bad:List Int
  Replicas:List TReplica
  Ledger:List TMsg
  Requests:List TRequest
  deriving DecidableEq
instance:Enc TCluster:=(Enc.of fun x:TCluster=>(x.F,x.Bad,x.Replicas,x.Ledger,x.Requests)).copy (fun l x=>[.int .i64 x.F,.rsl l false (x.Bad.map (Enc.cs l)),.rsl l false (x.Replicas.map (Enc.cs l)),.rsl l false (x.Ledger.map (Enc.cs l)),.rsl l false (x.Requests.map (Enc.cs l))]) (fun _ _=>rfl) 5 2 rfl rfl
instance:Tr TCluster:=Tr.of (fun x:TCluster=>(x.F,x.Bad,x.Replicas,x.Ledger,x.Requests)) (fun _ _=>rfl) rfl rfl
structure TClusterResult where
  Code:Int
  Cluster:TCluster
  deriving DecidableEq
instance:Enc TClusterResult:=(Enc.of fun x:TClusterResult=>(x.Code,x.Cluster)).copy (fun l x=>[.int .i64 x.Code,.int .i64 x.Cluster.F,.rsl l false (x.Cluster.Bad.map (Enc.cs l)),.rsl l false (x.Cluster.Replicas.map (Enc.cs l)),.rsl l false (x.Cluster.Ledger.map (Enc.cs l)),.rsl l false (x.Cluster.Requests.map (Enc.cs l))]) (fun _ _=>rfl) 6 2 rfl rfl
instance:Tr TClusterResult:=Tr.of (fun x:TClusterResult=>(x.Code,x.Cluster)) (fun _ _=>rfl) rfl rfl
structure TMsgResult where
  Code:Int
  Msg:TMsg
  deriving DecidableEq
instance:Enc TMsgResult:=(Enc.of fun x:TMsgResult=>(x.Code,x.Msg)).copy (fun l x=>[.int .i64 x.Code,.int .i64 x.Msg.Kind,.int .i64 x.Msg.View,.int .i64 x.Msg.From,.int .i64 x.Msg.Slot,.int .i64 x.Msg.Value,.rsl l false (x.Msg.Certs.map (Enc.cs l)),.rsl l false (x.Msg.Refs.map (Enc.cs l))]) (fun _ _=>rfl) 8 1 rfl rfl
instance:Tr TMsgResult:=Tr.of (fun x:TMsgResult=>(x.Code,x.Msg)) (fun _ _=>rfl) rfl rfl
theorem bneq42 (x y:Bool):bin2 Tryz.prog .neq 4 (.bool x) (.bool y) = some (.bool (x != y)):=beq_neq2 (P:=Tryz.prog) (t:=4) (by kernel_rfl)
theorem bd124_0_1_2 {x0 x1 x2 r:AV} (hr:(afill (plc [(0,1),(1,1),(2,1)]) [.int .i64 0,.int .i64 0,.int .i64 0] [(0,x0),(1,x1),(2,x2)]).map AV.agg = some r):abuild Tryz.prog 124 [(0,x0),(1,x1),(2,x2)] = some r:=Eq.trans (by kernel_rfl) hr
theorem bd33_0_1_2_3 {x0 x1 x2 x3 r:AV} (hr:(afill (plc [(0,1),(1,1),(2,1),(3,1),(4,1)]) [.int .i64 0,.rsl false true [],.rsl false true [],.rsl false true [],.rsl false true []] [(0,x0),(1,x1),(2,x2),(3,x3)]).map AV.agg = some r):abuild Tryz.prog 33 [(0,x0),(1,x1),(2,x2),(3,x3)] = some r:=Eq.trans (by kernel_rfl) hr
theorem bd35_0 {x0 r:AV} (hr:(afill (plc [(0,1),(1,5)]) [.int .i64 0,.int .i64 0,.rsl false true [],.rsl false true [],.rsl false true [],.rsl false true []] [(0,x0)]).map AV.agg = some r):abuild Tryz.prog 35 [(0,x0)] = some r:=Eq.trans (by kernel_rfl) hr
theorem bd35_1 {x1 r:AV} (hr:(afill (plc [(0,1),(1,5)]) [.int .i64 0,.int .i64 0,.rsl false true [],.rsl false true [],.rsl false true [],.rsl false true []] [(1,x1)]).map AV.agg = some r):abuild Tryz.prog 35 [(1,x1)] = some r:=Eq.trans (by kernel_rfl) hr
theorem bd53 { r:AV} (hr:(afill (plc [(0,1),(1,1),(2,1),(3,1),(4,1),(5,1),(6,1)]) [.int .i64 0,.int .i64 0,.int .i64 0,.int .i64 0,.int .i64 0,.rsl false true [],.rsl false true []] []).map AV.agg = some r):abuild Tryz.prog 53 [] = some r:=Eq.trans (by kernel_rfl) hr
theorem bd53_0_1_2_3_4 {x0 x1 x2 x3 x4 r:AV} (hr:(afill (plc [(0,1),(1,1),(2,1),(3,1),(4,1),(5,1),(6,1)]) [.int .i64 0,.int .i64 0,.int .i64 0,.int .i64 0,.int .i64 0,.rsl false true [],.rsl false true []] [(0,x0),(1,x1),(2,x2),(3,x3),(4,x4)]).map AV.agg = some r):abuild Tryz.prog 53 [(0,x0),(1,x1),(2,x2),(3,x3),(4,x4)] = some r:=Eq.trans (by kernel_rfl) hr
theorem bd53_0_1_2_6 {x0 x1 x2 x6 r:AV} (hr:(afill (plc [(0,1),(1,1),(2,1),(3,1),(4,1),(5,1),(6,1)]) [.int .i64 0,.int .i64 0,.int .i64 0,.int .i64 0,.int .i64 0,.rsl false true [],.rsl false true []] [(0,x0),(1,x1),(2,x2),(6,x6)]).map AV.agg = some r):abuild Tryz.prog 53 [(0,x0),(1,x1),(2,x2),(6,x6)] = some r:=Eq.trans (by kernel_rfl) hr
theorem bd55_0 {x0 r:AV} (hr:(afill (plc [(0,1),(1,7)]) [.int .i64 0,.int .i64 0,.int .i64 0,.int .i64 0,.int .i64 0,.int .i64 0,.rsl false true [],.rsl false true []] [(0,x0)]).map AV.agg = some r):abuild Tryz.prog 55 [(0,x0)] = some r:=Eq.trans (by kernel_rfl) hr
theorem bd55_1 {x1 r:AV} (hr:(afill (plc [(0,1),(1,7)]) [.int .i64 0,.int .i64 0,.int .i64 0,.int .i64 0,.int .i64 0,.int .i64 0,.rsl false true [],.rsl false true []] [(1,x1)]).map AV.agg = some r):abuild Tryz.prog 55 [(1,x1)] = some r:=Eq.trans (by kernel_rfl) hr
theorem qb162 {n:Int} {S:St}:quietS (abuildS Tryz.prog 162 1 [(0,.int .u8 n)] S) S = some (.rsl false true [[.int .u8 n]],S):=by kernel_rfl
theorem qi22_1 {x0:Int} {S:St}:quietS (abuildS Tryz.prog 22 1 [(0,.int .i64 x0)] S) S = some (.rsl false true [[.int .i64 x0]],S):=by kernel_rfl
theorem qs184_0 {S:St}:quietS (abuildS Tryz.prog 184 0 [] S) S = some (.rsl false true [],S):=by kernel_rfl
theorem qs184_1 {x0:Str} {S:St}:quietS (abuildS Tryz.prog 184 1 [(0,encS x0)] S) S = some (.rsl false true [[encS x0]],S):=by kernel_rfl
theorem qs22_0 {S:St}:quietS (abuildS Tryz.prog 22 0 [] S) S = some (.rsl false true [],S):=by kernel_rfl
theorem qs29_0 {S:St}:quietS (abuildS Tryz.prog 29 0 [] S) S = some (.rsl false true [],S):=by kernel_rfl
theorem qs30_0 {S:St}:quietS (abuildS Tryz.prog 30 0 [] S) S = some (.rsl false true [],S):=by kernel_rfl
theorem qs51_0 {S:St}:quietS (abuildS Tryz.prog 51 0 [] S) S = some (.rsl false true [],S):=by kernel_rfl
theorem qs97_0 {S:St}:quietS (abuildS Tryz.prog 97 0 [] S) S = some (.rsl false true [],S):=by kernel_rfl
theorem bs30_1 {x0 r:AV} {S:St} (hr:(aparts 7 0 [(0,x0)]).map (fun es=>mkS 7 es S) = some (r,S)):abuildS Tryz.prog 30 1 [(0,x0)] S = some (r,S):=Eq.trans (by kernel_rfl) hr
theorem bt30 {a:AV} {S:St}:abuildS Tryz.prog 30 1 [(0,a)] S = (aparts 7 0 [(0,a)]).map fun es=>mkS 7 es S:=by kernel_rfl
theorem bt31 {a:AV} {S:St}:abuildS Tryz.prog 31 1 [(0,a)] S = (aparts 4 0 [(0,a)]).map fun es=>mkS 4 es S:=by kernel_rfl
theorem cv122_123 (run:FuncId→List AV→St→Option (AV×St)) (cap args:List AV) (S:St):callV (cfg NN) run 122 (.fn 123 cap) args S = call0 run 123 (args++cap) S:=by kernel_rfl
theorem cv152_178 (run:FuncId→List AV→St→Option (AV×St)) (cap args:List AV) (S:St):callV (cfg NN) run 152 (.fn 178 cap) args S = call0 run 178 (args++cap) S:=by kernel_rfl
theorem cv155_156 (run:FuncId→List AV→St→Option (AV×St)) (cap args:List AV) (S:St):callV (cfg NN) run 155 (.fn 156 cap) args S = call0 run 156 (args++cap) S:=by kernel_rfl
theorem cv182_154 (run:FuncId→List AV→St→Option (AV×St)) (cap args:List AV) (S:St):callV (cfg NN) run 182 (.fn 154 cap) args S = call0 run 154 (args++cap) S:=by kernel_rfl
theorem cv183_161 (run:FuncId→List AV→St→Option (AV×St)) (cap args:List AV) (S:St):callV (cfg NN) run 183 (.fn 161 cap) args S = call0 run 161 (args++cap) S:=by kernel_rfl
theorem cv183_173 (run:FuncId→List AV→St→Option (AV×St)) (cap args:List AV) (S:St):callV (cfg NN) run 183 (.fn 173 cap) args S = call0 run 173 (args++cap) S:=by kernel_rfl
theorem cv184_164 (run:FuncId→List AV→St→Option (AV×St)) (cap args:List AV) (S:St):callV (cfg NN) run 184 (.fn 164 cap) args S = call0 run 164 (args++cap) S:=by kernel_rfl
theorem cv184_174 (run:FuncId→List AV→St→Option (AV×St)) (cap args:List AV) (S:St):callV (cfg NN) run 184 (.fn 174 cap) args S = call0 run 174 (args++cap) S:=by kernel_rfl
theorem cv87_88 (run:FuncId→List AV→St→Option (AV×St)) (cap args:List AV) (S:St):callV (cfg NN) run 87 (.fn 88 cap) args S = call0 run 88 (args++cap) S:=by kernel_rfl
theorem cw51_52 (run:FuncId→List AV→St→Option (AV×St)) (cap args:List AV) (S:St):callV (cfg NN) run 51 (.fn 52 cap) args S = callS run 52 (args++cap) S:=by kernel_rfl
theorem cw53_27 (run:FuncId→List AV→St→Option (AV×St)) (cap args:List AV) (S:St):callV (cfg NN) run 53 (.fn 27 cap) args S = callS run 27 (args++cap) S:=by kernel_rfl
theorem cvt200_3 (n:Int) (S:St):aconv Tryz.prog 200 3 (.int .u64 n) S = some (.int .i64 (wi .i64 n)):=by kernel_rfl
theorem cvt214_5 (n:Int) (S:St):aconv Tryz.prog 214 5 (.int .u64 n) S = some (.int .u8 (wi .u8 n)):=by kernel_rfl
theorem cvt3_200 (n:Int) (S:St):aconv Tryz.prog 3 200 (.int .i64 n) S = some (.int .u64 (wi .u64 n)):=by kernel_rfl
theorem cvt3_218 (n:Int) (S:St):aconv Tryz.prog 3 218 (.int .i64 n) S = some (.int .u64 (wi .u64 n)):=by kernel_rfl
theorem cvt3_5 (n:Int) (S:St):aconv Tryz.prog 3 5 (.int .i64 n) S = some (.int .u8 (wi .u8 n)):=by kernel_rfl
theorem cvt5_3 (n:Int) (S:St):aconv Tryz.prog 5 3 (.int .u8 n) S = some (.int .i64 (wi .i64 n)):=by kernel_rfl
theorem cvb162_9 (n:Int) (S:St):aconv Tryz.prog 162 9 (.rsl false true [[.int .u8 n]]) S = some (encS [UInt8.ofNat n.toNat]):=by kernel_rfl
theorem fo33_Bad:Fo (α:=TCluster) (γ:=List Int) 1 (fun x=>x.Bad) (fun y x=>{ x with Bad:=y }):=fun S i c x h=>((fo_snd (fo_fst fo_self)):Fo (α:=Int×(List Int)×(List TReplica)×(List TMsg)×(List TRequest)) (γ:=List Int) 1 _ _) S i c (x.F,x.Bad,x.Replicas,x.Ledger,x.Requests) h
theorem fo33_Ledger:Fo (α:=TCluster) (γ:=List TMsg) 3 (fun x=>x.Ledger) (fun y x=>{ x with Ledger:=y }):=fun S i c x h=>((fo_snd (fo_snd (fo_snd (fo_fst fo_self)))):Fo (α:=Int×(List Int)×(List TReplica)×(List TMsg)×(List TRequest)) (γ:=List TMsg) 3 _ _) S i c (x.F,x.Bad,x.Replicas,x.Ledger,x.Requests) h
theorem fo33_Replicas:Fo (α:=TCluster) (γ:=List TReplica) 2 (fun x=>x.Replicas) (fun y x=>{ x with Replicas:=y }):=fun S i c x h=>((fo_snd (fo_snd (fo_fst fo_self))):Fo (α:=Int×(List Int)×(List TReplica)×(List TMsg)×(List TRequest)) (γ:=List TReplica) 2 _ _) S i c (x.F,x.Bad,x.Replicas,x.Ledger,x.Requests) h
theorem fo33_Requests:Fo (α:=TCluster) (γ:=List TRequest) 4 (fun x=>x.Requests) (fun y x=>{ x with Requests:=y }):=fun S i c x h=>((fo_snd (fo_snd (fo_snd (fo_snd fo_self)))):Fo (α:=Int×(List Int)×(List TReplica)×(List TMsg)×(List TRequest)) (γ:=List TRequest) 4 _ _) S i c (x.F,x.Bad,x.Replicas,x.Ledger,x.Requests) h
theorem fo35_Cluster:Fo (α:=TClusterResult) (γ:=TCluster) 1 (fun x=>x.Cluster) (fun y x=>{ x with Cluster:=y }):=fun S i c x h=>((fo_snd fo_self):Fo (α:=Int×TCluster) (γ:=TCluster) 1 _ _) S i c (x.Code,x.Cluster) h
theorem fo53_Certs:Fo (α:=TMsg) (γ:=List TCert) 5 (fun x=>x.Certs) (fun y x=>{ x with Certs:=y }):=fun S i c x h=>((fo_snd (fo_snd (fo_snd (fo_snd (fo_snd (fo_fst fo_self)))))):Fo (α:=Int×Int×Int×Int×Int×(List TCert)×(List Int)) (γ:=List TCert) 5 _ _) S i c (x.Kind,x.View,x.From,x.Slot,x.Value,x.Certs,x.Refs) h
theorem fo53_Refs:Fo (α:=TMsg) (γ:=List Int) 6 (fun x=>x.Refs) (fun y x=>{ x with Refs:=y }):=fun S i c x h=>((fo_snd (fo_snd (fo_snd (fo_snd (fo_snd (fo_snd fo_self)))))):Fo (α:=Int×Int×Int×Int×Int×(List TCert)×(List Int)) (γ:=List Int) 6 _ _) S i c (x.Kind,x.View,x.From,x.Slot,x.Value,x.Certs,x.Refs) h
theorem fo99_Ops:Fo (α:=TRequest) (γ:=List TOp) 3 (fun x=>x.Ops) (fun y x=>{ x with Ops:=y }):=fun S i c x h=>((fo_snd (fo_snd (fo_snd fo_self))):Fo (α:=Int×Int×Int×(List TOp)) (γ:=List TOp) 3 _ _) S i c (x.Client,x.Number,x.Time,x.Ops) h
theorem mk184 (S:St) (n:Nat) (h:(n + 1) * (16 + 1)≤70368744177664):amake Tryz.prog 184 (.int .i64 n) (.int .i64 n) S = some (.bsl S.length 0 n n true,S++[⟨1,List.replicate n [.str ⟨#[]⟩],true⟩]):=
  amake_ok (e:=9) (sz:=1) (by_:=16) (z:=[.str ⟨#[]⟩]) (z0:=[.str ⟨#[]⟩]) (by kernel_rfl) (by kernel_rfl) (by kernel_rfl) rfl rfl (by omega) rfl rfl h
theorem mk22 (S:St) (n:Nat) (h:(n + 1) * (8 + 1)≤70368744177664):amake Tryz.prog 22 (.int .i64 n) (.int .i64 n) S = some (.bsl S.length 0 n n true,S++[⟨1,List.replicate n [.int .i64 0],true⟩]):=
  amake_ok (e:=2) (sz:=1) (by_:=8) (z:=[.int .i64 0]) (z0:=[.int .i64 0]) (by kernel_rfl) (by kernel_rfl) (by kernel_rfl) rfl rfl (by omega) rfl rfl h
theorem mk29 (S:St) (n:Nat) (h:(n + 1) * (32 + 1)≤70368744177664):amake Tryz.prog 29 (.int .i64 n) (.int .i64 n) S = some (.bsl S.length 0 n n true,S++[⟨4,List.replicate n [.int .i64 0,.int .i64 0,.int .i64 0,.int .i64 0],true⟩]):=
  amake_ok (e:=58) (sz:=4) (by_:=32) (z:=[.int .i64 0,.int .i64 0,.int .i64 0,.int .i64 0]) (z0:=[.int .i64 0,.int .i64 0,.int .i64 0,.int .i64 0]) (by kernel_rfl) (by kernel_rfl) (by kernel_rfl) rfl rfl (by omega) rfl rfl h
theorem mk30 (S:St) (n:Nat) (h:(n + 1) * (88 + 1)≤70368744177664):amake Tryz.prog 30 (.int .i64 n) (.int .i64 n) S = some (.bsl S.length 0 n n true,S++[⟨7,List.replicate n [.int .i64 0,.int .i64 0,.int .i64 0,.int .i64 0,.int .i64 0,.rsl false false [],.rsl false false []],false⟩]):=
  amake_ok (e:=53) (sz:=7) (by_:=88) (z:=[.int .i64 0,.int .i64 0,.int .i64 0,.int .i64 0,.int .i64 0,.rsl false false [],.rsl false false []]) (z0:=[.int .i64 0,.int .i64 0,.int .i64 0,.int .i64 0,.int .i64 0,.rsl false true [],.rsl false true []]) (by kernel_rfl) (by kernel_rfl) (by kernel_rfl) rfl rfl (by omega) rfl rfl h
theorem mk31 (S:St) (n:Nat) (h:(n + 1) * (48 + 1)≤70368744177664):amake Tryz.prog 31 (.int .i64 n) (.int .i64 n) S = some (.bsl S.length 0 n n true,S++[⟨4,List.replicate n [.int .i64 0,.int .i64 0,.int .i64 0,.rsl false false []],false⟩]):=
  amake_ok (e:=99) (sz:=4) (by_:=48) (z:=[.int .i64 0,.int .i64 0,.int .i64 0,.rsl false false []]) (z0:=[.int .i64 0,.int .i64 0,.int .i64 0,.rsl false true []]) (by kernel_rfl) (by kernel_rfl) (by kernel_rfl) rfl rfl (by omega) rfl rfl h
theorem mk51 (S:St) (n:Nat) (h:(n + 1) * (24 + 1)≤70368744177664):amake Tryz.prog 51 (.int .i64 n) (.int .i64 n) S = some (.bsl S.length 0 n n true,S++[⟨3,List.replicate n [.int .i64 0,.int .i64 0,.int .i64 0],true⟩]):=
  amake_ok (e:=124) (sz:=3) (by_:=24) (z:=[.int .i64 0,.int .i64 0,.int .i64 0]) (z0:=[.int .i64 0,.int .i64 0,.int .i64 0]) (by kernel_rfl) (by kernel_rfl) (by kernel_rfl) rfl rfl (by omega) rfl rfl h
theorem mk97 (S:St) (n:Nat) (h:(n + 1) * (48 + 1)≤70368744177664):amake Tryz.prog 97 (.int .i64 n) (.int .i64 n) S = some (.bsl S.length 0 n n true,S++[⟨6,List.replicate n [.int .i64 0,.str ⟨#[]⟩,.int .i64 0,.int .i64 0,.bool false,.bool false],true⟩]):=
  amake_ok (e:=135) (sz:=6) (by_:=48) (z:=[.int .i64 0,.str ⟨#[]⟩,.int .i64 0,.int .i64 0,.bool false,.bool false]) (z0:=[.int .i64 0,.str ⟨#[]⟩,.int .i64 0,.int .i64 0,.bool false,.bool false]) (by kernel_rfl) (by kernel_rfl) (by kernel_rfl) rfl rfl (by omega) rfl rfl h
theorem pbeql86 (b i o n L:Nat):abin Tryz.prog .eql 86 (.bp b i o n L) .nilp = some (.bool false):=by kernel_rfl
theorem peql86n:abin Tryz.prog .eql 86 (.nilp) .nilp = some (.bool true):=by kernel_rfl
theorem plsTCert {S:St} {l:Bool} (x:TCert):Tr.ow S [] (Enc.cs l x) x:=(pl_pair pl_int (pl_pair pl_int pl_int) _:Tr.ow (α:=Int×Int×Int) S [] (Enc.cs l _) (x.Slot,x.View,x.Value))
theorem plt124 {l:Bool} (S:St) (x:TCert):Tr.ow S [] (Enc.cs l x) x:=plsTCert x
theorem plsTOp {S:St} {l:Bool} (x:TOp):Tr.ow S [] (Enc.cs l x) x:=(pl_pair pl_int (pl_pair pl_string (pl_pair pl_int (pl_pair pl_int (pl_pair pl_bool pl_bool)))) _:Tr.ow (α:=Int×Str×Int×Int×Bool×Bool) S [] (Enc.cs l _) (x.Kind,x.Path,x.Data,x.Version,x.Seq,x.Own))
theorem plt135 {l:Bool} (S:St) (x:TOp):Tr.ow S [] (Enc.cs l x) x:=plsTOp x
theorem plt2 {l:Bool} (S:St) (x:Int):Tr.ow S [] (Enc.cs l x) x:=pl_int x
theorem plsTReplica {S:St} {l:Bool} (x:TReplica):Tr.ow S [] (Enc.cs l x) x:=(pl_pair pl_int (pl_pair pl_int (pl_pair pl_int pl_int)) _:Tr.ow (α:=Int×Int×Int×Int) S [] (Enc.cs l _) (x.Id,x.View,x.Start,x.Done))
theorem plt58 {l:Bool} (S:St) (x:TReplica):Tr.ow S [] (Enc.cs l x) x:=plsTReplica x
theorem sneq1242 (x0:Int) (x1:Int) (x2:Int) (y0:Int) (y1:Int) (y2:Int):bin2 Tryz.prog .neq 124 (.agg [.int .i64 x0,.int .i64 x1,.int .i64 x2]) (.agg [.int .i64 y0,.int .i64 y1,.int .i64 y2]) = some (.bool (!((x0 == y0) && ((x1 == y1) && ((x2 == y2) && true))))):=by kernel_rfl
theorem trx33 {S:St} {ids:List Nat} {cs:List AV} {x:TCluster} (h:Tr.ow S ids cs x):∃ v0 v1 v2 v3:AV,cs = [.int .i64 x.F,v0,v1,v2,v3]:=by
  obtain ⟨_,_,_,_,rfl,_,rfl,⟨rfl,rfl⟩,⟨_,_,_,_,rfl,_,rfl,⟨v0,rfl,_⟩,⟨_,_,_,_,rfl,_,rfl,⟨v1,rfl,_⟩,⟨_,_,_,_,rfl,_,rfl,⟨v2,rfl,_⟩,⟨v3,rfl,_⟩⟩⟩⟩⟩:=h
  exact ⟨_,_,_,_,rfl⟩
theorem trx35 {S:St} {ids:List Nat} {cs:List AV} {x:TClusterResult} (h:Tr.ow S ids cs x):∃ v0 v1 v2 v3:AV,cs = [.int .i64 x.Code,.int .i64 x.Cluster.F,v0,v1,v2,v3]:=by
  obtain ⟨_,_,_,_,rfl,_,rfl,⟨rfl,rfl⟩,⟨_,_,_,_,rfl,_,rfl,⟨rfl,rfl⟩,⟨_,_,_,_,rfl,_,rfl,⟨v0,rfl,_⟩,⟨_,_,_,_,rfl,_,rfl,⟨v1,rfl,_⟩,⟨_,_,_,_,rfl,_,rfl,⟨v2,rfl,_⟩,⟨v3,rfl,_⟩⟩⟩⟩⟩⟩:=h
  exact ⟨_,_,_,_,rfl⟩
theorem trx53 {S:St} {ids:List Nat} {cs:List AV} {x:TMsg} (h:Tr.ow S ids cs x):∃ v0 v1:AV,cs = [.int .i64 x.Kind,.int .i64 x.View,.int .i64 x.From,.int .i64 x.Slot,.int .i64 x.Value,v0,v1]:=by
  obtain ⟨_,_,_,_,rfl,_,rfl,⟨rfl,rfl⟩,⟨_,_,_,_,rfl,_,rfl,⟨rfl,rfl⟩,⟨_,_,_,_,rfl,_,rfl,⟨rfl,rfl⟩,⟨_,_,_,_,rfl,_,rfl,⟨rfl,rfl⟩,⟨_,_,_,_,rfl,_,rfl,⟨rfl,rfl⟩,⟨_,_,_,_,rfl,_,rfl,⟨v0,rfl,_⟩,⟨v1,rfl,_⟩⟩⟩⟩⟩⟩⟩:=h
  exact ⟨_,_,rfl⟩
theorem trx99 {S:St} {ids:List Nat} {cs:List AV} {x:TRequest} (h:Tr.ow S ids cs x):∃ v0:AV,cs = [.int .i64 x.Client,.int .i64 x.Number,.int .i64 x.Time,v0]:=by
  obtain ⟨_,_,_,_,rfl,_,rfl,⟨rfl,rfl⟩,⟨_,_,_,_,rfl,_,rfl,⟨rfl,rfl⟩,⟨_,_,_,_,rfl,_,rfl,⟨rfl,rfl⟩,⟨v0,rfl,_⟩⟩⟩⟩:=h
  exact ⟨_,rfl⟩
theorem und22:Tryz.prog.underlying 22 = some (.slice 2):=by kernel_rfl
theorem und29:Tryz.prog.underlying 29 = some (.slice 58):=by kernel_rfl
theorem und30:Tryz.prog.underlying 30 = some (.slice 53):=by kernel_rfl
theorem und51:Tryz.prog.underlying 51 = some (.slice 124):=by kernel_rfl
theorem und97:Tryz.prog.underlying 97 = some (.slice 135):=by kernel_rfl
theorem up124_Slot (n:Int):Up (α:=TCert) 0 (.int .i64 n) (fun x=>{ x with Slot:=n }):=(up_of (α:=TCert) (β:=Int×Int×Int) (f:=fun x=>(x.Slot,x.View,x.Value)) (v:=fun x=>{ x with Slot:=n }) (up_fst (up_int (n:=n))) rfl (fun _=>rfl))
theorem up124_Value (n:Int):Up (α:=TCert) 2 (.int .i64 n) (fun x=>{ x with Value:=n }):=(up_of (α:=TCert) (β:=Int×Int×Int) (f:=fun x=>(x.Slot,x.View,x.Value)) (v:=fun x=>{ x with Value:=n }) (up_snd (up_snd (up_int (n:=n)))) rfl (fun _=>rfl))
theorem up124_View (n:Int):Up (α:=TCert) 1 (.int .i64 n) (fun x=>{ x with View:=n }):=(up_of (α:=TCert) (β:=Int×Int×Int) (f:=fun x=>(x.Slot,x.View,x.Value)) (v:=fun x=>{ x with View:=n }) (up_snd (up_fst (up_int (n:=n)))) rfl (fun _=>rfl))
theorem up135_Data (n:Int):Up (α:=TOp) 2 (.int .i64 n) (fun x=>{ x with Data:=n }):=(up_of (α:=TOp) (β:=Int×Str×Int×Int×Bool×Bool) (f:=fun x=>(x.Kind,x.Path,x.Data,x.Version,x.Seq,x.Own)) (v:=fun x=>{ x with Data:=n }) (up_snd (up_snd (up_fst (up_int (n:=n))))) rfl (fun _=>rfl))
theorem up135_Kind (n:Int):Up (α:=TOp) 0 (.int .i64 n) (fun x=>{ x with Kind:=n }):=(up_of (α:=TOp) (β:=Int×Str×Int×Int×Bool×Bool) (f:=fun x=>(x.Kind,x.Path,x.Data,x.Version,x.Seq,x.Own)) (v:=fun x=>{ x with Kind:=n }) (up_fst (up_int (n:=n))) rfl (fun _=>rfl))
theorem up135_Own (n:Bool):Up (α:=TOp) 5 (.bool n) (fun x=>{ x with Own:=n }):=(up_of (α:=TOp) (β:=Int×Str×Int×Int×Bool×Bool) (f:=fun x=>(x.Kind,x.Path,x.Data,x.Version,x.Seq,x.Own)) (v:=fun x=>{ x with Own:=n }) (up_snd (up_snd (up_snd (up_snd (up_snd (up_bool (n:=n))))))) rfl (fun _=>rfl))
theorem up135_Path (n:Str):Up (α:=TOp) 1 (encS n) (fun x=>{ x with Path:=n }):=(up_of (α:=TOp) (β:=Int×Str×Int×Int×Bool×Bool) (f:=fun x=>(x.Kind,x.Path,x.Data,x.Version,x.Seq,x.Own)) (v:=fun x=>{ x with Path:=n }) (up_snd (up_fst (up_str (s:=n)))) rfl (fun _=>rfl))
theorem up135_Seq (n:Bool):Up (α:=TOp) 4 (.bool n) (fun x=>{ x with Seq:=n }):=(up_of (α:=TOp) (β:=Int×Str×Int×Int×Bool×Bool) (f:=fun x=>(x.Kind,x.Path,x.Data,x.Version,x.Seq,x.Own)) (v:=fun x=>{ x with Seq:=n }) (up_snd (up_snd (up_snd (up_snd (up_fst (up_bool (n:=n))))))) rfl (fun _=>rfl))
theorem up135_Version (n:Int):Up (α:=TOp) 3 (.int .i64 n) (fun x=>{ x with Version:=n }):=(up_of (α:=TOp) (β:=Int×Str×Int×Int×Bool×Bool) (f:=fun x=>(x.Kind,x.Path,x.Data,x.Version,x.Seq,x.Own)) (v:=fun x=>{ x with Version:=n }) (up_snd (up_snd (up_snd (up_fst (up_int (n:=n)))))) rfl (fun _=>rfl))
theorem up53_From (n:Int):Up (α:=TMsg) 2 (.int .i64 n) (fun x=>{ x with From:=n }):=(up_of (α:=TMsg) (β:=Int×Int×Int×Int×Int×(List TCert)×(List Int)) (f:=fun x=>(x.Kind,x.View,x.From,x.Slot,x.Value,x.Certs,x.Refs)) (v:=fun x=>{ x with From:=n }) (up_snd (up_snd (up_fst (up_int (n:=n))))) rfl (fun _=>rfl))
theorem up53_Kind (n:Int):Up (α:=TMsg) 0 (.int .i64 n) (fun x=>{ x with Kind:=n }):=(up_of (α:=TMsg) (β:=Int×Int×Int×Int×Int×(List TCert)×(List Int)) (f:=fun x=>(x.Kind,x.View,x.From,x.Slot,x.Value,x.Certs,x.Refs)) (v:=fun x=>{ x with Kind:=n }) (up_fst (up_int (n:=n))) rfl (fun _=>rfl))
theorem up53_Slot (n:Int):Up (α:=TMsg) 3 (.int .i64 n) (fun x=>{ x with Slot:=n }):=(up_of (α:=TMsg) (β:=Int×Int×Int×Int×Int×(List TCert)×(List Int)) (f:=fun x=>(x.Kind,x.View,x.From,x.Slot,x.Value,x.Certs,x.Refs)) (v:=fun x=>{ x with Slot:=n }) (up_snd (up_snd (up_snd (up_fst (up_int (n:=n)))))) rfl (fun _=>rfl))
theorem up53_Value (n:Int):Up (α:=TMsg) 4 (.int .i64 n) (fun x=>{ x with Value:=n }):=(up_of (α:=TMsg) (β:=Int×Int×Int×Int×Int×(List TCert)×(List Int)) (f:=fun x=>(x.Kind,x.View,x.From,x.Slot,x.Value,x.Certs,x.Refs)) (v:=fun x=>{ x with Value:=n }) (up_snd (up_snd (up_snd (up_snd (up_fst (up_int (n:=n))))))) rfl (fun _=>rfl))
theorem up53_View (n:Int):Up (α:=TMsg) 1 (.int .i64 n) (fun x=>{ x with View:=n }):=(up_of (α:=TMsg) (β:=Int×Int×Int×Int×Int×(List TCert)×(List Int)) (f:=fun x=>(x.Kind,x.View,x.From,x.Slot,x.Value,x.Certs,x.Refs)) (v:=fun x=>{ x with View:=n }) (up_snd (up_fst (up_int (n:=n)))) rfl (fun _=>rfl))
theorem up58_Done (n:Int):Up (α:=TReplica) 3 (.int .i64 n) (fun x=>{ x with Done:=n }):=(up_of (α:=TReplica) (β:=Int×Int×Int×Int) (f:=fun x=>(x.Id,x.View,x.Start,x.Done)) (v:=fun x=>{ x with Done:=n }) (up_snd (up_snd (up_snd (up_int (n:=n))))) rfl (fun _=>rfl))
theorem up58_Id (n:Int):Up (α:=TReplica) 0 (.int .i64 n) (fun x=>{ x with Id:=n }):=(up_of (α:=TReplica) (β:=Int×Int×Int×Int) (f:=fun x=>(x.Id,x.View,x.Start,x.Done)) (v:=fun x=>{ x with Id:=n }) (up_fst (up_int (n:=n))) rfl (fun _=>rfl))
theorem up58_Start (n:Int):Up (α:=TReplica) 2 (.int .i64 n) (fun x=>{ x with Start:=n }):=(up_of (α:=TReplica) (β:=Int×Int×Int×Int) (f:=fun x=>(x.Id,x.View,x.Start,x.Done)) (v:=fun x=>{ x with Start:=n }) (up_snd (up_snd (up_fst (up_int (n:=n))))) rfl (fun _=>rfl))
theorem up58_View (n:Int):Up (α:=TReplica) 1 (.int .i64 n) (fun x=>{ x with View:=n }):=(up_of (α:=TReplica) (β:=Int×Int×Int×Int) (f:=fun x=>(x.Id,x.View,x.Start,x.Done)) (v:=fun x=>{ x with View:=n }) (up_snd (up_fst (up_int (n:=n)))) rfl (fun _=>rfl))
theorem up99_Client (n:Int):Up (α:=TRequest) 0 (.int .i64 n) (fun x=>{ x with Client:=n }):=(up_of (α:=TRequest) (β:=Int×Int×Int×(List TOp)) (f:=fun x=>(x.Client,x.Number,x.Time,x.Ops)) (v:=fun x=>{ x with Client:=n }) (up_fst (up_int (n:=n))) rfl (fun _=>rfl))
theorem up99_Number (n:Int):Up (α:=TRequest) 1 (.int .i64 n) (fun x=>{ x with Number:=n }):=(up_of (α:=TRequest) (β:=Int×Int×Int×(List TOp)) (f:=fun x=>(x.Client,x.Number,x.Time,x.Ops)) (v:=fun x=>{ x with Number:=n }) (up_snd (up_fst (up_int (n:=n)))) rfl (fun _=>rfl))
theorem up99_Time (n:Int):Up (α:=TRequest) 2 (.int .i64 n) (fun x=>{ x with Time:=n }):=(up_of (α:=TRequest) (β:=Int×Int×Int×(List TOp)) (f:=fun x=>(x.Client,x.Number,x.Time,x.Ops)) (v:=fun x=>{ x with Time:=n }) (up_snd (up_snd (up_fst (up_int (n:=n))))) rfl (fun _=>rfl))
theorem ztr53 (S:St):Tr.ow S [] [AV.int .i64 0,AV.int .i64 0,AV.int .i64 0,AV.int .i64 0,AV.int .i64 0,AV.rsl false false [],AV.rsl false false []] (⟨0,0,0,0,0,[],[]⟩:TMsg):=((zt_pair (pl_int (l:=false) 0) (zt_pair (pl_int (l:=false) 0) (zt_pair (pl_int (l:=false) 0) (zt_pair (pl_int (l:=false) 0) (zt_pair (pl_int (l:=false) 0) (zt_pair (zt_nil (α:=TCert) (fl:=false)) (zt_nil (α:=Int) (fl:=false)))))))):Tr.ow (α:=Int×Int×Int×Int×Int×(List TCert)×(List Int)) S [] _ (0,0,0,0,0,[],[]))
theorem ztr99 (S:St):Tr.ow S [] [AV.int .i64 0,AV.int .i64 0,AV.int .i64 0,AV.rsl false false []] (⟨0,0,0,[]⟩:TRequest):=((zt_pair (pl_int (l:=false) 0) (zt_pair (pl_int (l:=false) 0) (zt_pair (pl_int (l:=false) 0) (zt_nil (α:=TOp) (fl:=false))))):Tr.ow (α:=Int×Int×Int×(List TOp)) S [] _ (0,0,0,[]))
def m13 (a0:List Int) (a1:Int):Int:=bif decide ((wi .i64 (a1 - (a0.length:Int))) < 0) then (-1) else wi .i64 (a1 - (a0.length:Int))
theorem w13 {d:Nat} (hd:1≤d) (k0:Bool) (a0:List Int) (a1:Int):Fit (R NN d 13 [.rsl k0 false (a0.map (Enc.cs k0)),.int .i64 a1] []) (some (m13 a0 a1)) PI:=by
  obtain ⟨d,rfl,g⟩:=up hd
  refine q_in (t13 NN d _ _) ?_
  unfold b13 m13
  exact q_len<|q_p fr<|q_p fr<|q_ift (fun h1=>q_ret (cv_p rfl) rfl) fun h1=>q_ret (cv_p rfl) rfl
def m14 (a0:List TReplica) (a1:Int):Int:=bif decide ((wi .i64 (a1 - (a0.length:Int))) < 0) then (-1) else wi .i64 (a1 - (a0.length:Int))
theorem w14 {d:Nat} (hd:1≤d) (k0:Bool) (a0:List TReplica) (a1:Int):Fit (R NN d 14 [.rsl k0 false (a0.map (Enc.cs k0)),.int .i64 a1] []) (some (m14 a0 a1)) PI:=by
  obtain ⟨d,rfl,g⟩:=up hd
  refine q_in (t14 NN d _ _) ?_
  unfold b14 m14
  exact q_len<|q_p fr<|q_p fr<|q_ift (fun h1=>q_ret (cv_p rfl) rfl) fun h1=>q_ret (cv_p rfl) rfl
def m66 (a0:List TCert) (a1:Int):Int:=bif decide ((wi .i64 (a1 - (a0.length:Int))) < 0) then (-1) else wi .i64 (a1 - (a0.length:Int))
theorem w66 {d:Nat} (hd:1≤d) (k0:Bool) (a0:List TCert) (a1:Int):Fit (R NN d 66 [.rsl k0 false (a0.map (Enc.cs k0)),.int .i64 a1] []) (some (m66 a0 a1)) PI:=by
  obtain ⟨d,rfl,g⟩:=up hd
  refine q_in (t66 NN d _ _) ?_
  unfold b66 m66
  exact q_len<|q_p fr<|q_p fr<|q_ift (fun h1=>q_ret (cv_p rfl) rfl) fun h1=>q_ret (cv_p rfl) rfl
def m37 (a0:TMsg) (a1:Int):Int:=bif decide ((m66 a0.Certs a1) < 0) then (-1) else bif decide ((m13 a0.Refs (m66 a0.Certs a1)) < 0) then (-1) else (m13 a0.Refs (m66 a0.Certs a1))
theorem w37 {d:Nat} (hd:2≤d) (k0:Bool) (a0:TMsg) (a1:Int):Fit (R NN d 37 [.agg (Enc.cs k0 a0),.int .i64 a1] []) (some (m37 a0 a1)) PI:=by
  obtain ⟨d,rfl,g⟩:=up hd
  refine q_in (t37 NN d _ _) ?_
  unfold b37 m37
  exact q_box (n:=7) rfl rfl (by decide) fun b1=>q_p fr<|q_ld 0 rfl rfl<|q_c0t (aF2 cv_r (cv_p rfl) fun l0_ l1_=>w66 (by omega) l0_ a0.Certs a1)<|q_p fr<|q_ift (fun h2=>q_ret (cv_p rfl) rfl) fun h2=>q_p fr<|q_ld 0 rfl rfl<|q_c0t (aF2 cv_r (cv_p rfl) fun l0_ l1_=>w13 (by omega) l0_ a0.Refs (m66 a0.Certs a1))<|q_p fr<|q_ift (fun h1=>q_ret (cv_p rfl) rfl) fun h1=>q_ret (cv_p rfl) rfl
def ms15_0 (a0:List TMsg) (s1:Int×Int×Int):Option (LO (Int×Int×Int)):=bif decide (s1.2.2 < (a0.length:Int)) then (getI a0 s1.2.2).bind fun x1=>bif decide ((m37 x1 s1.1) < 0) then some (LO.ret ((m37 x1 s1.1),(-1),s1.2.2)) else some (LO.norm ((m37 x1 s1.1),s1.2.1,wi .i64 (s1.2.2 + 1))) else some (LO.exit 0 (s1.1,s1.2.1,s1.2.2))
def m15 (a0:List TMsg) (a1:Int):Option (Int):=bif decide ((wi .i64 (a1 - (a0.length:Int))) < 0) then some (-1) else (loopO (ms15_0 a0) NN (wi .i64 (a1 - (a0.length:Int)),0,0)).bind (contO (fun _=>none) (fun i1 s2=>if i1 = 0 then some s2.1 else none) (fun s2=>some s2.2.1))
theorem w15 {d:Nat} (hd:3≤d) (k0:Bool) (a0:List TMsg) (a1:Int):Fit (R NN d 15 [.rsl k0 false (a0.map (Enc.cs k0)),.int .i64 a1] []) (m15 a0 a1) PI:=by
  obtain ⟨d,rfl,g⟩:=up hd
  refine q_in (t15 NN d _ _) ?_
  unfold b15 m15
  refine q_len<|q_p fr<|q_p fr<|q_i ?_ ?_
  ·exact q_ret (cv_p rfl) rfl
  ·refine q_lp (A:=fun (s:Int×Int×Int)=>[.int .i64 s.1,.int .i64 s.2.1,.int .i64 s.2.2]) (B:=fun s=>[]) 0 rr ?_ ?_ ?_
   ·intro s1
    unfold s15_0 ms15_0
    exact q_len<|q_p fr<|q_i (q_ix rfl fun x1 hx1=>q_p fr<|q_c0t (aF2 (cv_a (cvs_e (l0:=k0) (x:=x1))) (cv_p rfl) fun l0_ l1_=>w37 (by omega) l0_ x1 s1.1)<|q_p fr<|q_i (q_lret 0 rr)<|q_p fr<|q_norm 0 rr)<|q_exit 0 rr
   ·exact fun i1 s2=>q_n (q_ret (cv_p rfl) rfl)<|q_none
   ·exact fun s2=>q_ret (cv_p rfl) rfl
def m95 (a0:TOp) (a1:Int):Int:=bif decide ((wi .i64 (a1 - (a0.Path.length:Int))) < 0) then (-1) else wi .i64 (a1 - (a0.Path.length:Int))
theorem w95 {d:Nat} (hd:1≤d) (k0:Bool) (a0:TOp) (a1:Int):Fit (R NN d 95 [.agg (Enc.cs k0 a0),.int .i64 a1] []) (some (m95 a0 a1)) PI:=by
  obtain ⟨d,rfl,g⟩:=up hd
  refine q_in (t95 NN d _ _) ?_
  unfold b95 m95
  exact q_box (n:=6) rfl rfl (by decide) fun b1=>q_p fr<|q_ld 0 rfl rfl<|q_slen<|q_p fr<|q_p fr<|q_ift (fun h1=>q_ret (cv_p rfl) rfl) fun h1=>q_ret (cv_p rfl) rfl
def ms67_0 (a0:List TOp) (s1:Int×Int×Int):Option (LO (Int×Int×Int)):=bif decide (s1.2.2 < (a0.length:Int)) then (getI a0 s1.2.2).bind fun x1=>bif decide ((m95 x1 s1.1) < 0) then some (LO.ret ((m95 x1 s1.1),(-1),s1.2.2)) else some (LO.norm ((m95 x1 s1.1),s1.2.1,wi .i64 (s1.2.2 + 1))) else some (LO.exit 0 (s1.1,s1.2.1,s1.2.2))
def m67 (a0:List TOp) (a1:Int):Option (Int):=bif decide ((wi .i64 (a1 - (a0.length:Int))) < 0) then some (-1) else (loopO (ms67_0 a0) NN (wi .i64 (a1 - (a0.length:Int)),0,0)).bind (contO (fun _=>none) (fun i1 s2=>if i1 = 0 then some s2.1 else none) (fun s2=>some s2.2.1))
theorem w67 {d:Nat} (hd:2≤d) (k0:Bool) (a0:List TOp) (a1:Int):Fit (R NN d 67 [.rsl k0 false (a0.map (Enc.cs k0)),.int .i64 a1] []) (m67 a0 a1) PI:=by
  obtain ⟨d,rfl,g⟩:=up hd
  refine q_in (t67 NN d _ _) ?_
  unfold b67 m67
  refine q_len<|q_p fr<|q_p fr<|q_i ?_ ?_
  ·exact q_ret (cv_p rfl) rfl
  ·refine q_lp (A:=fun (s:Int×Int×Int)=>[.int .i64 s.1,.int .i64 s.2.1,.int .i64 s.2.2]) (B:=fun s=>[]) 0 rr ?_ ?_ ?_
   ·intro s1
    unfold s67_0 ms67_0
    exact q_len<|q_p fr<|q_i (q_ix rfl fun x1 hx1=>q_p fr<|q_c0t (aF2 (cv_a (cvs_e (l0:=k0) (x:=x1))) (cv_p rfl) fun l0_ l1_=>w95 (by omega) l0_ x1 s1.1)<|q_p fr<|q_i (q_lret 0 rr)<|q_p fr<|q_norm 0 rr)<|q_exit 0 rr
   ·exact fun i1 s2=>q_n (q_ret (cv_p rfl) rfl)<|q_none
   ·exact fun s2=>q_ret (cv_p rfl) rfl
def m38 (a0:TRequest) (a1:Int):Option (Int):=(m67 a0.Ops a1).bind fun y1=>bif decide (y1 < 0) then some (-1) else some y1
theorem w38 {d:Nat} (hd:3≤d) (k0:Bool) (a0:TRequest) (a1:Int):Fit (R NN d 38 [.agg (Enc.cs k0 a0),.int .i64 a1] []) (m38 a0 a1) PI:=by
  obtain ⟨d,rfl,g⟩:=up hd
  refine q_in (t38 NN d _ _) ?_
  unfold b38 m38
  exact q_box (n:=4) rfl rfl (by decide) fun b1=>q_p fr<|q_ld 0 rfl rfl<|q_c0 (aF2 cv_r (cv_p rfl) fun l0_ l1_=>w67 (by omega) l0_ a0.Ops a1) fun y1 hy1=>q_p fr<|q_i (q_ret (cv_p rfl) rfl)<|q_ret (cv_p rfl) rfl
def ms16_0 (a0:List TRequest) (s1:Int×Int×Int):Option (LO (Int×Int×Int)):=bif decide (s1.2.2 < (a0.length:Int)) then (getI a0 s1.2.2).bind fun x1=>(m38 x1 s1.1).bind fun y1=>bif decide (y1 < 0) then some (LO.ret (y1,(-1),s1.2.2)) else some (LO.norm (y1,s1.2.1,wi .i64 (s1.2.2 + 1))) else some (LO.exit 0 (s1.1,s1.2.1,s1.2.2))
def m16 (a0:List TRequest) (a1:Int):Option (Int):=bif decide ((wi .i64 (a1 - (a0.length:Int))) < 0) then some (-1) else (loopO (ms16_0 a0) NN (wi .i64 (a1 - (a0.length:Int)),0,0)).bind (contO (fun _=>none) (fun i1 s2=>if i1 = 0 then some s2.1 else none) (fun s2=>some s2.2.1))
theorem w16 {d:Nat} (hd:4≤d) (k0:Bool) (a0:List TRequest) (a1:Int):Fit (R NN d 16 [.rsl k0 false (a0.map (Enc.cs k0)),.int .i64 a1] []) (m16 a0 a1) PI:=by
  obtain ⟨d,rfl,g⟩:=up hd
  refine q_in (t16 NN d _ _) ?_
  unfold b16 m16
  refine q_len<|q_p fr<|q_p fr<|q_i ?_ ?_
  ·exact q_ret (cv_p rfl) rfl
  ·refine q_lp (A:=fun (s:Int×Int×Int)=>[.int .i64 s.1,.int .i64 s.2.1,.int .i64 s.2.2]) (B:=fun s=>[]) 0 rr ?_ ?_ ?_
   ·intro s1
    unfold s16_0 ms16_0
    exact q_len<|q_p fr<|q_i (q_ix rfl fun x1 hx1=>q_p fr<|q_c0 (aF2 (cv_a (cvs_e (l0:=k0) (x:=x1))) (cv_p rfl) fun l0_ l1_=>w38 (by omega) l0_ x1 s1.1) fun y1 hy1=>q_p fr<|q_i (q_lret 0 rr)<|q_p fr<|q_norm 0 rr)<|q_exit 0 rr
   ·exact fun i1 s2=>q_n (q_ret (cv_p rfl) rfl)<|q_none
   ·exact fun s2=>q_ret (cv_p rfl) rfl
def m4 (a0:TCluster) (a1:Int):Option (Int):=bif decide ((m13 a0.Bad a1) < 0) then some (-1) else bif decide ((m14 a0.Replicas (m13 a0.Bad a1)) < 0) then some (-1) else (m15 a0.Ledger (m14 a0.Replicas (m13 a0.Bad a1))).bind fun y1=>bif decide (y1 < 0) then some (-1) else (m16 a0.Requests y1).bind fun y2=>bif decide (y2 < 0) then some (-1) else some y2
theorem w4 {d:Nat} (hd:5≤d) (k0:Bool) (a0:TCluster) (a1:Int):Fit (R NN d 4 [.agg (Enc.cs k0 a0),.int .i64 a1] []) (m4 a0 a1) PI:=by
  obtain ⟨d,rfl,g⟩:=up hd
  refine q_in (t4 NN d _ _) ?_
  unfold b4 m4
  exact q_box (n:=5) rfl rfl (by decide) fun b1=>q_p fr<|q_ld 0 rfl rfl<|q_c0t (aF2 cv_r (cv_p rfl) fun l0_ l1_=>w13 (by omega) l0_ a0.Bad a1)<|q_p fr<|q_i (q_ret (cv_p rfl) rfl)<|q_p fr<|q_ld 0 rfl rfl<|q_c0t (aF2 cv_r (cv_p rfl) fun l0_ l1_=>w14 (by omega) l0_ a0.Replicas (m13 a0.Bad a1))<|q_p fr<|q_i (q_ret (cv_p rfl) rfl)<|q_p fr<|q_ld 0 rfl rfl<|q_c0 (aF2 cv_r (cv_p rfl) fun l0_ l1_=>w15 (by omega) l0_ a0.Ledger (m14 a0.Replicas (m13 a0.Bad a1))) fun y1 hy1=>q_p fr<|q_i (q_ret (cv_p rfl) rfl)<|q_p fr<|q_ld 0 rfl rfl<|q_c0 (aF2 cv_r (cv_p rfl) fun l0_ l1_=>w16 (by omega) l0_ a0.Requests y1) fun y2 hy2=>q_p fr<|q_i (q_ret (cv_p rfl) rfl)<|q_ret (cv_p rfl) rfl
def m101 (a0:Int) (a1:Int) (a2:Int):Bool:=bif decide (a0 ≥ a1) then decide (a0≤a2) else false
theorem w101 {d:Nat} (hd:1≤d) (a0:Int) (a1:Int) (a2:Int):Fit (R NN d 101 [.int .i64 a0,.int .i64 a1,.int .i64 a2] []) (some (m101 a0 a1 a2)) PB:=by
  obtain ⟨d,rfl,g⟩:=up hd
  refine q_in (t101 NN d _ _ _) ?_
  unfold b101 m101
  exact q_p fr<|q_gTt (fun h1=>q_p fr<|q_ret (cv_p rfl) rfl) fun h1=>q_ret (cv_p rfl) rfl
def m96 (a0:Int):Bool:=(m101 a0 1 2)
theorem w96 {d:Nat} (hd:2≤d) (a0:Int):Fit (R NN d 96 [.int .i64 a0] []) (some (m96 a0)) PB:=by
  obtain ⟨d,rfl,g⟩:=up hd
  refine q_in (t96 NN d _) ?_
  unfold b96 m96
  exact q_c0t (aF3 (cv_p rfl) (cv_p rfl) (cv_p rfl) fun l0_ l1_ l2_=>w101 (by omega) a0 1 2)<|q_ret (cv_p rfl) rfl
def ms47_0 (a0:TMsg) (a1:TMsg) (s5:Bool×Int):Option (LO (Bool×Int)):=bif decide (s5.2 < (a0.Certs.length:Int)) then (getI a0.Certs s5.2).bind fun x1=>(getI a1.Certs s5.2).bind fun x2=>bif !(((x1.Slot == x2.Slot) && ((x1.View == x2.View) && ((x1.Value == x2.Value) && true)))) then some (LO.ret (false,s5.2)) else some (LO.norm (s5.1,wi .i64 (s5.2 + 1))) else some (LO.exit 0 (s5.1,s5.2))
def ms47_1 (a0:TMsg) (a1:TMsg) (s7:Bool×Int):Option (LO (Bool×Int)):=bif decide (s7.2 < (a0.Refs.length:Int)) then (getI a0.Refs s7.2).bind fun x3=>(getI a1.Refs s7.2).bind fun x4=>bif x3 != x4 then some (LO.ret (false,s7.2)) else some (LO.norm (s7.1,wi .i64 (s7.2 + 1))) else some (LO.exit 2 (s7.1,s7.2))
def m47 (a0:TMsg) (a1:TMsg):Option (Bool):=( ( bif a0.Kind != a1.Kind then some (LO.norm true) else bif a0.View != a1.View then some (LO.norm true) else bif a0.From != a1.From then some (LO.norm true) else bif a0.Slot != a1.Slot then some (LO.norm true) else bif a0.Value != a1.Value then some (LO.norm true) else bif (a0.Certs.length:Int) != (a1.Certs.length:Int) then some (LO.norm true) else some (LO.norm ((a0.Refs.length:Int) != (a1.Refs.length:Int)))).bind (contO (fun s3=>bif s3 then some (LO.ret false) else some (LO.norm false)) (fun i1 s3=>some (LO.exit i1 false)) (fun s3=>some (LO.ret false)))).bind (contO (fun s4=>(loopO (ms47_0 a0 a1) NN (s4,0)).bind (contO (fun _=>none) (fun i3 s6=>if i3 = 0 then (loopO (ms47_1 a0 a1) NN (s6.1,0)).bind (contO (fun _=>none) (fun i4 s8=>if i4 = 2 then some true else none) (fun s8=>some s8.1)) else none) (fun s6=>some s6.1))) (fun i2 s4=>none) (fun s4=>some s4))
theorem w47 {d:Nat} (hd:1≤d) (k0:Bool) (a0:TMsg) (k1:Bool) (a1:TMsg):Fit (R NN d 47 [.rp k0 (Enc.cs k0 a0),.rp k1 (Enc.cs k1 a1)] []) (m47 a0 a1) PB:=by
  obtain ⟨d,rfl,g⟩:=up hd
  refine q_in (t47 NN d _ _) ?_
  unfold b47 m47
  refine q_cu (A:=fun (s:Bool)=>[.bool s]) (B:=fun s=>[]) ?_ ?_ ?_ ?_
  ·refine q_cu (A:=fun (s:Bool)=>[.bool s]) (B:=fun s=>[]) ?_ ?_ ?_ ?_
   ·exact q_q fr<|q_p fr<|q_p fr<|q_q fr<|q_p fr<|q_p fr<|q_p fr<|q_j (q_norm 0 rr)<|q_q fr<|q_p fr<|q_p fr<|q_q fr<|q_p fr<|q_p fr<|q_p fr<|q_j (q_norm 0 rr)<|q_q fr<|q_p fr<|q_p fr<|q_q fr<|q_p fr<|q_p fr<|q_p fr<|q_j (q_norm 0 rr)<|q_q fr<|q_p fr<|q_p fr<|q_q fr<|q_p fr<|q_p fr<|q_p fr<|q_j (q_norm 0 rr)<|q_q fr<|q_p fr<|q_p fr<|q_q fr<|q_p fr<|q_p fr<|q_p fr<|q_j (q_norm 0 rr)<|q_q fr<|q_p fr<|q_p fr<|q_len<|q_q fr<|q_p fr<|q_p fr<|q_len<|q_p fr<|q_j (q_norm 0 rr)<|q_q fr<|q_p fr<|q_p fr<|q_len<|q_q fr<|q_p fr<|q_p fr<|q_len<|q_p fr<|q_norm 0 rr
   ·exact fun s3=>q_i (q_lret 0 rr)<|q_norm 0 rr
   ·exact fun i1 s3=>q_exit 0 rr
   ·exact fun s3=>q_lret 0 rr
  ·intro s4
   refine q_lp (A:=fun (s:Bool×Int)=>[.bool s.1,.int .i64 s.2]) (B:=fun s=>[]) 0 rr ?_ ?_ ?_
   ·intro s5
    unfold s47_0 ms47_0
    exact q_q fr<|q_p fr<|q_p fr<|q_len<|q_p fr<|q_i (q_q fr<|q_p fr<|q_p fr<|q_ix rfl fun x1 hx1=>q_p fr<|q_q fr<|q_p fr<|q_p fr<|q_ix rfl fun x2 hx2=>q_p fr<|q_p (fun _=>sneq1242 _ _ _ _ _ _)<|q_i (q_lret 0 rr)<|q_p fr<|q_norm 0 rr)<|q_exit 0 rr
   ·intro i3 s6
    refine q_n ?_ ?_
    ·refine q_lp (A:=fun (s:Bool×Int)=>[.bool s.1,.int .i64 s.2]) (B:=fun s=>[]) 0 rr ?_ ?_ ?_
     ·intro s7
      unfold s47_1 ms47_1
      exact q_q fr<|q_p fr<|q_p fr<|q_len<|q_p fr<|q_i (q_q fr<|q_p fr<|q_p fr<|q_ix rfl fun x3 hx3=>q_p fr<|q_q fr<|q_p fr<|q_p fr<|q_ix rfl fun x4 hx4=>q_p fr<|q_p fr<|q_i (q_lret 0 rr)<|q_p fr<|q_norm 0 rr)<|q_exit 0 rr
     ·exact fun i4 s8=>q_n (q_ret (cv_p rfl) rfl)<|q_none
     ·exact fun s8=>q_ret (cv_p rfl) rfl
    ·exact q_none
   ·exact fun s6=>q_ret (cv_p rfl) rfl
  ·exact fun i2 s4=>q_none
  ·exact fun s4=>q_ret (cv_p rfl) rfl
def ms21_0 (a0:List TMsg) (a1:TMsg) (s1:Int×Int):Option (LO (Int×Int)):=bif decide (s1.2 < (a0.length:Int)) then (getI a0 s1.2).bind fun x1=>(m47 x1 a1).bind fun y1=>bif y1 then some (LO.ret (s1.2,s1.2)) else some (LO.norm (s1.1,wi .i64 (s1.2 + 1))) else some (LO.exit 0 (s1.1,s1.2))
def m21 (a0:List TMsg) (a1:TMsg):Option (Int):=(loopO (ms21_0 a0 a1) NN (0,0)).bind (contO (fun _=>none) (fun i1 s2=>if i1 = 0 then some (-1) else none) (fun s2=>some s2.1))
theorem w21 {d:Nat} (hd:2≤d) (k0:Bool) (a0:List TMsg) (k1:Bool) (a1:TMsg):Fit (R NN d 21 [.rsl k0 false (a0.map (Enc.cs k0)),.rp k1 (Enc.cs k1 a1)] []) (m21 a0 a1) PI:=by
  obtain ⟨d,rfl,g⟩:=up hd
  refine q_in (t21 NN d _ _) ?_
  unfold b21 m21
  refine q_lp (A:=fun (s:Int×Int)=>[.int .i64 s.1,.int .i64 s.2]) (B:=fun s=>[]) 0 rr ?_ ?_ ?_
  ·intro s1
   unfold s21_0 ms21_0
   exact q_len<|q_p fr<|q_i (q_ix rfl fun x1 hx1=>q_c0 (aF2 (cv_rp (cvs_e (l0:=k0) (x:=x1)) (fun _ _ _ h=>Enc.frz k0 x1 _ _ _ h)) (cv_rp (cvs_e (l0:=k1) (x:=a1)) (fun _ _ _ h=>Enc.frz k1 a1 _ _ _ h)) fun l0_ l1_=>w47 (by omega) l0_ x1 l1_ a1) fun y1 hy1=>q_i (q_lret 0 rr)<|q_p fr<|q_norm 0 rr)<|q_exit 0 rr
  ·exact fun i1 s2=>q_n (q_ret (cv_p rfl) rfl)<|q_none
  ·exact fun s2=>q_ret (cv_p rfl) rfl
def m98 (a0:Int) (a1:Int):Bool:=(m101 a1 1 (wi .i64 ((wi .i64 (3 * a0)) + 1)))
theorem w98 {d:Nat} (hd:2≤d) (a0:Int) (a1:Int):Fit (R NN d 98 [.int .i64 a0,.int .i64 a1] []) (some (m98 a0 a1)) PB:=by
  obtain ⟨d,rfl,g⟩:=up hd
  refine q_in (t98 NN d _ _) ?_
  unfold b98 m98
  exact q_p fr<|q_p fr<|q_c0t (aF3 (cv_p rfl) (cv_p rfl) (cv_p rfl) fun l0_ l1_ l2_=>w101 (by omega) a1 1 (wi .i64 ((wi .i64 (3 * a0)) + 1)))<|q_ret (cv_p rfl) rfl
def m166 (a0:TMsg):Option (Bool):=( bif (m101 a0.Kind 1 5) then bif (m101 a0.Kind 1 3) then bif a0.Kind == 4 then bif a0.Kind == 5 then some (LO.norm true) else some (LO.norm ((a0.Refs.length:Int) == 0)) else bif (a0.Certs.length:Int) == 0 then bif a0.Kind == 5 then some (LO.norm true) else some (LO.norm ((a0.Refs.length:Int) == 0)) else some (LO.norm false) else bif a0.Slot == 0 then bif a0.Value == 0 then bif a0.Kind == 4 then bif a0.Kind == 5 then some (LO.norm true) else some (LO.norm ((a0.Refs.length:Int) == 0)) else bif (a0.Certs.length:Int) == 0 then bif a0.Kind == 5 then some (LO.norm true) else some (LO.norm ((a0.Refs.length:Int) == 0)) else some (LO.norm false) else some (LO.norm false) else some (LO.norm false) else some (LO.norm false)).bind (contO (fun s2=>some s2) (fun i1 s2=>none) (fun s2=>some s2))
theorem w166 {d:Nat} (hd:2≤d) (k0:Bool) (a0:TMsg):Fit (R NN d 166 [.rp k0 (Enc.cs k0 a0)] []) (m166 a0) PB:=by
  obtain ⟨d,rfl,g⟩:=up hd
  refine q_in (t166 NN d _) ?_
  unfold b166 m166
  refine q_q fr<|q_p fr<|q_p fr<|q_c0t (aF3 (cv_p rfl) (cv_p rfl) (cv_p rfl) fun l0_ l1_ l2_=>w101 (by omega) a0.Kind 1 3)<|q_cu (A:=fun (s:Bool)=>[.bool s]) (B:=fun s=>[]) ?_ ?_ ?_ ?_
  ·exact q_q fr<|q_p fr<|q_p fr<|q_c0t (aF3 (cv_p rfl) (cv_p rfl) (cv_p rfl) fun l0_ l1_ l2_=>w101 (by omega) a0.Kind 1 5)<|q_k (q_j (q_q fr<|q_p fr<|q_p fr<|q_p fr<|q_j (q_q fr<|q_p fr<|q_p fr<|q_p fr<|q_j (q_norm 0 rr)<|q_q fr<|q_p fr<|q_p fr<|q_len<|q_p fr<|q_norm 0 rr)<|q_q fr<|q_p fr<|q_p fr<|q_len<|q_p fr<|q_k (q_q fr<|q_p fr<|q_p fr<|q_p fr<|q_j (q_norm 0 rr)<|q_q fr<|q_p fr<|q_p fr<|q_len<|q_p fr<|q_norm 0 rr)<|q_norm 0 rr)<|q_q fr<|q_p fr<|q_p fr<|q_p fr<|q_k (q_q fr<|q_p fr<|q_p fr<|q_p fr<|q_k (q_q fr<|q_p fr<|q_p fr<|q_p fr<|q_j (q_q fr<|q_p fr<|q_p fr<|q_p fr<|q_j (q_norm 0 rr)<|q_q fr<|q_p fr<|q_p fr<|q_len<|q_p fr<|q_norm 0 rr)<|q_q fr<|q_p fr<|q_p fr<|q_len<|q_p fr<|q_k (q_q fr<|q_p fr<|q_p fr<|q_p fr<|q_j (q_norm 0 rr)<|q_q fr<|q_p fr<|q_p fr<|q_len<|q_p fr<|q_norm 0 rr)<|q_norm 0 rr)<|q_norm 0 rr)<|q_norm 0 rr)<|q_norm 0 rr
  ·exact fun s2=>q_ret (cv_p rfl) rfl
  ·exact fun i1 s2=>q_none
  ·exact fun s2=>q_ret (cv_p rfl) rfl
def ms167_0 (a0:TMsg) (s1:Int×Int):Option (LO (Int×Int)):=bif decide (s1.2 < (a0.Certs.length:Int)) then (getI a0.Certs s1.2).bind fun x1=>(getI a0.Certs (wi .i64 (s1.2 - 1))).bind fun x2=>bif decide (x1.Slot≤x2.Slot) then some (LO.ret (1,s1.2)) else some (LO.norm (s1.1,wi .i64 (s1.2 + 1))) else some (LO.exit 0 (s1.1,s1.2))
def ms167_1 (a0:TMsg) (s3:Int×Int):Option (LO (Int×Int)):=bif decide (s3.2 < (a0.Refs.length:Int)) then (getI a0.Refs s3.2).bind fun x3=>(getI a0.Refs (wi .i64 (s3.2 - 1))).bind fun x4=>bif decide (x3≤x4) then some (LO.ret (1,s3.2)) else some (LO.norm (s3.1,wi .i64 (s3.2 + 1))) else some (LO.exit 2 (s3.1,s3.2))
def ms167_2 (a0:TMsg) (s5:Int×Int):Option (LO (Int×Int)):=bif decide (s5.2 < (a0.Certs.length:Int)) then ( (getI a0.Certs s5.2).bind fun x5=>( bif !(m101 x5.Slot 1 30) then some (LO.norm true) else bif !(m101 x5.View 0 (wi .i64 (a0.View - 1))) then some (LO.norm true) else some (LO.norm (!(m101 x5.Value 0 12)))).bind (contO (fun s8=>bif s8 then some (LO.ret 3) else some (LO.norm s5.1)) (fun i3 s8=>if i3 = 5 then some (LO.norm s5.1) else some (LO.exit i3 s5.1)) (fun s8=>some (LO.ret s5.1)))).bind (contO (fun s9=>some (LO.norm (s9,wi .i64 (s5.2 + 1)))) (fun i4 s9=>some (LO.exit i4 (s9,s5.2))) (fun s9=>some (LO.ret (s9,s5.2)))) else some (LO.exit 4 (s5.1,s5.2))
def ms167_3 (a0:TMsg) (s11:Int×Int):Option (LO (Int×Int)):=bif decide (s11.2 < (a0.Refs.length:Int)) then (getI a0.Refs s11.2).bind fun x6=>bif !(m101 x6 0 239) then some (LO.ret (3,s11.2)) else some (LO.norm (s11.1,wi .i64 (s11.2 + 1))) else some (LO.exit 6 (s11.1,s11.2))
def m167 (a0:TMsg):Option (Int):=(loopO (ms167_0 a0) NN (0,1)).bind (contO (fun _=>none) (fun i1 s2=>if i1 = 0 then (loopO (ms167_1 a0) NN (s2.1,1)).bind (contO (fun _=>none) (fun i2 s4=>if i2 = 2 then (loopO (ms167_2 a0) NN (s4.1,0)).bind (contO (fun _=>none) (fun i5 s10=>if i5 = 4 then (loopO (ms167_3 a0) NN (s10.1,0)).bind (contO (fun _=>none) (fun i6 s12=>if i6 = 6 then some 0 else none) (fun s12=>some s12.1)) else none) (fun s10=>some s10.1)) else none) (fun s4=>some s4.1)) else none) (fun s2=>some s2.1))
theorem w167 {d:Nat} (hd:2≤d) (k0:Bool) (a0:TMsg):Fit (R NN d 167 [.rp k0 (Enc.cs k0 a0)] []) (m167 a0) PI:=by
  obtain ⟨d,rfl,g⟩:=up hd
  refine q_in (t167 NN d _) ?_
  unfold b167 m167
  refine q_lp (A:=fun (s:Int×Int)=>[.int .i64 s.1,.int .i64 s.2]) (B:=fun s=>[]) 0 rr ?_ ?_ ?_
  ·intro s1
   unfold s167_0 ms167_0
   exact q_q fr<|q_p fr<|q_p fr<|q_len<|q_p fr<|q_i (q_q fr<|q_p fr<|q_p fr<|q_ix rfl fun x1 hx1=>q_p fr<|q_p fr<|q_q fr<|q_p fr<|q_p fr<|q_p fr<|q_ix rfl fun x2 hx2=>q_p fr<|q_p fr<|q_p fr<|q_i (q_lret 0 rr)<|q_p fr<|q_norm 0 rr)<|q_exit 0 rr
  ·intro i1 s2
   refine q_n ?_ ?_
   ·refine q_lp (A:=fun (s:Int×Int)=>[.int .i64 s.1,.int .i64 s.2]) (B:=fun s=>[]) 0 rr ?_ ?_ ?_
    ·intro s3
     unfold s167_1 ms167_1
     exact q_q fr<|q_p fr<|q_p fr<|q_len<|q_p fr<|q_i (q_q fr<|q_p fr<|q_p fr<|q_ix rfl fun x3 hx3=>q_p fr<|q_q fr<|q_p fr<|q_p fr<|q_p fr<|q_ix rfl fun x4 hx4=>q_p fr<|q_p fr<|q_i (q_lret 0 rr)<|q_p fr<|q_norm 0 rr)<|q_exit 0 rr
    ·intro i2 s4
     refine q_n ?_ ?_
     ·refine q_lp (A:=fun (s:Int×Int)=>[.int .i64 s.1,.int .i64 s.2]) (B:=fun s=>[]) 0 rr ?_ ?_ ?_
      ·intro s5
       unfold s167_2 ms167_2
       refine q_q fr<|q_p fr<|q_p fr<|q_len<|q_p fr<|q_i ?_ ?_
       ·refine q_cu (A:=fun (s:Int)=>[.int .i64 s]) (B:=fun s=>[]) ?_ ?_ ?_ ?_
        ·refine q_q fr<|q_p fr<|q_p fr<|q_ix rfl fun x5 hx5=>q_p fr<|q_new rfl fun b1=>q_st 0 rfl rfl rfl (by decide) rfl<|q_cu (A:=fun (s:Bool)=>[.bool s]) (B:=fun s=>[bx b1 [.int .i64 x5.Slot,.int .i64 x5.View,.int .i64 x5.Value]]) ?_ ?_ ?_ ?_
         ·exact q_p fr<|q_ld 0 rfl rfl<|q_c0t (aF3 (cv_p rfl) (cv_p rfl) (cv_p rfl) fun l0_ l1_ l2_=>w101 (by omega) x5.Slot 1 30)<|q_p fr<|q_j (q_norm 0 rr)<|q_p fr<|q_ld 0 rfl rfl<|q_q fr<|q_p fr<|q_p fr<|q_p fr<|q_c0t (aF3 (cv_p rfl) (cv_p rfl) (cv_p rfl) fun l0_ l1_ l2_=>w101 (by omega) x5.View 0 (wi .i64 (a0.View - 1)))<|q_p fr<|q_j (q_norm 0 rr)<|q_p fr<|q_ld 0 rfl rfl<|q_c0t (aF3 (cv_p rfl) (cv_p rfl) (cv_p rfl) fun l0_ l1_ l2_=>w101 (by omega) x5.Value 0 12)<|q_p fr<|q_norm 0 rr
         ·exact fun s8=>q_i (q_lret 1 rr)<|q_norm 1 rr
         ·exact fun i3 s8=>q_n (q_norm 1 rr)<|q_exit 1 rr
         ·exact fun s8=>q_lret 1 rr
        ·exact fun s9=>q_p fr<|q_norm 0 rr
        ·exact fun i4 s9=>q_exit 0 rr
        ·exact fun s9=>q_lret 0 rr
       ·exact q_exit 0 rr
      ·intro i5 s10
       refine q_n ?_ ?_
       ·refine q_lp (A:=fun (s:Int×Int)=>[.int .i64 s.1,.int .i64 s.2]) (B:=fun s=>[]) 0 rr ?_ ?_ ?_
        ·intro s11
         unfold s167_3 ms167_3
         exact q_q fr<|q_p fr<|q_p fr<|q_len<|q_p fr<|q_i (q_q fr<|q_p fr<|q_p fr<|q_ix rfl fun x6 hx6=>q_p fr<|q_c0t (aF3 (cv_p rfl) (cv_p rfl) (cv_p rfl) fun l0_ l1_ l2_=>w101 (by omega) x6 0 239)<|q_p fr<|q_i (q_lret 0 rr)<|q_p fr<|q_norm 0 rr)<|q_exit 0 rr
        ·exact fun i6 s12=>q_n (q_ret (cv_p rfl) rfl)<|q_none
        ·exact fun s12=>q_ret (cv_p rfl) rfl
       ·exact q_none
      ·exact fun s10=>q_ret (cv_p rfl) rfl
     ·exact q_none
    ·exact fun s4=>q_ret (cv_p rfl) rfl
   ·exact q_none
  ·exact fun s2=>q_ret (cv_p rfl) rfl
def m133 (a0:Int) (a1:TMsg):Option (Int):=(m166 a1).bind fun y1=>bif !y1 then some 1 else ( ( bif !(m101 a1.View 0 20) then some (LO.norm true) else bif !(m98 a0 a1.From) then some (LO.norm true) else bif decide (a1.Kind≤3) then bif !(m101 a1.Slot 1 30) then some (LO.norm true) else some (LO.norm (!(m101 a1.Value 0 12))) else some (LO.norm false)).bind (contO (fun s3=>bif s3 then some (LO.ret 3) else some (LO.norm 0)) (fun i1 s3=>some (LO.exit i1 0)) (fun s3=>some (LO.ret 0)))).bind (contO (fun s4=>( bif decide ((a1.Certs.length:Int) > 30) then some (LO.ret 2) else bif decide ((a1.Refs.length:Int) > (wi .i64 ((wi .i64 (3 * a0)) + 1))) then some (LO.ret 2) else some (LO.norm s4)).bind (contO (fun s6=>(m167 a1).bind fun y2=>some y2) (fun i3 s6=>none) (fun s6=>some s6))) (fun i2 s4=>none) (fun s4=>some s4))
theorem w133 {d:Nat} (hd:3≤d) (a0:Int) (k1:Bool) (a1:TMsg):Fit (R NN d 133 [.int .i64 a0,.rp k1 (Enc.cs k1 a1)] []) (m133 a0 a1) PI:=by
  obtain ⟨d,rfl,g⟩:=up hd
  refine q_in (t133 NN d _ _) ?_
  unfold b133 m133
  refine q_c0 (aF1 (cv_rp (cvs_e (l0:=k1) (x:=a1)) (fun _ _ _ h=>Enc.frz k1 a1 _ _ _ h)) fun l0_=>w166 (by omega) l0_ a1) fun y1 hy1=>q_p fr<|q_i ?_ ?_
  ·exact q_ret (cv_p rfl) rfl
  ·refine q_q fr<|q_p fr<|q_p fr<|q_p fr<|q_cu (A:=fun (s:Int)=>[.int .i64 s]) (B:=fun s=>[]) ?_ ?_ ?_ ?_
   ·refine q_cu (A:=fun (s:Bool)=>[.bool s]) (B:=fun s=>[]) ?_ ?_ ?_ ?_
    ·exact q_q fr<|q_p fr<|q_p fr<|q_c0t (aF3 (cv_p rfl) (cv_p rfl) (cv_p rfl) fun l0_ l1_ l2_=>w101 (by omega) a1.View 0 20)<|q_p fr<|q_j (q_norm 0 rr)<|q_q fr<|q_p fr<|q_p fr<|q_c0t (aF2 (cv_p rfl) (cv_p rfl) fun l0_ l1_=>w98 (by omega) a0 a1.From)<|q_p fr<|q_j (q_norm 0 rr)<|q_k (q_q fr<|q_p fr<|q_p fr<|q_c0t (aF3 (cv_p rfl) (cv_p rfl) (cv_p rfl) fun l0_ l1_ l2_=>w101 (by omega) a1.Slot 1 30)<|q_p fr<|q_j (q_norm 0 rr)<|q_q fr<|q_p fr<|q_p fr<|q_c0t (aF3 (cv_p rfl) (cv_p rfl) (cv_p rfl) fun l0_ l1_ l2_=>w101 (by omega) a1.Value 0 12)<|q_p fr<|q_norm 0 rr)<|q_norm 0 rr
    ·exact fun s3=>q_i (q_lret 0 rr)<|q_norm 0 rr
    ·exact fun i1 s3=>q_exit 0 rr
    ·exact fun s3=>q_lret 0 rr
   ·intro s4
    refine q_cu (A:=fun (s:Int)=>[.int .i64 s]) (B:=fun s=>[]) ?_ ?_ ?_ ?_
    ·refine q_q fr<|q_p fr<|q_p fr<|q_len<|q_p fr<|q_j ?_ ?_
     ·first | refine q_ifT1 ?_ | skip
      exact q_lret 0 rr
     ·exact q_q fr<|q_p fr<|q_p fr<|q_len<|q_p fr<|q_p fr<|q_p fr<|q_i (q_lret 0 rr)<|q_norm 0 rr
    ·exact fun s6=>q_c0 (aF1 (cv_rp (cvs_e (l0:=k1) (x:=a1)) (fun _ _ _ h=>Enc.frz k1 a1 _ _ _ h)) fun l0_=>w167 (by omega) l0_ a1) fun y2 hy2=>q_ret (cv_p rfl) rfl
    ·exact fun i3 s6=>q_none
    ·exact fun s6=>q_ret (cv_p rfl) rfl
   ·exact fun i2 s4=>q_none
   ·exact fun s4=>q_ret (cv_p rfl) rfl
def ms134_0 (a0:TMsg) (a1:Int) (s1:Bool×Int):Option (LO (Bool×Int)):=bif decide (s1.2 < (a0.Refs.length:Int)) then (getI a0.Refs s1.2).bind fun x1=>bif decide (x1 ≥ a1) then some (LO.ret (false,s1.2)) else some (LO.norm (s1.1,wi .i64 (s1.2 + 1))) else some (LO.exit 0 (s1.1,s1.2))
def m134 (a0:TMsg) (a1:Int):Option (Bool):=(loopO (ms134_0 a0 a1) NN (false,0)).bind (contO (fun _=>none) (fun i1 s2=>if i1 = 0 then some true else none) (fun s2=>some s2.1))
theorem w134 {d:Nat} (hd:1≤d) (k0:Bool) (a0:TMsg) (a1:Int):Fit (R NN d 134 [.rp k0 (Enc.cs k0 a0),.int .i64 a1] []) (m134 a0 a1) PB:=by
  obtain ⟨d,rfl,g⟩:=up hd
  refine q_in (t134 NN d _ _) ?_
  unfold b134 m134
  refine q_lp (A:=fun (s:Bool×Int)=>[.bool s.1,.int .i64 s.2]) (B:=fun s=>[]) 0 rr ?_ ?_ ?_
  ·intro s1
   unfold s134_0 ms134_0
   exact q_q fr<|q_p fr<|q_p fr<|q_len<|q_p fr<|q_i (q_q fr<|q_p fr<|q_p fr<|q_ix rfl fun x1 hx1=>q_p fr<|q_p fr<|q_i (q_lret 0 rr)<|q_p fr<|q_norm 0 rr)<|q_exit 0 rr
  ·exact fun i1 s2=>q_n (q_ret (cv_p rfl) rfl)<|q_none
  ·exact fun s2=>q_ret (cv_p rfl) rfl
def ms97_0 (a0:Int) (a1:List TMsg) (s1:Int×Int):Option (LO (Int×Int)):=bif decide (s1.2 < (a1.length:Int)) then (getI a1 s1.2).bind fun x1=>(m133 a0 x1).bind fun y1=>bif y1 != 0 then some (LO.ret (y1,s1.2)) else (getI a1 s1.2).bind fun x2=>(m134 x2 s1.2).bind fun y2=>bif !y2 then some (LO.ret (4,s1.2)) else (getI a1 s1.2).bind fun x3=>(m21 a1 x3).bind fun y3=>bif y3 != s1.2 then some (LO.ret (6,s1.2)) else some (LO.norm (s1.1,wi .i64 (s1.2 + 1))) else some (LO.exit 0 (s1.1,s1.2))
def m97 (a0:Int) (a1:List TMsg):Option (Int):=bif decide ((a1.length:Int) > 240) then some 2 else (loopO (ms97_0 a0 a1) NN (0,0)).bind (contO (fun _=>none) (fun i1 s2=>if i1 = 0 then some 0 else none) (fun s2=>some s2.1))
theorem w97 {d:Nat} (hd:4≤d) (a0:Int) (k1:Bool) (a1:List TMsg):Fit (R NN d 97 [.int .i64 a0,.rsl k1 false (a1.map (Enc.cs k1))] []) (m97 a0 a1) PI:=by
  obtain ⟨d,rfl,g⟩:=up hd
  refine q_in (t97 NN d _ _) ?_
  unfold b97 m97
  refine q_len<|q_p fr<|q_i ?_ ?_
  ·exact q_ret (cv_p rfl) rfl
  ·refine q_lp (A:=fun (s:Int×Int)=>[.int .i64 s.1,.int .i64 s.2]) (B:=fun s=>[]) 0 rr ?_ ?_ ?_
   ·intro s1
    unfold s97_0 ms97_0
    exact q_len<|q_p fr<|q_i (q_ix rfl fun x1 hx1=>q_c0 (aF2 (cv_p rfl) (cv_rp (cvs_e (l0:=k1) (x:=x1)) (fun _ _ _ h=>Enc.frz k1 x1 _ _ _ h)) fun l0_ l1_=>w133 (by omega) a0 l1_ x1) fun y1 hy1=>q_p fr<|q_i (q_lret 0 rr)<|q_ix rfl fun x2 hx2=>q_c0 (aF2 (cv_rp (cvs_e (l0:=k1) (x:=x2)) (fun _ _ _ h=>Enc.frz k1 x2 _ _ _ h)) (cv_p rfl) fun l0_ l1_=>w134 (by omega) l0_ x2 s1.2) fun y2 hy2=>q_p fr<|q_i (q_lret 0 rr)<|q_ix rfl fun x3 hx3=>q_c0 (aF2 cv_r (cv_rp (cvs_e (l0:=k1) (x:=x3)) (fun _ _ _ h=>Enc.frz k1 x3 _ _ _ h)) fun l0_ l1_=>w21 (by omega) l0_ a1 l1_ x3) fun y3 hy3=>q_p fr<|q_i (q_lret 0 rr)<|q_p fr<|q_norm 0 rr)<|q_exit 0 rr
   ·exact fun i1 s2=>q_n (q_ret (cv_p rfl) rfl)<|q_none
   ·exact fun s2=>q_ret (cv_p rfl) rfl
def m68 (a0:Int) (a1:List TMsg):Option (Int):=bif !(m96 a0) then some 3 else (m97 a0 a1).bind fun y1=>some y1
theorem w68 {d:Nat} (hd:5≤d) (a0:Int) (k1:Bool) (a1:List TMsg):Fit (R NN d 68 [.int .i64 a0,.rsl k1 false (a1.map (Enc.cs k1))] []) (m68 a0 a1) PI:=by
  obtain ⟨d,rfl,g⟩:=up hd
  refine q_in (t68 NN d _ _) ?_
  unfold b68 m68
  exact q_c0t (aF1 (cv_p rfl) fun l0_=>w96 (by omega) a0)<|q_p fr<|q_i (q_ret (cv_p rfl) rfl)<|q_c0 (aF2 (cv_p rfl) cv_r fun l0_ l1_=>w97 (by omega) a0 l1_ a1) fun y1 hy1=>q_ret (cv_p rfl) rfl
def ms69_0 (a0:Int) (a1:List Int) (s1:Int×Int):Option (LO (Int×Int)):=bif decide (s1.2 < (a1.length:Int)) then ( (getI a1 s1.2).bind fun x1=>bif !(m98 a0 x1) then some (LO.ret 3) else bif decide (s1.2 > 0) then (getI a1 s1.2).bind fun x2=>(getI a1 (wi .i64 (s1.2 - 1))).bind fun x3=>bif decide (x2≤x3) then some (LO.ret 1) else some (LO.norm s1.1) else some (LO.norm s1.1)).bind (contO (fun s3=>some (LO.norm (s3,wi .i64 (s1.2 + 1)))) (fun i1 s3=>some (LO.exit i1 (s3,s1.2))) (fun s3=>some (LO.ret (s3,s1.2)))) else some (LO.exit 0 (s1.1,s1.2))
def m69 (a0:Int) (a1:List Int):Option (Int):=bif decide ((a1.length:Int) > a0) then some 2 else (loopO (ms69_0 a0 a1) NN (0,0)).bind (contO (fun _=>none) (fun i2 s4=>if i2 = 0 then some 0 else none) (fun s4=>some s4.1))
theorem w69 {d:Nat} (hd:3≤d) (a0:Int) (k1:Bool) (a1:List Int):Fit (R NN d 69 [.int .i64 a0,.rsl k1 false (a1.map (Enc.cs k1))] []) (m69 a0 a1) PI:=by
  obtain ⟨d,rfl,g⟩:=up hd
  refine q_in (t69 NN d _ _) ?_
  unfold b69 m69
  refine q_len<|q_p fr<|q_i ?_ ?_
  ·exact q_ret (cv_p rfl) rfl
  ·refine q_lp (A:=fun (s:Int×Int)=>[.int .i64 s.1,.int .i64 s.2]) (B:=fun s=>[]) 0 rr ?_ ?_ ?_
   ·intro s1
    unfold s69_0 ms69_0
    refine q_len<|q_p fr<|q_i ?_ ?_
    ·refine q_cu (A:=fun (s:Int)=>[.int .i64 s]) (B:=fun s=>[]) ?_ ?_ ?_ ?_
     ·refine q_ix rfl fun x1 hx1=>q_p fr<|q_c0t (aF2 (cv_p rfl) (cv_p rfl) fun l0_ l1_=>w98 (by omega) a0 x1)<|q_p fr<|q_i ?_ ?_
      ·exact q_lret 0 rr
      ·refine q_p fr<|q_k ?_ ?_
       ·exact q_ix rfl fun x2 hx2=>q_p fr<|q_p fr<|q_ix rfl fun x3 hx3=>q_p fr<|q_p fr<|q_i (q_lret 0 rr)<|q_norm 0 rr
       ·first | refine q_ifF1 ?_ | skip
        exact q_norm 0 rr
     ·exact fun s3=>q_p fr<|q_norm 0 rr
     ·exact fun i1 s3=>q_exit 0 rr
     ·exact fun s3=>q_lret 0 rr
    ·exact q_exit 0 rr
   ·exact fun i2 s4=>q_n (q_ret (cv_p rfl) rfl)<|q_none
   ·exact fun s4=>q_ret (cv_p rfl) rfl
def m42 (a0:Int) (a1:Int):Option (Int):=(remO a1 (wi .i64 ((wi .i64 (3 * a0)) + 1))).bind fun q1=>some (wi .i64 (1 + q1))
theorem w42 {d:Nat} (hd:1≤d) (a0:Int) (a1:Int):Fit (R NN d 42 [.int .i64 a0,.int .i64 a1] []) (m42 a0 a1) PI:=by
  obtain ⟨d,rfl,g⟩:=up hd
  refine q_in (t42 NN d _ _) ?_
  unfold b42 m42
  exact q_p fr<|q_p fr<|q_rem2 fun q1 hq1=>q_p fr<|q_ret (cv_p rfl) rfl
def m44 (a0:Int):Int:=wi .i64 ((wi .i64 (2 * a0)) + 1)
theorem w44 {d:Nat} (hd:1≤d) (a0:Int):Fit (R NN d 44 [.int .i64 a0] []) (some (m44 a0)) PI:=by
  obtain ⟨d,rfl,g⟩:=up hd
  refine q_in (t44 NN d _) ?_
  unfold b44 m44
  exact q_p fr<|q_p fr<|q_ret (cv_p rfl) rfl
def m106 (a0:List TMsg) (a1:Int) (a2:Int):Option (Bool):=bif (m101 a1 0 (wi .i64 ((a0.length:Int) - 1))) then (getI a0 a1).bind fun x1=>some (x1.Kind == a2) else some false
theorem w106 {d:Nat} (hd:2≤d) (k0:Bool) (a0:List TMsg) (a1:Int) (a2:Int):Fit (R NN d 106 [.rsl k0 false (a0.map (Enc.cs k0)),.int .i64 a1,.int .i64 a2] []) (m106 a0 a1 a2) PB:=by
  obtain ⟨d,rfl,g⟩:=up hd
  refine q_in (t106 NN d _ _ _) ?_
  unfold b106 m106
  exact q_len<|q_p fr<|q_c0t (aF3 (cv_p rfl) (cv_p rfl) (cv_p rfl) fun l0_ l1_ l2_=>w101 (by omega) a1 0 (wi .i64 ((a0.length:Int) - 1)))<|q_k (q_ix rfl fun x1 hx1=>q_p fr<|q_p fr<|q_p fr<|q_ret (cv_p rfl) rfl)<|q_ret (cv_p rfl) rfl
def ms142_0 (a0:Int) (a1:List TMsg) (a2:Int) (a3:TCert) (s1:Int×(List Int)):Option (LO (Int×(List Int))):=bif decide (s1.1≤(wi .i64 ((wi .i64 (3 * a0)) + 1))) then ( (m21 a1 (⟨a2,a3.View,s1.1,a3.Slot,a3.Value,[],[]⟩:TMsg)).bind fun y1=>bif decide (y1 ≥ 0) then (appO 8 s1.2 [s1.1]).bind fun z1=>some (LO.norm z1) else some (LO.norm s1.2)).bind (contO (fun s3=>some (LO.norm (wi .i64 (s1.1 + 1),s3))) (fun i1 s3=>some (LO.exit i1 (s1.1,s3))) (fun s3=>some (LO.ret (s1.1,s3)))) else some (LO.exit 0 (s1.1,s1.2))
def m142 (a0:Int) (a1:List TMsg) (a2:Int) (a3:TCert):Option ((List Int)):=(loopO (ms142_0 a0 a1 a2 a3) NN (1,[])).bind (contO (fun _=>none) (fun i2 s4=>if i2 = 0 then some s4.2 else none) (fun s4=>some []))
theorem w142 {d:Nat} (hd:3≤d) (a0:Int) (k1:Bool) (a1:List TMsg) (a2:Int) (k3:Bool) (a3:TCert):Fit (R NN d 142 [.int .i64 a0,.rsl k1 false (a1.map (Enc.cs k1)),.int .i64 a2,.agg (Enc.cs k3 a3)] []) (m142 a0 a1 a2 a3) (P0 (fun (t:List Int)=>AV.rsl false false (t.map (Enc.cs false)))):=by
  obtain ⟨d,rfl,g⟩:=up hd
  refine q_in (t142 NN d _ _ _ _) ?_
  unfold b142 m142
  refine q_box (n:=3) rfl rfl (by decide) fun b1=>q_q (fun _=>qs22_0)<|q_nil (α:=Int) false<|q_loop (I:=(fun (s:Int×(List Int)) l L=>∃ (v1:AV),l = [v1,.int .i64 s.1]∧L = [sl false v1 (s.2:List Int),bx b1 [.int .i64 a3.Slot,.int .i64 a3.View,.int .i64 a3.Value]])) 0 ⟨(.rsl false true []),rfl,rfl⟩ ?_ ?_ ?_
  ·rintro s1 _ _ ⟨v1,rfl,rfl⟩
   unfold s142_0 ms142_0
   refine q_p fr<|q_p fr<|q_p fr<|q_i ?_ ?_
   ·refine q_cut (I:=(fun (s:(List Int)) l L=>∃ (v2:AV),l = [v2]∧L = [sl false v2 (s:List Int),bx b1 [.int .i64 a3.Slot,.int .i64 a3.View,.int .i64 a3.Value]])) ?_ ?_ ?_ ?_
    ·exact q_p fr<|q_ld 1 rfl rfl<|q_p fr<|q_ld 1 rfl rfl<|q_p fr<|q_ld 1 rfl rfl<|q_p (fun _=>bd53_0_1_2_3_4 rfl)<|q_new rfl fun b2=>q_st 0 rfl rfl rfl (by decide) rfl<|q_c0 (aF2 cv_r (cv_b 0 rfl (cvs_cons (cv_p rfl) (cvs_cons (cv_p rfl) (cvs_cons (cv_p rfl) (cvs_cons (cv_p rfl) (cvs_cons (cv_p rfl) (cvs_cons (cv_r (α:=TCert) (l0:=false) (fl:=true) (xs:=[])) (cvs_cons (cv_r (α:=Int) (l0:=false) (fl:=true) (xs:=[])) cvs_nil)))))))) fun l0_ l1_=>w21 (by omega) l0_ a1 l1_ (⟨a2,a3.View,s1.1,a3.Slot,a3.Value,[],[]⟩:TMsg)) fun y1 hy1=>q_p fr<|q_i (q_q (fun _=>qi22_1)<|q_app (ys:=[s1.1]) 1 rfl rfl (fun _ _=>rfl) fun v2 z1 hz1=>q_norm 1 ⟨v2,rfl,rfl⟩)<|q_norm 1 ⟨v1,rfl,rfl⟩
    ·rintro s3 _ _ ⟨v3,rfl,rfl⟩
     exact q_p fr<|q_norm 0 ⟨v3,rfl,rfl⟩
    ·rintro i1 s3 _ _ ⟨v4,rfl,rfl⟩
     exact q_exit 0 ⟨v4,rfl,rfl⟩
    ·rintro s3 _ _ ⟨v5,rfl,rfl⟩
     exact q_lret 0 ⟨v5,rfl,rfl⟩
   ·exact q_exit 0 ⟨v1,rfl,rfl⟩
  ·rintro i2 s4 _ _ ⟨v6,rfl,rfl⟩
   exact q_n (q_ret (cv_o 0 rfl) rfl)<|q_none
  ·rintro s4 _ _ ⟨v7,rfl,rfl⟩
   exact q_ret (cv_r (α:=Int) (l0:=false) (fl:=true) (xs:=[])) rfl
def m107 (a0:Int) (a1:List TMsg) (a2:Int) (a3:TCert):Option (Bool):=(m142 a0 a1 a2 a3).bind fun y1=>some (decide ((y1.length:Int) ≥ (m44 a0)))
theorem w107 {d:Nat} (hd:4≤d) (a0:Int) (k1:Bool) (a1:List TMsg) (a2:Int) (k3:Bool) (a3:TCert):Fit (R NN d 107 [.int .i64 a0,.rsl k1 false (a1.map (Enc.cs k1)),.int .i64 a2,.agg (Enc.cs k3 a3)] []) (m107 a0 a1 a2 a3) PB:=by
  obtain ⟨d,rfl,g⟩:=up hd
  refine q_in (t107 NN d _ _ _ _) ?_
  unfold b107 m107
  exact q_box (n:=3) rfl rfl (by decide) fun b1=>q_lda 0 rfl rfl rfl<|q_c0 (fun S hS=>argF4 (cv_p rfl) cv_r (cv_p rfl) (cv_a (cvs_e (l0:=false) (x:=a3))) hS fun l0_ l1_ l2_ l3_=>w142 (by omega) a0 l1_ a1 a2 l3_ a3) fun y1 hy1=>q_len<|q_c0t (aF1 (cv_p rfl) fun l0_=>w44 (by omega) a0)<|q_p fr<|q_ret (cv_p rfl) rfl
def ms74_0 (a0:Int) (a1:List TMsg) (a2:Int) (s3:Bool×Int):Option (LO (Bool×Int)):=(getI a1 a2).bind fun x2=>bif decide (s3.2 < (x2.Certs.length:Int)) then (getI a1 a2).bind fun x3=>(getI x3.Certs s3.2).bind fun x4=>(m107 a0 a1 2 x4).bind fun y2=>bif !y2 then some (LO.ret (false,s3.2)) else some (LO.norm (s3.1,wi .i64 (s3.2 + 1))) else some (LO.exit 0 (s3.1,s3.2))
def m74 (a0:Int) (a1:List TMsg) (a2:Int):Option (Bool):=( (m106 a1 a2 4).bind fun y1=>bif !y1 then some (LO.ret false) else (getI a1 a2).bind fun x1=>bif decide (x1.View < 1) then some (LO.ret false) else some (LO.norm false)).bind (contO (fun s2=>(loopO (ms74_0 a0 a1 a2) NN (s2,0)).bind (contO (fun _=>none) (fun i2 s4=>if i2 = 0 then some true else none) (fun s4=>some s4.1))) (fun i1 s2=>none) (fun s2=>some s2))
theorem w74 {d:Nat} (hd:5≤d) (a0:Int) (k1:Bool) (a1:List TMsg) (a2:Int):Fit (R NN d 74 [.int .i64 a0,.rsl k1 false (a1.map (Enc.cs k1)),.int .i64 a2] []) (m74 a0 a1 a2) PB:=by
  obtain ⟨d,rfl,g⟩:=up hd
  refine q_in (t74 NN d _ _ _) ?_
  unfold b74 m74
  refine q_cu (A:=fun (s:Bool)=>[.bool s]) (B:=fun s=>[]) ?_ ?_ ?_ ?_
  ·refine q_c0 (aF3 cv_r (cv_p rfl) (cv_p rfl) fun l0_ l1_ l2_=>w106 (by omega) l0_ a1 a2 4) fun y1 hy1=>q_p fr<|q_j ?_ ?_
   ·first | refine q_ifT1 ?_ | skip
    exact q_lret 0 rr
   ·exact q_ix rfl fun x1 hx1=>q_p fr<|q_p fr<|q_p fr<|q_i (q_lret 0 rr)<|q_norm 0 rr
  ·intro s2
   refine q_lp (A:=fun (s:Bool×Int)=>[.bool s.1,.int .i64 s.2]) (B:=fun s=>[]) 0 rr ?_ ?_ ?_
   ·intro s3
    unfold s74_0 ms74_0
    exact q_ix rfl fun x2 hx2=>q_p fr<|q_p fr<|q_len<|q_p fr<|q_i (q_ix rfl fun x3 hx3=>q_p fr<|q_p fr<|q_ix rfl fun x4 hx4=>q_p fr<|q_c0 (fun S hS=>argF4 (cv_p rfl) cv_r (cv_p rfl) (cv_a (cvs_e (l0:=k1) (x:=x4))) hS fun l0_ l1_ l2_ l3_=>w107 (by omega) a0 l1_ a1 2 l3_ x4) fun y2 hy2=>q_p fr<|q_i (q_lret 0 rr)<|q_p fr<|q_norm 0 rr)<|q_exit 0 rr
   ·exact fun i2 s4=>q_n (q_ret (cv_p rfl) rfl)<|q_none
   ·exact fun s4=>q_ret (cv_p rfl) rfl
  ·exact fun i1 s2=>q_none
  ·exact fun s2=>q_ret (cv_p rfl) rfl
def ms75_0 (a0:List TMsg) (a1:List Int) (a2:Int) (s1:Bool×Int):Option (LO (Bool×Int)):=bif decide (s1.2 < (a1.length:Int)) then (getI a1 s1.2).bind fun x1=>(getI a0 x1).bind fun x2=>bif x2.From == a2 then some (LO.ret (true,s1.2)) else some (LO.norm (s1.1,wi .i64 (s1.2 + 1))) else some (LO.exit 0 (s1.1,s1.2))
def m75 (a0:List TMsg) (a1:List Int) (a2:Int):Option (Bool):=(loopO (ms75_0 a0 a1 a2) NN (false,0)).bind (contO (fun _=>none) (fun i1 s2=>if i1 = 0 then some false else none) (fun s2=>some s2.1))
theorem w75 {d:Nat} (hd:1≤d) (k0:Bool) (a0:List TMsg) (k1:Bool) (a1:List Int) (a2:Int):Fit (R NN d 75 [.rsl k0 false (a0.map (Enc.cs k0)),.rsl k1 false (a1.map (Enc.cs k1)),.int .i64 a2] []) (m75 a0 a1 a2) PB:=by
  obtain ⟨d,rfl,g⟩:=up hd
  refine q_in (t75 NN d _ _ _) ?_
  unfold b75 m75
  refine q_lp (A:=fun (s:Bool×Int)=>[.bool s.1,.int .i64 s.2]) (B:=fun s=>[]) 0 rr ?_ ?_ ?_
  ·intro s1
   unfold s75_0 ms75_0
   exact q_len<|q_p fr<|q_i (q_ix rfl fun x1 hx1=>q_p fr<|q_ix rfl fun x2 hx2=>q_p fr<|q_p fr<|q_p fr<|q_i (q_lret 0 rr)<|q_p fr<|q_norm 0 rr)<|q_exit 0 rr
  ·exact fun i1 s2=>q_n (q_ret (cv_p rfl) rfl)<|q_none
  ·exact fun s2=>q_ret (cv_p rfl) rfl
def ms140_0 (a0:Int) (a1:List TMsg) (x1:TMsg) (s5:Bool×Int):Option (LO (Bool×Int)):=bif decide (s5.2 < (x1.Refs.length:Int)) then ( ( (getI x1.Refs s5.2).bind fun x2=>(m74 a0 a1 x2).bind fun y3=>bif !y3 then some (LO.norm true) else (getI x1.Refs s5.2).bind fun x3=>(getI a1 x3).bind fun x4=>bif x4.View != x1.View then some (LO.norm true) else (subI x1.Refs 0 s5.2).bind fun ys1=>(getI x1.Refs s5.2).bind fun x5=>(getI a1 x5).bind fun x6=>(m75 a1 ys1 x6.From).bind fun y4=>some (LO.norm y4)).bind (contO (fun s8=>bif s8 then some (LO.ret false) else some (LO.norm s5.1)) (fun i3 s8=>if i3 = 1 then some (LO.norm s5.1) else some (LO.exit i3 s5.1)) (fun s8=>some (LO.ret s5.1)))).bind (contO (fun s9=>some (LO.norm (s9,wi .i64 (s5.2 + 1)))) (fun i4 s9=>some (LO.exit i4 (s9,s5.2))) (fun s9=>some (LO.ret (s9,s5.2)))) else some (LO.exit 0 (s5.1,s5.2))
def m140 (a0:Int) (a1:List TMsg) (a2:Int):Option (Bool):=(m106 a1 a2 5).bind fun y1=>bif !y1 then some false else (getI a1 a2).bind fun x1=>( ( bif decide (x1.View < 1) then some (LO.norm true) else (m42 a0 x1.View).bind fun y2=>bif x1.From != y2 then some (LO.norm true) else some (LO.norm (decide ((x1.Refs.length:Int) < (m44 a0))))).bind (contO (fun s3=>bif s3 then some (LO.ret false) else some (LO.norm false)) (fun i1 s3=>some (LO.exit i1 false)) (fun s3=>some (LO.ret false)))).bind (contO (fun s4=>(loopO (ms140_0 a0 a1 x1) NN (s4,0)).bind (contO (fun _=>none) (fun i5 s10=>if i5 = 0 then some true else none) (fun s10=>some s10.1))) (fun i2 s4=>none) (fun s4=>some s4))
theorem w140 {d:Nat} (hd:6≤d) (a0:Int) (k1:Bool) (a1:List TMsg) (a2:Int):Fit (R NN d 140 [.int .i64 a0,.rsl k1 false (a1.map (Enc.cs k1)),.int .i64 a2] []) (m140 a0 a1 a2) PB:=by
  obtain ⟨d,rfl,g⟩:=up hd
  refine q_in (t140 NN d _ _ _) ?_
  unfold b140 m140
  refine q_c0 (aF3 cv_r (cv_p rfl) (cv_p rfl) fun l0_ l1_ l2_=>w106 (by omega) l0_ a1 a2 5) fun y1 hy1=>q_p fr<|q_i ?_ ?_
  ·exact q_ret (cv_p rfl) rfl
  ·refine q_ix rfl fun x1 hx1=>q_cu (A:=fun (s:Bool)=>[.bool s]) (B:=fun s=>[]) ?_ ?_ ?_ ?_
   ·refine q_cu (A:=fun (s:Bool)=>[.bool s]) (B:=fun s=>[]) ?_ ?_ ?_ ?_
    ·exact q_q fr<|q_p fr<|q_p fr<|q_p fr<|q_j (q_norm 0 rr)<|q_q fr<|q_p fr<|q_p fr<|q_q fr<|q_p fr<|q_p fr<|q_c0 (aF2 (cv_p rfl) (cv_p rfl) fun l0_ l1_=>w42 (by omega) a0 x1.View) fun y2 hy2=>q_p fr<|q_j (q_norm 0 rr)<|q_q fr<|q_p fr<|q_p fr<|q_len<|q_c0t (aF1 (cv_p rfl) fun l0_=>w44 (by omega) a0)<|q_p fr<|q_norm 0 rr
    ·exact fun s3=>q_i (q_lret 0 rr)<|q_norm 0 rr
    ·exact fun i1 s3=>q_exit 0 rr
    ·exact fun s3=>q_lret 0 rr
   ·intro s4
    refine q_lp (A:=fun (s:Bool×Int)=>[.bool s.1,.int .i64 s.2]) (B:=fun s=>[]) 0 rr ?_ ?_ ?_
    ·intro s5
     unfold s140_0 ms140_0
     refine q_q fr<|q_p fr<|q_p fr<|q_len<|q_p fr<|q_i ?_ ?_
     ·refine q_cu (A:=fun (s:Bool)=>[.bool s]) (B:=fun s=>[]) ?_ ?_ ?_ ?_
      ·refine q_cu (A:=fun (s:Bool)=>[.bool s]) (B:=fun s=>[]) ?_ ?_ ?_ ?_
       ·exact q_q fr<|q_p fr<|q_p fr<|q_ix rfl fun x2 hx2=>q_p fr<|q_c0 (aF3 (cv_p rfl) cv_r (cv_p rfl) fun l0_ l1_ l2_=>w74 (by omega) a0 l1_ a1 x2) fun y3 hy3=>q_p fr<|q_j (q_norm 0 rr)<|q_q fr<|q_p fr<|q_p fr<|q_ix rfl fun x3 hx3=>q_p fr<|q_ix rfl fun x4 hx4=>q_p fr<|q_p fr<|q_q fr<|q_p fr<|q_p fr<|q_p fr<|q_j (q_norm 0 rr)<|q_q fr<|q_p fr<|q_p fr<|q_sub rfl (.inr ⟨rfl,rfl⟩) (.inl rfl) fun fl1 ys1 hys1=>q_q fr<|q_p fr<|q_p fr<|q_ix rfl fun x5 hx5=>q_p fr<|q_ix rfl fun x6 hx6=>q_p fr<|q_p fr<|q_c0 (aF3 cv_r cv_r (cv_p rfl) fun l0_ l1_ l2_=>w75 (by omega) l0_ a1 l1_ ys1 x6.From) fun y4 hy4=>q_norm 0 rr
       ·exact fun s8=>q_i (q_lret 0 rr)<|q_norm 0 rr
       ·exact fun i3 s8=>q_n (q_norm 0 rr)<|q_exit 0 rr
       ·exact fun s8=>q_lret 0 rr
      ·exact fun s9=>q_p fr<|q_norm 0 rr
      ·exact fun i4 s9=>q_exit 0 rr
      ·exact fun s9=>q_lret 0 rr
     ·exact q_exit 0 rr
    ·exact fun i5 s10=>q_n (q_ret (cv_p rfl) rfl)<|q_none
    ·exact fun s10=>q_ret (cv_p rfl) rfl
   ·exact fun i2 s4=>q_none
   ·exact fun s4=>q_ret (cv_p rfl) rfl
def m104 (a0:Int) (a1:List TMsg) (a2:Int) (a3:Int):Option (Bool):=bif a2 == 0 then some (a3 == (-1)) else (m140 a0 a1 a3).bind fun y1=>bif y1 then (getI a1 a3).bind fun x1=>some (x1.View == a2) else some false
theorem w104 {d:Nat} (hd:7≤d) (a0:Int) (k1:Bool) (a1:List TMsg) (a2:Int) (a3:Int):Fit (R NN d 104 [.int .i64 a0,.rsl k1 false (a1.map (Enc.cs k1)),.int .i64 a2,.int .i64 a3] []) (m104 a0 a1 a2 a3) PB:=by
  obtain ⟨d,rfl,g⟩:=up hd
  refine q_in (t104 NN d _ _ _ _) ?_
  unfold b104 m104
  exact q_p fr<|q_i (q_p fr<|q_ret (cv_p rfl) rfl)<|q_c0 (aF3 (cv_p rfl) cv_r (cv_p rfl) fun l0_ l1_ l2_=>w140 (by omega) a0 l1_ a1 a3) fun y1 hy1=>q_k (q_ix rfl fun x1 hx1=>q_p fr<|q_p fr<|q_p fr<|q_ret (cv_p rfl) rfl)<|q_ret (cv_p rfl) rfl
def ms141_0 (a0:Int) (a1:List TMsg) (a2:Int) (s1:Int×(List Int)) (s3:Bool×Int):Option (LO (Bool×Int)):=( ( bif decide (s3.2 < (a1.length:Int)) then some (LO.norm (!s3.1)) else some (LO.norm false)).bind (contO (fun s6=>bif s6 then some (LO.norm s6) else some (LO.exit 2 s6)) (fun i1 s6=>some (LO.exit i1 s6)) (fun s6=>some (LO.ret s6)))).bind (contO (fun s7=>( (getI a1 s3.2).bind fun x1=>( bif x1.Kind == 3 then bif x1.Slot == a2 then some (LO.norm (x1.Value == s1.1)) else some (LO.norm false) else some (LO.norm false)).bind (contO (fun s10=>bif s10 then (m107 a0 a1 3 (⟨a2,x1.View,s1.1⟩:TCert)).bind fun y1=>some (LO.norm y1) else some (LO.norm s3.1)) (fun i3 s10=>if i3 = 3 then some (LO.norm s3.1) else some (LO.exit i3 s3.1)) (fun s10=>some (LO.ret s3.1)))).bind (contO (fun s11=>some (LO.norm (s11,wi .i64 (s3.2 + 1)))) (fun i4 s11=>some (LO.exit i4 (s11,s3.2))) (fun s11=>some (LO.ret (s11,s3.2))))) (fun i2 s7=>some (LO.exit i2 (s3.1,s3.2))) (fun s7=>some (LO.ret (s3.1,s3.2))))
def ms141_1 (a0:Int) (a1:List TMsg) (a2:Int) (s1:Int×(List Int)):Option (LO (Int×(List Int))):=bif decide (s1.1≤12) then ( (loopO (ms141_0 a0 a1 a2 s1) NN (false,0)).bind (contO (fun _=>none) (fun i5 s12=>if i5 = 2 then bif s12.1 then (appO 8 s1.2 [s1.1]).bind fun z1=>some (LO.norm z1) else some (LO.norm s1.2) else if i5 = 1 then some (LO.norm s1.2) else some (LO.exit i5 s1.2)) (fun s12=>some (LO.ret s1.2)))).bind (contO (fun s13=>some (LO.norm (wi .i64 (s1.1 + 1),s13))) (fun i6 s13=>some (LO.exit i6 (s1.1,s13))) (fun s13=>some (LO.ret (s1.1,s13)))) else some (LO.exit 0 (s1.1,s1.2))
def m141 (a0:Int) (a1:List TMsg) (a2:Int):Option ((List Int)):=(loopO (ms141_1 a0 a1 a2) NN (0,[])).bind (contO (fun _=>none) (fun i7 s14=>if i7 = 0 then some s14.2 else none) (fun s14=>some []))
theorem w141 {d:Nat} (hd:5≤d) (a0:Int) (k1:Bool) (a1:List TMsg) (a2:Int):Fit (R NN d 141 [.int .i64 a0,.rsl k1 false (a1.map (Enc.cs k1)),.int .i64 a2] []) (m141 a0 a1 a2) (P0 (fun (t:List Int)=>AV.rsl false false (t.map (Enc.cs false)))):=by
  obtain ⟨d,rfl,g⟩:=up hd
  refine q_in (t141 NN d _ _ _) ?_
  unfold b141 m141
  refine q_q (fun _=>qs22_0)<|q_nil (α:=Int) false<|q_loop (I:=(fun (s:Int×(List Int)) l L=>∃ (v1:AV),l = [v1,.int .i64 s.1]∧L = [sl false v1 (s.2:List Int)])) 0 ⟨(.rsl false true []),rfl,rfl⟩ ?_ ?_ ?_
  ·rintro s1 _ _ ⟨v1,rfl,rfl⟩
   unfold s141_1 ms141_1
   refine q_p fr<|q_i ?_ ?_
   ·refine q_cut (I:=(fun (s:(List Int)) l L=>∃ (v2:AV),l = [v2]∧L = [sl false v2 (s:List Int)])) ?_ ?_ ?_ ?_
    ·refine q_lp (A:=fun (s:Bool×Int)=>[.bool s.1,.int .i64 s.2]) (B:=fun s=>[sl false v1 (s1.2:List Int)]) 0 rr ?_ ?_ ?_
     ·intro s3
      unfold s141_0 ms141_0
      refine q_cu (A:=fun (s:Bool)=>[.bool s]) (B:=fun s=>[sl false v1 (s1.2:List Int)]) ?_ ?_ ?_ ?_
      ·refine q_cu (A:=fun (s:Bool)=>[.bool s]) (B:=fun s=>[sl false v1 (s1.2:List Int)]) ?_ ?_ ?_ ?_
       ·exact q_len<|q_p fr<|q_k (q_p fr<|q_norm 0 rr)<|q_norm 0 rr
       ·exact fun s6=>q_i (q_norm 0 rr)<|q_exit 0 rr
       ·exact fun i1 s6=>q_exit 0 rr
       ·exact fun s6=>q_lret 0 rr
      ·intro s7
       refine q_cu (A:=fun (s:Bool)=>[.bool s]) (B:=fun s=>[sl false v1 (s1.2:List Int)]) ?_ ?_ ?_ ?_
       ·refine q_ix rfl fun x1 hx1=>q_cu (A:=fun (s:Bool)=>[.bool s]) (B:=fun s=>[sl false v1 (s1.2:List Int)]) ?_ ?_ ?_ ?_
        ·exact q_q fr<|q_p fr<|q_p fr<|q_p fr<|q_k (q_q fr<|q_p fr<|q_p fr<|q_p fr<|q_k (q_q fr<|q_p fr<|q_p fr<|q_p fr<|q_norm 0 rr)<|q_norm 0 rr)<|q_norm 0 rr
        ·exact fun s10=>q_i (q_q fr<|q_p fr<|q_p fr<|q_p (fun _=>bd124_0_1_2 rfl)<|q_c0 (fun S hS=>argF4 (cv_p rfl) cv_r (cv_p rfl) (cv_a (cvs_cons (cv_p rfl) (cvs_cons (cv_p rfl) (cvs_cons (cv_p rfl) cvs_nil)))) hS fun l0_ l1_ l2_ l3_=>w107 (by omega) a0 l1_ a1 3 l3_ (⟨a2,x1.View,s1.1⟩:TCert)) fun y1 hy1=>q_norm 0 rr)<|q_norm 0 rr
        ·exact fun i3 s10=>q_n (q_norm 0 rr)<|q_exit 0 rr
        ·exact fun s10=>q_lret 0 rr
       ·exact fun s11=>q_p fr<|q_norm 0 rr
       ·exact fun i4 s11=>q_exit 0 rr
       ·exact fun s11=>q_lret 0 rr
      ·exact fun i2 s7=>q_exit 0 rr
      ·exact fun s7=>q_lret 0 rr
     ·exact fun i5 s12=>q_n (q_i (q_q (fun _=>qi22_1)<|q_app (ys:=[s1.1]) 0 rfl rfl (fun _ _=>rfl) fun v2 z1 hz1=>q_norm 0 ⟨v2,rfl,rfl⟩)<|q_norm 0 ⟨v1,rfl,rfl⟩)<|q_n (q_norm 0 ⟨v1,rfl,rfl⟩)<|q_exit 0 ⟨v1,rfl,rfl⟩
     ·exact fun s12=>q_lret 0 ⟨v1,rfl,rfl⟩
    ·rintro s13 _ _ ⟨v3,rfl,rfl⟩
     exact q_p fr<|q_norm 0 ⟨v3,rfl,rfl⟩
    ·rintro i6 s13 _ _ ⟨v4,rfl,rfl⟩
     exact q_exit 0 ⟨v4,rfl,rfl⟩
    ·rintro s13 _ _ ⟨v5,rfl,rfl⟩
     exact q_lret 0 ⟨v5,rfl,rfl⟩
   ·exact q_exit 0 ⟨v1,rfl,rfl⟩
  ·rintro i7 s14 _ _ ⟨v6,rfl,rfl⟩
   exact q_n (q_ret (cv_o 0 rfl) rfl)<|q_none
  ·rintro s14 _ _ ⟨v7,rfl,rfl⟩
   exact q_ret (cv_r (α:=Int) (l0:=false) (fl:=true) (xs:=[])) rfl
def ms105_0 (a0:Int) (a1:List TMsg) (s1:Bool×Int×(List Int)):Option (LO (Bool×Int×(List Int))):=bif s1.1 then none else bif decide (s1.2.1≤30) then (m141 a0 a1 s1.2.1).bind fun y1=>bif (y1.length:Int) == 0 then some (LO.ret (true,s1.2.1,s1.2.2)) else (getI y1 0).bind fun x1=>(appO 8 s1.2.2 [x1]).bind fun z1=>some (LO.norm (false,wi .i64 (s1.2.1 + 1),z1)) else some (LO.exit 0 (false,s1.2.1,s1.2.2))
def m105 (a0:Int) (a1:List TMsg):Option ((List Int)):=(loopO (ms105_0 a0 a1) NN (false,1,[])).bind (contO (fun _=>none) (fun i1 s2=>if i1 = 0 then some s2.2.2 else none) (fun s2=>some (bif s2.1 then s2.2.2 else [])))
theorem w105 {d:Nat} (hd:6≤d) (a0:Int) (k1:Bool) (a1:List TMsg):Fit (R NN d 105 [.int .i64 a0,.rsl k1 false (a1.map (Enc.cs k1))] []) (m105 a0 a1) (P0 (fun (t:List Int)=>AV.rsl false false (t.map (Enc.cs false)))):=by
  obtain ⟨d,rfl,g⟩:=up hd
  refine q_in (t105 NN d _ _) ?_
  unfold b105 m105
  refine q_q (fun _=>qs22_0)<|q_nil (α:=Int) false<|q_loop (I:=(fun (s:Bool×Int×(List Int)) l L=>∃ (v1:AV),l = [(bif s.1 then v1 else AV.rsl false true []),v1,.int .i64 s.2.1]∧L = [sl false v1 (s.2.2:List Int)])) 0 ⟨(.rsl false true []),rfl,rfl⟩ ?_ ?_ ?_
  ·rintro s1 _ _ ⟨v1,rfl,rfl⟩
   unfold s105_0 ms105_0
   refine q_flag (b:=s1.1) fun hfg_=>?_
   try rw [hfg_]
   exact q_p fr<|q_i (q_c0 (aF3 (cv_p rfl) cv_r (cv_p rfl) fun l0_ l1_ l2_=>w141 (by omega) a0 l1_ a1 s1.2.1) fun y1 hy1=>q_len<|q_p fr<|q_i (q_lret 0 ⟨v1,rfl,rfl⟩)<|q_ix rfl fun x1 hx1=>q_p fr<|q_q (fun _=>qi22_1)<|q_app (ys:=[x1]) 0 rfl rfl (fun _ _=>rfl) fun v2 z1 hz1=>q_p fr<|q_norm 0 ⟨v2,rfl,rfl⟩)<|q_exit 0 ⟨v1,rfl,rfl⟩
  ·rintro i1 s2 _ _ ⟨v3,rfl,rfl⟩
   exact q_n (q_ret (cv_o 0 rfl) rfl)<|q_none
  ·rintro s2 _ _ ⟨v4,rfl,rfl⟩
   exact q_ret (cv_alt 0 rfl) rfl
def m73 (a0:Int) (a1:List TMsg) (a2:TReplica):Option (Int):=( ( bif !(m98 a0 a2.Id) then some (LO.norm true) else bif !(m101 a2.View 0 20) then some (LO.norm true) else some (LO.norm (!(m101 a2.Done 0 30)))).bind (contO (fun s3=>bif s3 then some (LO.ret 3) else some (LO.norm 0)) (fun i1 s3=>some (LO.exit i1 0)) (fun s3=>some (LO.ret 0)))).bind (contO (fun s4=>( ( bif a2.Start != (-1) then bif a2.View == 0 then some (LO.norm true) else (m104 a0 a1 a2.View a2.Start).bind fun y1=>some (LO.norm (!y1)) else some (LO.norm false)).bind (contO (fun s7=>bif s7 then some (LO.ret 1) else some (LO.norm s4)) (fun i3 s7=>some (LO.exit i3 s4)) (fun s7=>some (LO.ret s4)))).bind (contO (fun s8=>( bif decide (a2.Done > 0) then (m105 a0 a1).bind fun y2=>bif decide (a2.Done > (y2.length:Int)) then some (LO.ret 8) else some (LO.norm s8) else some (LO.norm s8)).bind (contO (fun s10=>some 0) (fun i5 s10=>none) (fun s10=>some s10))) (fun i4 s8=>none) (fun s8=>some s8))) (fun i2 s4=>none) (fun s4=>some s4))
theorem w73 {d:Nat} (hd:8≤d) (a0:Int) (k1:Bool) (a1:List TMsg) (k2:Bool) (a2:TReplica):Fit (R NN d 73 [.int .i64 a0,.rsl k1 false (a1.map (Enc.cs k1)),.rp k2 (Enc.cs k2 a2)] []) (m73 a0 a1 a2) PI:=by
  obtain ⟨d,rfl,g⟩:=up hd
  refine q_in (t73 NN d _ _ _) ?_
  unfold b73 m73
  refine q_cu (A:=fun (s:Int)=>[.int .i64 s]) (B:=fun s=>[]) ?_ ?_ ?_ ?_
  ·refine q_cu (A:=fun (s:Bool)=>[.bool s]) (B:=fun s=>[]) ?_ ?_ ?_ ?_
   ·exact q_q fr<|q_p fr<|q_p fr<|q_c0t (aF2 (cv_p rfl) (cv_p rfl) fun l0_ l1_=>w98 (by omega) a0 a2.Id)<|q_p fr<|q_j (q_norm 0 rr)<|q_q fr<|q_p fr<|q_p fr<|q_c0t (aF3 (cv_p rfl) (cv_p rfl) (cv_p rfl) fun l0_ l1_ l2_=>w101 (by omega) a2.View 0 20)<|q_p fr<|q_j (q_norm 0 rr)<|q_q fr<|q_p fr<|q_p fr<|q_c0t (aF3 (cv_p rfl) (cv_p rfl) (cv_p rfl) fun l0_ l1_ l2_=>w101 (by omega) a2.Done 0 30)<|q_p fr<|q_norm 0 rr
   ·exact fun s3=>q_i (q_lret 0 rr)<|q_norm 0 rr
   ·exact fun i1 s3=>q_exit 0 rr
   ·exact fun s3=>q_lret 0 rr
  ·intro s4
   refine q_cu (A:=fun (s:Int)=>[.int .i64 s]) (B:=fun s=>[]) ?_ ?_ ?_ ?_
   ·refine q_cu (A:=fun (s:Bool)=>[.bool s]) (B:=fun s=>[]) ?_ ?_ ?_ ?_
    ·exact q_q fr<|q_p fr<|q_p fr<|q_p fr<|q_k (q_q fr<|q_p fr<|q_p fr<|q_p fr<|q_j (q_norm 0 rr)<|q_q fr<|q_p fr<|q_p fr<|q_q fr<|q_p fr<|q_p fr<|q_c0 (fun S hS=>argF4 (cv_p rfl) cv_r (cv_p rfl) (cv_p rfl) hS fun l0_ l1_ l2_ l3_=>w104 (by omega) a0 l1_ a1 a2.View a2.Start) fun y1 hy1=>q_p fr<|q_norm 0 rr)<|q_norm 0 rr
    ·exact fun s7=>q_i (q_lret 0 rr)<|q_norm 0 rr
    ·exact fun i3 s7=>q_exit 0 rr
    ·exact fun s7=>q_lret 0 rr
   ·intro s8
    refine q_cu (A:=fun (s:Int)=>[.int .i64 s]) (B:=fun s=>[]) ?_ ?_ ?_ ?_
    ·refine q_q fr<|q_p fr<|q_p fr<|q_p fr<|q_k ?_ ?_
     ·exact q_q fr<|q_p fr<|q_p fr<|q_c0 (aF2 (cv_p rfl) cv_r fun l0_ l1_=>w105 (by omega) a0 l1_ a1) fun y2 hy2=>q_len<|q_p fr<|q_i (q_lret 0 rr)<|q_norm 0 rr
     ·first | refine q_ifF1 ?_ | skip
      exact q_norm 0 rr
    ·exact fun s10=>q_ret (cv_p rfl) rfl
    ·exact fun i5 s10=>q_none
    ·exact fun s10=>q_ret (cv_p rfl) rfl
   ·exact fun i4 s8=>q_none
   ·exact fun s8=>q_ret (cv_p rfl) rfl
  ·exact fun i2 s4=>q_none
  ·exact fun s4=>q_ret (cv_p rfl) rfl
def ms99_0 (a0:List Int) (a1:Int) (s1:Bool×Int):Option (LO (Bool×Int)):=bif decide (s1.2 < (a0.length:Int)) then (getI a0 s1.2).bind fun x1=>bif x1 == a1 then some (LO.ret (true,s1.2)) else some (LO.norm (s1.1,wi .i64 (s1.2 + 1))) else some (LO.exit 0 (s1.1,s1.2))
def m99 (a0:List Int) (a1:Int):Option (Bool):=(loopO (ms99_0 a0 a1) NN (false,0)).bind (contO (fun _=>none) (fun i1 s2=>if i1 = 0 then some false else none) (fun s2=>some s2.1))
theorem w99 {d:Nat} (hd:1≤d) (k0:Bool) (a0:List Int) (a1:Int):Fit (R NN d 99 [.rsl k0 false (a0.map (Enc.cs k0)),.int .i64 a1] []) (m99 a0 a1) PB:=by
  obtain ⟨d,rfl,g⟩:=up hd
  refine q_in (t99 NN d _ _) ?_
  unfold b99 m99
  refine q_lp (A:=fun (s:Bool×Int)=>[.bool s.1,.int .i64 s.2]) (B:=fun s=>[]) 0 rr ?_ ?_ ?_
  ·intro s1
   unfold s99_0 ms99_0
   exact q_len<|q_p fr<|q_i (q_ix rfl fun x1 hx1=>q_p fr<|q_p fr<|q_i (q_lret 0 rr)<|q_p fr<|q_norm 0 rr)<|q_exit 0 rr
  ·exact fun i1 s2=>q_n (q_ret (cv_p rfl) rfl)<|q_none
  ·exact fun s2=>q_ret (cv_p rfl) rfl
def ms70_0 (a0:TCluster) (s1:Int×Int×Int):Option (LO (Int×Int×Int)):=bif decide (s1.2.2≤(wi .i64 ((wi .i64 (3 * a0.F)) + 1))) then ( (m99 a0.Bad s1.2.2).bind fun y1=>bif y1 then some (LO.norm (s1.1,s1.2.1)) else ( bif decide (s1.2.1 ≥ (a0.Replicas.length:Int)) then some (LO.ret 1) else (getI a0.Replicas s1.2.1).bind fun x1=>bif x1.Id != s1.2.2 then some (LO.ret 1) else some (LO.norm s1.1)).bind (contO (fun s4=>some (LO.norm (s4,wi .i64 (s1.2.1 + 1)))) (fun i1 s4=>if i1 = 1 then some (LO.norm (s4,s1.2.1)) else some (LO.exit i1 (s4,s1.2.1))) (fun s4=>some (LO.ret (s4,s1.2.1))))).bind (contO (fun s5=>some (LO.norm (s5.1,s5.2,wi .i64 (s1.2.2 + 1)))) (fun i2 s5=>some (LO.exit i2 (s5.1,s5.2,s1.2.2))) (fun s5=>some (LO.ret (s5.1,s5.2,s1.2.2)))) else some (LO.exit 0 (s1.1,s1.2.1,s1.2.2))
def ms70_1 (a0:TCluster) (s7:Int×Int):Option (LO (Int×Int)):=bif decide (s7.2 < (a0.Replicas.length:Int)) then (getI a0.Replicas s7.2).bind fun x2=>(m73 a0.F a0.Ledger x2).bind fun y2=>bif y2 != 0 then some (LO.ret (y2,s7.2)) else some (LO.norm (s7.1,wi .i64 (s7.2 + 1))) else some (LO.exit 2 (s7.1,s7.2))
def m70 (a0:TCluster):Option (Int):=(loopO (ms70_0 a0) NN (0,0,1)).bind (contO (fun _=>none) (fun i3 s6=>if i3 = 0 then bif s6.2.1 != (a0.Replicas.length:Int) then some 1 else (loopO (ms70_1 a0) NN (s6.1,0)).bind (contO (fun _=>none) (fun i4 s8=>if i4 = 2 then some 0 else none) (fun s8=>some s8.1)) else none) (fun s6=>some s6.1))
theorem w70 {d:Nat} (hd:9≤d) (k0:Bool) (a0:TCluster):Fit (R NN d 70 [.rp k0 (Enc.cs k0 a0)] []) (m70 a0) PI:=by
  obtain ⟨d,rfl,g⟩:=up hd
  refine q_in (t70 NN d _) ?_
  unfold b70 m70
  refine q_lp (A:=fun (s:Int×Int×Int)=>[.int .i64 s.1,.int .i64 s.2.1,.int .i64 s.2.2]) (B:=fun s=>[]) 0 rr ?_ ?_ ?_
  ·intro s1
   unfold s70_0 ms70_0
   refine q_q fr<|q_p fr<|q_p fr<|q_p fr<|q_p fr<|q_p fr<|q_i ?_ ?_
   ·refine q_cu (A:=fun (s:Int×Int)=>[.int .i64 s.1,.int .i64 s.2]) (B:=fun s=>[]) ?_ ?_ ?_ ?_
    ·refine q_q fr<|q_p fr<|q_p fr<|q_c0 (aF2 cv_r (cv_p rfl) fun l0_ l1_=>w99 (by omega) l0_ a0.Bad s1.2.2) fun y1 hy1=>q_i ?_ ?_
     ·exact q_norm 0 rr
     ·refine q_cu (A:=fun (s:Int)=>[.int .i64 s]) (B:=fun s=>[]) ?_ ?_ ?_ ?_
      ·refine q_q fr<|q_p fr<|q_p fr<|q_len<|q_p fr<|q_j ?_ ?_
       ·first | refine q_ifT1 ?_ | skip
        exact q_lret 0 rr
       ·exact q_q fr<|q_p fr<|q_p fr<|q_ix rfl fun x1 hx1=>q_p fr<|q_p fr<|q_p fr<|q_i (q_lret 0 rr)<|q_norm 0 rr
      ·exact fun s4=>q_p fr<|q_norm 0 rr
      ·exact fun i1 s4=>q_n (q_norm 0 rr)<|q_exit 0 rr
      ·exact fun s4=>q_lret 0 rr
    ·exact fun s5=>q_p fr<|q_norm 0 rr
    ·exact fun i2 s5=>q_exit 0 rr
    ·exact fun s5=>q_lret 0 rr
   ·exact q_exit 0 rr
  ·intro i3 s6
   refine q_n ?_ ?_
   ·refine q_q fr<|q_p fr<|q_p fr<|q_len<|q_p fr<|q_i ?_ ?_
    ·exact q_ret (cv_p rfl) rfl
    ·refine q_lp (A:=fun (s:Int×Int)=>[.int .i64 s.1,.int .i64 s.2]) (B:=fun s=>[]) 0 rr ?_ ?_ ?_
     ·intro s7
      unfold s70_1 ms70_1
      exact q_q fr<|q_p fr<|q_p fr<|q_len<|q_p fr<|q_i (q_q fr<|q_p fr<|q_p fr<|q_q fr<|q_p fr<|q_p fr<|q_q fr<|q_p fr<|q_p fr<|q_ix rfl fun x2 hx2=>q_c0 (aF3 (cv_p rfl) cv_r (cv_rp (cvs_e (l0:=k0) (x:=x2)) (fun _ _ _ h=>Enc.frz k0 x2 _ _ _ h)) fun l0_ l1_ l2_=>w73 (by omega) a0.F l1_ a0.Ledger l2_ x2) fun y2 hy2=>q_p fr<|q_i (q_lret 0 rr)<|q_p fr<|q_norm 0 rr)<|q_exit 0 rr
     ·exact fun i4 s8=>q_n (q_ret (cv_p rfl) rfl)<|q_none
     ·exact fun s8=>q_ret (cv_p rfl) rfl
   ·exact q_none
  ·exact fun s6=>q_ret (cv_p rfl) rfl
def m100 (a0:Int):Bool:=(m101 a0 1 9)
theorem w100 {d:Nat} (hd:2≤d) (a0:Int):Fit (R NN d 100 [.int .i64 a0] []) (some (m100 a0)) PB:=by
  obtain ⟨d,rfl,g⟩:=up hd
  refine q_in (t100 NN d _) ?_
  unfold b100 m100
  exact q_c0t (aF3 (cv_p rfl) (cv_p rfl) (cv_p rfl) fun l0_ l1_ l2_=>w101 (by omega) a0 1 9)<|q_ret (cv_p rfl) rfl
def m102 (a0:Int):Bool:=(m101 a0 0 9000)
theorem w102 {d:Nat} (hd:2≤d) (a0:Int):Fit (R NN d 102 [.int .i64 a0] []) (some (m102 a0)) PB:=by
  obtain ⟨d,rfl,g⟩:=up hd
  refine q_in (t102 NN d _) ?_
  unfold b102 m102
  exact q_c0t (aF3 (cv_p rfl) (cv_p rfl) (cv_p rfl) fun l0_ l1_ l2_=>w101 (by omega) a0 0 9000)<|q_ret (cv_p rfl) rfl
def m135 (a0:Int):Bool:=(m101 a0 3 8)
theorem w135 {d:Nat} (hd:2≤d) (a0:Int):Fit (R NN d 135 [.int .i64 a0] []) (some (m135 a0)) PB:=by
  obtain ⟨d,rfl,g⟩:=up hd
  refine q_in (t135 NN d _) ?_
  unfold b135 m135
  exact q_c0t (aF3 (cv_p rfl) (cv_p rfl) (cv_p rfl) fun l0_ l1_ l2_=>w101 (by omega) a0 3 8)<|q_ret (cv_p rfl) rfl
def m136 (a0:Int):Bool:=bif a0 == 3 then true else a0 == 5
theorem w136 {d:Nat} (hd:1≤d) (a0:Int):Fit (R NN d 136 [.int .i64 a0] []) (some (m136 a0)) PB:=by
  obtain ⟨d,rfl,g⟩:=up hd
  refine q_in (t136 NN d _) ?_
  unfold b136 m136
  exact q_p fr<|q_gFt (fun h1=>q_ret (cv_p rfl) rfl) fun h1=>q_p fr<|q_ret (cv_p rfl) rfl
def m137 (a0:Int):Option (Bool):=( bif a0 == 4 then some (LO.norm true) else bif a0 == 5 then some (LO.norm true) else some (LO.norm (a0 == 8))).bind (contO (fun s2=>some s2) (fun i1 s2=>none) (fun s2=>some s2))
theorem w137 {d:Nat} (hd:1≤d) (a0:Int):Fit (R NN d 137 [.int .i64 a0] []) (m137 a0) PB:=by
  obtain ⟨d,rfl,g⟩:=up hd
  refine q_in (t137 NN d _) ?_
  unfold b137 m137
  refine q_cu (A:=fun (s:Bool)=>[.bool s]) (B:=fun s=>[]) ?_ ?_ ?_ ?_
  ·exact q_p fr<|q_j (q_norm 0 rr)<|q_p fr<|q_j (q_norm 0 rr)<|q_p fr<|q_norm 0 rr
  ·exact fun s2=>q_ret (cv_p rfl) rfl
  ·exact fun i1 s2=>q_none
  ·exact fun s2=>q_ret (cv_p rfl) rfl
def ms168_0 (a0:Str) (a1:Int) (s1:Int×Int×(List Str)):Option (LO (Int×Int×(List Str))):=bif decide (s1.2.1≤(a0.length:Int)) then ( bif s1.2.1 == (a0.length:Int) then (subI a0 s1.1 s1.2.1).bind fun t2=>(appO 16 s1.2.2 [t2]).bind fun z2=>some (LO.norm (wi .i64 (s1.2.1 + 1),z2)) else (getI a0 s1.2.1).bind fun c1=>bif (c1.toNat:Int) == a1 then (subI a0 s1.1 s1.2.1).bind fun t1=>(appO 16 s1.2.2 [t1]).bind fun z1=>some (LO.norm (wi .i64 (s1.2.1 + 1),z1)) else some (LO.norm (s1.1,s1.2.2))).bind (contO (fun s3=>some (LO.norm (s3.1,wi .i64 (s1.2.1 + 1),s3.2))) (fun i1 s3=>some (LO.exit i1 (s3.1,s1.2.1,s3.2))) (fun s3=>some (LO.ret (s3.1,s1.2.1,s3.2)))) else some (LO.exit 0 (s1.1,s1.2.1,s1.2.2))
def m168 (a0:Str) (a1:Int):Option ((List Str)):=(loopO (ms168_0 a0 a1) NN (0,0,[])).bind (contO (fun _=>none) (fun i2 s4=>if i2 = 0 then some s4.2.2 else none) (fun s4=>some []))
theorem w168 {d:Nat} (hd:1≤d) (a0:Str) (a1:Int):Fit (R NN d 168 [encS a0,.int .u8 a1] []) (m168 a0 a1) (P0 (fun (t:List Str)=>AV.rsl false false (t.map (Enc.cs false)))):=by
  obtain ⟨d,rfl,g⟩:=up hd
  refine q_in (t168 NN d _ _) ?_
  unfold b168 m168
  refine q_q (fun _=>qs184_0)<|q_nil (α:=Str) false<|q_loop (I:=(fun (s:Int×Int×(List Str)) l L=>∃ (v1:AV),l = [v1,.int .i64 s.1,.int .i64 s.2.1]∧L = [sl false v1 (s.2.2:List Str)])) 0 ⟨(.rsl false true []),rfl,rfl⟩ ?_ ?_ ?_
  ·rintro s1 _ _ ⟨v1,rfl,rfl⟩
   unfold s168_0 ms168_0
   refine q_slen<|q_p fr<|q_i ?_ ?_
   ·refine q_cut (I:=(fun (s:Int×(List Str)) l L=>∃ (v2:AV),l = [v2,.int .i64 s.1]∧L = [sl false v2 (s.2:List Str)])) ?_ ?_ ?_ ?_
    ·refine q_slen<|q_p fr<|q_j ?_ ?_
     ·first | refine q_ifT1 ?_ | skip
      exact q_ssub (.inl rfl) (.inl rfl) fun t2 ht2=>q_q (fun _=>qs184_1)<|q_app (ys:=[t2]) 0 rfl rfl (fun _ _=>rfl) fun v3 z2 hz2=>q_p fr<|q_norm 0 ⟨v3,rfl,rfl⟩
     ·exact q_sx fun c1 hc1=>q_p fr<|q_i (q_ssub (.inl rfl) (.inl rfl) fun t1 ht1=>q_q (fun _=>qs184_1)<|q_app (ys:=[t1]) 0 rfl rfl (fun _ _=>rfl) fun v2 z1 hz1=>q_p fr<|q_norm 0 ⟨v2,rfl,rfl⟩)<|q_norm 0 ⟨v1,rfl,rfl⟩
    ·rintro s3 _ _ ⟨v4,rfl,rfl⟩
     exact q_p fr<|q_norm 0 ⟨v4,rfl,rfl⟩
    ·rintro i1 s3 _ _ ⟨v5,rfl,rfl⟩
     exact q_exit 0 ⟨v5,rfl,rfl⟩
    ·rintro s3 _ _ ⟨v6,rfl,rfl⟩
     exact q_lret 0 ⟨v6,rfl,rfl⟩
   ·exact q_exit 0 ⟨v1,rfl,rfl⟩
  ·rintro i2 s4 _ _ ⟨v7,rfl,rfl⟩
   exact q_n (q_ret (cv_o 0 rfl) rfl)<|q_none
  ·rintro s4 _ _ ⟨v8,rfl,rfl⟩
   exact q_ret (cv_r (α:=Str) (l0:=false) (fl:=true) (xs:=[])) rfl
def ms185_0 (a0:Str) (s1:Bool×Int):Option (LO (Bool×Int)):=bif decide (s1.2 < (a0.length:Int)) then ( ( (getI a0 s1.2).bind fun c1=>bif decide ((c1.toNat:Int) < 97) then (getI a0 s1.2).bind fun c5=>bif decide ((c5.toNat:Int) < 48) then some (LO.norm true) else (getI a0 s1.2).bind fun c6=>some (LO.norm (decide ((c6.toNat:Int) > 57))) else (getI a0 s1.2).bind fun c2=>bif decide ((c2.toNat:Int) > 122) then (getI a0 s1.2).bind fun c3=>bif decide ((c3.toNat:Int) < 48) then some (LO.norm true) else (getI a0 s1.2).bind fun c4=>some (LO.norm (decide ((c4.toNat:Int) > 57))) else some (LO.norm false)).bind (contO (fun s4=>bif s4 then some (LO.ret false) else some (LO.norm s1.1)) (fun i1 s4=>if i1 = 1 then some (LO.norm s1.1) else some (LO.exit i1 s1.1)) (fun s4=>some (LO.ret s1.1)))).bind (contO (fun s5=>some (LO.norm (s5,wi .i64 (s1.2 + 1)))) (fun i2 s5=>some (LO.exit i2 (s5,s1.2))) (fun s5=>some (LO.ret (s5,s1.2)))) else some (LO.exit 0 (s1.1,s1.2))
def m185 (a0:Str):Option (Bool):=(loopO (ms185_0 a0) NN (false,0)).bind (contO (fun _=>none) (fun i3 s6=>if i3 = 0 then some (m101 (a0.length:Int) 1 8) else none) (fun s6=>some s6.1))
theorem w185 {d:Nat} (hd:2≤d) (a0:Str):Fit (R NN d 185 [encS a0] []) (m185 a0) PB:=by
  obtain ⟨d,rfl,g⟩:=up hd
  refine q_in (t185 NN d _) ?_
  unfold b185 m185
  refine q_lp (A:=fun (s:Bool×Int)=>[.bool s.1,.int .i64 s.2]) (B:=fun s=>[]) 0 rr ?_ ?_ ?_
  ·intro s1
   unfold s185_0 ms185_0
   refine q_slen<|q_p fr<|q_i ?_ ?_
   ·refine q_cu (A:=fun (s:Bool)=>[.bool s]) (B:=fun s=>[]) ?_ ?_ ?_ ?_
    ·refine q_cu (A:=fun (s:Bool)=>[.bool s]) (B:=fun s=>[]) ?_ ?_ ?_ ?_
     ·exact q_sx fun c1 hc1=>q_p fr<|q_j (q_sx fun c5 hc5=>q_p fr<|q_j (q_norm 0 rr)<|q_sx fun c6 hc6=>q_p fr<|q_norm 0 rr)<|q_sx fun c2 hc2=>q_p fr<|q_k (q_sx fun c3 hc3=>q_p fr<|q_j (q_norm 0 rr)<|q_sx fun c4 hc4=>q_p fr<|q_norm 0 rr)<|q_norm 0 rr
     ·exact fun s4=>q_i (q_lret 0 rr)<|q_norm 0 rr
     ·exact fun i1 s4=>q_n (q_norm 0 rr)<|q_exit 0 rr
     ·exact fun s4=>q_lret 0 rr
    ·exact fun s5=>q_p fr<|q_norm 0 rr
    ·exact fun i2 s5=>q_exit 0 rr
    ·exact fun s5=>q_lret 0 rr
   ·exact q_exit 0 rr
  ·exact fun i3 s6=>q_n (q_slen<|q_c0t (aF3 (cv_p rfl) (cv_p rfl) (cv_p rfl) fun l0_ l1_ l2_=>w101 (by omega) (a0.length:Int) 1 8)<|q_ret (cv_p rfl) rfl)<|q_none
  ·exact fun s6=>q_ret (cv_p rfl) rfl
def ms169_0 (y1:(List Str)) (s3:(List Str)×Bool×Int):Option (LO ((List Str)×Bool×Int)):=bif decide (s3.2.2 < (y1.length:Int)) then (getI y1 s3.2.2).bind fun x2=>(m185 x2).bind fun y2=>bif !y2 then some (LO.ret ([],false,s3.2.2)) else some (LO.norm (s3.1,s3.2.1,wi .i64 (s3.2.2 + 1))) else some (LO.exit 0 (s3.1,s3.2.1,s3.2.2))
def m169 (a0:Str):Option ((List Str)×Bool):=bif a0 == ([47]:Str) then some ([],true) else (m168 a0 47).bind fun y1=>( bif decide ((y1.length:Int) < 2) then some (LO.ret ([],false)) else (getI y1 0).bind fun x1=>bif !(x1 == ([]:Str)) then some (LO.ret ([],false)) else some (LO.norm ([],false))).bind (contO (fun s2=>(loopO (ms169_0 y1) NN (s2.1,s2.2,1)).bind (contO (fun _=>none) (fun i2 s4=>if i2 = 0 then (subI y1 1 (y1.length:Int)).bind fun ys1=>some (ys1,true) else none) (fun s4=>some (s4.1,s4.2.1)))) (fun i1 s2=>none) (fun s2=>some (s2.1,s2.2)))
theorem w169 {d:Nat} (hd:3≤d) (a0:Str):Fit (R NN d 169 [encS a0] []) (m169 a0) (P0 (fun (t:(List Str)×Bool)=>AV.tup [.rsl false false (t.1.map (Enc.cs false)),.bool t.2])):=by
  obtain ⟨d,rfl,g⟩:=up hd
  refine q_in (t169 NN d _) ?_
  unfold b169 m169
  refine q_p (fun _=>seq_eql)<|q_i ?_ ?_
  ·exact q_q (fun _=>qs184_0)<|q_ret (cv_t (cvs_cons (cv_r (α:=Str) (l0:=false) (fl:=true) (xs:=[])) (cvs_cons (cv_p rfl) cvs_nil))) rfl
  ·refine q_c0 (aF2 (cv_p rfl) (cv_p rfl) fun l0_ l1_=>w168 (by omega) a0 47) fun y1 hy1=>q_cut (I:=(fun (s:(List Str)×Bool) l L=>∃ (fl1:Bool),l = [.rsl false fl1 (s.1.map (Enc.cs false)),.bool s.2]∧L = [])) ?_ ?_ ?_ ?_
   ·refine q_len<|q_p fr<|q_j ?_ ?_
    ·first | refine q_ifT1 ?_ | skip
     exact q_lret 0 ⟨true,rfl,rfl⟩
    ·exact q_ix rfl fun x1 hx1=>q_p fr<|q_p (fun _=>seq_neq)<|q_i (q_lret 0 ⟨true,rfl,rfl⟩)<|q_norm 0 ⟨true,rfl,rfl⟩
   ·rintro s2 _ _ ⟨fl1,rfl,rfl⟩
    refine q_loop (I:=(fun (s:(List Str)×Bool×Int) l L=>∃ (fl2:Bool),l = [.rsl false fl2 (s.1.map (Enc.cs false)),.bool s.2.1,.int .i64 s.2.2]∧L = [])) 0 ⟨fl1,rfl,rfl⟩ ?_ ?_ ?_
    ·rintro s3 _ _ ⟨fl2,rfl,rfl⟩
     unfold s169_0 ms169_0
     exact q_len<|q_p fr<|q_i (q_ix rfl fun x2 hx2=>q_p fr<|q_c0 (aF1 (cv_p rfl) fun l0_=>w185 (by omega) x2) fun y2 hy2=>q_p fr<|q_i (q_lret 0 ⟨true,rfl,rfl⟩)<|q_p fr<|q_norm 0 ⟨fl2,rfl,rfl⟩)<|q_exit 0 ⟨fl2,rfl,rfl⟩
    ·rintro i2 s4 _ _ ⟨fl3,rfl,rfl⟩
     exact q_n (q_sub rfl (.inl rfl) (.inr ⟨rfl,rfl⟩) fun fl4 ys1 hys1=>q_ret (cv_t (cvs_cons cv_r (cvs_cons (cv_p rfl) cvs_nil))) rfl)<|q_none
    ·rintro s4 _ _ ⟨fl5,rfl,rfl⟩
     exact q_ret (cv_t (cvs_cons cv_r (cvs_cons (cv_p rfl) cvs_nil))) rfl
   ·rintro i1 s2 _ _ ⟨fl6,rfl,rfl⟩
    exact q_none
   ·rintro s2 _ _ ⟨fl7,rfl,rfl⟩
    exact q_ret (cv_t (cvs_cons cv_r (cvs_cons (cv_p rfl) cvs_nil))) rfl
def m138 (a0:Str):Option (Int):=( ( bif decide ((a0.length:Int) > 24) then some (LO.norm true) else bif !(a0 == ([47]:Str)) then (m168 a0 47).bind fun y1=>some (LO.norm (decide ((y1.length:Int) > 5))) else some (LO.norm false)).bind (contO (fun s3=>bif s3 then some (LO.ret 2) else some (LO.norm 0)) (fun i1 s3=>some (LO.exit i1 0)) (fun s3=>some (LO.ret 0)))).bind (contO (fun s4=>(m169 a0).bind fun y2=>bif !y2.2 then some 5 else some 0) (fun i2 s4=>none) (fun s4=>some s4))
theorem w138 {d:Nat} (hd:4≤d) (a0:Str):Fit (R NN d 138 [encS a0] []) (m138 a0) PI:=by
  obtain ⟨d,rfl,g⟩:=up hd
  refine q_in (t138 NN d _) ?_
  unfold b138 m138
  refine q_cu (A:=fun (s:Int)=>[.int .i64 s]) (B:=fun s=>[]) ?_ ?_ ?_ ?_
  ·refine q_cu (A:=fun (s:Bool)=>[.bool s]) (B:=fun s=>[]) ?_ ?_ ?_ ?_
   ·exact q_slen<|q_p fr<|q_j (q_norm 0 rr)<|q_p (fun _=>seq_neq)<|q_k (q_c0 (aF2 (cv_p rfl) (cv_p rfl) fun l0_ l1_=>w168 (by omega) a0 47) fun y1 hy1=>q_len<|q_p fr<|q_norm 0 rr)<|q_norm 0 rr
   ·exact fun s3=>q_i (q_lret 0 rr)<|q_norm 0 rr
   ·exact fun i1 s3=>q_exit 0 rr
   ·exact fun s3=>q_lret 0 rr
  ·exact fun s4=>q_c0 (aF1 (cv_p rfl) fun l0_=>w169 (by omega) a0) fun y2 hy2=>q_q fr<|q_q fr<|q_p fr<|q_i (q_ret (cv_p rfl) rfl)<|q_ret (cv_p rfl) rfl
  ·exact fun i2 s4=>q_none
  ·exact fun s4=>q_ret (cv_p rfl) rfl
def m139 (a0:Int):Bool:=(m101 a0 0 9999)
theorem w139 {d:Nat} (hd:2≤d) (a0:Int):Fit (R NN d 139 [.int .i64 a0] []) (some (m139 a0)) PB:=by
  obtain ⟨d,rfl,g⟩:=up hd
  refine q_in (t139 NN d _) ?_
  unfold b139 m139
  exact q_c0t (aF3 (cv_p rfl) (cv_p rfl) (cv_p rfl) fun l0_ l1_ l2_=>w101 (by omega) a0 0 9999)<|q_ret (cv_p rfl) rfl
def m103 (a0:TOp):Option (Int):=bif !(m101 a0.Kind 1 8) then some 1 else ( ( bif !(m135 a0.Kind) then bif !(a0.Path == ([]:Str)) then some (LO.norm true) else bif !(m136 a0.Kind) then bif a0.Data != 0 then some (LO.norm true) else (m137 a0.Kind).bind fun y1=>bif !y1 then bif a0.Version != 0 then some (LO.norm true) else bif a0.Kind != 3 then bif a0.Seq then some (LO.norm true) else some (LO.norm a0.Own) else some (LO.norm false) else bif a0.Kind != 3 then bif a0.Seq then some (LO.norm true) else some (LO.norm a0.Own) else some (LO.norm false) else (m137 a0.Kind).bind fun y2=>bif !y2 then bif a0.Version != 0 then some (LO.norm true) else bif a0.Kind != 3 then bif a0.Seq then some (LO.norm true) else some (LO.norm a0.Own) else some (LO.norm false) else bif a0.Kind != 3 then bif a0.Seq then some (LO.norm true) else some (LO.norm a0.Own) else some (LO.norm false) else bif !(m136 a0.Kind) then bif a0.Data != 0 then some (LO.norm true) else (m137 a0.Kind).bind fun y3=>bif !y3 then bif a0.Version != 0 then some (LO.norm true) else bif a0.Kind != 3 then bif a0.Seq then some (LO.norm true) else some (LO.norm a0.Own) else some (LO.norm false) else bif a0.Kind != 3 then bif a0.Seq then some (LO.norm true) else some (LO.norm a0.Own) else some (LO.norm false) else (m137 a0.Kind).bind fun y4=>bif !y4 then bif a0.Version != 0 then some (LO.norm true) else bif a0.Kind != 3 then bif a0.Seq then some (LO.norm true) else some (LO.norm a0.Own) else some (LO.norm false) else bif a0.Kind != 3 then bif a0.Seq then some (LO.norm true) else some (LO.norm a0.Own) else some (LO.norm false)).bind (contO (fun s3=>bif s3 then some (LO.ret 1) else some (LO.norm 0)) (fun i1 s3=>some (LO.exit i1 0)) (fun s3=>some (LO.ret 0)))).bind (contO (fun s4=>( bif (m135 a0.Kind) then (m138 a0.Path).bind fun y5=>bif y5 != 0 then some (LO.ret y5) else some (LO.norm s4) else some (LO.norm s4)).bind (contO (fun s6=>( bif !(m139 a0.Data) then some (LO.ret 3) else bif !(m101 a0.Version (-1) 999) then some (LO.ret 3) else some (LO.norm s6)).bind (contO (fun s8=>some 0) (fun i4 s8=>none) (fun s8=>some s8))) (fun i3 s6=>none) (fun s6=>some s6))) (fun i2 s4=>none) (fun s4=>some s4))
theorem w103 {d:Nat} (hd:5≤d) (k0:Bool) (a0:TOp):Fit (R NN d 103 [.rp k0 (Enc.cs k0 a0)] []) (m103 a0) PI:=by
  obtain ⟨d,rfl,g⟩:=up hd
  refine q_in (t103 NN d _) ?_
  unfold b103 m103
  refine q_q fr<|q_p fr<|q_p fr<|q_c0t (aF3 (cv_p rfl) (cv_p rfl) (cv_p rfl) fun l0_ l1_ l2_=>w101 (by omega) a0.Kind 1 8)<|q_p fr<|q_i ?_ ?_
  ·exact q_ret (cv_p rfl) rfl
  ·refine q_cu (A:=fun (s:Int)=>[.int .i64 s]) (B:=fun s=>[]) ?_ ?_ ?_ ?_
   ·refine q_cu (A:=fun (s:Bool)=>[.bool s]) (B:=fun s=>[]) ?_ ?_ ?_ ?_
    ·exact q_q fr<|q_p fr<|q_p fr<|q_c0t (aF1 (cv_p rfl) fun l0_=>w135 (by omega) a0.Kind)<|q_p fr<|q_k (q_q fr<|q_p fr<|q_p fr<|q_p (fun _=>seq_neq)<|q_j (q_norm 0 rr)<|q_q fr<|q_p fr<|q_p fr<|q_c0t (aF1 (cv_p rfl) fun l0_=>w136 (by omega) a0.Kind)<|q_p fr<|q_k (q_q fr<|q_p fr<|q_p fr<|q_p fr<|q_j (q_norm 0 rr)<|q_q fr<|q_p fr<|q_p fr<|q_c0 (aF1 (cv_p rfl) fun l0_=>w137 (by omega) a0.Kind) fun y1 hy1=>q_p fr<|q_k (q_q fr<|q_p fr<|q_p fr<|q_p fr<|q_j (q_norm 0 rr)<|q_q fr<|q_p fr<|q_p fr<|q_p fr<|q_k (q_q fr<|q_p fr<|q_p fr<|q_j (q_norm 0 rr)<|q_q fr<|q_p fr<|q_p fr<|q_norm 0 rr)<|q_norm 0 rr)<|q_q fr<|q_p fr<|q_p fr<|q_p fr<|q_k (q_q fr<|q_p fr<|q_p fr<|q_j (q_norm 0 rr)<|q_q fr<|q_p fr<|q_p fr<|q_norm 0 rr)<|q_norm 0 rr)<|q_q fr<|q_p fr<|q_p fr<|q_c0 (aF1 (cv_p rfl) fun l0_=>w137 (by omega) a0.Kind) fun y2 hy2=>q_p fr<|q_k (q_q fr<|q_p fr<|q_p fr<|q_p fr<|q_j (q_norm 0 rr)<|q_q fr<|q_p fr<|q_p fr<|q_p fr<|q_k (q_q fr<|q_p fr<|q_p fr<|q_j (q_norm 0 rr)<|q_q fr<|q_p fr<|q_p fr<|q_norm 0 rr)<|q_norm 0 rr)<|q_q fr<|q_p fr<|q_p fr<|q_p fr<|q_k (q_q fr<|q_p fr<|q_p fr<|q_j (q_norm 0 rr)<|q_q fr<|q_p fr<|q_p fr<|q_norm 0 rr)<|q_norm 0 rr)<|q_q fr<|q_p fr<|q_p fr<|q_c0t (aF1 (cv_p rfl) fun l0_=>w136 (by omega) a0.Kind)<|q_p fr<|q_k (q_q fr<|q_p fr<|q_p fr<|q_p fr<|q_j (q_norm 0 rr)<|q_q fr<|q_p fr<|q_p fr<|q_c0 (aF1 (cv_p rfl) fun l0_=>w137 (by omega) a0.Kind) fun y3 hy3=>q_p fr<|q_k (q_q fr<|q_p fr<|q_p fr<|q_p fr<|q_j (q_norm 0 rr)<|q_q fr<|q_p fr<|q_p fr<|q_p fr<|q_k (q_q fr<|q_p fr<|q_p fr<|q_j (q_norm 0 rr)<|q_q fr<|q_p fr<|q_p fr<|q_norm 0 rr)<|q_norm 0 rr)<|q_q fr<|q_p fr<|q_p fr<|q_p fr<|q_k (q_q fr<|q_p fr<|q_p fr<|q_j (q_norm 0 rr)<|q_q fr<|q_p fr<|q_p fr<|q_norm 0 rr)<|q_norm 0 rr)<|q_q fr<|q_p fr<|q_p fr<|q_c0 (aF1 (cv_p rfl) fun l0_=>w137 (by omega) a0.Kind) fun y4 hy4=>q_p fr<|q_k (q_q fr<|q_p fr<|q_p fr<|q_p fr<|q_j (q_norm 0 rr)<|q_q fr<|q_p fr<|q_p fr<|q_p fr<|q_k (q_q fr<|q_p fr<|q_p fr<|q_j (q_norm 0 rr)<|q_q fr<|q_p fr<|q_p fr<|q_norm 0 rr)<|q_norm 0 rr)<|q_q fr<|q_p fr<|q_p fr<|q_p fr<|q_k (q_q fr<|q_p fr<|q_p fr<|q_j (q_norm 0 rr)<|q_q fr<|q_p fr<|q_p fr<|q_norm 0 rr)<|q_norm 0 rr
    ·exact fun s3=>q_i (q_lret 0 rr)<|q_norm 0 rr
    ·exact fun i1 s3=>q_exit 0 rr
    ·exact fun s3=>q_lret 0 rr
   ·intro s4
    refine q_cu (A:=fun (s:Int)=>[.int .i64 s]) (B:=fun s=>[]) ?_ ?_ ?_ ?_
    ·exact q_q fr<|q_p fr<|q_p fr<|q_c0t (aF1 (cv_p rfl) fun l0_=>w135 (by omega) a0.Kind)<|q_i (q_q fr<|q_p fr<|q_p fr<|q_c0 (aF1 (cv_p rfl) fun l0_=>w138 (by omega) a0.Path) fun y5 hy5=>q_p fr<|q_i (q_lret 0 rr)<|q_norm 0 rr)<|q_norm 0 rr
    ·intro s6
     refine q_cu (A:=fun (s:Int)=>[.int .i64 s]) (B:=fun s=>[]) ?_ ?_ ?_ ?_
     ·refine q_q fr<|q_p fr<|q_p fr<|q_c0t (aF1 (cv_p rfl) fun l0_=>w139 (by omega) a0.Data)<|q_p fr<|q_j ?_ ?_
      ·first | refine q_ifT1 ?_ | skip
       exact q_lret 0 rr
      ·exact q_q fr<|q_p fr<|q_p fr<|q_c0t (aF3 (cv_p rfl) (cv_p rfl) (cv_p rfl) fun l0_ l1_ l2_=>w101 (by omega) a0.Version (-1) 999)<|q_p fr<|q_i (q_lret 0 rr)<|q_norm 0 rr
     ·exact fun s8=>q_ret (cv_p rfl) rfl
     ·exact fun i4 s8=>q_none
     ·exact fun s8=>q_ret (cv_p rfl) rfl
    ·exact fun i3 s6=>q_none
    ·exact fun s6=>q_ret (cv_p rfl) rfl
   ·exact fun i2 s4=>q_none
   ·exact fun s4=>q_ret (cv_p rfl) rfl
def ms71_0 (a0:TRequest) (s7:Int×Int):Option (LO (Int×Int)):=bif decide (s7.2 < (a0.Ops.length:Int)) then (getI a0.Ops s7.2).bind fun x1=>(m103 x1).bind fun y1=>bif y1 != 0 then some (LO.ret (y1,s7.2)) else some (LO.norm (s7.1,wi .i64 (s7.2 + 1))) else some (LO.exit 0 (s7.1,s7.2))
def ms71_1 (a0:TRequest) (s9:Int×Int):Option (LO (Int×Int)):=( ( bif decide (s9.2 < (a0.Ops.length:Int)) then some (LO.norm (decide ((a0.Ops.length:Int) > 1))) else some (LO.norm false)).bind (contO (fun s12=>bif s12 then some (LO.norm s12) else some (LO.exit 2 s12)) (fun i5 s12=>some (LO.exit i5 s12)) (fun s12=>some (LO.ret s12)))).bind (contO (fun s13=>(getI a0.Ops s9.2).bind fun x2=>bif decide (x2.Kind≤2) then some (LO.ret (1,s9.2)) else some (LO.norm (s9.1,wi .i64 (s9.2 + 1)))) (fun i6 s13=>some (LO.exit i6 (s9.1,s9.2))) (fun s13=>some (LO.ret (s9.1,s9.2))))
def m71 (a0:TRequest):Option (Int):=( ( bif !(m100 a0.Client) then some (LO.norm true) else bif !(m101 a0.Number 1 99) then some (LO.norm true) else some (LO.norm (!(m102 a0.Time)))).bind (contO (fun s3=>bif s3 then some (LO.ret 3) else some (LO.norm 0)) (fun i1 s3=>some (LO.exit i1 0)) (fun s3=>some (LO.ret 0)))).bind (contO (fun s4=>( bif decide ((a0.Ops.length:Int) < 1) then some (LO.ret 2) else bif decide ((a0.Ops.length:Int) > 3) then some (LO.ret 2) else some (LO.norm s4)).bind (contO (fun s6=>(loopO (ms71_0 a0) NN (s6,0)).bind (contO (fun _=>none) (fun i4 s8=>if i4 = 0 then (loopO (ms71_1 a0) NN (s8.1,0)).bind (contO (fun _=>none) (fun i7 s14=>if i7 = 2 then some 0 else none) (fun s14=>some s14.1)) else none) (fun s8=>some s8.1))) (fun i3 s6=>none) (fun s6=>some s6))) (fun i2 s4=>none) (fun s4=>some s4))
theorem w71 {d:Nat} (hd:6≤d) (k0:Bool) (a0:TRequest):Fit (R NN d 71 [.rp k0 (Enc.cs k0 a0)] []) (m71 a0) PI:=by
  obtain ⟨d,rfl,g⟩:=up hd
  refine q_in (t71 NN d _) ?_
  unfold b71 m71
  refine q_cu (A:=fun (s:Int)=>[.int .i64 s]) (B:=fun s=>[]) ?_ ?_ ?_ ?_
  ·refine q_cu (A:=fun (s:Bool)=>[.bool s]) (B:=fun s=>[]) ?_ ?_ ?_ ?_
   ·exact q_q fr<|q_p fr<|q_p fr<|q_c0t (aF1 (cv_p rfl) fun l0_=>w100 (by omega) a0.Client)<|q_p fr<|q_j (q_norm 0 rr)<|q_q fr<|q_p fr<|q_p fr<|q_c0t (aF3 (cv_p rfl) (cv_p rfl) (cv_p rfl) fun l0_ l1_ l2_=>w101 (by omega) a0.Number 1 99)<|q_p fr<|q_j (q_norm 0 rr)<|q_q fr<|q_p fr<|q_p fr<|q_c0t (aF1 (cv_p rfl) fun l0_=>w102 (by omega) a0.Time)<|q_p fr<|q_norm 0 rr
   ·exact fun s3=>q_i (q_lret 0 rr)<|q_norm 0 rr
   ·exact fun i1 s3=>q_exit 0 rr
   ·exact fun s3=>q_lret 0 rr
  ·intro s4
   refine q_cu (A:=fun (s:Int)=>[.int .i64 s]) (B:=fun s=>[]) ?_ ?_ ?_ ?_
   ·refine q_q fr<|q_p fr<|q_p fr<|q_len<|q_p fr<|q_j ?_ ?_
    ·first | refine q_ifT1 ?_ | skip
     exact q_lret 0 rr
    ·exact q_q fr<|q_p fr<|q_p fr<|q_len<|q_p fr<|q_i (q_lret 0 rr)<|q_norm 0 rr
   ·intro s6
    refine q_lp (A:=fun (s:Int×Int)=>[.int .i64 s.1,.int .i64 s.2]) (B:=fun s=>[]) 0 rr ?_ ?_ ?_
    ·intro s7
     unfold s71_0 ms71_0
     exact q_q fr<|q_p fr<|q_p fr<|q_len<|q_p fr<|q_i (q_q fr<|q_p fr<|q_p fr<|q_ix rfl fun x1 hx1=>q_c0 (aF1 (cv_rp (cvs_e (l0:=k0) (x:=x1)) (fun _ _ _ h=>Enc.frz k0 x1 _ _ _ h)) fun l0_=>w103 (by omega) l0_ x1) fun y1 hy1=>q_p fr<|q_i (q_lret 0 rr)<|q_p fr<|q_norm 0 rr)<|q_exit 0 rr
    ·intro i4 s8
     refine q_n ?_ ?_
     ·refine q_lp (A:=fun (s:Int×Int)=>[.int .i64 s.1,.int .i64 s.2]) (B:=fun s=>[]) 0 rr ?_ ?_ ?_
      ·intro s9
       unfold s71_1 ms71_1
       refine q_cu (A:=fun (s:Bool)=>[.bool s]) (B:=fun s=>[]) ?_ ?_ ?_ ?_
       ·refine q_cu (A:=fun (s:Bool)=>[.bool s]) (B:=fun s=>[]) ?_ ?_ ?_ ?_
        ·exact q_q fr<|q_p fr<|q_p fr<|q_len<|q_p fr<|q_k (q_q fr<|q_p fr<|q_p fr<|q_len<|q_p fr<|q_norm 0 rr)<|q_norm 0 rr
        ·exact fun s12=>q_i (q_norm 0 rr)<|q_exit 0 rr
        ·exact fun i5 s12=>q_exit 0 rr
        ·exact fun s12=>q_lret 0 rr
       ·exact fun s13=>q_q fr<|q_p fr<|q_p fr<|q_ix rfl fun x2 hx2=>q_p fr<|q_p fr<|q_p fr<|q_i (q_lret 0 rr)<|q_p fr<|q_norm 0 rr
       ·exact fun i6 s13=>q_exit 0 rr
       ·exact fun s13=>q_lret 0 rr
      ·exact fun i7 s14=>q_n (q_ret (cv_p rfl) rfl)<|q_none
      ·exact fun s14=>q_ret (cv_p rfl) rfl
     ·exact q_none
    ·exact fun s8=>q_ret (cv_p rfl) rfl
   ·exact fun i3 s6=>q_none
   ·exact fun s6=>q_ret (cv_p rfl) rfl
  ·exact fun i2 s4=>q_none
  ·exact fun s4=>q_ret (cv_p rfl) rfl
def ms72_0 (a0:List TRequest) (a1:Int) (a2:Int) (s1:Int×Int):Option (LO (Int×Int)):=bif decide (s1.2 < (a0.length:Int)) then ( (getI a0 s1.2).bind fun x1=>bif x1.Client == a1 then (getI a0 s1.2).bind fun x2=>bif x2.Number == a2 then some (LO.ret s1.2) else some (LO.norm s1.1) else some (LO.norm s1.1)).bind (contO (fun s3=>some (LO.norm (s3,wi .i64 (s1.2 + 1)))) (fun i1 s3=>some (LO.exit i1 (s3,s1.2))) (fun s3=>some (LO.ret (s3,s1.2)))) else some (LO.exit 0 (s1.1,s1.2))
def m72 (a0:List TRequest) (a1:Int) (a2:Int):Option (Int):=(loopO (ms72_0 a0 a1 a2) NN (0,0)).bind (contO (fun _=>none) (fun i2 s4=>if i2 = 0 then some (-1) else none) (fun s4=>some s4.1))
theorem w72 {d:Nat} (hd:1≤d) (k0:Bool) (a0:List TRequest) (a1:Int) (a2:Int):Fit (R NN d 72 [.rsl k0 false (a0.map (Enc.cs k0)),.int .i64 a1,.int .i64 a2] []) (m72 a0 a1 a2) PI:=by
  obtain ⟨d,rfl,g⟩:=up hd
  refine q_in (t72 NN d _ _ _) ?_
  unfold b72 m72
  refine q_lp (A:=fun (s:Int×Int)=>[.int .i64 s.1,.int .i64 s.2]) (B:=fun s=>[]) 0 rr ?_ ?_ ?_
  ·intro s1
   unfold s72_0 ms72_0
   refine q_len<|q_p fr<|q_i ?_ ?_
   ·refine q_cu (A:=fun (s:Int)=>[.int .i64 s]) (B:=fun s=>[]) ?_ ?_ ?_ ?_
    ·refine q_ix rfl fun x1 hx1=>q_p fr<|q_p fr<|q_p fr<|q_k ?_ ?_
     ·exact q_ix rfl fun x2 hx2=>q_p fr<|q_p fr<|q_p fr<|q_i (q_lret 0 rr)<|q_norm 0 rr
     ·first | refine q_ifF1 ?_ | skip
      exact q_norm 0 rr
    ·exact fun s3=>q_p fr<|q_norm 0 rr
    ·exact fun i1 s3=>q_exit 0 rr
    ·exact fun s3=>q_lret 0 rr
   ·exact q_exit 0 rr
  ·exact fun i2 s4=>q_n (q_ret (cv_p rfl) rfl)<|q_none
  ·exact fun s4=>q_ret (cv_p rfl) rfl
def ms39_0 (a0:TCluster) (s1:Int×Int):Option (LO (Int×Int)):=bif decide (s1.2 < (a0.Requests.length:Int)) then (getI a0.Requests s1.2).bind fun x1=>(m71 x1).bind fun y4=>bif y4 != 0 then some (LO.ret (y4,s1.2)) else (getI a0.Requests s1.2).bind fun x2=>(getI a0.Requests s1.2).bind fun x3=>(m72 a0.Requests x2.Client x3.Number).bind fun y5=>bif y5 != s1.2 then some (LO.ret (6,s1.2)) else some (LO.norm (s1.1,wi .i64 (s1.2 + 1))) else some (LO.exit 0 (s1.1,s1.2))
def m39 (a0:TCluster):Option (Int):=(m68 a0.F a0.Ledger).bind fun y1=>bif y1 != 0 then some y1 else bif decide ((a0.Requests.length:Int) > 12) then some 2 else (m69 a0.F a0.Bad).bind fun y2=>bif y2 != 0 then some y2 else (m70 a0).bind fun y3=>bif y3 != 0 then some y3 else (loopO (ms39_0 a0) NN (0,0)).bind (contO (fun _=>none) (fun i1 s2=>if i1 = 0 then some 0 else none) (fun s2=>some s2.1))
theorem w39 {d:Nat} (hd:10≤d) (k0:Bool) (a0:TCluster):Fit (R NN d 39 [.rp k0 (Enc.cs k0 a0)] []) (m39 a0) PI:=by
  obtain ⟨d,rfl,g⟩:=up hd
  refine q_in (t39 NN d _) ?_
  unfold b39 m39
  refine q_q fr<|q_p fr<|q_p fr<|q_q fr<|q_p fr<|q_p fr<|q_c0 (aF2 (cv_p rfl) cv_r fun l0_ l1_=>w68 (by omega) a0.F l1_ a0.Ledger) fun y1 hy1=>q_p fr<|q_i ?_ ?_
  ·exact q_ret (cv_p rfl) rfl
  ·refine q_q fr<|q_p fr<|q_p fr<|q_len<|q_p fr<|q_i ?_ ?_
   ·exact q_ret (cv_p rfl) rfl
   ·refine q_q fr<|q_p fr<|q_p fr<|q_q fr<|q_p fr<|q_p fr<|q_c0 (aF2 (cv_p rfl) cv_r fun l0_ l1_=>w69 (by omega) a0.F l1_ a0.Bad) fun y2 hy2=>q_p fr<|q_i ?_ ?_
    ·exact q_ret (cv_p rfl) rfl
    ·refine q_c0 (aF1 (cv_rp (cvs_e (l0:=k0) (x:=a0)) (fun _ _ _ h=>Enc.frz k0 a0 _ _ _ h)) fun l0_=>w70 (by omega) l0_ a0) fun y3 hy3=>q_p fr<|q_i ?_ ?_
     ·exact q_ret (cv_p rfl) rfl
     ·refine q_lp (A:=fun (s:Int×Int)=>[.int .i64 s.1,.int .i64 s.2]) (B:=fun s=>[]) 0 rr ?_ ?_ ?_
      ·intro s1
       unfold s39_0 ms39_0
       exact q_q fr<|q_p fr<|q_p fr<|q_len<|q_p fr<|q_i (q_q fr<|q_p fr<|q_p fr<|q_ix rfl fun x1 hx1=>q_c0 (aF1 (cv_rp (cvs_e (l0:=k0) (x:=x1)) (fun _ _ _ h=>Enc.frz k0 x1 _ _ _ h)) fun l0_=>w71 (by omega) l0_ x1) fun y4 hy4=>q_p fr<|q_i (q_lret 0 rr)<|q_q fr<|q_p fr<|q_p fr<|q_q fr<|q_p fr<|q_p fr<|q_ix rfl fun x2 hx2=>q_p fr<|q_p fr<|q_q fr<|q_p fr<|q_p fr<|q_ix rfl fun x3 hx3=>q_p fr<|q_p fr<|q_c0 (aF3 cv_r (cv_p rfl) (cv_p rfl) fun l0_ l1_ l2_=>w72 (by omega) l0_ a0.Requests x2.Client x3.Number) fun y5 hy5=>q_p fr<|q_i (q_lret 0 rr)<|q_p fr<|q_norm 0 rr)<|q_exit 0 rr
      ·exact fun i1 s2=>q_n (q_ret (cv_p rfl) rfl)<|q_none
      ·exact fun s2=>q_ret (cv_p rfl) rfl
def ms40_0 (a0:TCluster) (a1:Int) (s1:Int×Int):Option (LO (Int×Int)):=bif decide (s1.2 < (a0.Replicas.length:Int)) then (getI a0.Replicas s1.2).bind fun x1=>bif x1.Id == a1 then some (LO.ret (s1.2,s1.2)) else some (LO.norm (s1.1,wi .i64 (s1.2 + 1))) else some (LO.exit 0 (s1.1,s1.2))
def m40 (a0:TCluster) (a1:Int):Option (Int):=(loopO (ms40_0 a0 a1) NN (0,0)).bind (contO (fun _=>none) (fun i1 s2=>if i1 = 0 then some (-1) else none) (fun s2=>some s2.1))
theorem w40 {d:Nat} (hd:1≤d) (k0:Bool) (a0:TCluster) (a1:Int):Fit (R NN d 40 [.rp k0 (Enc.cs k0 a0),.int .i64 a1] []) (m40 a0 a1) PI:=by
  obtain ⟨d,rfl,g⟩:=up hd
  refine q_in (t40 NN d _ _) ?_
  unfold b40 m40
  refine q_lp (A:=fun (s:Int×Int)=>[.int .i64 s.1,.int .i64 s.2]) (B:=fun s=>[]) 0 rr ?_ ?_ ?_
  ·intro s1
   unfold s40_0 ms40_0
   exact q_q fr<|q_p fr<|q_p fr<|q_len<|q_p fr<|q_i (q_q fr<|q_p fr<|q_p fr<|q_ix rfl fun x1 hx1=>q_p fr<|q_p fr<|q_p fr<|q_i (q_lret 0 rr)<|q_p fr<|q_norm 0 rr)<|q_exit 0 rr
  ·exact fun i1 s2=>q_n (q_ret (cv_p rfl) rfl)<|q_none
  ·exact fun s2=>q_ret (cv_p rfl) rfl
def m17 (a0:TCluster) (a1:Int):Option (Int×Int):=(m39 a0).bind fun y1=>bif y1 != 0 then some (0,y1) else (m40 a0 a1).bind fun y2=>bif decide (y2 < 0) then some (0,4) else some (y2,0)
theorem w17 {d:Nat} (hd:11≤d) (k0:Bool) (a0:TCluster) (a1:Int):Fit (R NN d 17 [.rp k0 (Enc.cs k0 a0),.int .i64 a1] []) (m17 a0 a1) (P0 (fun (t:Int×Int)=>AV.tup [.int .i64 t.1,.int .i64 t.2])):=by
  obtain ⟨d,rfl,g⟩:=up hd
  refine q_in (t17 NN d _ _) ?_
  unfold b17 m17
  exact q_c0 (aF1 (cv_rp (cvs_e (l0:=k0) (x:=a0)) (fun _ _ _ h=>Enc.frz k0 a0 _ _ _ h)) fun l0_=>w39 (by omega) l0_ a0) fun y1 hy1=>q_p fr<|q_i (q_ret (cv_t (cvs_cons (cv_p rfl) (cvs_cons (cv_p rfl) cvs_nil))) rfl)<|q_c0 (aF2 (cv_rp (cvs_e (l0:=k0) (x:=a0)) (fun _ _ _ h=>Enc.frz k0 a0 _ _ _ h)) (cv_p rfl) fun l0_ l1_=>w40 (by omega) l0_ a0 a1) fun y2 hy2=>q_p fr<|q_i (q_ret (cv_t (cvs_cons (cv_p rfl) (cvs_cons (cv_p rfl) cvs_nil))) rfl)<|q_ret (cv_t (cvs_cons (cv_p rfl) (cvs_cons (cv_p rfl) cvs_nil))) rfl
def m18 (a0:Int):TClusterResult:=(⟨a0,(⟨0,[],[],[],[]⟩:TCluster)⟩:TClusterResult)
theorem w18 {d:Nat} (hd:1≤d) (a0:Int):Fit (R NN d 18 [.int .i64 a0] []) (some (m18 a0)) (P0 (fun (t:TClusterResult)=>AV.agg (Enc.cs false t))):=by
  obtain ⟨d,rfl,g⟩:=up hd
  refine q_in (t18 NN d _) ?_
  unfold b18 m18
  exact q_new rfl fun b1=>q_p (fun _=>bd35_0 rfl)<|q_st 0 rfl rfl rfl (by decide) rfl<|q_retm (fun S hS=>hS.lda 0 rfl rfl) (cv_a (cvs_cons (cv_p rfl) (cvs_cons (cv_p rfl) (cvs_cons (cv_r (α:=Int) (l0:=false) (fl:=true) (xs:=[])) (cvs_cons (cv_r (α:=TReplica) (l0:=false) (fl:=true) (xs:=[])) (cvs_cons (cv_r (α:=TMsg) (l0:=false) (fl:=true) (xs:=[])) (cvs_cons (cv_r (α:=TRequest) (l0:=false) (fl:=true) (xs:=[])) cvs_nil))))))) rfl
def m41 (a0:Int) (a1:List TMsg) (a2:TReplica):Option (Int):=(m68 a0 a1).bind fun y1=>bif y1 != 0 then some y1 else (m73 a0 a1 a2).bind fun y2=>some y2
theorem w41 {d:Nat} (hd:9≤d) (a0:Int) (k1:Bool) (a1:List TMsg) (k2:Bool) (a2:TReplica):Fit (R NN d 41 [.int .i64 a0,.rsl k1 false (a1.map (Enc.cs k1)),.rp k2 (Enc.cs k2 a2)] []) (m41 a0 a1 a2) PI:=by
  obtain ⟨d,rfl,g⟩:=up hd
  refine q_in (t41 NN d _ _ _) ?_
  unfold b41 m41
  exact q_c0 (aF2 (cv_p rfl) cv_r fun l0_ l1_=>w68 (by omega) a0 l1_ a1) fun y1 hy1=>q_p fr<|q_i (q_ret (cv_p rfl) rfl)<|q_c0 (aF3 (cv_p rfl) cv_r (cv_rp (cvs_e (l0:=k2) (x:=a2)) (fun _ _ _ h=>Enc.frz k2 a2 _ _ _ h)) fun l0_ l1_ l2_=>w73 (by omega) a0 l1_ a1 l2_ a2) fun y2 hy2=>q_ret (cv_p rfl) rfl
def ms43_0 (a0:Int) (a1:List TMsg) (a2:Int) (s1:Int×(List Int)):Option (LO (Int×(List Int))):=( ( bif decide (s1.1 < (a1.length:Int)) then some (LO.norm (decide ((s1.2.length:Int) < (m44 a0)))) else some (LO.norm false)).bind (contO (fun s4=>bif s4 then some (LO.norm s4) else some (LO.exit 0 s4)) (fun i1 s4=>some (LO.exit i1 s4)) (fun s4=>some (LO.ret s4)))).bind (contO (fun s5=>( ( (getI a1 s1.1).bind fun x1=>bif x1.View == a2 then (m74 a0 a1 s1.1).bind fun y1=>bif y1 then (getI a1 s1.1).bind fun x2=>(m75 a1 s1.2 x2.From).bind fun y2=>some (LO.norm (!y2)) else some (LO.norm false) else some (LO.norm false)).bind (contO (fun s8=>bif s8 then (appO 8 s1.2 [s1.1]).bind fun z1=>some (LO.norm z1) else some (LO.norm s1.2)) (fun i3 s8=>if i3 = 1 then some (LO.norm s1.2) else some (LO.exit i3 s1.2)) (fun s8=>some (LO.ret s1.2)))).bind (contO (fun s9=>some (LO.norm (wi .i64 (s1.1 + 1),s9))) (fun i4 s9=>some (LO.exit i4 (s1.1,s9))) (fun s9=>some (LO.ret (s1.1,s9))))) (fun i2 s5=>some (LO.exit i2 (s1.1,s1.2))) (fun s5=>some (LO.ret (s1.1,s1.2))))
def m43 (a0:Int) (a1:List TMsg) (a2:Int):Option ((List Int)):=(loopO (ms43_0 a0 a1 a2) NN (0,[])).bind (contO (fun _=>none) (fun i5 s10=>if i5 = 0 then some s10.2 else none) (fun s10=>some []))
theorem w43 {d:Nat} (hd:6≤d) (a0:Int) (k1:Bool) (a1:List TMsg) (a2:Int):Fit (R NN d 43 [.int .i64 a0,.rsl k1 false (a1.map (Enc.cs k1)),.int .i64 a2] []) (m43 a0 a1 a2) (P0 (fun (t:List Int)=>AV.rsl false false (t.map (Enc.cs false)))):=by
  obtain ⟨d,rfl,g⟩:=up hd
  refine q_in (t43 NN d _ _ _) ?_
  unfold b43 m43
  refine q_q (fun _=>qs22_0)<|q_nil (α:=Int) false<|q_loop (I:=(fun (s:Int×(List Int)) l L=>∃ (v1:AV),l = [v1,.int .i64 s.1]∧L = [sl false v1 (s.2:List Int)])) 0 ⟨(.rsl false true []),rfl,rfl⟩ ?_ ?_ ?_
  ·rintro s1 _ _ ⟨v1,rfl,rfl⟩
   unfold s43_0 ms43_0
   refine q_cu (A:=fun (s:Bool)=>[.bool s]) (B:=fun s=>[sl false v1 (s1.2:List Int)]) ?_ ?_ ?_ ?_
   ·refine q_cu (A:=fun (s:Bool)=>[.bool s]) (B:=fun s=>[sl false v1 (s1.2:List Int)]) ?_ ?_ ?_ ?_
    ·exact q_len<|q_p fr<|q_k (q_leno 0 rfl<|q_c0t (aF1 (cv_p rfl) fun l0_=>w44 (by omega) a0)<|q_p fr<|q_norm 0 rr)<|q_norm 0 rr
    ·exact fun s4=>q_i (q_norm 0 rr)<|q_exit 0 rr
    ·exact fun i1 s4=>q_exit 0 rr
    ·exact fun s4=>q_lret 0 rr
   ·intro s5
    refine q_cut (I:=(fun (s:(List Int)) l L=>∃ (v2:AV),l = [v2]∧L = [sl false v2 (s:List Int)])) ?_ ?_ ?_ ?_
    ·refine q_cu (A:=fun (s:Bool)=>[.bool s]) (B:=fun s=>[sl false v1 (s1.2:List Int)]) ?_ ?_ ?_ ?_
     ·exact q_ix rfl fun x1 hx1=>q_p fr<|q_p fr<|q_p fr<|q_k (q_c0 (aF3 (cv_p rfl) cv_r (cv_p rfl) fun l0_ l1_ l2_=>w74 (by omega) a0 l1_ a1 s1.1) fun y1 hy1=>q_k (q_ix rfl fun x2 hx2=>q_p fr<|q_p fr<|q_c0 (aF3 cv_r (cv_o 0 rfl) (cv_p rfl) fun l0_ l1_ l2_=>w75 (by omega) l0_ a1 l1_ s1.2 x2.From) fun y2 hy2=>q_p fr<|q_norm 0 rr)<|q_norm 0 rr)<|q_norm 0 rr
     ·exact fun s8=>q_i (q_q (fun _=>qi22_1)<|q_app (ys:=[s1.1]) 0 rfl rfl (fun _ _=>rfl) fun v2 z1 hz1=>q_norm 0 ⟨v2,rfl,rfl⟩)<|q_norm 0 ⟨v1,rfl,rfl⟩
     ·exact fun i3 s8=>q_n (q_norm 0 ⟨v1,rfl,rfl⟩)<|q_exit 0 ⟨v1,rfl,rfl⟩
     ·exact fun s8=>q_lret 0 ⟨v1,rfl,rfl⟩
    ·rintro s9 _ _ ⟨v3,rfl,rfl⟩
     exact q_p fr<|q_norm 0 ⟨v3,rfl,rfl⟩
    ·rintro i4 s9 _ _ ⟨v4,rfl,rfl⟩
     exact q_exit 0 ⟨v4,rfl,rfl⟩
    ·rintro s9 _ _ ⟨v5,rfl,rfl⟩
     exact q_lret 0 ⟨v5,rfl,rfl⟩
   ·exact fun i2 s5=>q_exit 0 ⟨v1,rfl,rfl⟩
   ·exact fun s5=>q_lret 0 ⟨v1,rfl,rfl⟩
  ·rintro i5 s10 _ _ ⟨v6,rfl,rfl⟩
   exact q_n (q_ret (cv_o 0 rfl) rfl)<|q_none
  ·rintro s10 _ _ ⟨v7,rfl,rfl⟩
   exact q_ret (cv_r (α:=Int) (l0:=false) (fl:=true) (xs:=[])) rfl
def m19 (a0:Int) (a1:List TMsg) (a2:TReplica):Option (TMsgResult):=(m41 a0 a1 a2).bind fun y1=>bif y1 != 0 then some (⟨y1,(⟨0,0,0,0,0,[],[]⟩:TMsg)⟩:TMsgResult) else ( ( bif a2.View == 0 then some (LO.norm true) else (m42 a0 a2.View).bind fun y2=>bif a2.Id != y2 then some (LO.norm true) else some (LO.norm (a2.Start != (-1)))).bind (contO (fun s3=>bif s3 then some (LO.ret 8) else some (LO.norm 0)) (fun i1 s3=>some (LO.exit i1 0)) (fun s3=>some (LO.ret 0)))).bind (contO (fun s4=>(m43 a0 a1 a2.View).bind fun y3=>bif decide ((y3.length:Int) < (m44 a0)) then some (⟨10,(⟨0,0,0,0,0,[],[]⟩:TMsg)⟩:TMsgResult) else some (⟨0,(⟨5,a2.View,a2.Id,0,0,[],y3⟩:TMsg)⟩:TMsgResult)) (fun i2 s4=>none) (fun s4=>some (⟨s4,(⟨0,0,0,0,0,[],[]⟩:TMsg)⟩:TMsgResult)))
theorem w19 {d:Nat} (hd:10≤d) (a0:Int) (k1:Bool) (a1:List TMsg) (k2:Bool) (a2:TReplica):Fit (R NN d 19 [.int .i64 a0,.rsl k1 false (a1.map (Enc.cs k1)),.agg (Enc.cs k2 a2)] []) (m19 a0 a1 a2) (P0 (fun (t:TMsgResult)=>AV.agg (Enc.cs false t))):=by
  obtain ⟨d,rfl,g⟩:=up hd
  refine q_in (t19 NN d _ _ _) ?_
  unfold b19 m19
  refine q_box (n:=4) rfl rfl (by decide) fun b1=>q_new rfl fun b2=>q_c0 (aF3 (cv_p rfl) cv_r (cv_b 1 rfl (cvs_cons (cv_p rfl) (cvs_cons (cv_p rfl) (cvs_cons (cv_p rfl) (cvs_cons (cv_p rfl) cvs_nil))))) fun l0_ l1_ l2_=>w41 (by omega) a0 l1_ a1 l2_ a2) fun y1 hy1=>q_p fr<|q_i ?_ ?_
  ·exact q_p (fun _=>bd55_0 rfl)<|q_st 0 rfl rfl rfl (by decide) rfl<|q_retm (fun S hS=>hS.lda 0 rfl rfl) (cv_a (cvs_cons (cv_p rfl) (cvs_cons (cv_p rfl) (cvs_cons (cv_p rfl) (cvs_cons (cv_p rfl) (cvs_cons (cv_p rfl) (cvs_cons (cv_p rfl) (cvs_cons (cv_r (α:=TCert) (l0:=false) (fl:=true) (xs:=[])) (cvs_cons (cv_r (α:=Int) (l0:=false) (fl:=true) (xs:=[])) cvs_nil))))))))) rfl
  ·refine q_cu (A:=fun (s:Int)=>[]) (B:=fun s=>[bx b2 [.int .i64 s,.int .i64 0,.int .i64 0,.int .i64 0,.int .i64 0,.int .i64 0,.rsl false true [],.rsl false true []],bx b1 [.int .i64 a2.Id,.int .i64 a2.View,.int .i64 a2.Start,.int .i64 a2.Done]]) ?_ ?_ ?_ ?_
   ·refine q_cu (A:=fun (s:Bool)=>[.bool s]) (B:=fun s=>[bx b2 [.int .i64 0,.int .i64 0,.int .i64 0,.int .i64 0,.int .i64 0,.int .i64 0,.rsl false true [],.rsl false true []],bx b1 [.int .i64 a2.Id,.int .i64 a2.View,.int .i64 a2.Start,.int .i64 a2.Done]]) ?_ ?_ ?_ ?_
    ·exact q_p fr<|q_ld 1 rfl rfl<|q_p fr<|q_j (q_norm 0 rr)<|q_p fr<|q_ld 1 rfl rfl<|q_p fr<|q_ld 1 rfl rfl<|q_c0 (aF2 (cv_p rfl) (cv_p rfl) fun l0_ l1_=>w42 (by omega) a0 a2.View) fun y2 hy2=>q_p fr<|q_j (q_norm 0 rr)<|q_p fr<|q_ld 1 rfl rfl<|q_p fr<|q_norm 0 rr
    ·exact fun s3=>q_i (q_p (fun _=>bd55_0 rfl)<|q_st 0 rfl rfl rfl (by decide) rfl<|q_lret 0 rr)<|q_norm 0 rr
    ·exact fun i1 s3=>q_exit 0 rr
    ·exact fun s3=>q_lret 0 rr
   ·exact fun s4=>q_p fr<|q_ld 1 rfl rfl<|q_c0 (aF3 (cv_p rfl) cv_r (cv_p rfl) fun l0_ l1_ l2_=>w43 (by omega) a0 l1_ a1 a2.View) fun y3 hy3=>q_len<|q_c0t (aF1 (cv_p rfl) fun l0_=>w44 (by omega) a0)<|q_p fr<|q_i (q_p (fun _=>bd55_0 rfl)<|q_st 0 rfl rfl rfl (by decide) rfl<|q_retm (fun S hS=>hS.lda 0 rfl rfl) (cv_a (cvs_cons (cv_p rfl) (cvs_cons (cv_p rfl) (cvs_cons (cv_p rfl) (cvs_cons (cv_p rfl) (cvs_cons (cv_p rfl) (cvs_cons (cv_p rfl) (cvs_cons (cv_r (α:=TCert) (l0:=false) (fl:=true) (xs:=[])) (cvs_cons (cv_r (α:=Int) (l0:=false) (fl:=true) (xs:=[])) cvs_nil))))))))) rfl)<|q_p fr<|q_ld 1 rfl rfl<|q_p fr<|q_ld 1 rfl rfl<|q_p (fun _=>bd53_0_1_2_6 rfl)<|q_p (fun _=>bd55_1 rfl)<|q_st 0 rfl rfl rfl (by decide) rfl<|q_retm (fun S hS=>hS.lda 0 rfl rfl) (cv_a (cvs_cons (cv_p rfl) (cvs_cons (cv_p rfl) (cvs_cons (cv_p rfl) (cvs_cons (cv_p rfl) (cvs_cons (cv_p rfl) (cvs_cons (cv_p rfl) (cvs_cons (cv_r (α:=TCert) (l0:=false) (fl:=true) (xs:=[])) (cvs_cons cv_r cvs_nil))))))))) rfl
   ·exact fun i2 s4=>q_none
   ·exact fun s4=>q_retm (fun S hS=>hS.lda 0 rfl rfl) (cv_a (cvs_cons (cv_p rfl) (cvs_cons (cv_p rfl) (cvs_cons (cv_p rfl) (cvs_cons (cv_p rfl) (cvs_cons (cv_p rfl) (cvs_cons (cv_p rfl) (cvs_cons (cv_r (α:=TCert) (l0:=false) (fl:=true) (xs:=[])) (cvs_cons (cv_r (α:=Int) (l0:=false) (fl:=true) (xs:=[])) cvs_nil))))))))) rfl
def m78 (a0:TMsg):Option (TMsg):=(appO 24 [] a0.Certs).bind fun z1=>(appO 8 [] a0.Refs).bind fun z2=>some (⟨a0.Kind,a0.View,a0.From,a0.Slot,a0.Value,z1,z2⟩:TMsg)
theorem w78 {d:Nat} (hd:1≤d) (k0:Bool) (a0:TMsg):Fit (R NN d 78 [.agg (Enc.cs k0 a0)] []) (m78 a0) (P1 (T:=TMsg) AV.agg):=by
  obtain ⟨d,rfl,g⟩:=up hd
  refine q_in (t78 NN d _) ?_
  unfold b78 m78
  exact q_box (n:=7) rfl rfl (by decide) fun b1=>q_new rfl fun b2=>q_q (fun _=>qs51_0)<|q_p fr<|q_ld 1 rfl rfl<|q_nil (α:=TCert) false<|q_app (ys:=a0.Certs) 0 rfl rfl (fun _ _=>rfl) fun v1 z1 hz1=>q_p fr<|q_sto1 2 rfl (fun S hS=>(HP.cell1 hS 0 rfl)) rfl<|q_q (fun _=>qs22_0)<|q_p fr<|q_ld 2 rfl rfl<|q_nil (α:=Int) false<|q_app (ys:=a0.Refs) 0 rfl rfl (fun _ _=>rfl) fun v2 z2 hz2=>q_p fr<|q_sto1 3 rfl (fun S hS=>(HP.cell1 hS 0 rfl)) rfl<|q_lda 3 rfl rfl rfl<|q_st 2 rfl rfl rfl (by decide) rfl<|q_outm (fun S hS=>hS.lda 2 rfl rfl) (tb_of (α:=TMsg) (β:=Int×Int×Int×Int×Int×(List TCert)×(List Int)) (f:=fun x=>(x.Kind,x.View,x.From,x.Slot,x.Value,x.Certs,x.Refs)) (x:=(⟨a0.Kind,a0.View,a0.From,a0.Slot,a0.Value,z1,z2⟩:TMsg)) rfl (tb_pair (tb_int (n:=a0.Kind)) (tb_pair (tb_int (n:=a0.View)) (tb_pair (tb_int (n:=a0.From)) (tb_pair (tb_int (n:=a0.Slot)) (tb_pair (tb_int (n:=a0.Value)) (tb_pair (tb_sl 1 rfl plt124) (tb_sl 0 rfl plt2)))))))) rfl
def ms76_0 (a0:List TMsg) (s1:Int×(List TMsg)):Option (LO (Int×(List TMsg))):=bif decide (s1.1 < (a0.length:Int)) then (getI a0 s1.1).bind fun x1=>(m78 x1).bind fun y1=>(appO 88 s1.2 [y1]).bind fun z1=>some (LO.norm (wi .i64 (s1.1 + 1),z1)) else some (LO.exit 0 (s1.1,s1.2))
def m76 (a0:List TMsg):Option ((List TMsg)):=(loopO (ms76_0 a0) NN (0,[])).bind (contO (fun _=>none) (fun i4 s2=>if i4 = 0 then some s2.2 else none) (fun s2=>some []))
theorem w76 {d:Nat} (hd:2≤d) (k0:Bool) (a0:List TMsg):Fit (R NN d 76 [.rsl k0 false (a0.map (Enc.cs k0))] []) (m76 a0) P1a:=by
  obtain ⟨d,rfl,g⟩:=up hd
  refine q_in (t76 NN d _) ?_
  unfold b76 m76
  refine q_q (fun _=>qs30_0)<|q_nila (α:=TMsg)<|q_loop (I:=(fun (s:Int×(List TMsg)) l L=>∃ (i1:List Nat) (v1:AV),l = [v1,.int .i64 s.1]∧L = [tra i1 v1 (s.2:List TMsg)])) 0 ⟨[],(.rsl false true []),rfl,rfl⟩ ?_ ?_ ?_
  ·rintro s1 _ _ ⟨i1,v1,rfl,rfl⟩
   unfold s76_0 ms76_0
   refine q_len<|q_p fr<|q_i ?_ ?_
   ·refine q_ix rfl fun x1 hx1=>q_p fr<|q_c1 (W:=AV.agg) (mg:=m78 x1) sh_agg (aF1 (cv_a (cvs_e (l0:=k0) (x:=x1))) fun l0_=>w78 (by omega) l0_ x1) fun y1 hy1 i2 cs1=>q_cx (fun S hS=>trx53 (hS.get (k:=0) rfl)) fun hcs_=>?_
    obtain ⟨v2,v3,rfl⟩:=hcs_
    exact q_ap1 rfl (fun _=>bt30) rfl fun z1 hz1 v4 i3=>q_p fr<|q_norm 0 ⟨i3,v4,rfl,rfl⟩
   ·exact q_exit 0 ⟨i1,v1,rfl,rfl⟩
  ·rintro i4 s2 _ _ ⟨i5,v5,rfl,rfl⟩
   exact q_n (q_outa 0 rfl)<|q_none
  ·rintro s2 _ _ ⟨i6,v6,rfl,rfl⟩
   exact q_nila (α:=TMsg)<|q_outa 0 rfl
theorem w76g {d:Nat} (hd:2≤d) (k0:Bool) (a0:List TMsg):Fit (R NN d 76 [.rsl k0 false (a0.map (Enc.cs k0))] []) (m76 a0) (P1 one1):=p1a (w76 hd k0 a0)
def m77 (a0:TRequest):Option (TRequest):=(appO 48 [] a0.Ops).bind fun z1=>some (⟨a0.Client,a0.Number,a0.Time,z1⟩:TRequest)
theorem w77 {d:Nat} (hd:1≤d) (k0:Bool) (a0:TRequest):Fit (R NN d 77 [.agg (Enc.cs k0 a0)] []) (m77 a0) (P1 (T:=TRequest) AV.agg):=by
  obtain ⟨d,rfl,g⟩:=up hd
  refine q_in (t77 NN d _) ?_
  unfold b77 m77
  exact q_box (n:=4) rfl rfl (by decide) fun b1=>q_new rfl fun b2=>q_q (fun _=>qs97_0)<|q_p fr<|q_ld 1 rfl rfl<|q_nil (α:=TOp) false<|q_app (ys:=a0.Ops) 0 rfl rfl (fun _ _=>rfl) fun v1 z1 hz1=>q_p fr<|q_sto1 2 rfl (fun S hS=>(HP.cell1 hS 0 rfl)) rfl<|q_lda 2 rfl rfl rfl<|q_st 1 rfl rfl rfl (by decide) rfl<|q_outm (fun S hS=>hS.lda 1 rfl rfl) (tb_of (α:=TRequest) (β:=Int×Int×Int×(List TOp)) (f:=fun x=>(x.Client,x.Number,x.Time,x.Ops)) (x:=(⟨a0.Client,a0.Number,a0.Time,z1⟩:TRequest)) rfl (tb_pair (tb_int (n:=a0.Client)) (tb_pair (tb_int (n:=a0.Number)) (tb_pair (tb_int (n:=a0.Time)) (tb_sl 0 rfl plt135))))) rfl
def ms45_0 (a0:TCluster) (s1:Int×(List TRequest)):Option (LO (Int×(List TRequest))):=bif decide (s1.1 < (a0.Requests.length:Int)) then (getI a0.Requests s1.1).bind fun x1=>(m77 x1).bind fun y2=>(appO 48 s1.2 [y2]).bind fun z3=>some (LO.norm (wi .i64 (s1.1 + 1),z3)) else some (LO.exit 0 (s1.1,s1.2))
def m45 (a0:TCluster):Option (TCluster):=(appO 8 [] a0.Bad).bind fun z1=>(appO 32 [] a0.Replicas).bind fun z2=>(m76 a0.Ledger).bind fun y1=>(loopO (ms45_0 a0) NN (0,[])).bind (contO (fun _=>none) (fun i5 s2=>if i5 = 0 then some (⟨a0.F,z1,z2,y1,s2.2⟩:TCluster) else none) (fun s2=>some (⟨0,[],[],[],[]⟩:TCluster)))
theorem w45 {d:Nat} (hd:3≤d) (k0:Bool) (a0:TCluster):Fit (R NN d 45 [.agg (Enc.cs k0 a0)] []) (m45 a0) (P1q (T:=TCluster) AV.agg):=by
  obtain ⟨d,rfl,g⟩:=up hd
  refine q_in (t45 NN d _) ?_
  unfold b45 m45
  refine q_box (n:=5) rfl rfl (by decide) fun b1=>q_new rfl fun b2=>q_new rfl fun b3=>q_p fr<|q_ld 2 rfl rfl<|q_q (fun _=>qs22_0)<|q_p fr<|q_ld 2 rfl rfl<|q_q (fun _=>qs29_0)<|q_p fr<|q_ld 2 rfl rfl<|q_p fr<|q_ld 2 rfl rfl ?_
  refine q_nil (α:=Int) false<|q_app (ys:=a0.Bad) 0 rfl rfl (fun _ _=>rfl) fun v1 z1 hz1=>q_nil (α:=TReplica) false<|q_app (ys:=a0.Replicas) 0 rfl rfl (fun _ _=>rfl) fun v2 z2 hz2=>q_c1s (mg:=m76 a0.Ledger) (aF1 cv_r fun l0_=>w76g (by omega) l0_ a0.Ledger) fun y1 hy1 i1 v3=>q_ph (fun S hS=>bd33_0_1_2_3 (by simp only [afill,plc,gd,List.getD_cons_zero,List.getD_cons_succ,List.getElem?_cons_zero,List.getElem?_cons_succ,hS.cell1 2 rfl,hS.cell1 1 rfl,hS.cell1t 0 rfl]; rfl)) ?_
  refine q_st 3 rfl rfl rfl (by decide) rfl<|q_ap (fun S hS=>(and_t rfl (and_t rfl (and_t rfl (and_t rfl (and_t rfl (and_t rfl (and_t rfl rfl))))))))<|q_nila (α:=TRequest)<|q_loop (I:=(fun (s:Int×(List TRequest)) l L=>∃ (i2:List Nat) (v4:AV),l = [.int .i64 s.1]∧L = [tra i2 v4 (s.2:List TRequest),tr i1 [v3] (y1:List TMsg),sl false v2 (z2:List TReplica),sl false v1 (z1:List Int),bx b3 [.int .i64 a0.F,v1,v2,v3,v4],bx b2 [.int .i64 0,.rsl false true [],.rsl false true [],.rsl false true [],.rsl false true []],bx b1 [.int .i64 a0.F,.rsl k0 false (a0.Bad.map (Enc.cs k0)),.rsl k0 false (a0.Replicas.map (Enc.cs k0)),.rsl k0 false (a0.Ledger.map (Enc.cs k0)),.rsl k0 false (a0.Requests.map (Enc.cs k0))]])) 0 ⟨[],(.rsl false true []),rfl,rfl⟩ ?_ ?_ ?_
  ·rintro s1 _ _ ⟨i2,v4,rfl,rfl⟩
   unfold s45_0 ms45_0
   refine q_p fr<|q_ld 6 rfl rfl<|q_len<|q_p fr<|q_i ?_ ?_
   ·refine q_p fr<|q_ld 4 rfl rfl<|q_p fr<|q_ld 6 rfl rfl<|q_ix rfl fun x1 hx1=>q_p fr<|q_c1 (W:=AV.agg) (mg:=m77 x1) sh_agg (aF1 (cv_a (cvs_e (l0:=k0) (x:=x1))) fun l0_=>w77 (by omega) l0_ x1) fun y2 hy2 i3 cs2=>q_cx (fun S hS=>trx99 (hS.get (k:=0) rfl)) fun hcs_=>?_
    obtain ⟨v5,rfl⟩:=hcs_
    exact q_ap1 rfl (fun _=>bt31) rfl fun z3 hz3 v6 i4=>q_p fr<|q_sto1 4 rfl (fun S hS=>(HP.cella hS 0 rfl)) rfl<|q_p fr<|q_norm 0 ⟨i4,v6,rfl,rfl⟩
   ·exact q_exit 0 ⟨i2,v4,rfl,rfl⟩
  ·rintro i5 s2 _ _ ⟨i6,v7,rfl,rfl⟩
   exact q_n (q_lda 4 rfl rfl rfl<|q_st 5 rfl rfl rfl (by decide) rfl<|q_outqm (fun S hS=>q4_tra 0 rfl S hS) (fun S hS=>hS.lda 5 rfl rfl) (tb_of (α:=TCluster) (β:=Int×(List Int)×(List TReplica)×(List TMsg)×(List TRequest)) (f:=fun x=>(x.F,x.Bad,x.Replicas,x.Ledger,x.Requests)) (x:=(⟨a0.F,z1,z2,y1,s2.2⟩:TCluster)) rfl (tb_pair (tb_int (n:=a0.F)) (tb_pair (tb_sl 3 rfl plt2) (tb_pair (tb_sl 2 rfl plt58) (tb_pair (tb_tr (cs:=[v3]) 1 rfl) (tb_tra 0 rfl)))))) rfl)<|q_none
  ·rintro s2 _ _ ⟨i7,v8,rfl,rfl⟩
   exact q_outqm (fun _ _=>q4_nil) (fun S hS=>hS.lda 5 rfl rfl) (tb_of (α:=TCluster) (β:=Int×(List Int)×(List TReplica)×(List TMsg)×(List TRequest)) (f:=fun x=>(x.F,x.Bad,x.Replicas,x.Ledger,x.Requests)) (x:=(⟨0,[],[],[],[]⟩:TCluster)) rfl (tb_pair (tb_int (n:=0)) (tb_pair (tb_nil (α:=Int) (fl:=true)) (tb_pair (tb_nil (α:=TReplica) (fl:=true)) (tb_pair (tb_nil (α:=TMsg) (fl:=true)) (tb_nil (α:=TRequest) (fl:=true))))))) rfl
def m46 (a0:List TMsg) (a1:TMsg):Option ((List TMsg)×Int):=(m21 a0 a1).bind fun y1=>bif decide (y1 ≥ 0) then (m76 a0).bind fun y2=>some (y2,0) else bif decide ((a0.length:Int) ≥ 240) then some ([],2) else (m76 a0).bind fun y3=>(m78 a1).bind fun y4=>(appO 88 y3 [y4]).bind fun z1=>some (z1,0)
theorem w46 {d:Nat} (hd:3≤d) (k0:Bool) (a0:List TMsg) (k1:Bool) (a1:TMsg):Fit (R NN d 46 [.rsl k0 false (a0.map (Enc.cs k0)),.rp k1 (Enc.cs k1 a1)] []) (m46 a0 a1) (P1 (T:=(List TMsg)×Int) AV.tup):=by
  obtain ⟨d,rfl,g⟩:=up hd
  refine q_in (t46 NN d _ _) ?_
  unfold b46 m46
  refine q_c0 (aF2 cv_r (cv_rp (cvs_e (l0:=k1) (x:=a1)) (fun _ _ _ h=>Enc.frz k1 a1 _ _ _ h)) fun l0_ l1_=>w21 (by omega) l0_ a0 l1_ a1) fun y1 hy1=>q_p fr<|q_i ?_ ?_
  ·exact q_c1a (mg:=m76 a0) (aF1 cv_r fun l0_=>w76 (by omega) l0_ a0) fun y2 hy2 i1 v1=>q_out (W:=AV.tup) (tb_pair (tb_tra 0 rfl) (tb_int (n:=0))) rfl
  ·refine q_len<|q_p fr<|q_i ?_ ?_
   ·exact q_out (W:=AV.tup) (tb_pair (tb_nil (α:=TMsg) (fl:=true)) (tb_int (n:=2))) rfl
   ·refine q_q fr<|q_p fr<|q_c1a (mg:=m76 a0) (aF1 cv_r fun l0_=>w76 (by omega) l0_ a0) fun y3 hy3 i2 v2=>q_c1 (W:=AV.agg) (mg:=m78 a1) sh_agg (aF1 (cv_a (cvs_e (l0:=k1) (x:=a1))) fun l0_=>w78 (by omega) l0_ a1) fun y4 hy4 i3 cs3=>q_cx (fun S hS=>trx53 (hS.get (k:=0) rfl)) fun hcs_=>?_
    obtain ⟨v3,v4,rfl⟩:=hcs_
    exact q_ap1 rfl (fun _=>bt30) rfl fun z1 hz1 v5 i4=>q_out (W:=AV.tup) (tb_pair (tb_tra 0 rfl) (tb_int (n:=0))) rfl
def m20 (a0:TCluster) (a1:TMsg):Option (TClusterResult):=(m45 a0).bind fun y1=>(m46 a0.Ledger a1).bind fun y2=>bif y2.2 != 0 then some (m18 y2.2) else some (⟨0,(⟨y1.F,y1.Bad,y1.Replicas,y2.1,y1.Requests⟩:TCluster)⟩:TClusterResult)
theorem w20 {d:Nat} (hd:4≤d) (k0:Bool) (a0:TCluster) (k1:Bool) (a1:TMsg):Fit (R NN d 20 [.agg (Enc.cs k0 a0),.agg (Enc.cs k1 a1)] []) (m20 a0 a1) (P1 (T:=TClusterResult) AV.agg):=by
  obtain ⟨d,rfl,g⟩:=up hd
  refine q_in (t20 NN d _ _) ?_
  unfold b20 m20
  refine q_box (n:=5) rfl rfl (by decide) fun b1=>q_box (n:=7) rfl rfl (by decide) fun b2=>q_new rfl fun b3=>q_lda 2 rfl rfl rfl<|q_c1q (mg:=m45 a0) (aF1 (cv_a (cvs_e (l0:=k0) (x:=a0))) fun l0_=>w45 (by omega) l0_ a0) fun y1 hy1 i1 cs1 hq_=>q_cx (fun S hS=>trx33 (hS.get (k:=0) rfl)) fun hcs_=>?_
  obtain ⟨v1,v2,v3,v4,rfl⟩:=hcs_
  exact q_xpt (x:=(y1.F,y1.Bad,y1.Replicas,y1.Ledger,y1.Requests)) hq_ rfl (fun _ h=>h) fun i2 i3 i4 i5=>q_new rfl fun b4=>q_st 0 rfl rfl rfl (by decide) rfl<|q_p fr<|q_ld 7 rfl rfl<|q_c1t (mg:=m46 a0.Ledger a1) (aF2 cv_r (cv_b 6 rfl (cvs_cons (cv_p rfl) (cvs_cons (cv_p rfl) (cvs_cons (cv_p rfl) (cvs_cons (cv_p rfl) (cvs_cons (cv_p rfl) (cvs_cons cv_r (cvs_cons cv_r cvs_nil)))))))) fun l0_ l1_=>w46 (by omega) l0_ a0.Ledger l1_ a1) fun y2 hy2 i6 v5=>q_q fr<|q_q fr<|q_p fr<|q_i (q_c0t (aF1 (cv_p rfl) fun l0_=>w18 (by omega) y2.2)<|q_st 6 rfl rfl rfl (by decide) rfl<|q_outm (fun S hS=>hS.lda 6 rfl rfl) (tb_of (α:=TClusterResult) (β:=Int×TCluster) (f:=fun x=>(x.Code,x.Cluster)) (x:=(m18 y2.2)) rfl (tb_pair (tb_int (n:=(m18 y2.2).Code)) (tb_of (α:=TCluster) (β:=Int×(List Int)×(List TReplica)×(List TMsg)×(List TRequest)) (f:=fun x=>(x.F,x.Bad,x.Replicas,x.Ledger,x.Requests)) (x:=(m18 y2.2).Cluster) rfl (tb_pair (tb_int (n:=(m18 y2.2).Cluster.F)) (tb_pair (tb_nil (α:=Int) (fl:=false)) (tb_pair (tb_nil (α:=TReplica) (fl:=false)) (tb_pair (tb_nil (α:=TMsg) (fl:=false)) (tb_nil (α:=TRequest) (fl:=false))))))))) rfl)<|q_p fr<|q_sto1 1 rfl (fun S hS=>(HP.cell1t hS 0 rfl)) rfl<|q_lda 1 rfl rfl rfl<|q_p (fun _=>bd35_1 rfl)<|q_st 6 rfl rfl rfl (by decide) rfl<|q_outm (fun S hS=>hS.lda 6 rfl rfl) (tb_of (α:=TClusterResult) (β:=Int×TCluster) (f:=fun x=>(x.Code,x.Cluster)) (x:=(⟨0,(⟨y1.F,y1.Bad,y1.Replicas,y2.1,y1.Requests⟩:TCluster)⟩:TClusterResult)) rfl (tb_pair (tb_int (n:=0)) (tb_of (α:=TCluster) (β:=Int×(List Int)×(List TReplica)×(List TMsg)×(List TRequest)) (f:=fun x=>(x.F,x.Bad,x.Replicas,x.Ledger,x.Requests)) (x:=(⟨y1.F,y1.Bad,y1.Replicas,y2.1,y1.Requests⟩:TCluster)) rfl (tb_pair (tb_int (n:=y1.F)) (tb_pair (tb_tr 2 rfl) (tb_pair (tb_tr 3 rfl) (tb_pair (tb_tr 0 rfl) (tb_tra 5 rfl)))))))) rfl
def m5 (a0:TCluster) (a1:Int):Option (TClusterResult):=(m17 a0 a1).bind fun y1=>bif y1.2 != 0 then some (m18 y1.2) else (getI a0.Replicas y1.1).bind fun x1=>(m19 a0.F a0.Ledger x1).bind fun y2=>bif y2.Code != 0 then some (m18 y2.Code) else (m20 a0 y2.Msg).bind fun y3=>( bif y3.Code == 0 then (m21 y3.Cluster.Ledger y2.Msg).bind fun y4=>(getI y3.Cluster.Replicas y1.1).bind fun x2=>letO (y3.Cluster.Replicas.set (Int.toNat y1.1) ({ x2 with Start:=y4 })) fun z1=>some (LO.norm z1) else some (LO.norm y3.Cluster.Replicas)).bind (contO (fun s2=>some (⟨y3.Code,(⟨y3.Cluster.F,y3.Cluster.Bad,s2,y3.Cluster.Ledger,y3.Cluster.Requests⟩:TCluster)⟩:TClusterResult)) (fun i7 s2=>none) (fun s2=>some (⟨0,(⟨0,[],[],[],[]⟩:TCluster)⟩:TClusterResult)))
theorem w5 {d:Nat} (hd:12≤d) (k0:Bool) (a0:TCluster) (a1:Int):Fit (R NN d 5 [.agg (Enc.cs k0 a0),.int .i64 a1] []) (m5 a0 a1) (P0 (fun (t:TClusterResult)=>AV.agg (Enc.cs false t))):=by
  obtain ⟨d,rfl,g⟩:=up hd
  refine q_in (t5 NN d _ _) ?_
  unfold b5 m5
  refine q_box (n:=5) rfl rfl (by decide) fun b1=>q_new rfl fun b2=>q_c0 (aF2 (cv_b 1 rfl (cvs_cons (cv_p rfl) (cvs_cons cv_r (cvs_cons cv_r (cvs_cons cv_r (cvs_cons cv_r cvs_nil)))))) (cv_p rfl) fun l0_ l1_=>w17 (by omega) l0_ a0 a1) fun y1 hy1=>q_q fr<|q_q fr<|q_p fr<|q_i ?_ ?_
  ·exact q_c0t (aF1 (cv_p rfl) fun l0_=>w18 (by omega) y1.2)<|q_st 0 rfl rfl rfl (by decide) rfl<|q_retm (fun S hS=>hS.lda 0 rfl rfl) (cv_a (cvs_cons (cv_p rfl) (cvs_cons (cv_p rfl) (cvs_cons cv_r (cvs_cons cv_r (cvs_cons cv_r (cvs_cons cv_r cvs_nil))))))) rfl
  ·refine q_new rfl fun b3=>q_p fr<|q_ld 2 rfl rfl<|q_p fr<|q_ld 2 rfl rfl<|q_p fr<|q_ld 2 rfl rfl<|q_ix rfl fun x1 hx1=>q_p fr<|q_c0 (aF3 (cv_p rfl) cv_r (cv_a (cvs_e (l0:=k0) (x:=x1))) fun l0_ l1_ l2_=>w19 (by omega) a0.F l1_ a0.Ledger l2_ x1) fun y2 hy2=>q_st 0 rfl rfl rfl (by decide) rfl<|q_p fr<|q_ld 0 rfl rfl ?_
   refine q_p fr<|q_i ?_ ?_
   ·exact q_p fr<|q_ld 0 rfl rfl<|q_c0t (aF1 (cv_p rfl) fun l0_=>w18 (by omega) y2.Code)<|q_st 1 rfl rfl rfl (by decide) rfl<|q_retm (fun S hS=>hS.lda 1 rfl rfl) (cv_a (cvs_cons (cv_p rfl) (cvs_cons (cv_p rfl) (cvs_cons cv_r (cvs_cons cv_r (cvs_cons cv_r (cvs_cons cv_r cvs_nil))))))) rfl
   ·refine q_lda 2 rfl rfl rfl<|q_p fr<|q_lda 0 rfl rfl rfl<|q_c1 (W:=AV.agg) (mg:=m20 a0 y2.Msg) sh_agg (aF2 (cv_a (cvs_e (l0:=k0) (x:=a0))) (cv_a (cvs_e (l0:=false) (x:=y2.Msg))) fun l0_ l1_=>w20 (by omega) l0_ a0 l1_ y2.Msg) fun y3 hy3 i1 cs1=>q_cx (fun S hS=>trx35 (hS.get (k:=0) rfl)) fun hcs_=>?_
    obtain ⟨v1,v2,v3,v4,rfl⟩:=hcs_
    refine q_pri (x:=(y3.Code,y3.Cluster)) rfl (fun _ h=>h) fun i6=>q_xpu (x:=(y3.Cluster.F,y3.Cluster.Bad,y3.Cluster.Replicas,y3.Cluster.Ledger,y3.Cluster.Requests)) rfl (fun _ h=>h) fun i2 i3 i4 i5=>q_new rfl fun b4=>q_st 0 rfl rfl rfl (by decide) rfl<|q_cu (A:=fun (s:(List TReplica))=>[]) (B:=fun s=>[bx b4 [.int .i64 y3.Code,.int .i64 y3.Cluster.F,v1,v2,v3,v4],tr i2 [v1] (y3.Cluster.Bad:List Int),tr i3 [v2] (s:List TReplica),tr i4 [v3] (y3.Cluster.Ledger:List TMsg),tr i5 [v4] (y3.Cluster.Requests:List TRequest),bx b3 [.int .i64 y2.Code,.int .i64 y2.Msg.Kind,.int .i64 y2.Msg.View,.int .i64 y2.Msg.From,.int .i64 y2.Msg.Slot,.int .i64 y2.Msg.Value,.rsl false false (y2.Msg.Certs.map (Enc.cs false)),.rsl false false (y2.Msg.Refs.map (Enc.cs false))],bx b2 [.int .i64 0,.int .i64 0,.rsl false true [],.rsl false true [],.rsl false true [],.rsl false true []],bx b1 [.int .i64 a0.F,.rsl k0 false (a0.Bad.map (Enc.cs k0)),.rsl k0 false (a0.Replicas.map (Enc.cs k0)),.rsl k0 false (a0.Ledger.map (Enc.cs k0)),.rsl k0 false (a0.Requests.map (Enc.cs k0))]]) ?_ ?_ ?_ ?_
    ·exact q_p fr<|q_ld 0 rfl rfl<|q_p fr<|q_i (q_p fr<|q_p fr<|q_ld 0 rfl rfl<|q_p fr<|q_p fr<|q_ld 0 rfl rfl<|q_p fr<|q_c0 (aF2 (cv_tr 3 rfl) (cv_b 5 rfl (cvs_cons (cv_p rfl) (cvs_cons (cv_p rfl) (cvs_cons (cv_p rfl) (cvs_cons (cv_p rfl) (cvs_cons (cv_p rfl) (cvs_cons cv_r (cvs_cons cv_r cvs_nil)))))))) fun l0_ l1_=>w21 (by omega) l0_ y3.Cluster.Ledger l1_ y2.Msg) fun y4 hy4=>q_ixt 2 rfl rfl fun x2 hx2=>q_flt 2 rfl hx2 (by decide)<|q_stl 2 rfl rfl hx2 rfl (up58_Start y4) fun z1 hz1=>q_norm 0 rr)<|q_norm 0 rr
    ·exact fun s2=>q_lda 0 rfl rfl rfl<|q_st 6 rfl rfl rfl (by decide) rfl<|q_retm (fun S hS=>hS.lda 6 rfl rfl) (cv_a (cvs_cons (cv_p rfl) (cvs_cons (cv_p rfl) (cvs_cons (cv_tr 1 rfl) (cvs_cons (cv_tr 2 rfl) (cvs_cons (cv_tr 3 rfl) (cvs_cons (cv_tr 4 rfl) cvs_nil))))))) rfl
    ·exact fun i7 s2=>q_none
    ·exact fun s2=>q_retm (fun S hS=>hS.lda 6 rfl rfl) (cv_a (cvs_cons (cv_p rfl) (cvs_cons (cv_p rfl) (cvs_cons (cv_r (α:=Int) (l0:=false) (fl:=true) (xs:=[])) (cvs_cons (cv_r (α:=TReplica) (l0:=false) (fl:=true) (xs:=[])) (cvs_cons (cv_r (α:=TMsg) (l0:=false) (fl:=true) (xs:=[])) (cvs_cons (cv_r (α:=TRequest) (l0:=false) (fl:=true) (xs:=[])) cvs_nil))))))) rfl
def ms22_0 (a0:List Int) (s1:Int×(List Int)):Option (LO (Int×(List Int))):=bif decide (s1.1 < (a0.length:Int)) then (getI a0 s1.1).bind fun x1=>(getI s1.2 s1.1).bind fun x2=>some (LO.norm (wi .i64 (s1.1 + 1),s1.2.set (Int.toNat s1.1) x1)) else some (LO.exit 0 (s1.1,s1.2))
def m22 (a0:List Int):Option ((List Int)):=(mkO 8 (a0.length:Int) 0).bind fun z1=>(loopO (ms22_0 a0) NN (0,z1)).bind (contO (fun _=>none) (fun i1 s2=>if i1 = 0 then some s2.2 else none) (fun s2=>some []))
theorem w22 {d:Nat} (hd:1≤d) (k0:Bool) (a0:List Int):Fit (R NN d 22 [.rsl k0 false (a0.map (Enc.cs k0))] []) (m22 a0) (P1 (T:=List Int) one1):=by
  obtain ⟨d,rfl,g⟩:=up hd
  refine q_in (t22 NN d _) ?_
  unfold b22 m22
  refine q_len<|q_mk (z:=0) mk22 fun v1 z1 hz1=>q_lp (A:=fun (s:Int×(List Int))=>[.int .i64 s.1]) (B:=fun s=>[sl false v1 (s.2:List Int)]) 0 rr ?_ ?_ ?_
  ·intro s1
   unfold s22_0 ms22_0
   exact q_len<|q_p fr<|q_i (q_ix rfl fun x1 hx1=>q_p fr<|q_ixo 0 rfl rfl fun x2 hx2=>q_stoe (y:=x1) 0 rfl rfl hx2 rfl (by decide)<|q_p fr<|q_norm 0 rr)<|q_exit 0 rr
  ·exact fun i1 s2=>q_n (q_out (tb_sl 0 rfl plt2) rfl)<|q_none
  ·exact fun s2=>q_out (tb_nil (α:=Int) (fl:=true)) rfl
def m48 (a0:TReplica):TReplica:=a0
theorem w48 {d:Nat} (hd:1≤d) (k0:Bool) (a0:TReplica):Fit (R NN d 48 [.agg (Enc.cs k0 a0)] []) (some (m48 a0)) (P0 (fun (t:TReplica)=>AV.agg (Enc.cs false t))):=by
  obtain ⟨d,rfl,g⟩:=up hd
  refine q_in (t48 NN d _) ?_
  unfold b48 m48
  exact q_box (n:=4) rfl rfl (by decide) fun b1=>q_new rfl fun b2=>q_new rfl fun b3=>q_p fr<|q_ld 2 rfl rfl<|q_p fr<|q_st 0 rfl rfl rfl (by decide) rfl<|q_p fr<|q_ld 2 rfl rfl<|q_p fr<|q_st 0 rfl rfl rfl (by decide) rfl<|q_p fr<|q_ld 2 rfl rfl<|q_p fr<|q_st 0 rfl rfl rfl (by decide) rfl<|q_p fr<|q_ld 2 rfl rfl<|q_p fr<|q_st 0 rfl rfl rfl (by decide) rfl<|q_lda 0 rfl rfl rfl<|q_st 1 rfl rfl rfl (by decide) rfl<|q_retm (fun S hS=>hS.lda 1 rfl rfl) (cv_a (cvs_e (l0:=false) (x:=a0))) rfl
def ms23_0 (a0:List TReplica) (s1:Int×(List TReplica)):Option (LO (Int×(List TReplica))):=bif decide (s1.1 < (a0.length:Int)) then (getI a0 s1.1).bind fun x1=>(getI s1.2 s1.1).bind fun x2=>some (LO.norm (wi .i64 (s1.1 + 1),s1.2.set (Int.toNat s1.1) (m48 x1))) else some (LO.exit 0 (s1.1,s1.2))
def m23 (a0:List TReplica):Option ((List TReplica)):=(mkO 32 (a0.length:Int) (⟨0,0,0,0⟩:TReplica)).bind fun z1=>(loopO (ms23_0 a0) NN (0,z1)).bind (contO (fun _=>none) (fun i1 s2=>if i1 = 0 then some s2.2 else none) (fun s2=>some []))
theorem w23 {d:Nat} (hd:2≤d) (k0:Bool) (a0:List TReplica):Fit (R NN d 23 [.rsl k0 false (a0.map (Enc.cs k0))] []) (m23 a0) (P1 (T:=List TReplica) one1):=by
  obtain ⟨d,rfl,g⟩:=up hd
  refine q_in (t23 NN d _) ?_
  unfold b23 m23
  refine q_len<|q_mk (z:=(⟨0,0,0,0⟩:TReplica)) mk29 fun v1 z1 hz1=>q_lp (A:=fun (s:Int×(List TReplica))=>[.int .i64 s.1]) (B:=fun s=>[sl false v1 (s.2:List TReplica)]) 0 rr ?_ ?_ ?_
  ·intro s1
   unfold s23_0 ms23_0
   exact q_len<|q_p fr<|q_i (q_ix rfl fun x1 hx1=>q_p fr<|q_c0t (aF1 (cv_a (cvs_e (l0:=k0) (x:=x1))) fun l0_=>w48 (by omega) l0_ x1)<|q_ixo 0 rfl rfl fun x2 hx2=>q_stoe (y:=(m48 x1)) 0 rfl rfl hx2 rfl (by decide)<|q_p fr<|q_norm 0 rr)<|q_exit 0 rr
  ·exact fun i1 s2=>q_n (q_out (tb_sl 0 rfl plt58) rfl)<|q_none
  ·exact fun s2=>q_out (tb_nil (α:=TReplica) (fl:=true)) rfl
def m108 (a0:TCert):TCert:=a0
theorem w108 {d:Nat} (hd:1≤d) (k0:Bool) (a0:TCert):Fit (R NN d 108 [.agg (Enc.cs k0 a0)] []) (some (m108 a0)) (P0 (fun (t:TCert)=>AV.agg (Enc.cs false t))):=by
  obtain ⟨d,rfl,g⟩:=up hd
  refine q_in (t108 NN d _) ?_
  unfold b108 m108
  exact q_box (n:=3) rfl rfl (by decide) fun b1=>q_new rfl fun b2=>q_new rfl fun b3=>q_p fr<|q_ld 2 rfl rfl<|q_p fr<|q_st 0 rfl rfl rfl (by decide) rfl<|q_p fr<|q_ld 2 rfl rfl<|q_p fr<|q_st 0 rfl rfl rfl (by decide) rfl<|q_p fr<|q_ld 2 rfl rfl<|q_p fr<|q_st 0 rfl rfl rfl (by decide) rfl<|q_lda 0 rfl rfl rfl<|q_st 1 rfl rfl rfl (by decide) rfl<|q_retm (fun S hS=>hS.lda 1 rfl rfl) (cv_a (cvs_e (l0:=false) (x:=a0))) rfl
def ms79_0 (a0:List TCert) (s1:Int×(List TCert)):Option (LO (Int×(List TCert))):=bif decide (s1.1 < (a0.length:Int)) then (getI a0 s1.1).bind fun x1=>(getI s1.2 s1.1).bind fun x2=>some (LO.norm (wi .i64 (s1.1 + 1),s1.2.set (Int.toNat s1.1) (m108 x1))) else some (LO.exit 0 (s1.1,s1.2))
def m79 (a0:List TCert):Option ((List TCert)):=(mkO 24 (a0.length:Int) (⟨0,0,0⟩:TCert)).bind fun z1=>(loopO (ms79_0 a0) NN (0,z1)).bind (contO (fun _=>none) (fun i1 s2=>if i1 = 0 then some s2.2 else none) (fun s2=>some []))
theorem w79 {d:Nat} (hd:2≤d) (k0:Bool) (a0:List TCert):Fit (R NN d 79 [.rsl k0 false (a0.map (Enc.cs k0))] []) (m79 a0) (P1 (T:=List TCert) one1):=by
  obtain ⟨d,rfl,g⟩:=up hd
  refine q_in (t79 NN d _) ?_
  unfold b79 m79
  refine q_len<|q_mk (z:=(⟨0,0,0⟩:TCert)) mk51 fun v1 z1 hz1=>q_lp (A:=fun (s:Int×(List TCert))=>[.int .i64 s.1]) (B:=fun s=>[sl false v1 (s.2:List TCert)]) 0 rr ?_ ?_ ?_
  ·intro s1
   unfold s79_0 ms79_0
   exact q_len<|q_p fr<|q_i (q_ix rfl fun x1 hx1=>q_p fr<|q_c0t (aF1 (cv_a (cvs_e (l0:=k0) (x:=x1))) fun l0_=>w108 (by omega) l0_ x1)<|q_ixo 0 rfl rfl fun x2 hx2=>q_stoe (y:=(m108 x1)) 0 rfl rfl hx2 rfl (by decide)<|q_p fr<|q_norm 0 rr)<|q_exit 0 rr
  ·exact fun i1 s2=>q_n (q_out (tb_sl 0 rfl plt124) rfl)<|q_none
  ·exact fun s2=>q_out (tb_nil (α:=TCert) (fl:=true)) rfl
def m49 (a0:TMsg):Option (TMsg):=(m79 a0.Certs).bind fun y1=>(m22 a0.Refs).bind fun y2=>some (⟨a0.Kind,a0.View,a0.From,a0.Slot,a0.Value,y1,y2⟩:TMsg)
theorem w49 {d:Nat} (hd:3≤d) (k0:Bool) (a0:TMsg):Fit (R NN d 49 [.agg (Enc.cs k0 a0)] []) (m49 a0) (P1 (T:=TMsg) AV.agg):=by
  obtain ⟨d,rfl,g⟩:=up hd
  refine q_in (t49 NN d _) ?_
  unfold b49 m49
  exact q_box (n:=7) rfl rfl (by decide) fun b1=>q_new rfl fun b2=>q_new rfl fun b3=>q_p fr<|q_ld 2 rfl rfl<|q_p fr<|q_st 0 rfl rfl rfl (by decide) rfl<|q_p fr<|q_ld 2 rfl rfl<|q_p fr<|q_st 0 rfl rfl rfl (by decide) rfl<|q_p fr<|q_ld 2 rfl rfl<|q_p fr<|q_st 0 rfl rfl rfl (by decide) rfl<|q_p fr<|q_ld 2 rfl rfl<|q_p fr<|q_st 0 rfl rfl rfl (by decide) rfl<|q_p fr<|q_ld 2 rfl rfl<|q_p fr<|q_st 0 rfl rfl rfl (by decide) rfl<|q_p fr<|q_ld 2 rfl rfl<|q_c1s (mg:=m79 a0.Certs) (aF1 cv_r fun l0_=>w79 (by omega) l0_ a0.Certs) fun y1 hy1 i1 v1=>q_p fr<|q_sto1 1 rfl (fun S hS=>(HP.cell1t hS 0 rfl)) rfl<|q_p fr<|q_ld 3 rfl rfl<|q_c1s (mg:=m22 a0.Refs) (aF1 cv_r fun l0_=>w22 (by omega) l0_ a0.Refs) fun y2 hy2 i2 v2=>q_p fr<|q_sto1 2 rfl (fun S hS=>(HP.cell1t hS 0 rfl)) rfl<|q_lda 2 rfl rfl rfl<|q_st 3 rfl rfl rfl (by decide) rfl<|q_outm (fun S hS=>hS.lda 3 rfl rfl) (tb_of (α:=TMsg) (β:=Int×Int×Int×Int×Int×(List TCert)×(List Int)) (f:=fun x=>(x.Kind,x.View,x.From,x.Slot,x.Value,x.Certs,x.Refs)) (x:=(⟨a0.Kind,a0.View,a0.From,a0.Slot,a0.Value,y1,y2⟩:TMsg)) rfl (tb_pair (tb_int (n:=a0.Kind)) (tb_pair (tb_int (n:=a0.View)) (tb_pair (tb_int (n:=a0.From)) (tb_pair (tb_int (n:=a0.Slot)) (tb_pair (tb_int (n:=a0.Value)) (tb_pair (tb_tr 1 rfl) (tb_tr 0 rfl)))))))) rfl
def ms24_0 (a0:List TMsg) (s1:Int×(List TMsg)):Option (LO (Int×(List TMsg))):=bif decide (s1.1 < (a0.length:Int)) then (getI a0 s1.1).bind fun x1=>(m49 x1).bind fun y1=>(getI s1.2 s1.1).bind fun x2=>some (LO.norm (wi .i64 (s1.1 + 1),s1.2.set (Int.toNat s1.1) y1)) else some (LO.exit 0 (s1.1,s1.2))
def m24 (a0:List TMsg):Option ((List TMsg)):=(mkO 88 (a0.length:Int) (⟨0,0,0,0,0,[],[]⟩:TMsg)).bind fun z1=>(loopO (ms24_0 a0) NN (0,z1)).bind (contO (fun _=>none) (fun i5 s2=>if i5 = 0 then some s2.2 else none) (fun s2=>some []))
theorem w24 {d:Nat} (hd:4≤d) (k0:Bool) (a0:List TMsg):Fit (R NN d 24 [.rsl k0 false (a0.map (Enc.cs k0))] []) (m24 a0) (P1 (T:=List TMsg) one1):=by
  obtain ⟨d,rfl,g⟩:=up hd
  refine q_in (t24 NN d _) ?_
  unfold b24 m24
  refine q_len<|q_mkt (z:=(⟨0,0,0,0,0,[],[]⟩:TMsg)) mk30 ztr53 fun z1 hz1 v1 i1=>q_loop (I:=(fun (s:Int×(List TMsg)) l L=>∃ (i2:List Nat),l = [.int .i64 s.1]∧L = [tr i2 [v1] (s.2:List TMsg)])) 0 ⟨i1,rfl,rfl⟩ ?_ ?_ ?_
  ·rintro s1 _ _ ⟨i2,rfl,rfl⟩
   unfold s24_0 ms24_0
   refine q_len<|q_p fr<|q_i ?_ ?_
   ·refine q_ix rfl fun x1 hx1=>q_p fr<|q_c1 (W:=AV.agg) (mg:=m49 x1) sh_agg (aF1 (cv_a (cvs_e (l0:=k0) (x:=x1))) fun l0_=>w49 (by omega) l0_ x1) fun y1 hy1 i3 cs1=>q_cx (fun S hS=>trx53 (hS.get (k:=0) rfl)) fun hcs_=>?_
    obtain ⟨v2,v3,rfl⟩:=hcs_
    exact q_ixt 1 rfl rfl fun x2 hx2=>q_ste rfl (by decide) hx2 rfl fun i4=>q_p fr<|q_norm 0 ⟨i4,rfl,rfl⟩
   ·exact q_exit 0 ⟨i2,rfl,rfl⟩
  ·rintro i5 s2 _ _ ⟨i6,rfl,rfl⟩
   exact q_n (q_out (tb_tr 0 rfl) rfl)<|q_none
  ·rintro s2 _ _ ⟨i7,rfl,rfl⟩
   exact q_out (tb_nil (α:=TMsg) (fl:=true)) rfl
def m109 (a0:TOp):TOp:=a0
theorem w109 {d:Nat} (hd:1≤d) (k0:Bool) (a0:TOp):Fit (R NN d 109 [.agg (Enc.cs k0 a0)] []) (some (m109 a0)) (P0 (fun (t:TOp)=>AV.agg (Enc.cs false t))):=by
  obtain ⟨d,rfl,g⟩:=up hd
  refine q_in (t109 NN d _) ?_
  unfold b109 m109
  exact q_box (n:=6) rfl rfl (by decide) fun b1=>q_new rfl fun b2=>q_new rfl fun b3=>q_p fr<|q_ld 2 rfl rfl<|q_p fr<|q_st 0 rfl rfl rfl (by decide) rfl<|q_p fr<|q_ld 2 rfl rfl<|q_p fr<|q_st 0 rfl rfl rfl (by decide) rfl<|q_p fr<|q_ld 2 rfl rfl<|q_p fr<|q_st 0 rfl rfl rfl (by decide) rfl<|q_p fr<|q_ld 2 rfl rfl<|q_p fr<|q_st 0 rfl rfl rfl (by decide) rfl<|q_p fr<|q_ld 2 rfl rfl<|q_p fr<|q_st 0 rfl rfl rfl (by decide) rfl<|q_p fr<|q_ld 2 rfl rfl<|q_p fr<|q_st 0 rfl rfl rfl (by decide) rfl<|q_lda 0 rfl rfl rfl<|q_st 1 rfl rfl rfl (by decide) rfl<|q_retm (fun S hS=>hS.lda 1 rfl rfl) (cv_a (cvs_e (l0:=false) (x:=a0))) rfl
def ms80_0 (a0:List TOp) (s1:Int×(List TOp)):Option (LO (Int×(List TOp))):=bif decide (s1.1 < (a0.length:Int)) then (getI a0 s1.1).bind fun x1=>(getI s1.2 s1.1).bind fun x2=>some (LO.norm (wi .i64 (s1.1 + 1),s1.2.set (Int.toNat s1.1) (m109 x1))) else some (LO.exit 0 (s1.1,s1.2))
def m80 (a0:List TOp):Option ((List TOp)):=(mkO 48 (a0.length:Int) (⟨0,[],0,0,false,false⟩:TOp)).bind fun z1=>(loopO (ms80_0 a0) NN (0,z1)).bind (contO (fun _=>none) (fun i1 s2=>if i1 = 0 then some s2.2 else none) (fun s2=>some []))
theorem w80 {d:Nat} (hd:2≤d) (k0:Bool) (a0:List TOp):Fit (R NN d 80 [.rsl k0 false (a0.map (Enc.cs k0))] []) (m80 a0) (P1 (T:=List TOp) one1):=by
  obtain ⟨d,rfl,g⟩:=up hd
  refine q_in (t80 NN d _) ?_
  unfold b80 m80
  refine q_len<|q_mk (z:=(⟨0,[],0,0,false,false⟩:TOp)) mk97 fun v1 z1 hz1=>q_lp (A:=fun (s:Int×(List TOp))=>[.int .i64 s.1]) (B:=fun s=>[sl false v1 (s.2:List TOp)]) 0 rr ?_ ?_ ?_
  ·intro s1
   unfold s80_0 ms80_0
   exact q_len<|q_p fr<|q_i (q_ix rfl fun x1 hx1=>q_p fr<|q_c0t (aF1 (cv_a (cvs_e (l0:=k0) (x:=x1))) fun l0_=>w109 (by omega) l0_ x1)<|q_ixo 0 rfl rfl fun x2 hx2=>q_stoe (y:=(m109 x1)) 0 rfl rfl hx2 rfl (by decide)<|q_p fr<|q_norm 0 rr)<|q_exit 0 rr
  ·exact fun i1 s2=>q_n (q_out (tb_sl 0 rfl plt135) rfl)<|q_none
  ·exact fun s2=>q_out (tb_nil (α:=TOp) (fl:=true)) rfl
def m50 (a0:TRequest):Option (TRequest):=(m80 a0.Ops).bind fun y1=>some (⟨a0.Client,a0.Number,a0.Time,y1⟩:TRequest)
theorem w50 {d:Nat} (hd:3≤d) (k0:Bool) (a0:TRequest):Fit (R NN d 50 [.agg (Enc.cs k0 a0)] []) (m50 a0) (P1 (T:=TRequest) AV.agg):=by
  obtain ⟨d,rfl,g⟩:=up hd
  refine q_in (t50 NN d _) ?_
  unfold b50 m50
  exact q_box (n:=4) rfl rfl (by decide) fun b1=>q_new rfl fun b2=>q_new rfl fun b3=>q_p fr<|q_ld 2 rfl rfl<|q_p fr<|q_st 0 rfl rfl rfl (by decide) rfl<|q_p fr<|q_ld 2 rfl rfl<|q_p fr<|q_st 0 rfl rfl rfl (by decide) rfl<|q_p fr<|q_ld 2 rfl rfl<|q_p fr<|q_st 0 rfl rfl rfl (by decide) rfl<|q_p fr<|q_ld 2 rfl rfl<|q_c1s (mg:=m80 a0.Ops) (aF1 cv_r fun l0_=>w80 (by omega) l0_ a0.Ops) fun y1 hy1 i1 v1=>q_p fr<|q_sto1 1 rfl (fun S hS=>(HP.cell1t hS 0 rfl)) rfl<|q_lda 1 rfl rfl rfl<|q_st 2 rfl rfl rfl (by decide) rfl<|q_outm (fun S hS=>hS.lda 2 rfl rfl) (tb_of (α:=TRequest) (β:=Int×Int×Int×(List TOp)) (f:=fun x=>(x.Client,x.Number,x.Time,x.Ops)) (x:=(⟨a0.Client,a0.Number,a0.Time,y1⟩:TRequest)) rfl (tb_pair (tb_int (n:=a0.Client)) (tb_pair (tb_int (n:=a0.Number)) (tb_pair (tb_int (n:=a0.Time)) (tb_tr 0 rfl))))) rfl
def ms25_0 (a0:List TRequest) (s1:Int×(List TRequest)):Option (LO (Int×(List TRequest))):=bif decide (s1.1 < (a0.length:Int)) then (getI a0 s1.1).bind fun x1=>(m50 x1).bind fun y1=>(getI s1.2 s1.1).bind fun x2=>some (LO.norm (wi .i64 (s1.1 + 1),s1.2.set (Int.toNat s1.1) y1)) else some (LO.exit 0 (s1.1,s1.2))
def m25 (a0:List TRequest):Option ((List TRequest)):=(mkO 48 (a0.length:Int) (⟨0,0,0,[]⟩:TRequest)).bind fun z1=>(loopO (ms25_0 a0) NN (0,z1)).bind (contO (fun _=>none) (fun i5 s2=>if i5 = 0 then some s2.2 else none) (fun s2=>some []))
theorem w25 {d:Nat} (hd:4≤d) (k0:Bool) (a0:List TRequest):Fit (R NN d 25 [.rsl k0 false (a0.map (Enc.cs k0))] []) (m25 a0) (P1 (T:=List TRequest) one1):=by
  obtain ⟨d,rfl,g⟩:=up hd
  refine q_in (t25 NN d _) ?_
  unfold b25 m25
  refine q_len<|q_mkt (z:=(⟨0,0,0,[]⟩:TRequest)) mk31 ztr99 fun z1 hz1 v1 i1=>q_loop (I:=(fun (s:Int×(List TRequest)) l L=>∃ (i2:List Nat),l = [.int .i64 s.1]∧L = [tr i2 [v1] (s.2:List TRequest)])) 0 ⟨i1,rfl,rfl⟩ ?_ ?_ ?_
  ·rintro s1 _ _ ⟨i2,rfl,rfl⟩
   unfold s25_0 ms25_0
   refine q_len<|q_p fr<|q_i ?_ ?_
   ·refine q_ix rfl fun x1 hx1=>q_p fr<|q_c1 (W:=AV.agg) (mg:=m50 x1) sh_agg (aF1 (cv_a (cvs_e (l0:=k0) (x:=x1))) fun l0_=>w50 (by omega) l0_ x1) fun y1 hy1 i3 cs1=>q_cx (fun S hS=>trx99 (hS.get (k:=0) rfl)) fun hcs_=>?_
    obtain ⟨v2,rfl⟩:=hcs_
    exact q_ixt 1 rfl rfl fun x2 hx2=>q_ste rfl (by decide) hx2 rfl fun i4=>q_p fr<|q_norm 0 ⟨i4,rfl,rfl⟩
   ·exact q_exit 0 ⟨i2,rfl,rfl⟩
  ·rintro i5 s2 _ _ ⟨i6,rfl,rfl⟩
   exact q_n (q_out (tb_tr 0 rfl) rfl)<|q_none
  ·rintro s2 _ _ ⟨i7,rfl,rfl⟩
   exact q_out (tb_nil (α:=TRequest) (fl:=true)) rfl
def m6 (a0:TCluster):Option (TCluster):=(m22 a0.Bad).bind fun y1=>(m23 a0.Replicas).bind fun y2=>(m24 a0.Ledger).bind fun y3=>(m25 a0.Requests).bind fun y4=>some (⟨a0.F,y1,y2,y3,y4⟩:TCluster)
theorem w6 {d:Nat} (hd:5≤d) (k0:Bool) (a0:TCluster):Fit (R NN d 6 [.agg (Enc.cs k0 a0)] []) (m6 a0) (P1 (T:=TCluster) AV.agg):=by
  obtain ⟨d,rfl,g⟩:=up hd
  refine q_in (t6 NN d _) ?_
  unfold b6 m6
  exact q_box (n:=5) rfl rfl (by decide) fun b1=>q_new rfl fun b2=>q_new rfl fun b3=>q_p fr<|q_ld 2 rfl rfl<|q_p fr<|q_st 0 rfl rfl rfl (by decide) rfl<|q_p fr<|q_ld 2 rfl rfl<|q_c1s (mg:=m22 a0.Bad) (aF1 cv_r fun l0_=>w22 (by omega) l0_ a0.Bad) fun y1 hy1 i1 v1=>q_p fr<|q_sto1 1 rfl (fun S hS=>(HP.cell1t hS 0 rfl)) rfl<|q_p fr<|q_ld 3 rfl rfl<|q_c1s (mg:=m23 a0.Replicas) (aF1 cv_r fun l0_=>w23 (by omega) l0_ a0.Replicas) fun y2 hy2 i2 v2=>q_p fr<|q_sto1 2 rfl (fun S hS=>(HP.cell1t hS 0 rfl)) rfl<|q_p fr<|q_ld 4 rfl rfl<|q_c1s (mg:=m24 a0.Ledger) (aF1 cv_r fun l0_=>w24 (by omega) l0_ a0.Ledger) fun y3 hy3 i3 v3=>q_p fr<|q_sto1 3 rfl (fun S hS=>(HP.cell1t hS 0 rfl)) rfl<|q_p fr<|q_ld 5 rfl rfl<|q_c1s (mg:=m25 a0.Requests) (aF1 cv_r fun l0_=>w25 (by omega) l0_ a0.Requests) fun y4 hy4 i4 v4=>q_p fr<|q_sto1 4 rfl (fun S hS=>(HP.cell1t hS 0 rfl)) rfl<|q_lda 4 rfl rfl rfl<|q_st 5 rfl rfl rfl (by decide) rfl<|q_outm (fun S hS=>hS.lda 5 rfl rfl) (tb_of (α:=TCluster) (β:=Int×(List Int)×(List TReplica)×(List TMsg)×(List TRequest)) (f:=fun x=>(x.F,x.Bad,x.Replicas,x.Ledger,x.Requests)) (x:=(⟨a0.F,y1,y2,y3,y4⟩:TCluster)) rfl (tb_pair (tb_int (n:=a0.F)) (tb_pair (tb_tr 3 rfl) (tb_pair (tb_tr 2 rfl) (tb_pair (tb_tr 1 rfl) (tb_tr 0 rfl)))))) rfl
theorem w6f {d:Nat} (hd:5≤d) (k0:Bool) (a0:TCluster):Fit (R NN d 6 [.agg (Enc.cs k0 a0)] []) (m6 a0) (P0 (fun (t:TCluster)=>AV.agg (Enc.cs false t))):=p1_agg (w6 hd k0 a0)
def m124 (a0:Int):Int:=wi .i64 ((wi .i64 (3 * a0)) + 1)
theorem w124 {d:Nat} (hd:1≤d) (a0:Int):Fit (R NN d 124 [.int .i64 a0] []) (some (m124 a0)) PI:=by
  obtain ⟨d,rfl,g⟩:=up hd
  refine q_in (t124 NN d _) ?_
  unfold b124 m124
  exact q_p fr<|q_p fr<|q_ret (cv_p rfl) rfl
def m84 (a0:Int) (a1:Int):Option (Int):=(remO a1 (m124 a0)).bind fun q1=>some (wi .i64 (1 + q1))
theorem w84 {d:Nat} (hd:2≤d) (a0:Int) (a1:Int):Fit (R NN d 84 [.int .i64 a0,.int .i64 a1] []) (m84 a0 a1) PI:=by
  obtain ⟨d,rfl,g⟩:=up hd
  refine q_in (t84 NN d _ _) ?_
  unfold b84 m84
  exact q_c0t (aF1 (cv_p rfl) fun l0_=>w124 (by omega) a0)<|q_rem2 fun q1 hq1=>q_p fr<|q_ret (cv_p rfl) rfl
def ms158_0 (a0:List Int) (a1:Int) (s1:Int×Int):Option (LO (Int×Int)):=bif decide (s1.2 < (a0.length:Int)) then (getI a0 s1.2).bind fun x1=>bif a1 == x1 then some (LO.ret (s1.2,s1.2)) else some (LO.norm (s1.1,wi .i64 (s1.2 + 1))) else some (LO.exit 0 (s1.1,s1.2))
def m158 (a0:List Int) (a1:Int):Option (Int):=(loopO (ms158_0 a0 a1) NN (0,0)).bind (contO (fun _=>none) (fun i1 s2=>if i1 = 0 then some (-1) else none) (fun s2=>some s2.1))
theorem w158 {d:Nat} (hd:1≤d) (k0:Bool) (a0:List Int) (a1:Int):Fit (R NN d 158 [.rsl k0 false (a0.map (Enc.cs k0)),.int .i64 a1] []) (m158 a0 a1) PI:=by
  obtain ⟨d,rfl,g⟩:=up hd
  refine q_in (t158 NN d _ _) ?_
  unfold b158 m158
  refine q_len<|q_lp (A:=fun (s:Int×Int)=>[.int .i64 s.1,.int .i64 s.2]) (B:=fun s=>[]) 0 rr ?_ ?_ ?_
  ·intro s1
   unfold s158_0 ms158_0
   exact q_p fr<|q_i (q_ix rfl fun x1 hx1=>q_p fr<|q_p fr<|q_i (q_lret 0 rr)<|q_p fr<|q_norm 0 rr)<|q_exit 0 rr
  ·exact fun i1 s2=>q_n (q_ret (cv_p rfl) rfl)<|q_none
  ·exact fun s2=>q_ret (cv_p rfl) rfl
def m125 (a0:List Int) (a1:Int):Option (Bool):=(m158 a0 a1).bind fun y1=>some (decide (y1 ≥ 0))
theorem w125 {d:Nat} (hd:2≤d) (k0:Bool) (a0:List Int) (a1:Int):Fit (R NN d 125 [.rsl k0 false (a0.map (Enc.cs k0)),.int .i64 a1] []) (m125 a0 a1) PB:=by
  obtain ⟨d,rfl,g⟩:=up hd
  refine q_in (t125 NN d _ _) ?_
  unfold b125 m125
  exact q_c0 (aF2 cv_r (cv_p rfl) fun l0_ l1_=>w158 (by omega) l0_ a0 a1) fun y1 hy1=>q_p fr<|q_ret (cv_p rfl) rfl
def m148 (a0:Int) (a1:Int) (a2:Int):Bool:=bif decide (a1≤a0) then decide (a0≤a2) else false
theorem w148 {d:Nat} (hd:1≤d) (a0:Int) (a1:Int) (a2:Int):Fit (R NN d 148 [.int .i64 a0,.int .i64 a1,.int .i64 a2] []) (some (m148 a0 a1 a2)) PB:=by
  obtain ⟨d,rfl,g⟩:=up hd
  refine q_in (t148 NN d _ _ _) ?_
  unfold b148 m148
  exact q_p fr<|q_gTt (fun h1=>q_p fr<|q_ret (cv_p rfl) rfl) fun h1=>q_ret (cv_p rfl) rfl
def m159 (a0:List TMsg) (a1:Int) (a2:Int):Option (TMsg×Bool):=bif !(m148 a1 0 (wi .i64 ((a0.length:Int) - 1))) then some ((⟨0,0,0,0,0,[],[]⟩:TMsg),false) else (getI a0 a1).bind fun x1=>bif x1.Kind == a2 then some (x1,decide (x1.View > 0)) else some (x1,false)
theorem w159 {d:Nat} (hd:2≤d) (L0:List En) (k0:Bool) (f0_:Bool) (a0:List TMsg) (a1:Int) (a2:Int):Okh (L0) (fun S=>R NN d 159 [.rsl k0 f0_ (a0.map (Enc.cs k0)),.int .i64 a1,.int .i64 a2] S) (m159 a0 a1 a2) (P3 (fun (x:Bool×Bool×Bool×Bool) (t:TMsg×Bool)=>AV.tup [AV.agg [.int .i64 t.1.Kind,.int .i64 t.1.View,.int .i64 t.1.From,.int .i64 t.1.Slot,.int .i64 t.1.Value,.rsl x.1 x.2.1 (t.1.Certs.map (Enc.cs x.1)),.rsl x.2.2.1 x.2.2.2 (t.1.Refs.map (Enc.cs x.2.2.1))],AV.bool t.2]) (fun (_:TMsg×Bool)=>L0)):=by
  obtain ⟨d,rfl,g⟩:=up hd
  refine q_to (t159 NN d _ _ _) ?_
  unfold b159 m159
  exact q_new rfl fun b1=>q_len<|q_p fr<|q_c0t (aF3 (cv_p rfl) (cv_p rfl) (cv_p rfl) fun l0_ l1_ l2_=>w148 (by omega) a1 0 (wi .i64 ((a0.length:Int) - 1)))<|q_p fr<|q_i (q_p (fun _=>bd53 rfl)<|q_st 0 rfl rfl rfl (by decide) rfl<|q_retm3 (false,true,false,true) 1 (fun S hS=>res2_of (hS.lda 0 rfl rfl) rfl) rfl rfl)<|q_ix rfl fun x1 hx1=>q_p fr<|q_new rfl fun b2=>q_st 0 rfl rfl rfl (by decide) rfl<|q_lda 0 rfl rfl rfl<|q_p fr<|q_ld 0 rfl rfl<|q_p fr<|q_k (q_p fr<|q_ld 0 rfl rfl<|q_p fr<|q_st 1 rfl rfl rfl (by decide) rfl<|q_ap (fun S hS=>(and_t (hS.ap 0 1 rfl rfl (by decide)) rfl))<|q_retm3 (k0,false,k0,false) 2 (fun S hS=>res2_of (hS.lda 1 rfl rfl) rfl) rfl rfl)<|q_st 1 rfl rfl rfl (by decide) rfl<|q_ap (fun S hS=>(and_t rfl rfl))<|q_retm3 (k0,false,k0,false) 2 (fun S hS=>res2_of (hS.lda 1 rfl rfl) rfl) rfl rfl
def ms183_0 (a0:List TCert) (a1:TCert→Option (Bool)) (s1:Int×Int):Option (LO (Int×Int)):=bif decide (s1.2 < (a0.length:Int)) then (getI a0 s1.2).bind fun x1=>(a1 x1).bind fun y1=>bif y1 then some (LO.ret (s1.2,s1.2)) else some (LO.norm (s1.1,wi .i64 (s1.2 + 1))) else some (LO.exit 0 (s1.1,s1.2))
def m183 (a0:List TCert) (a1:TCert→Option (Bool)):Option (Int):=(loopO (ms183_0 a0 a1) NN (0,0)).bind (contO (fun _=>none) (fun i1 s2=>if i1 = 0 then some (-1) else none) (fun s2=>some s2.1))
theorem w183 {Dc:Nat} {d:Nat} (hd:Dc + 1≤d) (k0:Bool) (a0:List TCert) (c1:Bool→AV) (hc1:∀ l,CV 8 [] false (c1 l) c1) (a1:TCert→Option (Bool)) (tc1:∀ (d:Nat),Dc≤d→∀ (l:Bool) (q0:Bool) (x0:TCert) (S:St) (t:Bool),a1 x0 = some t→callV (cfg NN) (R NN d) 183 (c1 l) [.agg (Enc.cs q0 x0)] S = some ((fun (t:Bool)=>AV.bool t) t,S)) (k1:Bool):Fit (R NN d 183 [.rsl k0 false (a0.map (Enc.cs k0)),c1 k1] []) (m183 a0 a1) PI:=by
  obtain ⟨d,rfl,g⟩:=up hd
  refine q_in (t183 NN d _ _) ?_
  unfold b183 m183
  refine q_len<|q_lp (A:=fun (s:Int×Int)=>[.int .i64 s.1,.int .i64 s.2]) (B:=fun s=>[]) 0 rr ?_ ?_ ?_
  ·intro s1
   unfold s183_0 ms183_0
   exact q_p fr<|q_i (q_ix rfl fun x1 hx1=>q_p fr<|q_cv (mg:=a1 x1) (E:=(fun (t:Bool)=>AV.bool t)) (fun S t ht=>tc1 d (by omega) k1 k0 x1 S t ht) fun y1 hy1=>q_i (q_lret 0 rr)<|q_p fr<|q_norm 0 rr)<|q_exit 0 rr
  ·exact fun i1 s2=>q_n (q_ret (cv_p rfl) rfl)<|q_none
  ·exact fun s2=>q_ret (cv_p rfl) rfl
def m160 (a0:List TCert) (a1:TCert→Option (Bool)):Option (Bool):=(m183 a0 a1).bind fun y1=>some (decide (y1 ≥ 0))
theorem w160 {Dc:Nat} {d:Nat} (hd:Dc + 2≤d) (k0:Bool) (a0:List TCert) (c1:Bool→AV) (hc1:∀ l,CV 8 [] false (c1 l) c1) (a1:TCert→Option (Bool)) (tc1:∀ (d:Nat),Dc≤d→∀ (l:Bool) (q0:Bool) (x0:TCert) (S:St) (t:Bool),a1 x0 = some t→callV (cfg NN) (R NN d) 183 (c1 l) [.agg (Enc.cs q0 x0)] S = some ((fun (t:Bool)=>AV.bool t) t,S)) (k1:Bool):Fit (R NN d 160 [.rsl k0 false (a0.map (Enc.cs k0)),c1 k1] []) (m160 a0 a1) PB:=by
  obtain ⟨d,rfl,g⟩:=up hd
  refine q_in (t160 NN d _ _) ?_
  unfold b160 m160
  exact q_c0 (aF2 cv_r (CV.any (hc1 k1)) fun l0_ l1_=>w183 (by omega) l0_ a0 c1 hc1 a1 tc1 l1_) fun y1 hy1=>q_p fr<|q_ret (cv_p rfl) rfl
def m147 (a0:Int):Bool:=(m148 a0 0 20)
theorem w147 {d:Nat} (hd:2≤d) (a0:Int):Fit (R NN d 147 [.int .i64 a0] []) (some (m147 a0)) PB:=by
  obtain ⟨d,rfl,g⟩:=up hd
  refine q_in (t147 NN d _) ?_
  unfold b147 m147
  exact q_c0t (aF3 (cv_p rfl) (cv_p rfl) (cv_p rfl) fun l0_ l1_ l2_=>w148 (by omega) a0 0 20)<|q_ret (cv_p rfl) rfl
def m171 (a0:Int):Bool:=(m148 a0 1 30)
theorem w171 {d:Nat} (hd:2≤d) (a0:Int):Fit (R NN d 171 [.int .i64 a0] []) (some (m171 a0)) PB:=by
  obtain ⟨d,rfl,g⟩:=up hd
  refine q_in (t171 NN d _) ?_
  unfold b171 m171
  exact q_c0t (aF3 (cv_p rfl) (cv_p rfl) (cv_p rfl) fun l0_ l1_ l2_=>w148 (by omega) a0 1 30)<|q_ret (cv_p rfl) rfl
def m172 (a0:Int):Bool:=(m148 a0 0 12)
theorem w172 {d:Nat} (hd:2≤d) (a0:Int):Fit (R NN d 172 [.int .i64 a0] []) (some (m172 a0)) PB:=by
  obtain ⟨d,rfl,g⟩:=up hd
  refine q_in (t172 NN d _) ?_
  unfold b172 m172
  exact q_c0t (aF3 (cv_p rfl) (cv_p rfl) (cv_p rfl) fun l0_ l1_ l2_=>w148 (by omega) a0 0 12)<|q_ret (cv_p rfl) rfl
def m214 (a0:Int):Bool:=a0 != a0
theorem w214 {d:Nat} (hd:1≤d) (a0:Int):Fit (R NN d 214 [.int .i64 a0] []) (some (m214 a0)) PB:=by
  obtain ⟨d,rfl,g⟩:=up hd
  refine q_in (t214 NN d _) ?_
  unfold b214 m214
  exact q_p fr<|q_ret (cv_p rfl) rfl
def m200 (a0:Int) (a1:Int):Option (Bool):=( bif (m214 a0) then bif !(m214 a1) then some (LO.norm true) else some (LO.norm (decide (a0 < a1))) else some (LO.norm (decide (a0 < a1)))).bind (contO (fun s2=>some s2) (fun i1 s2=>none) (fun s2=>some s2))
theorem w200 {d:Nat} (hd:2≤d) (a0:Int) (a1:Int):Fit (R NN d 200 [.int .i64 a0,.int .i64 a1] []) (m200 a0 a1) PB:=by
  obtain ⟨d,rfl,g⟩:=up hd
  refine q_in (t200 NN d _ _) ?_
  unfold b200 m200
  refine q_cu (A:=fun (s:Bool)=>[.bool s]) (B:=fun s=>[]) ?_ ?_ ?_ ?_
  ·exact q_c0t (aF1 (cv_p rfl) fun l0_=>w214 (by omega) a0)<|q_k (q_c0t (aF1 (cv_p rfl) fun l0_=>w214 (by omega) a1)<|q_p fr<|q_j (q_norm 0 rr)<|q_p fr<|q_norm 0 rr)<|q_p fr<|q_norm 0 rr
  ·exact fun s2=>q_ret (cv_p rfl) rfl
  ·exact fun i1 s2=>q_none
  ·exact fun s2=>q_ret (cv_p rfl) rfl
def ms194_0 (a1:Int) (s2:Int×(List Int)):Option (LO (Int×(List Int))):=( ( bif decide (s2.1 > a1) then (getI s2.2 s2.1).bind fun x1=>(getI s2.2 (wi .i64 (s2.1 - 1))).bind fun x2=>(m200 x1 x2).bind fun y1=>some (LO.norm y1) else some (LO.norm false)).bind (contO (fun s5=>bif s5 then some (LO.norm s5) else some (LO.exit 2 s5)) (fun i1 s5=>some (LO.exit i1 s5)) (fun s5=>some (LO.ret s5)))).bind (contO (fun s6=>(getI s2.2 (wi .i64 (s2.1 - 1))).bind fun x3=>(getI s2.2 s2.1).bind fun x4=>(getI s2.2 s2.1).bind fun x5=>(getI (s2.2.set (Int.toNat s2.1) x3) (wi .i64 (s2.1 - 1))).bind fun x6=>some (LO.norm (wi .i64 (s2.1 - 1),(s2.2.set (Int.toNat s2.1) x3).set (Int.toNat (wi .i64 (s2.1 - 1))) x4))) (fun i2 s6=>some (LO.exit i2 (s2.1,s2.2))) (fun s6=>some (LO.ret (s2.1,s2.2))))
def ms194_1 (a1:Int) (a2:Int) (s1:Int×(List Int)):Option (LO (Int×(List Int))):=bif decide (s1.1 < a2) then (loopO (ms194_0 a1) NN (s1.1,s1.2)).bind (contO (fun _=>none) (fun i3 s7=>if i3 = 2 then some (LO.norm (wi .i64 (s1.1 + 1),s7.2)) else if i3 = 1 then some (LO.norm (wi .i64 (s1.1 + 1),s7.2)) else some (LO.exit i3 (s1.1,s7.2))) (fun s7=>some (LO.ret (s1.1,s7.2)))) else some (LO.exit 0 (s1.1,s1.2))
def m194 (a0:List Int) (a1:Int) (a2:Int):Option ((List Int)):=(loopO (ms194_1 a1 a2) NN (wi .i64 (a1 + 1),a0)).bind (contO (fun _=>none) (fun i4 s8=>if i4 = 0 then some s8.2 else none) (fun s8=>some s8.2))
theorem w194 {d:Nat} (hd:3≤d) (L0:List En) (v0_:AV) (a0:List Int) (a1:Int) (a2:Int):Okh (sl false v0_ (a0:List Int)::L0) (fun S=>R NN d 194 [v0_,.int .i64 a1,.int .i64 a2] S) (m194 a0 a1 a2) (P2 (fun (t:(List Int))=>und) (fun (t:(List Int))=>sl false v0_ t::L0)):=by
  obtain ⟨d,rfl,g⟩:=up hd
  refine q_to (t194 NN d _ _ _) ?_
  unfold b194 m194
  refine q_p fr<|q_lp (A:=fun (s:Int×(List Int))=>[.int .i64 s.1]) (B:=fun s=>sl false v0_ (s.2:List Int)::L0) 0 rr ?_ ?_ ?_
  ·intro s1
   unfold s194_1 ms194_1
   refine q_p fr<|q_i ?_ ?_
   ·refine q_lp (A:=fun (s:Int×(List Int))=>[.int .i64 s.1]) (B:=fun s=>sl false v0_ (s.2:List Int)::L0) 0 rr ?_ ?_ ?_
    ·intro s2
     unfold s194_0 ms194_0
     refine q_cu (A:=fun (s:Bool)=>[.bool s]) (B:=fun s=>sl false v0_ (s2.2:List Int)::L0) ?_ ?_ ?_ ?_
     ·refine q_cu (A:=fun (s:Bool)=>[.bool s]) (B:=fun s=>sl false v0_ (s2.2:List Int)::L0) ?_ ?_ ?_ ?_
      ·exact q_p fr<|q_k (q_ixo 0 rfl rfl fun x1 hx1=>q_ldo 0 rfl hx1 rfl<|q_p fr<|q_ixo 0 rfl rfl fun x2 hx2=>q_ldo 0 rfl hx2 rfl<|q_c0 (aF2 (cv_p rfl) (cv_p rfl) fun l0_ l1_=>w200 (by omega) x1 x2) fun y1 hy1=>q_norm 0 rr)<|q_norm 0 rr
      ·exact fun s5=>q_i (q_norm 0 rr)<|q_exit 0 rr
      ·exact fun i1 s5=>q_exit 0 rr
      ·exact fun s5=>q_lret 0 rr
     ·exact fun s6=>q_p fr<|q_p fr<|q_ixo 0 rfl rfl fun x3 hx3=>q_ldo 0 rfl hx3 rfl<|q_ixo 0 rfl rfl fun x4 hx4=>q_ldo 0 rfl hx4 rfl<|q_ixo 0 rfl rfl fun x5 hx5=>q_stoe (y:=x3) 0 rfl rfl hx5 rfl (by decide)<|q_ixo 0 rfl rfl fun x6 hx6=>q_stoe (y:=x4) 0 rfl rfl hx6 rfl (by decide)<|q_p fr<|q_norm 0 rr
     ·exact fun i2 s6=>q_exit 0 rr
     ·exact fun s6=>q_lret 0 rr
    ·exact fun i3 s7=>q_n (q_p fr<|q_norm 0 rr)<|q_n (q_p fr<|q_norm 0 rr)<|q_exit 0 rr
    ·exact fun s7=>q_lret 0 rr
   ·exact q_exit 0 rr
  ·exact fun i4 s8=>q_n (q_ret2 0 rfl rfl)<|q_none
  ·exact fun s8=>q_ret2 0 rfl rfl
def ms209_0 (a2:Int) (a3:Int) (s1:Int×(List Int)):Option (LO (Int×(List Int))):=bif decide ((wi .i64 ((wi .i64 (2 * s1.1)) + 1)) ≥ a2) then some (LO.exit 0 (s1.1,s1.2)) else ( bif decide ((wi .i64 ((wi .i64 ((wi .i64 (2 * s1.1)) + 1)) + 1)) < a2) then (getI s1.2 (wi .i64 (a3 + (wi .i64 ((wi .i64 (2 * s1.1)) + 1))))).bind fun x1=>(getI s1.2 (wi .i64 ((wi .i64 (a3 + (wi .i64 ((wi .i64 (2 * s1.1)) + 1)))) + 1))).bind fun x2=>(m200 x1 x2).bind fun y1=>bif y1 then some (LO.norm (wi .i64 ((wi .i64 ((wi .i64 (2 * s1.1)) + 1)) + 1))) else some (LO.norm (wi .i64 ((wi .i64 (2 * s1.1)) + 1))) else some (LO.norm (wi .i64 ((wi .i64 (2 * s1.1)) + 1)))).bind (contO (fun s3=>(getI s1.2 (wi .i64 (a3 + s1.1))).bind fun x3=>(getI s1.2 (wi .i64 (a3 + s3))).bind fun x4=>(m200 x3 x4).bind fun y2=>bif !y2 then some (LO.ret (s1.1,s1.2)) else (getI s1.2 (wi .i64 (a3 + s3))).bind fun x5=>(getI s1.2 (wi .i64 (a3 + s1.1))).bind fun x6=>(getI s1.2 (wi .i64 (a3 + s1.1))).bind fun x7=>(getI (s1.2.set (Int.toNat (wi .i64 (a3 + s1.1))) x5) (wi .i64 (a3 + s3))).bind fun x8=>some (LO.norm (s3,(s1.2.set (Int.toNat (wi .i64 (a3 + s1.1))) x5).set (Int.toNat (wi .i64 (a3 + s3))) x6))) (fun i1 s3=>if i1 = 1 then some (LO.norm (s1.1,s1.2)) else some (LO.exit i1 (s1.1,s1.2))) (fun s3=>some (LO.ret (s1.1,s1.2))))
def m209 (a0:List Int) (a1:Int) (a2:Int) (a3:Int):Option ((List Int)):=(loopO (ms209_0 a2 a3) NN (a1,a0)).bind (contO (fun _=>none) (fun i2 s4=>if i2 = 0 then some s4.2 else none) (fun s4=>some s4.2))
theorem w209 {d:Nat} (hd:3≤d) (L0:List En) (v0_:AV) (a0:List Int) (a1:Int) (a2:Int) (a3:Int):Okh (sl false v0_ (a0:List Int)::L0) (fun S=>R NN d 209 [v0_,.int .i64 a1,.int .i64 a2,.int .i64 a3] S) (m209 a0 a1 a2 a3) (P2 (fun (t:(List Int))=>und) (fun (t:(List Int))=>sl false v0_ t::L0)):=by
  obtain ⟨d,rfl,g⟩:=up hd
  refine q_to (t209 NN d _ _ _ _) ?_
  unfold b209 m209
  refine q_lp (A:=fun (s:Int×(List Int))=>[.int .i64 s.1]) (B:=fun s=>sl false v0_ (s.2:List Int)::L0) 0 rr ?_ ?_ ?_
  ·intro s1
   unfold s209_0 ms209_0
   refine q_p fr<|q_p fr<|q_p fr<|q_i ?_ ?_
   ·exact q_exit 0 rr
   ·refine q_cu (A:=fun (s:Int)=>[.int .i64 s]) (B:=fun s=>sl false v0_ (s1.2:List Int)::L0) ?_ ?_ ?_ ?_
    ·refine q_p fr<|q_p fr<|q_k ?_ ?_
     ·exact q_p fr<|q_ixo 0 rfl rfl fun x1 hx1=>q_ldo 0 rfl hx1 rfl<|q_p fr<|q_p fr<|q_ixo 0 rfl rfl fun x2 hx2=>q_ldo 0 rfl hx2 rfl<|q_c0 (aF2 (cv_p rfl) (cv_p rfl) fun l0_ l1_=>w200 (by omega) x1 x2) fun y1 hy1=>q_i (q_p fr<|q_norm 0 rr)<|q_norm 0 rr
     ·first | refine q_ifF1 ?_ | skip
      exact q_norm 0 rr
    ·exact fun s3=>q_p fr<|q_ixo 0 rfl rfl fun x3 hx3=>q_ldo 0 rfl hx3 rfl<|q_p fr<|q_ixo 0 rfl rfl fun x4 hx4=>q_ldo 0 rfl hx4 rfl<|q_c0 (aF2 (cv_p rfl) (cv_p rfl) fun l0_ l1_=>w200 (by omega) x3 x4) fun y2 hy2=>q_p fr<|q_i (q_lret 0 rr)<|q_p fr<|q_p fr<|q_p fr<|q_ixo 0 rfl rfl fun x5 hx5=>q_ldo 0 rfl hx5 rfl<|q_p fr<|q_ixo 0 rfl rfl fun x6 hx6=>q_ldo 0 rfl hx6 rfl<|q_ixo 0 rfl rfl fun x7 hx7=>q_stoe (y:=x5) 0 rfl rfl hx7 rfl (by decide)<|q_ixo 0 rfl rfl fun x8 hx8=>q_stoe (y:=x6) 0 rfl rfl hx8 rfl (by decide)<|q_norm 0 rr
    ·exact fun i1 s3=>q_n (q_norm 0 rr)<|q_exit 0 rr
    ·exact fun s3=>q_lret 0 rr
  ·exact fun i2 s4=>q_n (q_ret2 0 rfl rfl)<|q_none
  ·exact fun s4=>q_ret2 0 rfl rfl
def ms195_0 (a1:Int) (a2:Int) (s1:Int×(List Int)):Option (LO (Int×(List Int))):=bif decide (s1.1 ≥ 0) then (m209 s1.2 s1.1 (wi .i64 (a2 - a1)) a1).bind fun y1=>some (LO.norm (wi .i64 (s1.1 - 1),y1)) else some (LO.exit 0 (s1.1,s1.2))
def ms195_1 (a1:Int) (s3:Int×(List Int)):Option (LO (Int×(List Int))):=bif decide (s3.1 ≥ 0) then (getI s3.2 (wi .i64 (a1 + s3.1))).bind fun x1=>(getI s3.2 a1).bind fun x2=>(getI s3.2 a1).bind fun x3=>(getI (s3.2.set (Int.toNat a1) x1) (wi .i64 (a1 + s3.1))).bind fun x4=>(m209 ((s3.2.set (Int.toNat a1) x1).set (Int.toNat (wi .i64 (a1 + s3.1))) x2) 0 s3.1 a1).bind fun y2=>some (LO.norm (wi .i64 (s3.1 - 1),y2)) else some (LO.exit 2 (s3.1,s3.2))
def m195 (a0:List Int) (a1:Int) (a2:Int):Option ((List Int)):=(loopO (ms195_0 a1 a2) NN (wi .i64 (Int.tdiv (wi .i64 ((wi .i64 (a2 - a1)) - 1)) 2),a0)).bind (contO (fun _=>none) (fun i1 s2=>if i1 = 0 then (loopO (ms195_1 a1) NN (wi .i64 ((wi .i64 (a2 - a1)) - 1),s2.2)).bind (contO (fun _=>none) (fun i2 s4=>if i2 = 2 then some s4.2 else none) (fun s4=>some s4.2)) else none) (fun s2=>some s2.2))
theorem w195 {d:Nat} (hd:4≤d) (L0:List En) (v0_:AV) (a0:List Int) (a1:Int) (a2:Int):Okh (sl false v0_ (a0:List Int)::L0) (fun S=>R NN d 195 [v0_,.int .i64 a1,.int .i64 a2] S) (m195 a0 a1 a2) (P2 (fun (t:(List Int))=>und) (fun (t:(List Int))=>sl false v0_ t::L0)):=by
  obtain ⟨d,rfl,g⟩:=up hd
  refine q_to (t195 NN d _ _ _) ?_
  unfold b195 m195
  refine q_p fr<|q_p fr<|q_p fr<|q_lp (A:=fun (s:Int×(List Int))=>[.int .i64 s.1]) (B:=fun s=>sl false v0_ (s.2:List Int)::L0) 0 rr ?_ ?_ ?_
  ·intro s1
   unfold s195_0 ms195_0
   exact q_p fr<|q_i (q_s (mg:=m209 s1.2 s1.1 (wi .i64 (a2 - a1)) a1) (w209 (by omega) _ _ s1.2 s1.1 (wi .i64 (a2 - a1)) a1) fun y1 hy1=>q_p fr<|q_norm 0 rr)<|q_exit 0 rr
  ·intro i1 s2
   refine q_n ?_ ?_
   ·refine q_p fr<|q_lp (A:=fun (s:Int×(List Int))=>[.int .i64 s.1]) (B:=fun s=>sl false v0_ (s.2:List Int)::L0) 0 rr ?_ ?_ ?_
    ·intro s3
     unfold s195_1 ms195_1
     exact q_p fr<|q_i (q_p fr<|q_p fr<|q_ixo 0 rfl rfl fun x1 hx1=>q_ldo 0 rfl hx1 rfl<|q_ixo 0 rfl rfl fun x2 hx2=>q_ldo 0 rfl hx2 rfl<|q_ixo 0 rfl rfl fun x3 hx3=>q_stoe (y:=x1) 0 rfl rfl hx3 rfl (by decide)<|q_ixo 0 rfl rfl fun x4 hx4=>q_stoe (y:=x2) 0 rfl rfl hx4 rfl (by decide)<|q_s (mg:=m209 ((s3.2.set (Int.toNat a1) x1).set (Int.toNat (wi .i64 (a1 + s3.1))) x2) 0 s3.1 a1) (w209 (by omega) _ _ ((s3.2.set (Int.toNat a1) x1).set (Int.toNat (wi .i64 (a1 + s3.1))) x2) 0 s3.1 a1) fun y2 hy2=>q_p fr<|q_norm 0 rr)<|q_exit 0 rr
    ·exact fun i2 s4=>q_n (q_ret2 0 rfl rfl)<|q_none
    ·exact fun s4=>q_ret2 0 rfl rfl
   ·exact q_none
  ·exact fun s2=>q_ret2 0 rfl rfl
def m203 (a0:Int):Option (Int):=( bif decide (a0 ≥ 65536) then some (LO.norm (shrI .u32 a0 16,16)) else some (LO.norm (a0,0))).bind (contO (fun s2=>( bif decide (s2.1 ≥ 256) then some (LO.norm (shrI .u32 s2.1 8,wi .i64 (s2.2 + 8))) else some (LO.norm (s2.1,s2.2))).bind (contO (fun s4=>(getI ([0,1,2,2,3,3,3,3,4,4,4,4,4,4,4,4,5,5,5,5,5,5,5,5,5,5,5,5,5,5,5,5,6,6,6,6,6,6,6,6,6,6,6,6,6,6,6,6,6,6,6,6,6,6,6,6,6,6,6,6,6,6,6,6,7,7,7,7,7,7,7,7,7,7,7,7,7,7,7,7,7,7,7,7,7,7,7,7,7,7,7,7,7,7,7,7,7,7,7,7,7,7,7,7,7,7,7,7,7,7,7,7,7,7,7,7,7,7,7,7,7,7,7,7,7,7,7,7,8,8,8,8,8,8,8,8,8,8,8,8,8,8,8,8,8,8,8,8,8,8,8,8,8,8,8,8,8,8,8,8,8,8,8,8,8,8,8,8,8,8,8,8,8,8,8,8,8,8,8,8,8,8,8,8,8,8,8,8,8,8,8,8,8,8,8,8,8,8,8,8,8,8,8,8,8,8,8,8,8,8,8,8,8,8,8,8,8,8,8,8,8,8,8,8,8,8,8,8,8,8,8,8,8,8,8,8,8,8,8,8,8,8,8,8,8,8,8,8,8,8,8,8,8,8,8,8]:Str) (wi .u8 s4.1)).bind fun c1=>some (wi .i64 (s4.2 + (wi .i64 (c1.toNat:Int))))) (fun i2 s4=>none) (fun s4=>some s4.2))) (fun i1 s2=>none) (fun s2=>some s2.2))
def m204 (a0:Int):Option (Int):=( bif decide (a0 ≥ 4294967296) then some (LO.norm (shrI .u64 a0 32,32)) else some (LO.norm (a0,0))).bind (contO (fun s2=>( bif decide (s2.1 ≥ 65536) then some (LO.norm (shrI .u64 s2.1 16,wi .i64 (s2.2 + 16))) else some (LO.norm (s2.1,s2.2))).bind (contO (fun s4=>( bif decide (s4.1 ≥ 256) then some (LO.norm (shrI .u64 s4.1 8,wi .i64 (s4.2 + 8))) else some (LO.norm (s4.1,s4.2))).bind (contO (fun s6=>(getI ([0,1,2,2,3,3,3,3,4,4,4,4,4,4,4,4,5,5,5,5,5,5,5,5,5,5,5,5,5,5,5,5,6,6,6,6,6,6,6,6,6,6,6,6,6,6,6,6,6,6,6,6,6,6,6,6,6,6,6,6,6,6,6,6,7,7,7,7,7,7,7,7,7,7,7,7,7,7,7,7,7,7,7,7,7,7,7,7,7,7,7,7,7,7,7,7,7,7,7,7,7,7,7,7,7,7,7,7,7,7,7,7,7,7,7,7,7,7,7,7,7,7,7,7,7,7,7,7,8,8,8,8,8,8,8,8,8,8,8,8,8,8,8,8,8,8,8,8,8,8,8,8,8,8,8,8,8,8,8,8,8,8,8,8,8,8,8,8,8,8,8,8,8,8,8,8,8,8,8,8,8,8,8,8,8,8,8,8,8,8,8,8,8,8,8,8,8,8,8,8,8,8,8,8,8,8,8,8,8,8,8,8,8,8,8,8,8,8,8,8,8,8,8,8,8,8,8,8,8,8,8,8,8,8,8,8,8,8,8,8,8,8,8,8,8,8,8,8,8,8,8,8,8,8,8,8]:Str) (wi .u8 s6.1)).bind fun c1=>some (wi .i64 (s6.2 + (wi .i64 (c1.toNat:Int))))) (fun i3 s6=>none) (fun s6=>some s6.2))) (fun i2 s4=>none) (fun s4=>some s4.2))) (fun i1 s2=>none) (fun s2=>some s2.2))
theorem w204 {d:Nat} (hd:1≤d) (a0:Int):Fit (R NN d 204 [.int .u64 a0] []) (m204 a0) PI:=by
  obtain ⟨d,rfl,g⟩:=up hd
  refine q_in (t204 NN d _) ?_
  unfold b204 m204
  refine q_cu (A:=fun (s:Int×Int)=>[.int .u64 s.1,.int .i64 s.2]) (B:=fun s=>[]) ?_ ?_ ?_ ?_
  ·exact q_p fr<|q_i (q_p fr<|q_norm 0 rr)<|q_norm 0 rr
  ·intro s2
   refine q_cu (A:=fun (s:Int×Int)=>[.int .u64 s.1,.int .i64 s.2]) (B:=fun s=>[]) ?_ ?_ ?_ ?_
   ·exact q_p fr<|q_i (q_p fr<|q_p fr<|q_norm 0 rr)<|q_norm 0 rr
   ·intro s4
    refine q_cu (A:=fun (s:Int×Int)=>[.int .u64 s.1,.int .i64 s.2]) (B:=fun s=>[]) ?_ ?_ ?_ ?_
    ·exact q_p fr<|q_i (q_p fr<|q_p fr<|q_norm 0 rr)<|q_norm 0 rr
    ·exact fun s6=>q_p (fun _=>cvt214_5 _ _)<|q_sx fun c1 hc1=>q_p (fun _=>cvt5_3 _ _)<|q_p fr<|q_ret (cv_p rfl) rfl
    ·exact fun i3 s6=>q_none
    ·exact fun s6=>q_ret (cv_p rfl) rfl
   ·exact fun i2 s4=>q_none
   ·exact fun s4=>q_ret (cv_p rfl) rfl
  ·exact fun i1 s2=>q_none
  ·exact fun s2=>q_ret (cv_p rfl) rfl
def m188 (a0:Int):Option (Int):=(m204 a0).bind fun y1=>some y1
theorem w188 {d:Nat} (hd:2≤d) (a0:Int):Fit (R NN d 188 [.int .u64 a0] []) (m188 a0) PI:=by
  obtain ⟨d,rfl,g⟩:=up hd
  refine q_in (t188 NN d _) ?_
  unfold b188 m188
  first | refine q_ifF1 ?_ | skip
  exact q_c0 (aF1 (cv_p rfl) fun l0_=>w204 (by omega) a0) fun y1 hy1=>q_ret (cv_p rfl) rfl
def m210 (a0:Int):Option (Int):=(m188 (wi .u64 a0)).bind fun y1=>(shlO .u64 1 y1).bind fun q1=>some q1
theorem w210 {d:Nat} (hd:3≤d) (a0:Int):Fit (R NN d 210 [.int .i64 a0] []) (m210 a0) (P0 (fun (t:Int)=>AV.int .u64 t)):=by
  obtain ⟨d,rfl,g⟩:=up hd
  refine q_in (t210 NN d _) ?_
  unfold b210 m210
  exact q_p (fun _=>cvt3_200 _ _)<|q_c0 (aF1 (cv_p rfl) fun l0_=>w188 (by omega) (wi .u64 a0)) fun y1 hy1=>q_shl fun q1 hq1=>q_ret (cv_p rfl) rfl
def m211 (a0:Int):Int×Int:=(xorI .u64 (xorI .u64 (xorI .u64 a0 (shlI .u64 a0 13)) (shrI .u64 (xorI .u64 a0 (shlI .u64 a0 13)) 7)) (shlI .u64 (xorI .u64 (xorI .u64 a0 (shlI .u64 a0 13)) (shrI .u64 (xorI .u64 a0 (shlI .u64 a0 13)) 7)) 17),xorI .u64 (xorI .u64 (xorI .u64 a0 (shlI .u64 a0 13)) (shrI .u64 (xorI .u64 a0 (shlI .u64 a0 13)) 7)) (shlI .u64 (xorI .u64 (xorI .u64 a0 (shlI .u64 a0 13)) (shrI .u64 (xorI .u64 a0 (shlI .u64 a0 13)) 7)) 17))
theorem w211 {d:Nat} (hd:1≤d) (L0:List En) (b0_:Nat) (a0:Int):Okh (bx b0_ [.int .u64 a0]::L0) (fun S=>R NN d 211 [.bp b0_ 0 0 1 1] S) (some (m211 a0)) (P2 (fun (t:Int×Int)=>AV.int .u64 t.1) (fun (t:Int×Int)=>bx b0_ [.int .u64 t.2]::L0)):=by
  obtain ⟨d,rfl,g⟩:=up hd
  refine q_to (t211 NN d _) ?_
  unfold b211 m211
  exact q_q fr<|q_ld 0 rfl rfl<|q_q fr<|q_ld 0 rfl rfl<|q_p fr<|q_p fr<|q_q fr<|q_st 0 rfl rfl rfl (by decide) rfl<|q_q fr<|q_ld 0 rfl rfl<|q_q fr<|q_ld 0 rfl rfl<|q_p fr<|q_p fr<|q_q fr<|q_st 0 rfl rfl rfl (by decide) rfl<|q_q fr<|q_ld 0 rfl rfl<|q_q fr<|q_ld 0 rfl rfl<|q_p fr<|q_p fr<|q_q fr<|q_st 0 rfl rfl rfl (by decide) rfl<|q_q fr<|q_ld 0 rfl rfl<|q_ret2 0 rfl rfl
def ms196_0 (a1:Int) (a2:Int) (y1:Int) (s1:Int×Int×(List Int)):Option (LO (Int×Int×(List Int))):=bif decide (s1.1≤(wi .i64 ((wi .i64 (a1 + (wi .i64 ((wi .i64 (Int.tdiv (wi .i64 (a2 - a1)) 4)) * 2)))) + 1))) then ( (some (m211 s1.2.1)).bind fun y2=>( bif decide ((wi .i64 (andI .u64 y2.1 (wi .u64 (y1 - 1)))) ≥ (wi .i64 (a2 - a1))) then some (LO.norm (wi .i64 ((wi .i64 (andI .u64 y2.1 (wi .u64 (y1 - 1)))) - (wi .i64 (a2 - a1))))) else some (LO.norm (wi .i64 (andI .u64 y2.1 (wi .u64 (y1 - 1)))))).bind (contO (fun s4=>(getI s1.2.2 (wi .i64 (a1 + s4))).bind fun x1=>(getI s1.2.2 s1.1).bind fun x2=>(getI s1.2.2 s1.1).bind fun x3=>(getI (s1.2.2.set (Int.toNat s1.1) x1) (wi .i64 (a1 + s4))).bind fun x4=>some (LO.norm (y2.2,(s1.2.2.set (Int.toNat s1.1) x1).set (Int.toNat (wi .i64 (a1 + s4))) x2))) (fun i1 s4=>if i1 = 1 then some (LO.norm (y2.2,s1.2.2)) else some (LO.exit i1 (y2.2,s1.2.2))) (fun s4=>some (LO.ret (y2.2,s1.2.2))))).bind (contO (fun s5=>some (LO.norm (wi .i64 (s1.1 + 1),s5.1,s5.2))) (fun i2 s5=>some (LO.exit i2 (s1.1,s5.1,s5.2))) (fun s5=>some (LO.ret (s1.1,s5.1,s5.2)))) else some (LO.exit 0 (s1.1,s1.2.1,s1.2.2))
def m196 (a0:List Int) (a1:Int) (a2:Int):Option ((List Int)):=bif decide ((wi .i64 (a2 - a1)) ≥ 8) then (m210 (wi .i64 (a2 - a1))).bind fun y1=>(loopO (ms196_0 a1 a2 y1) NN (wi .i64 ((wi .i64 (a1 + (wi .i64 ((wi .i64 (Int.tdiv (wi .i64 (a2 - a1)) 4)) * 2)))) - 1),wi .u64 (wi .i64 (a2 - a1)),a0)).bind (contO (fun _=>none) (fun i3 s6=>if i3 = 0 then some s6.2.2 else none) (fun s6=>some s6.2.2)) else some a0
theorem w196 {d:Nat} (hd:4≤d) (L0:List En) (v0_:AV) (a0:List Int) (a1:Int) (a2:Int):Okh (sl false v0_ (a0:List Int)::L0) (fun S=>R NN d 196 [v0_,.int .i64 a1,.int .i64 a2] S) (m196 a0 a1 a2) (P2 (fun (t:(List Int))=>und) (fun (t:(List Int))=>sl false v0_ t::L0)):=by
  obtain ⟨d,rfl,g⟩:=up hd
  refine q_to (t196 NN d _ _ _) ?_
  unfold b196 m196
  refine q_p fr<|q_p fr<|q_i ?_ ?_
  ·refine q_p (fun _=>cvt3_218 _ _)<|q_new rfl fun b1=>q_st 0 rfl rfl rfl (by decide) rfl<|q_c0 (aF1 (cv_p rfl) fun l0_=>w210 (by omega) (wi .i64 (a2 - a1))) fun y1 hy1=>q_p fr<|q_p fr<|q_p fr<|q_p fr<|q_lp (A:=fun (s:Int×Int×(List Int))=>[.int .i64 s.1]) (B:=fun s=>bx b1 [.int .u64 s.2.1]::sl false v0_ (s.2.2:List Int)::L0) 0 rr ?_ ?_ ?_
   ·intro s1
    unfold s196_0 ms196_0
    refine q_p fr<|q_p fr<|q_p fr<|q_p fr<|q_p fr<|q_i ?_ ?_
    ·refine q_cu (A:=fun (s:Int×(List Int))=>[]) (B:=fun s=>bx b1 [.int .u64 s.1]::sl false v0_ (s.2:List Int)::L0) ?_ ?_ ?_ ?_
     ·refine q_s (mg:=some (m211 s1.2.1)) (w211 (by omega) _ _ s1.2.1) fun y2 hy2=>q_p fr<|q_p fr<|q_p (fun _=>cvt200_3 _ _)<|q_cu (A:=fun (s:Int)=>[.int .i64 s]) (B:=fun s=>bx b1 [.int .u64 y2.2]::sl false v0_ (s1.2.2:List Int)::L0) ?_ ?_ ?_ ?_
      ·exact q_p fr<|q_i (q_p fr<|q_norm 0 rr)<|q_norm 0 rr
      ·exact fun s4=>q_p fr<|q_p fr<|q_ixo 1 rfl rfl fun x1 hx1=>q_ldo 1 rfl hx1 rfl<|q_ixo 1 rfl rfl fun x2 hx2=>q_ldo 1 rfl hx2 rfl<|q_ixo 1 rfl rfl fun x3 hx3=>q_stoe (y:=x1) 1 rfl rfl hx3 rfl (by decide)<|q_ixo 1 rfl rfl fun x4 hx4=>q_stoe (y:=x2) 1 rfl rfl hx4 rfl (by decide)<|q_norm 0 rr
      ·exact fun i1 s4=>q_n (q_norm 0 rr)<|q_exit 0 rr
      ·exact fun s4=>q_lret 0 rr
     ·exact fun s5=>q_p fr<|q_norm 0 rr
     ·exact fun i2 s5=>q_exit 0 rr
     ·exact fun s5=>q_lret 0 rr
    ·exact q_exit 0 rr
   ·exact fun i3 s6=>q_n (q_ret2 1 rfl rfl)<|q_none
   ·exact fun s6=>q_ret2 1 rfl rfl
  ·exact q_ret2 0 rfl rfl
def m220 (a0:List Int) (a1:Int) (a2:Int) (a3:Int):Option (Int×Int×Int):=(getI a0 a2).bind fun x1=>(getI a0 a1).bind fun x2=>(m200 x1 x2).bind fun y1=>bif y1 then some (a2,a1,wi .i64 (a3 + 1)) else some (a1,a2,a3)
theorem w220 {d:Nat} (hd:3≤d) (L0:List En) (k0:Bool) (f0_:Bool) (a0:List Int) (a1:Int) (a2:Int) (b3_:Nat) (a3:Int):Okh (bx b3_ [.int .i64 a3]::L0) (fun S=>R NN d 220 [.rsl k0 f0_ (a0.map (Enc.cs k0)),.int .i64 a1,.int .i64 a2,.bp b3_ 0 0 1 1] S) (m220 a0 a1 a2 a3) (P2 (fun (t:Int×Int×Int)=>AV.tup [.int .i64 t.1,.int .i64 t.2.1]) (fun (t:Int×Int×Int)=>bx b3_ [.int .i64 t.2.2]::L0)):=by
  obtain ⟨d,rfl,g⟩:=up hd
  refine q_to (t220 NN d _ _ _ _) ?_
  unfold b220 m220
  exact q_ix rfl fun x1 hx1=>q_p fr<|q_ix rfl fun x2 hx2=>q_p fr<|q_c0 (aF2 (cv_p rfl) (cv_p rfl) fun l0_ l1_=>w200 (by omega) x1 x2) fun y1 hy1=>q_i (q_q fr<|q_ld 0 rfl rfl<|q_p fr<|q_q fr<|q_st 0 rfl rfl rfl (by decide) rfl<|q_ret2 0 rfl rfl)<|q_ret2 0 rfl rfl
def m213 (a0:List Int) (a1:Int) (a2:Int) (a3:Int) (a4:Int):Option (Int×Int):=(m220 a0 a1 a2 a4).bind fun y1=>(m220 a0 y1.2.1 a3 y1.2.2).bind fun y2=>(m220 a0 y1.1 y2.1 y2.2.2).bind fun y3=>some (y3.2.1,y3.2.2)
theorem w213 {d:Nat} (hd:4≤d) (L0:List En) (k0:Bool) (f0_:Bool) (a0:List Int) (a1:Int) (a2:Int) (a3:Int) (b4_:Nat) (a4:Int):Okh (bx b4_ [.int .i64 a4]::L0) (fun S=>R NN d 213 [.rsl k0 f0_ (a0.map (Enc.cs k0)),.int .i64 a1,.int .i64 a2,.int .i64 a3,.bp b4_ 0 0 1 1] S) (m213 a0 a1 a2 a3 a4) (P2 (fun (t:Int×Int)=>AV.int .i64 t.1) (fun (t:Int×Int)=>bx b4_ [.int .i64 t.2]::L0)):=by
  obtain ⟨d,rfl,g⟩:=up hd
  refine q_to (t213 NN d _ _ _ _ _) ?_
  unfold b213 m213
  exact q_s (mg:=m220 a0 a1 a2 a4) (w220 (by omega) _ _ _ a0 a1 a2 _ a4) fun y1 hy1=>q_q fr<|q_q fr<|q_s (mg:=m220 a0 y1.2.1 a3 y1.2.2) (w220 (by omega) _ _ _ a0 y1.2.1 a3 _ y1.2.2) fun y2 hy2=>q_q fr<|q_q fr<|q_s (mg:=m220 a0 y1.1 y2.1 y2.2.2) (w220 (by omega) _ _ _ a0 y1.1 y2.1 _ y2.2.2) fun y3 hy3=>q_q fr<|q_q fr<|q_ret2 0 rfl rfl
def m212 (a0:List Int) (a1:Int) (a2:Int):Option (Int×Int):=(m213 a0 (wi .i64 (a1 - 1)) a1 (wi .i64 (a1 + 1)) a2).bind fun y1=>some (y1.1,y1.2)
theorem w212 {d:Nat} (hd:5≤d) (L0:List En) (k0:Bool) (f0_:Bool) (a0:List Int) (a1:Int) (b2_:Nat) (a2:Int):Okh (bx b2_ [.int .i64 a2]::L0) (fun S=>R NN d 212 [.rsl k0 f0_ (a0.map (Enc.cs k0)),.int .i64 a1,.bp b2_ 0 0 1 1] S) (m212 a0 a1 a2) (P2 (fun (t:Int×Int)=>AV.int .i64 t.1) (fun (t:Int×Int)=>bx b2_ [.int .i64 t.2]::L0)):=by
  obtain ⟨d,rfl,g⟩:=up hd
  refine q_to (t212 NN d _ _ _) ?_
  unfold b212 m212
  exact q_p fr<|q_p fr<|q_s (mg:=m213 a0 (wi .i64 (a1 - 1)) a1 (wi .i64 (a1 + 1)) a2) (w213 (by omega) _ _ _ a0 (wi .i64 (a1 - 1)) a1 (wi .i64 (a1 + 1)) _ a2) fun y1 hy1=>q_ret2 0 rfl rfl
def m197 (a0:List Int) (a1:Int) (a2:Int):Option (Int×Int):=( bif decide ((wi .i64 (a2 - a1)) ≥ 8) then ( bif decide ((wi .i64 (a2 - a1)) ≥ 50) then (m212 a0 (wi .i64 (a1 + (wi .i64 ((wi .i64 (Int.tdiv (wi .i64 (a2 - a1)) 4)) * 1)))) 0).bind fun y1=>(m212 a0 (wi .i64 (a1 + (wi .i64 ((wi .i64 (Int.tdiv (wi .i64 (a2 - a1)) 4)) * 2)))) y1.2).bind fun y2=>(m212 a0 (wi .i64 (a1 + (wi .i64 ((wi .i64 (Int.tdiv (wi .i64 (a2 - a1)) 4)) * 3)))) y2.2).bind fun y3=>some (LO.norm (y1.1,y2.1,y3.1,y3.2)) else some (LO.norm (wi .i64 (a1 + (wi .i64 ((wi .i64 (Int.tdiv (wi .i64 (a2 - a1)) 4)) * 1))),wi .i64 (a1 + (wi .i64 ((wi .i64 (Int.tdiv (wi .i64 (a2 - a1)) 4)) * 2))),wi .i64 (a1 + (wi .i64 ((wi .i64 (Int.tdiv (wi .i64 (a2 - a1)) 4)) * 3))),0))).bind (contO (fun s3=>(m213 a0 s3.1 s3.2.1 s3.2.2.1 s3.2.2.2).bind fun y4=>some (LO.norm (y4.1,y4.2))) (fun i1 s3=>some (LO.exit i1 (s3.2.1,s3.2.2.2))) (fun s3=>some (LO.ret (s3.2.1,s3.2.2.2)))) else some (LO.norm (wi .i64 (a1 + (wi .i64 ((wi .i64 (Int.tdiv (wi .i64 (a2 - a1)) 4)) * 2))),0))).bind (contO (fun s4=>bif s4.2 == 0 then some (s4.1,1) else bif s4.2 == 12 then some (s4.1,2) else some (s4.1,0)) (fun i2 s4=>none) (fun s4=>some (0,0)))
theorem w197 {d:Nat} (hd:6≤d) (k0:Bool) (a0:List Int) (a1:Int) (a2:Int):Fit (R NN d 197 [.rsl k0 false (a0.map (Enc.cs k0)),.int .i64 a1,.int .i64 a2] []) (m197 a0 a1 a2) (P0 (fun (t:Int×Int)=>AV.tup [.int .i64 t.1,.int .i64 t.2])):=by
  obtain ⟨d,rfl,g⟩:=up hd
  refine q_in (t197 NN d _ _ _) ?_
  unfold b197 m197
  refine q_p fr<|q_new rfl fun b1=>q_p fr<|q_p fr<|q_p fr<|q_p fr<|q_p fr<|q_p fr<|q_p fr<|q_p fr<|q_p fr<|q_cu (A:=fun (s:Int×Int)=>[.int .i64 s.1]) (B:=fun s=>[bx b1 [.int .i64 s.2]]) ?_ ?_ ?_ ?_
  ·refine q_p fr<|q_i ?_ ?_
   ·refine q_cu (A:=fun (s:Int×Int×Int×Int)=>[.int .i64 s.1,.int .i64 s.2.1,.int .i64 s.2.2.1]) (B:=fun s=>[bx b1 [.int .i64 s.2.2.2]]) ?_ ?_ ?_ ?_
    ·exact q_p fr<|q_i (q_s (mg:=m212 a0 (wi .i64 (a1 + (wi .i64 ((wi .i64 (Int.tdiv (wi .i64 (a2 - a1)) 4)) * 1)))) 0) (w212 (by omega) _ _ _ a0 (wi .i64 (a1 + (wi .i64 ((wi .i64 (Int.tdiv (wi .i64 (a2 - a1)) 4)) * 1)))) _ 0) fun y1 hy1=>q_s (mg:=m212 a0 (wi .i64 (a1 + (wi .i64 ((wi .i64 (Int.tdiv (wi .i64 (a2 - a1)) 4)) * 2)))) y1.2) (w212 (by omega) _ _ _ a0 (wi .i64 (a1 + (wi .i64 ((wi .i64 (Int.tdiv (wi .i64 (a2 - a1)) 4)) * 2)))) _ y1.2) fun y2 hy2=>q_s (mg:=m212 a0 (wi .i64 (a1 + (wi .i64 ((wi .i64 (Int.tdiv (wi .i64 (a2 - a1)) 4)) * 3)))) y2.2) (w212 (by omega) _ _ _ a0 (wi .i64 (a1 + (wi .i64 ((wi .i64 (Int.tdiv (wi .i64 (a2 - a1)) 4)) * 3)))) _ y2.2) fun y3 hy3=>q_norm 0 rr)<|q_norm 0 rr
    ·exact fun s3=>q_s (mg:=m213 a0 s3.1 s3.2.1 s3.2.2.1 s3.2.2.2) (w213 (by omega) _ _ _ a0 s3.1 s3.2.1 s3.2.2.1 _ s3.2.2.2) fun y4 hy4=>q_norm 0 rr
    ·exact fun i1 s3=>q_exit 0 rr
    ·exact fun s3=>q_lret 0 rr
   ·exact q_norm 0 rr
  ·exact fun s4=>q_ld 0 rfl rfl<|q_p fr<|q_i (q_ret (cv_t (cvs_cons (cv_p rfl) (cvs_cons (cv_p rfl) cvs_nil))) rfl)<|q_p fr<|q_i (q_ret (cv_t (cvs_cons (cv_p rfl) (cvs_cons (cv_p rfl) cvs_nil))) rfl)<|q_ret (cv_t (cvs_cons (cv_p rfl) (cvs_cons (cv_p rfl) cvs_nil))) rfl
  ·exact fun i2 s4=>q_none
  ·exact fun s4=>q_ret (cv_t (cvs_cons (cv_p rfl) (cvs_cons (cv_p rfl) cvs_nil))) rfl
def ms198_0 (s1:Int×Int×(List Int)):Option (LO (Int×Int×(List Int))):=bif decide (s1.1 < s1.2.1) then (getI s1.2.2 s1.2.1).bind fun x1=>(getI s1.2.2 s1.1).bind fun x2=>(getI s1.2.2 s1.1).bind fun x3=>(getI (s1.2.2.set (Int.toNat s1.1) x1) s1.2.1).bind fun x4=>some (LO.norm (wi .i64 (s1.1 + 1),wi .i64 (s1.2.1 - 1),(s1.2.2.set (Int.toNat s1.1) x1).set (Int.toNat s1.2.1) x2)) else some (LO.exit 0 (s1.1,s1.2.1,s1.2.2))
def m198 (a0:List Int) (a1:Int) (a2:Int):Option ((List Int)):=(loopO (ms198_0) NN (a1,wi .i64 (a2 - 1),a0)).bind (contO (fun _=>none) (fun i1 s2=>if i1 = 0 then some s2.2.2 else none) (fun s2=>some s2.2.2))
theorem w198 {d:Nat} (hd:1≤d) (L0:List En) (v0_:AV) (a0:List Int) (a1:Int) (a2:Int):Okh (sl false v0_ (a0:List Int)::L0) (fun S=>R NN d 198 [v0_,.int .i64 a1,.int .i64 a2] S) (m198 a0 a1 a2) (P2 (fun (t:(List Int))=>und) (fun (t:(List Int))=>sl false v0_ t::L0)):=by
  obtain ⟨d,rfl,g⟩:=up hd
  refine q_to (t198 NN d _ _ _) ?_
  unfold b198 m198
  refine q_p fr<|q_lp (A:=fun (s:Int×Int×(List Int))=>[.int .i64 s.1,.int .i64 s.2.1]) (B:=fun s=>sl false v0_ (s.2.2:List Int)::L0) 0 rr ?_ ?_ ?_
  ·intro s1
   unfold s198_0 ms198_0
   exact q_p fr<|q_i (q_ixo 0 rfl rfl fun x1 hx1=>q_ldo 0 rfl hx1 rfl<|q_ixo 0 rfl rfl fun x2 hx2=>q_ldo 0 rfl hx2 rfl<|q_ixo 0 rfl rfl fun x3 hx3=>q_stoe (y:=x1) 0 rfl rfl hx3 rfl (by decide)<|q_ixo 0 rfl rfl fun x4 hx4=>q_stoe (y:=x2) 0 rfl rfl hx4 rfl (by decide)<|q_p fr<|q_p fr<|q_norm 0 rr)<|q_exit 0 rr
  ·exact fun i1 s2=>q_n (q_ret2 0 rfl rfl)<|q_none
  ·exact fun s2=>q_ret2 0 rfl rfl
def ms199_0 (a2:Int) (s1:Bool×Int×Int×(List Int)) (s3:Int):Option (LO (Int)):=( ( bif decide (s3 < a2) then (getI s1.2.2.2 s3).bind fun x1=>(getI s1.2.2.2 (wi .i64 (s3 - 1))).bind fun x2=>(m200 x1 x2).bind fun y1=>some (LO.norm (!y1)) else some (LO.norm false)).bind (contO (fun s6=>bif s6 then some (LO.norm s6) else some (LO.exit 2 s6)) (fun i1 s6=>some (LO.exit i1 s6)) (fun s6=>some (LO.ret s6)))).bind (contO (fun s7=>some (LO.norm (wi .i64 (s3 + 1)))) (fun i2 s7=>some (LO.exit i2 s3)) (fun s7=>some (LO.ret s3)))
def ms199_1 (s10:Int×(List Int)):Option (LO (Int×(List Int))):=bif decide (s10.1 ≥ 1) then (getI s10.2 s10.1).bind fun x7=>(getI s10.2 (wi .i64 (s10.1 - 1))).bind fun x8=>(m200 x7 x8).bind fun y2=>bif !y2 then some (LO.exit 4 (s10.1,s10.2)) else (getI s10.2 (wi .i64 (s10.1 - 1))).bind fun x9=>(getI s10.2 s10.1).bind fun x10=>(getI s10.2 s10.1).bind fun x11=>(getI (s10.2.set (Int.toNat s10.1) x9) (wi .i64 (s10.1 - 1))).bind fun x12=>some (LO.norm (wi .i64 (s10.1 - 1),(s10.2.set (Int.toNat s10.1) x9).set (Int.toNat (wi .i64 (s10.1 - 1))) x10)) else some (LO.exit 4 (s10.1,s10.2))
def ms199_2 (a2:Int) (s13:Int×(List Int)):Option (LO (Int×(List Int))):=bif decide (s13.1 < a2) then (getI s13.2 s13.1).bind fun x13=>(getI s13.2 (wi .i64 (s13.1 - 1))).bind fun x14=>(m200 x13 x14).bind fun y3=>bif !y3 then some (LO.exit 6 (s13.1,s13.2)) else (getI s13.2 (wi .i64 (s13.1 - 1))).bind fun x15=>(getI s13.2 s13.1).bind fun x16=>(getI s13.2 s13.1).bind fun x17=>(getI (s13.2.set (Int.toNat s13.1) x15) (wi .i64 (s13.1 - 1))).bind fun x18=>some (LO.norm (wi .i64 (s13.1 + 1),(s13.2.set (Int.toNat s13.1) x15).set (Int.toNat (wi .i64 (s13.1 - 1))) x16)) else some (LO.exit 6 (s13.1,s13.2))
def ms199_3 (a1:Int) (a2:Int) (s1:Bool×Int×Int×(List Int)):Option (LO (Bool×Int×Int×(List Int))):=bif decide (s1.2.2.1 < 5) then ( (loopO (ms199_0 a2 s1) NN s1.2.1).bind (contO (fun _=>none) (fun i3 s8=>if i3 = 2 then bif s8 == a2 then some (LO.ret (true,s8,s1.2.2.2)) else bif decide ((wi .i64 (a2 - a1)) < 50) then some (LO.ret (false,s8,s1.2.2.2)) else (getI s1.2.2.2 (wi .i64 (s8 - 1))).bind fun x3=>(getI s1.2.2.2 s8).bind fun x4=>(getI s1.2.2.2 s8).bind fun x5=>(getI (s1.2.2.2.set (Int.toNat s8) x3) (wi .i64 (s8 - 1))).bind fun x6=>( bif decide ((wi .i64 (s8 - a1)) ≥ 2) then (loopO (ms199_1) NN (wi .i64 (s8 - 1),(s1.2.2.2.set (Int.toNat s8) x3).set (Int.toNat (wi .i64 (s8 - 1))) x4)).bind (contO (fun _=>none) (fun i4 s11=>if i4 = 4 then some (LO.norm s11.2) else some (LO.exit i4 s11.2)) (fun s11=>some (LO.ret s11.2))) else some (LO.norm ((s1.2.2.2.set (Int.toNat s8) x3).set (Int.toNat (wi .i64 (s8 - 1))) x4))).bind (contO (fun s12=>bif decide ((wi .i64 (a2 - s8)) ≥ 2) then (loopO (ms199_2 a2) NN (wi .i64 (s8 + 1),s12)).bind (contO (fun _=>none) (fun i6 s14=>if i6 = 6 then some (LO.norm (s1.1,s8,s14.2)) else if i6 = 1 then some (LO.norm (s1.1,s8,s14.2)) else some (LO.exit i6 (s1.1,s8,s14.2))) (fun s14=>some (LO.ret (s1.1,s8,s14.2)))) else some (LO.norm (s1.1,s8,s12))) (fun i5 s12=>if i5 = 1 then some (LO.norm (s1.1,s8,s12)) else some (LO.exit i5 (s1.1,s8,s12))) (fun s12=>some (LO.ret (s1.1,s8,s12)))) else if i3 = 1 then some (LO.norm (s1.1,s8,s1.2.2.2)) else some (LO.exit i3 (s1.1,s8,s1.2.2.2))) (fun s8=>some (LO.ret (s1.1,s8,s1.2.2.2))))).bind (contO (fun s15=>some (LO.norm (s15.1,s15.2.1,wi .i64 (s1.2.2.1 + 1),s15.2.2))) (fun i7 s15=>some (LO.exit i7 (s15.1,s15.2.1,s1.2.2.1,s15.2.2))) (fun s15=>some (LO.ret (s15.1,s15.2.1,s1.2.2.1,s15.2.2)))) else some (LO.exit 0 (s1.1,s1.2.1,s1.2.2.1,s1.2.2.2))
def m199 (a0:List Int) (a1:Int) (a2:Int):Option (Bool×(List Int)):=(loopO (ms199_3 a1 a2) NN (false,wi .i64 (a1 + 1),0,a0)).bind (contO (fun _=>none) (fun i8 s16=>if i8 = 0 then some (false,s16.2.2.2) else none) (fun s16=>some (s16.1,s16.2.2.2)))
theorem w199 {d:Nat} (hd:3≤d) (L0:List En) (v0_:AV) (a0:List Int) (a1:Int) (a2:Int):Okh (sl false v0_ (a0:List Int)::L0) (fun S=>R NN d 199 [v0_,.int .i64 a1,.int .i64 a2] S) (m199 a0 a1 a2) (P2 (fun (t:Bool×(List Int))=>AV.bool t.1) (fun (t:Bool×(List Int))=>sl false v0_ t.2::L0)):=by
  obtain ⟨d,rfl,g⟩:=up hd
  refine q_to (t199 NN d _ _ _) ?_
  unfold b199 m199
  refine q_p fr<|q_lp (A:=fun (s:Bool×Int×Int×(List Int))=>[.bool s.1,.int .i64 s.2.1,.int .i64 s.2.2.1]) (B:=fun s=>sl false v0_ (s.2.2.2:List Int)::L0) 0 rr ?_ ?_ ?_
  ·intro s1
   unfold s199_3 ms199_3
   refine q_p fr<|q_i ?_ ?_
   ·refine q_cu (A:=fun (s:Bool×Int×(List Int))=>[.bool s.1,.int .i64 s.2.1]) (B:=fun s=>sl false v0_ (s.2.2:List Int)::L0) ?_ ?_ ?_ ?_
    ·refine q_lp (A:=fun (s:Int)=>[.int .i64 s]) (B:=fun s=>sl false v0_ (s1.2.2.2:List Int)::L0) 0 rr ?_ ?_ ?_
     ·intro s3
      unfold s199_0 ms199_0
      refine q_cu (A:=fun (s:Bool)=>[.bool s]) (B:=fun s=>sl false v0_ (s1.2.2.2:List Int)::L0) ?_ ?_ ?_ ?_
      ·refine q_cu (A:=fun (s:Bool)=>[.bool s]) (B:=fun s=>sl false v0_ (s1.2.2.2:List Int)::L0) ?_ ?_ ?_ ?_
       ·exact q_p fr<|q_k (q_ixo 0 rfl rfl fun x1 hx1=>q_ldo 0 rfl hx1 rfl<|q_p fr<|q_ixo 0 rfl rfl fun x2 hx2=>q_ldo 0 rfl hx2 rfl<|q_c0 (aF2 (cv_p rfl) (cv_p rfl) fun l0_ l1_=>w200 (by omega) x1 x2) fun y1 hy1=>q_p fr<|q_norm 0 rr)<|q_norm 0 rr
       ·exact fun s6=>q_i (q_norm 0 rr)<|q_exit 0 rr
       ·exact fun i1 s6=>q_exit 0 rr
       ·exact fun s6=>q_lret 0 rr
      ·exact fun s7=>q_p fr<|q_norm 0 rr
      ·exact fun i2 s7=>q_exit 0 rr
      ·exact fun s7=>q_lret 0 rr
     ·intro i3 s8
      refine q_n ?_ ?_
      ·refine q_p fr<|q_i ?_ ?_
       ·exact q_lret 0 rr
       ·refine q_p fr<|q_p fr<|q_i ?_ ?_
        ·exact q_lret 0 rr
        ·refine q_p fr<|q_p fr<|q_ixo 0 rfl rfl fun x3 hx3=>q_ldo 0 rfl hx3 rfl<|q_ixo 0 rfl rfl fun x4 hx4=>q_ldo 0 rfl hx4 rfl<|q_ixo 0 rfl rfl fun x5 hx5=>q_stoe (y:=x3) 0 rfl rfl hx5 rfl (by decide)<|q_ixo 0 rfl rfl fun x6 hx6=>q_stoe (y:=x4) 0 rfl rfl hx6 rfl (by decide)<|q_cu (A:=fun (s:(List Int))=>[]) (B:=fun s=>sl false v0_ (s:List Int)::L0) ?_ ?_ ?_ ?_
         ·refine q_p fr<|q_p fr<|q_i ?_ ?_
          ·refine q_p fr<|q_lp (A:=fun (s:Int×(List Int))=>[.int .i64 s.1]) (B:=fun s=>sl false v0_ (s.2:List Int)::L0) 0 rr ?_ ?_ ?_
           ·intro s10
            unfold s199_1 ms199_1
            exact q_p fr<|q_i (q_ixo 0 rfl rfl fun x7 hx7=>q_ldo 0 rfl hx7 rfl<|q_p fr<|q_ixo 0 rfl rfl fun x8 hx8=>q_ldo 0 rfl hx8 rfl<|q_c0 (aF2 (cv_p rfl) (cv_p rfl) fun l0_ l1_=>w200 (by omega) x7 x8) fun y2 hy2=>q_p fr<|q_i (q_exit 0 rr)<|q_p fr<|q_p fr<|q_ixo 0 rfl rfl fun x9 hx9=>q_ldo 0 rfl hx9 rfl<|q_ixo 0 rfl rfl fun x10 hx10=>q_ldo 0 rfl hx10 rfl<|q_ixo 0 rfl rfl fun x11 hx11=>q_stoe (y:=x9) 0 rfl rfl hx11 rfl (by decide)<|q_ixo 0 rfl rfl fun x12 hx12=>q_stoe (y:=x10) 0 rfl rfl hx12 rfl (by decide)<|q_p fr<|q_norm 0 rr)<|q_exit 0 rr
           ·exact fun i4 s11=>q_n (q_norm 0 rr)<|q_exit 0 rr
           ·exact fun s11=>q_lret 0 rr
          ·exact q_norm 0 rr
         ·intro s12
          refine q_p fr<|q_p fr<|q_i ?_ ?_
          ·refine q_p fr<|q_lp (A:=fun (s:Int×(List Int))=>[.int .i64 s.1]) (B:=fun s=>sl false v0_ (s.2:List Int)::L0) 0 rr ?_ ?_ ?_
           ·intro s13
            unfold s199_2 ms199_2
            exact q_p fr<|q_i (q_ixo 0 rfl rfl fun x13 hx13=>q_ldo 0 rfl hx13 rfl<|q_p fr<|q_ixo 0 rfl rfl fun x14 hx14=>q_ldo 0 rfl hx14 rfl<|q_c0 (aF2 (cv_p rfl) (cv_p rfl) fun l0_ l1_=>w200 (by omega) x13 x14) fun y3 hy3=>q_p fr<|q_i (q_exit 0 rr)<|q_p fr<|q_p fr<|q_ixo 0 rfl rfl fun x15 hx15=>q_ldo 0 rfl hx15 rfl<|q_ixo 0 rfl rfl fun x16 hx16=>q_ldo 0 rfl hx16 rfl<|q_ixo 0 rfl rfl fun x17 hx17=>q_stoe (y:=x15) 0 rfl rfl hx17 rfl (by decide)<|q_ixo 0 rfl rfl fun x18 hx18=>q_stoe (y:=x16) 0 rfl rfl hx18 rfl (by decide)<|q_p fr<|q_norm 0 rr)<|q_exit 0 rr
           ·exact fun i6 s14=>q_n (q_norm 0 rr)<|q_n (q_norm 0 rr)<|q_exit 0 rr
           ·exact fun s14=>q_lret 0 rr
          ·exact q_norm 0 rr
         ·exact fun i5 s12=>q_n (q_norm 0 rr)<|q_exit 0 rr
         ·exact fun s12=>q_lret 0 rr
      ·exact q_n (q_norm 0 rr)<|q_exit 0 rr
     ·exact fun s8=>q_lret 0 rr
    ·exact fun s15=>q_p fr<|q_norm 0 rr
    ·exact fun i7 s15=>q_exit 0 rr
    ·exact fun s15=>q_lret 0 rr
   ·exact q_exit 0 rr
  ·exact fun i8 s16=>q_n (q_ret2 0 rfl rfl)<|q_none
  ·exact fun s16=>q_ret2 0 rfl rfl
end
end Go.Proofs.YtmjibndicekcaaaGreatDoor
