/- Plain functions, and that the evaluator computes them. -/
import Derived.Test.YtlgfhcillmbcgaaGreatDoorT
import Derived.Test.YtlgfhcillmbcgaaGreatDoorRh6
import Derived.Test.YtlgfhcillmbcgaaGreatDoorRh10
import Derived.Test.YtlgfhcillmbcgaaGreatDoorRh14
namespace Go.Proofs.YtlgfhcillmbcgaaGreatDoor
open Go Go.Rf
set_option linter.unusedVariables false
set_option linter.unusedSimpArgs false
noncomputable section
structure TReplica where
  Id:Int
  View:Int
  Start:Int
  Done:Int
  deriving DecidableEq
instance:Enc TReplica:=(Enc.of fun x:TReplica=>(x.Id,x.View,x.Start,x.Done)).copy (fun l x=>[.int .i64 x.Id,.int .i64 x.View,.int .i64 x.Start,.int .i64 x.Done]) (fun _ _=>rfl) 4 0 rfl rfl
instance:Tr TReplica:=Tr.of (fun x:TReplica=>(x.Id,x.View,x.Start,x.Done)) (fun _ _=>rfl) rfl rfl
structure TCert where
  Slot:Int
  View:Int
  Value:Int
  deriving DecidableEq
instance:Enc TCert:=(Enc.of fun x:TCert=>(x.Slot,x.View,x.Value)).copy (fun l x=>[.int .i64 x.Slot,.int .i64 x.View,.int .i64 x.Value]) (fun _ _=>rfl) 3 0 rfl rfl
instance:Tr TCert:=Tr.of (fun x:TCert=>(x.Slot,x.View,x.Value)) (fun _ _=>rfl) rfl rfl
structure TMsg where
  Kind:Int
  View:Int
  From:Int
  Slot:Int
  Value:Int
  Certs:List TCert
  Refs:List Int
  deriving DecidableEq
instance:Enc TMsg:=(Enc.of fun x:TMsg=>(x.Kind,x.View,x.From,x.Slot,x.Value,x.Certs,x.Refs)).copy (fun l x=>[.int .i64 x.Kind,.int .i64 x.View,.int .i64 x.From,.int .i64 x.Slot,.int .i64 x.Value,.rsl l false (x.Certs.map (Enc.cs l)),.rsl l false (x.Refs.map (Enc.cs l))]) (fun _ _=>rfl) 7 1 rfl rfl
instance:Tr TMsg:=Tr.of (fun x:TMsg=>(x.Kind,x.View,x.From,x.Slot,x.Value,x.Certs,x.Refs)) (fun _ _=>rfl) rfl rfl
structure TOp where
  Kind:Int
  Path:Str
  Data:Int
  Version:Int
  Seq:Bool
  Own:Bool
  deriving DecidableEq
instance:Enc TOp:=(Enc.of fun x:TOp=>(x.Kind,x.Path,x.Data,x.Version,x.Seq,x.Own)).copy (fun l x=>[.int .i64 x.Kind,encS x.Path,.int .i64 x.Data,.int .i64 x.Version,.bool x.Seq,.bool x.Own]) (fun _ _=>rfl) 6 0 rfl rfl
instance:Tr TOp:=Tr.of (fun x:TOp=>(x.Kind,x.Path,x.Data,x.Version,x.Seq,x.Own)) (fun _ _=>rfl) rfl rfl
structure TRequest where
  Client:Int
  Number:Int
  Time:Int
  Ops:List TOp
  deriving DecidableEq
instance:Enc TRequest:=(Enc.of fun x:TRequest=>(x.Client,x.Number,x.Time,x.Ops)).copy (fun l x=>[.int .i64 x.Client,.int .i64 x.Number,.int .i64 x.Time,.rsl l false (x.Ops.map (Enc.cs l))]) (fun _ _=>rfl) 4 1 rfl rfl
instance:Tr TRequest:=Tr.of (fun x:TRequest=>(x.Client,x.Number,x.Time,x.Ops)) (fun _ _=>rfl) rfl rfl
structure TCluster where
  F:Int
  Bad:List Int
  Replicas:List TReplica
  Ledger:List TMsg
  Requests:List TRequest
  deriving DecidableEq
instance:Enc TCluster:=(Enc.of fun x:TCluster=>(x.F,x.Bad,x.Replicas,x.Ledger,x.Requests)).copy (fun l x=>[.int .i64 x.F,.rsl l false (x.Bad.map (Enc.cs l)),.rsl l false (x.Replicas.map (Enc.cs l)),.rsl l false (x.Ledger.map (Enc.cs l)),.rsl l false (x.Requests.map (Enc.cs l))]) (fun _ _=>rfl) 5 2 rfl rfl
instance:Tr TCluster:=Tr.of (fun x:TCluster=>(x.F,x.Bad,x.Replicas,x.Ledger,x.Requests)) (fun _ _=>rfl) rfl rfl
structure TClusterResult where
  Code:Int
  Cluster:TCluster
  deriving DecidableEq
instance:Enc TClusterResult:=(Enc.of fun x:TClusterResult=>(x.Code,x.Cluster)).copy (fun l x=>[.int .i64 x.Code,.int .i64 x.Cluster.F,.rsl l false (x.Cluster.Bad.map (Enc.cs l)),.rsl l false (x.Cluster.Replicas.map (Enc.cs l)),.rsl l false (x.Cluster.Ledger.map (Enc.cs l)),.rsl l false (x.Cluster.Requests.map (Enc.cs l))]) (fun _ _=>rfl) 6 2 rfl rfl
instance:Tr TClusterResult:=Tr.of (fun x:TClusterResult=>(x.Code,x.Cluster)) (fun _ _=>rfl) rfl rfl
theorem bneq42 (x y:Bool):bin2 Tryz.prog .neq 4 (.bool x) (.bool y) = some (.bool (x != y)):=beq_neq2 (P:=Tryz.prog) (t:=4) (by kernel_rfl)
theorem bd174_0_1_2 {x0 x1 x2 r:AV} (hr:(afill (plc [(0,1),(1,1),(2,1)]) [.int .i64 0,.int .i64 0,.int .i64 0] [(0,x0),(1,x1),(2,x2)]).map AV.agg = some r):abuild Tryz.prog 174 [(0,x0),(1,x1),(2,x2)] = some r:=Eq.trans (by kernel_rfl) hr
theorem bd36_0_1_2_3 {x0 x1 x2 x3 r:AV} (hr:(afill (plc [(0,1),(1,1),(2,1),(3,1),(4,1)]) [.int .i64 0,.rsl false true [],.rsl false true [],.rsl false true [],.rsl false true []] [(0,x0),(1,x1),(2,x2),(3,x3)]).map AV.agg = some r):abuild Tryz.prog 36 [(0,x0),(1,x1),(2,x2),(3,x3)] = some r:=Eq.trans (by kernel_rfl) hr
theorem bd50_0 {x0 r:AV} (hr:(afill (plc [(0,1),(1,5)]) [.int .i64 0,.int .i64 0,.rsl false true [],.rsl false true [],.rsl false true [],.rsl false true []] [(0,x0)]).map AV.agg = some r):abuild Tryz.prog 50 [(0,x0)] = some r:=Eq.trans (by kernel_rfl) hr
theorem bd50_1 {x1 r:AV} (hr:(afill (plc [(0,1),(1,5)]) [.int .i64 0,.int .i64 0,.rsl false true [],.rsl false true [],.rsl false true [],.rsl false true []] [(1,x1)]).map AV.agg = some r):abuild Tryz.prog 50 [(1,x1)] = some r:=Eq.trans (by kernel_rfl) hr
theorem bd71 { r:AV} (hr:(afill (plc [(0,1),(1,1),(2,1),(3,1),(4,1),(5,1),(6,1)]) [.int .i64 0,.int .i64 0,.int .i64 0,.int .i64 0,.int .i64 0,.rsl false true [],.rsl false true []] []).map AV.agg = some r):abuild Tryz.prog 71 [] = some r:=Eq.trans (by kernel_rfl) hr
theorem bd71_0_1_2_3_4 {x0 x1 x2 x3 x4 r:AV} (hr:(afill (plc [(0,1),(1,1),(2,1),(3,1),(4,1),(5,1),(6,1)]) [.int .i64 0,.int .i64 0,.int .i64 0,.int .i64 0,.int .i64 0,.rsl false true [],.rsl false true []] [(0,x0),(1,x1),(2,x2),(3,x3),(4,x4)]).map AV.agg = some r):abuild Tryz.prog 71 [(0,x0),(1,x1),(2,x2),(3,x3),(4,x4)] = some r:=Eq.trans (by kernel_rfl) hr
theorem qb199 {n:Int} {S:St}:quietS (abuildS Tryz.prog 199 1 [(0,.int .u8 n)] S) S = some (.rsl false true [[.int .u8 n]],S):=by kernel_rfl
theorem qs22_0 {S:St}:quietS (abuildS Tryz.prog 22 0 [] S) S = some (.rsl false true [],S):=by kernel_rfl
theorem qs221_0 {S:St}:quietS (abuildS Tryz.prog 221 0 [] S) S = some (.rsl false true [],S):=by kernel_rfl
theorem qs221_1 {x0:Str} {S:St}:quietS (abuildS Tryz.prog 221 1 [(0,encS x0)] S) S = some (.rsl false true [[encS x0]],S):=by kernel_rfl
theorem qs32_0 {S:St}:quietS (abuildS Tryz.prog 32 0 [] S) S = some (.rsl false true [],S):=by kernel_rfl
theorem qs33_0 {S:St}:quietS (abuildS Tryz.prog 33 0 [] S) S = some (.rsl false true [],S):=by kernel_rfl
theorem qs52_0 {S:St}:quietS (abuildS Tryz.prog 52 0 [] S) S = some (.rsl false true [],S):=by kernel_rfl
theorem qs69_0 {S:St}:quietS (abuildS Tryz.prog 69 0 [] S) S = some (.rsl false true [],S):=by kernel_rfl
theorem bs22_1 {x0 r:AV} {S:St} (hr:(aparts 1 0 [(0,x0)]).map (fun es=>mkS 1 es S) = some (r,S)):abuildS Tryz.prog 22 1 [(0,x0)] S = some (r,S):=Eq.trans (by kernel_rfl) hr
theorem bs33_1 {x0 r:AV} {S:St} (hr:(aparts 7 0 [(0,x0)]).map (fun es=>mkS 7 es S) = some (r,S)):abuildS Tryz.prog 33 1 [(0,x0)] S = some (r,S):=Eq.trans (by kernel_rfl) hr
theorem bt33 {a:AV} {S:St}:abuildS Tryz.prog 33 1 [(0,a)] S = (aparts 7 0 [(0,a)]).map fun es=>mkS 7 es S:=by kernel_rfl
theorem bt34 {a:AV} {S:St}:abuildS Tryz.prog 34 1 [(0,a)] S = (aparts 4 0 [(0,a)]).map fun es=>mkS 4 es S:=by kernel_rfl
theorem cv122_123 (run:FuncId→List AV→St→Option (AV×St)) (cap args:List AV) (S:St):callV (cfg NN) run 122 (.fn 123 cap) args S = call0 run 123 (args++cap) S:=by kernel_rfl
theorem cv178_218 (run:FuncId→List AV→St→Option (AV×St)) (cap args:List AV) (S:St):callV (cfg NN) run 178 (.fn 218 cap) args S = call0 run 218 (args++cap) S:=by kernel_rfl
theorem cv181_182 (run:FuncId→List AV→St→Option (AV×St)) (cap args:List AV) (S:St):callV (cfg NN) run 181 (.fn 182 cap) args S = call0 run 182 (args++cap) S:=by kernel_rfl
theorem cv212_213 (run:FuncId→List AV→St→Option (AV×St)) (cap args:List AV) (S:St):callV (cfg NN) run 212 (.fn 213 cap) args S = call0 run 213 (args++cap) S:=by kernel_rfl
theorem cv212_256 (run:FuncId→List AV→St→Option (AV×St)) (cap args:List AV) (S:St):callV (cfg NN) run 212 (.fn 256 cap) args S = call0 run 256 (args++cap) S:=by kernel_rfl
theorem cv222_180 (run:FuncId→List AV→St→Option (AV×St)) (cap args:List AV) (S:St):callV (cfg NN) run 222 (.fn 180 cap) args S = call0 run 180 (args++cap) S:=by kernel_rfl
theorem cv231_203 (run:FuncId→List AV→St→Option (AV×St)) (cap args:List AV) (S:St):callV (cfg NN) run 231 (.fn 203 cap) args S = call0 run 203 (args++cap) S:=by kernel_rfl
theorem cv231_230 (run:FuncId→List AV→St→Option (AV×St)) (cap args:List AV) (S:St):callV (cfg NN) run 231 (.fn 230 cap) args S = call0 run 230 (args++cap) S:=by kernel_rfl
theorem cv232_205 (run:FuncId→List AV→St→Option (AV×St)) (cap args:List AV) (S:St):callV (cfg NN) run 232 (.fn 205 cap) args S = call0 run 205 (args++cap) S:=by kernel_rfl
theorem cv232_216 (run:FuncId→List AV→St→Option (AV×St)) (cap args:List AV) (S:St):callV (cfg NN) run 232 (.fn 216 cap) args S = call0 run 216 (args++cap) S:=by kernel_rfl
theorem cv256_235 (run:FuncId→List AV→St→Option (AV×St)) (cap args:List AV) (S:St):callV (cfg NN) run 256 (.fn 235 cap) args S = call0 run 235 (args++cap) S:=by kernel_rfl
theorem cw143_159 (run:FuncId→List AV→St→Option (AV×St)) (cap args:List AV) (S:St):callV (cfg NN) run 143 (.fn 159 cap) args S = callS run 159 (args++cap) S:=by kernel_rfl
theorem cw80_142 (run:FuncId→List AV→St→Option (AV×St)) (cap args:List AV) (S:St):callV (cfg NN) run 80 (.fn 142 cap) args S = callS run 142 (args++cap) S:=by kernel_rfl
theorem cvt220_3 (n:Int) (S:St):aconv Tryz.prog 220 3 (.int .u64 n) S = some (.int .i64 (wi .i64 n)):=by kernel_rfl
theorem cvt242_5 (n:Int) (S:St):aconv Tryz.prog 242 5 (.int .u64 n) S = some (.int .u8 (wi .u8 n)):=by kernel_rfl
theorem cvt3_220 (n:Int) (S:St):aconv Tryz.prog 3 220 (.int .i64 n) S = some (.int .u64 (wi .u64 n)):=by kernel_rfl
theorem cvt3_248 (n:Int) (S:St):aconv Tryz.prog 3 248 (.int .i64 n) S = some (.int .u64 (wi .u64 n)):=by kernel_rfl
theorem cvt3_5 (n:Int) (S:St):aconv Tryz.prog 3 5 (.int .i64 n) S = some (.int .u8 (wi .u8 n)):=by kernel_rfl
theorem cvt5_3 (n:Int) (S:St):aconv Tryz.prog 5 3 (.int .u8 n) S = some (.int .i64 (wi .i64 n)):=by kernel_rfl
theorem cvb199_9 (n:Int) (S:St):aconv Tryz.prog 199 9 (.rsl false true [[.int .u8 n]]) S = some (encS [UInt8.ofNat n.toNat]):=by kernel_rfl
theorem fo36_Bad:Fo (α:=TCluster) (γ:=List Int) 1 (fun x=>x.Bad) (fun y x=>{ x with Bad:=y }):=fun S i c x h=>((fo_snd (fo_fst fo_self)):Fo (α:=Int×(List Int)×(List TReplica)×(List TMsg)×(List TRequest)) (γ:=List Int) 1 _ _) S i c (x.F,x.Bad,x.Replicas,x.Ledger,x.Requests) h
theorem fo36_Ledger:Fo (α:=TCluster) (γ:=List TMsg) 3 (fun x=>x.Ledger) (fun y x=>{ x with Ledger:=y }):=fun S i c x h=>((fo_snd (fo_snd (fo_snd (fo_fst fo_self)))):Fo (α:=Int×(List Int)×(List TReplica)×(List TMsg)×(List TRequest)) (γ:=List TMsg) 3 _ _) S i c (x.F,x.Bad,x.Replicas,x.Ledger,x.Requests) h
theorem fo36_Replicas:Fo (α:=TCluster) (γ:=List TReplica) 2 (fun x=>x.Replicas) (fun y x=>{ x with Replicas:=y }):=fun S i c x h=>((fo_snd (fo_snd (fo_fst fo_self))):Fo (α:=Int×(List Int)×(List TReplica)×(List TMsg)×(List TRequest)) (γ:=List TReplica) 2 _ _) S i c (x.F,x.Bad,x.Replicas,x.Ledger,x.Requests) h
theorem fo36_Requests:Fo (α:=TCluster) (γ:=List TRequest) 4 (fun x=>x.Requests) (fun y x=>{ x with Requests:=y }):=fun S i c x h=>((fo_snd (fo_snd (fo_snd (fo_snd fo_self)))):Fo (α:=Int×(List Int)×(List TReplica)×(List TMsg)×(List TRequest)) (γ:=List TRequest) 4 _ _) S i c (x.F,x.Bad,x.Replicas,x.Ledger,x.Requests) h
theorem fo50_Cluster:Fo (α:=TClusterResult) (γ:=TCluster) 1 (fun x=>x.Cluster) (fun y x=>{ x with Cluster:=y }):=fun S i c x h=>((fo_snd fo_self):Fo (α:=Int×TCluster) (γ:=TCluster) 1 _ _) S i c (x.Code,x.Cluster) h
theorem fo54_Ops:Fo (α:=TRequest) (γ:=List TOp) 3 (fun x=>x.Ops) (fun y x=>{ x with Ops:=y }):=fun S i c x h=>((fo_snd (fo_snd (fo_snd fo_self))):Fo (α:=Int×Int×Int×(List TOp)) (γ:=List TOp) 3 _ _) S i c (x.Client,x.Number,x.Time,x.Ops) h
theorem fo71_Certs:Fo (α:=TMsg) (γ:=List TCert) 5 (fun x=>x.Certs) (fun y x=>{ x with Certs:=y }):=fun S i c x h=>((fo_snd (fo_snd (fo_snd (fo_snd (fo_snd (fo_fst fo_self)))))):Fo (α:=Int×Int×Int×Int×Int×(List TCert)×(List Int)) (γ:=List TCert) 5 _ _) S i c (x.Kind,x.View,x.From,x.Slot,x.Value,x.Certs,x.Refs) h
theorem fo71_Refs:Fo (α:=TMsg) (γ:=List Int) 6 (fun x=>x.Refs) (fun y x=>{ x with Refs:=y }):=fun S i c x h=>((fo_snd (fo_snd (fo_snd (fo_snd (fo_snd (fo_snd fo_self)))))):Fo (α:=Int×Int×Int×Int×Int×(List TCert)×(List Int)) (γ:=List Int) 6 _ _) S i c (x.Kind,x.View,x.From,x.Slot,x.Value,x.Certs,x.Refs) h
theorem mk22 (S:St) (n:Nat) (h:(n + 1) * (8 + 1)≤70368744177664):amake Tryz.prog 22 (.int .i64 n) (.int .i64 n) S = some (.bsl S.length 0 n n true,S++[⟨1,List.replicate n [.int .i64 0],true⟩]):=
  amake_ok (e:=2) (sz:=1) (by_:=8) (z:=[.int .i64 0]) (z0:=[.int .i64 0]) (by kernel_rfl) (by kernel_rfl) (by kernel_rfl) rfl rfl (by omega) rfl rfl h
theorem mk221 (S:St) (n:Nat) (h:(n + 1) * (16 + 1)≤70368744177664):amake Tryz.prog 221 (.int .i64 n) (.int .i64 n) S = some (.bsl S.length 0 n n true,S++[⟨1,List.replicate n [.str ⟨#[]⟩],true⟩]):=
  amake_ok (e:=9) (sz:=1) (by_:=16) (z:=[.str ⟨#[]⟩]) (z0:=[.str ⟨#[]⟩]) (by kernel_rfl) (by kernel_rfl) (by kernel_rfl) rfl rfl (by omega) rfl rfl h
theorem mk32 (S:St) (n:Nat) (h:(n + 1) * (32 + 1)≤70368744177664):amake Tryz.prog 32 (.int .i64 n) (.int .i64 n) S = some (.bsl S.length 0 n n true,S++[⟨4,List.replicate n [.int .i64 0,.int .i64 0,.int .i64 0,.int .i64 0],true⟩]):=
  amake_ok (e:=118) (sz:=4) (by_:=32) (z:=[.int .i64 0,.int .i64 0,.int .i64 0,.int .i64 0]) (z0:=[.int .i64 0,.int .i64 0,.int .i64 0,.int .i64 0]) (by kernel_rfl) (by kernel_rfl) (by kernel_rfl) rfl rfl (by omega) rfl rfl h
theorem mk33 (S:St) (n:Nat) (h:(n + 1) * (88 + 1)≤70368744177664):amake Tryz.prog 33 (.int .i64 n) (.int .i64 n) S = some (.bsl S.length 0 n n true,S++[⟨7,List.replicate n [.int .i64 0,.int .i64 0,.int .i64 0,.int .i64 0,.int .i64 0,.rsl false false [],.rsl false false []],false⟩]):=
  amake_ok (e:=71) (sz:=7) (by_:=88) (z:=[.int .i64 0,.int .i64 0,.int .i64 0,.int .i64 0,.int .i64 0,.rsl false false [],.rsl false false []]) (z0:=[.int .i64 0,.int .i64 0,.int .i64 0,.int .i64 0,.int .i64 0,.rsl false true [],.rsl false true []]) (by kernel_rfl) (by kernel_rfl) (by kernel_rfl) rfl rfl (by omega) rfl rfl h
theorem mk34 (S:St) (n:Nat) (h:(n + 1) * (48 + 1)≤70368744177664):amake Tryz.prog 34 (.int .i64 n) (.int .i64 n) S = some (.bsl S.length 0 n n true,S++[⟨4,List.replicate n [.int .i64 0,.int .i64 0,.int .i64 0,.rsl false false []],false⟩]):=
  amake_ok (e:=54) (sz:=4) (by_:=48) (z:=[.int .i64 0,.int .i64 0,.int .i64 0,.rsl false false []]) (z0:=[.int .i64 0,.int .i64 0,.int .i64 0,.rsl false true []]) (by kernel_rfl) (by kernel_rfl) (by kernel_rfl) rfl rfl (by omega) rfl rfl h
theorem mk52 (S:St) (n:Nat) (h:(n + 1) * (48 + 1)≤70368744177664):amake Tryz.prog 52 (.int .i64 n) (.int .i64 n) S = some (.bsl S.length 0 n n true,S++[⟨6,List.replicate n [.int .i64 0,.str ⟨#[]⟩,.int .i64 0,.int .i64 0,.bool false,.bool false],true⟩]):=
  amake_ok (e:=159) (sz:=6) (by_:=48) (z:=[.int .i64 0,.str ⟨#[]⟩,.int .i64 0,.int .i64 0,.bool false,.bool false]) (z0:=[.int .i64 0,.str ⟨#[]⟩,.int .i64 0,.int .i64 0,.bool false,.bool false]) (by kernel_rfl) (by kernel_rfl) (by kernel_rfl) rfl rfl (by omega) rfl rfl h
theorem mk69 (S:St) (n:Nat) (h:(n + 1) * (24 + 1)≤70368744177664):amake Tryz.prog 69 (.int .i64 n) (.int .i64 n) S = some (.bsl S.length 0 n n true,S++[⟨3,List.replicate n [.int .i64 0,.int .i64 0,.int .i64 0],true⟩]):=
  amake_ok (e:=174) (sz:=3) (by_:=24) (z:=[.int .i64 0,.int .i64 0,.int .i64 0]) (z0:=[.int .i64 0,.int .i64 0,.int .i64 0]) (by kernel_rfl) (by kernel_rfl) (by kernel_rfl) rfl rfl (by omega) rfl rfl h
theorem pbeql103 (b i o n L:Nat):abin Tryz.prog .eql 103 (.bp b i o n L) .nilp = some (.bool false):=by kernel_rfl
theorem peql103n:abin Tryz.prog .eql 103 (.nilp) .nilp = some (.bool true):=by kernel_rfl
theorem plsTReplica {S:St} {l:Bool} (x:TReplica):Tr.ow S [] (Enc.cs l x) x:=(pl_pair pl_int (pl_pair pl_int (pl_pair pl_int pl_int)) _:Tr.ow (α:=Int×Int×Int×Int) S [] (Enc.cs l _) (x.Id,x.View,x.Start,x.Done))
theorem plt118 {l:Bool} (S:St) (x:TReplica):Tr.ow S [] (Enc.cs l x) x:=plsTReplica x
theorem plsTOp {S:St} {l:Bool} (x:TOp):Tr.ow S [] (Enc.cs l x) x:=(pl_pair pl_int (pl_pair pl_string (pl_pair pl_int (pl_pair pl_int (pl_pair pl_bool pl_bool)))) _:Tr.ow (α:=Int×Str×Int×Int×Bool×Bool) S [] (Enc.cs l _) (x.Kind,x.Path,x.Data,x.Version,x.Seq,x.Own))
theorem plt159 {l:Bool} (S:St) (x:TOp):Tr.ow S [] (Enc.cs l x) x:=plsTOp x
theorem plsTCert {S:St} {l:Bool} (x:TCert):Tr.ow S [] (Enc.cs l x) x:=(pl_pair pl_int (pl_pair pl_int pl_int) _:Tr.ow (α:=Int×Int×Int) S [] (Enc.cs l _) (x.Slot,x.View,x.Value))
theorem plt174 {l:Bool} (S:St) (x:TCert):Tr.ow S [] (Enc.cs l x) x:=plsTCert x
theorem plt2 {l:Bool} (S:St) (x:Int):Tr.ow S [] (Enc.cs l x) x:=pl_int x
theorem rd118_Id:Rd (α:=TReplica) 0 (fun x=>AV.int .i64 x.Id):=(rd_of (α:=TReplica) (β:=Int×Int×Int×Int) (f:=fun x=>(x.Id,x.View,x.Start,x.Done)) (rd_fst rd_int) rfl)
theorem rd118_View:Rd (α:=TReplica) 1 (fun x=>AV.int .i64 x.View):=(rd_of (α:=TReplica) (β:=Int×Int×Int×Int) (f:=fun x=>(x.Id,x.View,x.Start,x.Done)) (rd_snd (rd_fst rd_int)) rfl)
theorem sneq1742 (x0:Int) (x1:Int) (x2:Int) (y0:Int) (y1:Int) (y2:Int):bin2 Tryz.prog .neq 174 (.agg [.int .i64 x0,.int .i64 x1,.int .i64 x2]) (.agg [.int .i64 y0,.int .i64 y1,.int .i64 y2]) = some (.bool (!((x0 == y0) && ((x1 == y1) && ((x2 == y2) && true))))):=by kernel_rfl
theorem trx36 {S:St} {ids:List Nat} {cs:List AV} {x:TCluster} (h:Tr.ow S ids cs x):∃ v0 v1 v2 v3:AV,cs = [.int .i64 x.F,v0,v1,v2,v3]:=by
  obtain ⟨_,_,_,_,rfl,_,rfl,⟨rfl,rfl⟩,⟨_,_,_,_,rfl,_,rfl,⟨v0,rfl,_⟩,⟨_,_,_,_,rfl,_,rfl,⟨v1,rfl,_⟩,⟨_,_,_,_,rfl,_,rfl,⟨v2,rfl,_⟩,⟨v3,rfl,_⟩⟩⟩⟩⟩:=h
  exact ⟨_,_,_,_,rfl⟩
theorem trx50 {S:St} {ids:List Nat} {cs:List AV} {x:TClusterResult} (h:Tr.ow S ids cs x):∃ v0 v1 v2 v3:AV,cs = [.int .i64 x.Code,.int .i64 x.Cluster.F,v0,v1,v2,v3]:=by
  obtain ⟨_,_,_,_,rfl,_,rfl,⟨rfl,rfl⟩,⟨_,_,_,_,rfl,_,rfl,⟨rfl,rfl⟩,⟨_,_,_,_,rfl,_,rfl,⟨v0,rfl,_⟩,⟨_,_,_,_,rfl,_,rfl,⟨v1,rfl,_⟩,⟨_,_,_,_,rfl,_,rfl,⟨v2,rfl,_⟩,⟨v3,rfl,_⟩⟩⟩⟩⟩⟩:=h
  exact ⟨_,_,_,_,rfl⟩
theorem trx54 {S:St} {ids:List Nat} {cs:List AV} {x:TRequest} (h:Tr.ow S ids cs x):∃ v0:AV,cs = [.int .i64 x.Client,.int .i64 x.Number,.int .i64 x.Time,v0]:=by
  obtain ⟨_,_,_,_,rfl,_,rfl,⟨rfl,rfl⟩,⟨_,_,_,_,rfl,_,rfl,⟨rfl,rfl⟩,⟨_,_,_,_,rfl,_,rfl,⟨rfl,rfl⟩,⟨v0,rfl,_⟩⟩⟩⟩:=h
  exact ⟨_,rfl⟩
theorem trx71 {S:St} {ids:List Nat} {cs:List AV} {x:TMsg} (h:Tr.ow S ids cs x):∃ v0 v1:AV,cs = [.int .i64 x.Kind,.int .i64 x.View,.int .i64 x.From,.int .i64 x.Slot,.int .i64 x.Value,v0,v1]:=by
  obtain ⟨_,_,_,_,rfl,_,rfl,⟨rfl,rfl⟩,⟨_,_,_,_,rfl,_,rfl,⟨rfl,rfl⟩,⟨_,_,_,_,rfl,_,rfl,⟨rfl,rfl⟩,⟨_,_,_,_,rfl,_,rfl,⟨rfl,rfl⟩,⟨_,_,_,_,rfl,_,rfl,⟨rfl,rfl⟩,⟨_,_,_,_,rfl,_,rfl,⟨v0,rfl,_⟩,⟨v1,rfl,_⟩⟩⟩⟩⟩⟩⟩:=h
  exact ⟨_,_,rfl⟩
theorem und22:Tryz.prog.underlying 22 = some (.slice 2):=by kernel_rfl
theorem und32:Tryz.prog.underlying 32 = some (.slice 118):=by kernel_rfl
theorem und33:Tryz.prog.underlying 33 = some (.slice 71):=by kernel_rfl
theorem und52:Tryz.prog.underlying 52 = some (.slice 159):=by kernel_rfl
theorem und69:Tryz.prog.underlying 69 = some (.slice 174):=by kernel_rfl
theorem up118_Done (n:Int):Up (α:=TReplica) 3 (.int .i64 n) (fun x=>{ x with Done:=n }):=(up_of (α:=TReplica) (β:=Int×Int×Int×Int) (f:=fun x=>(x.Id,x.View,x.Start,x.Done)) (v:=fun x=>{ x with Done:=n }) (up_snd (up_snd (up_snd (up_int (n:=n))))) rfl (fun _=>rfl))
theorem up118_Id (n:Int):Up (α:=TReplica) 0 (.int .i64 n) (fun x=>{ x with Id:=n }):=(up_of (α:=TReplica) (β:=Int×Int×Int×Int) (f:=fun x=>(x.Id,x.View,x.Start,x.Done)) (v:=fun x=>{ x with Id:=n }) (up_fst (up_int (n:=n))) rfl (fun _=>rfl))
theorem up118_Start (n:Int):Up (α:=TReplica) 2 (.int .i64 n) (fun x=>{ x with Start:=n }):=(up_of (α:=TReplica) (β:=Int×Int×Int×Int) (f:=fun x=>(x.Id,x.View,x.Start,x.Done)) (v:=fun x=>{ x with Start:=n }) (up_snd (up_snd (up_fst (up_int (n:=n))))) rfl (fun _=>rfl))
theorem up118_View (n:Int):Up (α:=TReplica) 1 (.int .i64 n) (fun x=>{ x with View:=n }):=(up_of (α:=TReplica) (β:=Int×Int×Int×Int) (f:=fun x=>(x.Id,x.View,x.Start,x.Done)) (v:=fun x=>{ x with View:=n }) (up_snd (up_fst (up_int (n:=n)))) rfl (fun _=>rfl))
theorem up159_Data (n:Int):Up (α:=TOp) 2 (.int .i64 n) (fun x=>{ x with Data:=n }):=(up_of (α:=TOp) (β:=Int×Str×Int×Int×Bool×Bool) (f:=fun x=>(x.Kind,x.Path,x.Data,x.Version,x.Seq,x.Own)) (v:=fun x=>{ x with Data:=n }) (up_snd (up_snd (up_fst (up_int (n:=n))))) rfl (fun _=>rfl))
theorem up159_Kind (n:Int):Up (α:=TOp) 0 (.int .i64 n) (fun x=>{ x with Kind:=n }):=(up_of (α:=TOp) (β:=Int×Str×Int×Int×Bool×Bool) (f:=fun x=>(x.Kind,x.Path,x.Data,x.Version,x.Seq,x.Own)) (v:=fun x=>{ x with Kind:=n }) (up_fst (up_int (n:=n))) rfl (fun _=>rfl))
theorem up159_Own (n:Bool):Up (α:=TOp) 5 (.bool n) (fun x=>{ x with Own:=n }):=(up_of (α:=TOp) (β:=Int×Str×Int×Int×Bool×Bool) (f:=fun x=>(x.Kind,x.Path,x.Data,x.Version,x.Seq,x.Own)) (v:=fun x=>{ x with Own:=n }) (up_snd (up_snd (up_snd (up_snd (up_snd (up_bool (n:=n))))))) rfl (fun _=>rfl))
theorem up159_Path (n:Str):Up (α:=TOp) 1 (encS n) (fun x=>{ x with Path:=n }):=(up_of (α:=TOp) (β:=Int×Str×Int×Int×Bool×Bool) (f:=fun x=>(x.Kind,x.Path,x.Data,x.Version,x.Seq,x.Own)) (v:=fun x=>{ x with Path:=n }) (up_snd (up_fst (up_str (s:=n)))) rfl (fun _=>rfl))
theorem up159_Seq (n:Bool):Up (α:=TOp) 4 (.bool n) (fun x=>{ x with Seq:=n }):=(up_of (α:=TOp) (β:=Int×Str×Int×Int×Bool×Bool) (f:=fun x=>(x.Kind,x.Path,x.Data,x.Version,x.Seq,x.Own)) (v:=fun x=>{ x with Seq:=n }) (up_snd (up_snd (up_snd (up_snd (up_fst (up_bool (n:=n))))))) rfl (fun _=>rfl))
theorem up159_Version (n:Int):Up (α:=TOp) 3 (.int .i64 n) (fun x=>{ x with Version:=n }):=(up_of (α:=TOp) (β:=Int×Str×Int×Int×Bool×Bool) (f:=fun x=>(x.Kind,x.Path,x.Data,x.Version,x.Seq,x.Own)) (v:=fun x=>{ x with Version:=n }) (up_snd (up_snd (up_snd (up_fst (up_int (n:=n)))))) rfl (fun _=>rfl))
theorem up174_Slot (n:Int):Up (α:=TCert) 0 (.int .i64 n) (fun x=>{ x with Slot:=n }):=(up_of (α:=TCert) (β:=Int×Int×Int) (f:=fun x=>(x.Slot,x.View,x.Value)) (v:=fun x=>{ x with Slot:=n }) (up_fst (up_int (n:=n))) rfl (fun _=>rfl))
theorem up174_Value (n:Int):Up (α:=TCert) 2 (.int .i64 n) (fun x=>{ x with Value:=n }):=(up_of (α:=TCert) (β:=Int×Int×Int) (f:=fun x=>(x.Slot,x.View,x.Value)) (v:=fun x=>{ x with Value:=n }) (up_snd (up_snd (up_int (n:=n)))) rfl (fun _=>rfl))
theorem up174_View (n:Int):Up (α:=TCert) 1 (.int .i64 n) (fun x=>{ x with View:=n }):=(up_of (α:=TCert) (β:=Int×Int×Int) (f:=fun x=>(x.Slot,x.View,x.Value)) (v:=fun x=>{ x with View:=n }) (up_snd (up_fst (up_int (n:=n)))) rfl (fun _=>rfl))
theorem up54_Client (n:Int):Up (α:=TRequest) 0 (.int .i64 n) (fun x=>{ x with Client:=n }):=(up_of (α:=TRequest) (β:=Int×Int×Int×(List TOp)) (f:=fun x=>(x.Client,x.Number,x.Time,x.Ops)) (v:=fun x=>{ x with Client:=n }) (up_fst (up_int (n:=n))) rfl (fun _=>rfl))
theorem up54_Number (n:Int):Up (α:=TRequest) 1 (.int .i64 n) (fun x=>{ x with Number:=n }):=(up_of (α:=TRequest) (β:=Int×Int×Int×(List TOp)) (f:=fun x=>(x.Client,x.Number,x.Time,x.Ops)) (v:=fun x=>{ x with Number:=n }) (up_snd (up_fst (up_int (n:=n)))) rfl (fun _=>rfl))
theorem up54_Time (n:Int):Up (α:=TRequest) 2 (.int .i64 n) (fun x=>{ x with Time:=n }):=(up_of (α:=TRequest) (β:=Int×Int×Int×(List TOp)) (f:=fun x=>(x.Client,x.Number,x.Time,x.Ops)) (v:=fun x=>{ x with Time:=n }) (up_snd (up_snd (up_fst (up_int (n:=n))))) rfl (fun _=>rfl))
theorem up71_From (n:Int):Up (α:=TMsg) 2 (.int .i64 n) (fun x=>{ x with From:=n }):=(up_of (α:=TMsg) (β:=Int×Int×Int×Int×Int×(List TCert)×(List Int)) (f:=fun x=>(x.Kind,x.View,x.From,x.Slot,x.Value,x.Certs,x.Refs)) (v:=fun x=>{ x with From:=n }) (up_snd (up_snd (up_fst (up_int (n:=n))))) rfl (fun _=>rfl))
theorem up71_Kind (n:Int):Up (α:=TMsg) 0 (.int .i64 n) (fun x=>{ x with Kind:=n }):=(up_of (α:=TMsg) (β:=Int×Int×Int×Int×Int×(List TCert)×(List Int)) (f:=fun x=>(x.Kind,x.View,x.From,x.Slot,x.Value,x.Certs,x.Refs)) (v:=fun x=>{ x with Kind:=n }) (up_fst (up_int (n:=n))) rfl (fun _=>rfl))
theorem up71_Slot (n:Int):Up (α:=TMsg) 3 (.int .i64 n) (fun x=>{ x with Slot:=n }):=(up_of (α:=TMsg) (β:=Int×Int×Int×Int×Int×(List TCert)×(List Int)) (f:=fun x=>(x.Kind,x.View,x.From,x.Slot,x.Value,x.Certs,x.Refs)) (v:=fun x=>{ x with Slot:=n }) (up_snd (up_snd (up_snd (up_fst (up_int (n:=n)))))) rfl (fun _=>rfl))
theorem up71_Value (n:Int):Up (α:=TMsg) 4 (.int .i64 n) (fun x=>{ x with Value:=n }):=(up_of (α:=TMsg) (β:=Int×Int×Int×Int×Int×(List TCert)×(List Int)) (f:=fun x=>(x.Kind,x.View,x.From,x.Slot,x.Value,x.Certs,x.Refs)) (v:=fun x=>{ x with Value:=n }) (up_snd (up_snd (up_snd (up_snd (up_fst (up_int (n:=n))))))) rfl (fun _=>rfl))
theorem up71_View (n:Int):Up (α:=TMsg) 1 (.int .i64 n) (fun x=>{ x with View:=n }):=(up_of (α:=TMsg) (β:=Int×Int×Int×Int×Int×(List TCert)×(List Int)) (f:=fun x=>(x.Kind,x.View,x.From,x.Slot,x.Value,x.Certs,x.Refs)) (v:=fun x=>{ x with View:=n }) (up_snd (up_fst (up_int (n:=n)))) rfl (fun _=>rfl))
theorem ztr54 (S:St):Tr.ow S [] [AV.int .i64 0,AV.int .i64 0,AV.int .i64 0,AV.rsl false false []] (⟨0,0,0,[]⟩:TRequest):=((zt_pair (pl_int (l:=false) 0) (zt_pair (pl_int (l:=false) 0) (zt_pair (pl_int (l:=false) 0) (zt_nil (α:=TOp) (fl:=false))))):Tr.ow (α:=Int×Int×Int×(List TOp)) S [] _ (0,0,0,[]))
theorem ztr71 (S:St):Tr.ow S [] [AV.int .i64 0,AV.int .i64 0,AV.int .i64 0,AV.int .i64 0,AV.int .i64 0,AV.rsl false false [],AV.rsl false false []] (⟨0,0,0,0,0,[],[]⟩:TMsg):=((zt_pair (pl_int (l:=false) 0) (zt_pair (pl_int (l:=false) 0) (zt_pair (pl_int (l:=false) 0) (zt_pair (pl_int (l:=false) 0) (zt_pair (pl_int (l:=false) 0) (zt_pair (zt_nil (α:=TCert) (fl:=false)) (zt_nil (α:=Int) (fl:=false)))))))):Tr.ow (α:=Int×Int×Int×Int×Int×(List TCert)×(List Int)) S [] _ (0,0,0,0,0,[],[]))
def m45 (a0:List Int) (a1:Int):Int:=bif decide ((wi .i64 (a1 - (a0.length:Int))) < 0) then (-1) else wi .i64 (a1 - (a0.length:Int))
theorem w45 {d:Nat} (hd:1≤d) (k0:Bool) (a0:List Int) (a1:Int):Fit (R NN d 45 [.rsl k0 false (a0.map (Enc.cs k0)),.int .i64 a1] []) (some (m45 a0 a1)) PI:=by
  obtain ⟨d,rfl,g⟩:=up hd
  refine q_in (t45 NN d _ _) ?_
  unfold b45 m45
  exact q_len<|q_p fr<|q_p fr<|q_ift (fun h1=>q_ret (cv_p rfl) rfl) fun h1=>q_ret (cv_p rfl) rfl
def m46 (a0:List TReplica) (a1:Int):Int:=bif decide ((wi .i64 (a1 - (a0.length:Int))) < 0) then (-1) else wi .i64 (a1 - (a0.length:Int))
theorem w46 {d:Nat} (hd:1≤d) (k0:Bool) (a0:List TReplica) (a1:Int):Fit (R NN d 46 [.rsl k0 false (a0.map (Enc.cs k0)),.int .i64 a1] []) (some (m46 a0 a1)) PI:=by
  obtain ⟨d,rfl,g⟩:=up hd
  refine q_in (t46 NN d _ _) ?_
  unfold b46 m46
  exact q_len<|q_p fr<|q_p fr<|q_ift (fun h1=>q_ret (cv_p rfl) rfl) fun h1=>q_ret (cv_p rfl) rfl
def m90 (a0:List TCert) (a1:Int):Int:=bif decide ((wi .i64 (a1 - (a0.length:Int))) < 0) then (-1) else wi .i64 (a1 - (a0.length:Int))
theorem w90 {d:Nat} (hd:1≤d) (k0:Bool) (a0:List TCert) (a1:Int):Fit (R NN d 90 [.rsl k0 false (a0.map (Enc.cs k0)),.int .i64 a1] []) (some (m90 a0 a1)) PI:=by
  obtain ⟨d,rfl,g⟩:=up hd
  refine q_in (t90 NN d _ _) ?_
  unfold b90 m90
  exact q_len<|q_p fr<|q_p fr<|q_ift (fun h1=>q_ret (cv_p rfl) rfl) fun h1=>q_ret (cv_p rfl) rfl
def m35 (a0:TMsg) (a1:Int):Int:=bif decide ((m90 a0.Certs a1) < 0) then (-1) else bif decide ((m45 a0.Refs (m90 a0.Certs a1)) < 0) then (-1) else (m45 a0.Refs (m90 a0.Certs a1))
theorem w35 {d:Nat} (hd:2≤d) (k0:Bool) (a0:TMsg) (a1:Int):Fit (R NN d 35 [.agg (Enc.cs k0 a0),.int .i64 a1] []) (some (m35 a0 a1)) PI:=by
  obtain ⟨d,rfl,g⟩:=up hd
  refine q_in (t35 NN d _ _) ?_
  unfold b35 m35
  exact q_box (n:=7) rfl rfl (by decide) fun b1=>q_p fr<|q_ld 0 rfl rfl<|q_c0t (aF2 cv_r (cv_p rfl) fun l0_ l1_=>w90 (by omega) l0_ a0.Certs a1)<|q_p fr<|q_ift (fun h2=>q_ret (cv_p rfl) rfl) fun h2=>q_p fr<|q_ld 0 rfl rfl<|q_c0t (aF2 cv_r (cv_p rfl) fun l0_ l1_=>w45 (by omega) l0_ a0.Refs (m90 a0.Certs a1))<|q_p fr<|q_ift (fun h1=>q_ret (cv_p rfl) rfl) fun h1=>q_ret (cv_p rfl) rfl
def ms47_0 (a0:List TMsg) (s1:Int×Int×Int):Option (LO (Int×Int×Int)):=bif decide (s1.2.2 < (a0.length:Int)) then (getI a0 s1.2.2).bind fun x1=>bif decide ((m35 x1 s1.1) < 0) then some (LO.ret ((m35 x1 s1.1),(-1),s1.2.2)) else some (LO.norm ((m35 x1 s1.1),s1.2.1,wi .i64 (s1.2.2 + 1))) else some (LO.exit 0 (s1.1,s1.2.1,s1.2.2))
def m47 (a0:List TMsg) (a1:Int):Option (Int):=bif decide ((wi .i64 (a1 - (a0.length:Int))) < 0) then some (-1) else (loopO (ms47_0 a0) NN (wi .i64 (a1 - (a0.length:Int)),0,0)).bind (contO (fun _=>none) (fun i1 s2=>if i1 = 0 then some s2.1 else none) (fun s2=>some s2.2.1))
theorem w47 {d:Nat} (hd:3≤d) (k0:Bool) (a0:List TMsg) (a1:Int):Fit (R NN d 47 [.rsl k0 false (a0.map (Enc.cs k0)),.int .i64 a1] []) (m47 a0 a1) PI:=by
  obtain ⟨d,rfl,g⟩:=up hd
  refine q_in (t47 NN d _ _) ?_
  unfold b47 m47
  refine q_len<|q_p fr<|q_p fr<|q_i ?_ ?_
  ·exact q_ret (cv_p rfl) rfl
  ·refine q_lp (A:=fun (s:Int×Int×Int)=>[.int .i64 s.1,.int .i64 s.2.1,.int .i64 s.2.2]) (B:=fun s=>[]) 0 rr ?_ ?_ ?_
   ·intro s1
    unfold s47_0 ms47_0
    exact q_len<|q_p fr<|q_i (q_ix rfl fun x1 hx1=>q_p fr<|q_c0t (aF2 (cv_a (cvs_e (l0:=k0) (x:=x1))) (cv_p rfl) fun l0_ l1_=>w35 (by omega) l0_ x1 s1.1)<|q_p fr<|q_i (q_lret 0 rr)<|q_p fr<|q_norm 0 rr)<|q_exit 0 rr
   ·exact fun i1 s2=>q_n (q_ret (cv_p rfl) rfl)<|q_none
   ·exact fun s2=>q_ret (cv_p rfl) rfl
def m124 (a0:TOp) (a1:Int):Int:=bif decide ((wi .i64 (a1 - (a0.Path.length:Int))) < 0) then (-1) else wi .i64 (a1 - (a0.Path.length:Int))
theorem w124 {d:Nat} (hd:1≤d) (k0:Bool) (a0:TOp) (a1:Int):Fit (R NN d 124 [.agg (Enc.cs k0 a0),.int .i64 a1] []) (some (m124 a0 a1)) PI:=by
  obtain ⟨d,rfl,g⟩:=up hd
  refine q_in (t124 NN d _ _) ?_
  unfold b124 m124
  exact q_box (n:=6) rfl rfl (by decide) fun b1=>q_p fr<|q_ld 0 rfl rfl<|q_slen<|q_p fr<|q_p fr<|q_ift (fun h1=>q_ret (cv_p rfl) rfl) fun h1=>q_ret (cv_p rfl) rfl
def ms73_0 (a0:List TOp) (s1:Int×Int×Int):Option (LO (Int×Int×Int)):=bif decide (s1.2.2 < (a0.length:Int)) then (getI a0 s1.2.2).bind fun x1=>bif decide ((m124 x1 s1.1) < 0) then some (LO.ret ((m124 x1 s1.1),(-1),s1.2.2)) else some (LO.norm ((m124 x1 s1.1),s1.2.1,wi .i64 (s1.2.2 + 1))) else some (LO.exit 0 (s1.1,s1.2.1,s1.2.2))
def m73 (a0:List TOp) (a1:Int):Option (Int):=bif decide ((wi .i64 (a1 - (a0.length:Int))) < 0) then some (-1) else (loopO (ms73_0 a0) NN (wi .i64 (a1 - (a0.length:Int)),0,0)).bind (contO (fun _=>none) (fun i1 s2=>if i1 = 0 then some s2.1 else none) (fun s2=>some s2.2.1))
theorem w73 {d:Nat} (hd:2≤d) (k0:Bool) (a0:List TOp) (a1:Int):Fit (R NN d 73 [.rsl k0 false (a0.map (Enc.cs k0)),.int .i64 a1] []) (m73 a0 a1) PI:=by
  obtain ⟨d,rfl,g⟩:=up hd
  refine q_in (t73 NN d _ _) ?_
  unfold b73 m73
  refine q_len<|q_p fr<|q_p fr<|q_i ?_ ?_
  ·exact q_ret (cv_p rfl) rfl
  ·refine q_lp (A:=fun (s:Int×Int×Int)=>[.int .i64 s.1,.int .i64 s.2.1,.int .i64 s.2.2]) (B:=fun s=>[]) 0 rr ?_ ?_ ?_
   ·intro s1
    unfold s73_0 ms73_0
    exact q_len<|q_p fr<|q_i (q_ix rfl fun x1 hx1=>q_p fr<|q_c0t (aF2 (cv_a (cvs_e (l0:=k0) (x:=x1))) (cv_p rfl) fun l0_ l1_=>w124 (by omega) l0_ x1 s1.1)<|q_p fr<|q_i (q_lret 0 rr)<|q_p fr<|q_norm 0 rr)<|q_exit 0 rr
   ·exact fun i1 s2=>q_n (q_ret (cv_p rfl) rfl)<|q_none
   ·exact fun s2=>q_ret (cv_p rfl) rfl
def m22 (a0:TRequest) (a1:Int):Option (Int):=(m73 a0.Ops a1).bind fun y1=>bif decide (y1 < 0) then some (-1) else some y1
theorem w22 {d:Nat} (hd:3≤d) (k0:Bool) (a0:TRequest) (a1:Int):Fit (R NN d 22 [.agg (Enc.cs k0 a0),.int .i64 a1] []) (m22 a0 a1) PI:=by
  obtain ⟨d,rfl,g⟩:=up hd
  refine q_in (t22 NN d _ _) ?_
  unfold b22 m22
  exact q_box (n:=4) rfl rfl (by decide) fun b1=>q_p fr<|q_ld 0 rfl rfl<|q_c0 (aF2 cv_r (cv_p rfl) fun l0_ l1_=>w73 (by omega) l0_ a0.Ops a1) fun y1 hy1=>q_p fr<|q_i (q_ret (cv_p rfl) rfl)<|q_ret (cv_p rfl) rfl
def ms48_0 (a0:List TRequest) (s1:Int×Int×Int):Option (LO (Int×Int×Int)):=bif decide (s1.2.2 < (a0.length:Int)) then (getI a0 s1.2.2).bind fun x1=>(m22 x1 s1.1).bind fun y1=>bif decide (y1 < 0) then some (LO.ret (y1,(-1),s1.2.2)) else some (LO.norm (y1,s1.2.1,wi .i64 (s1.2.2 + 1))) else some (LO.exit 0 (s1.1,s1.2.1,s1.2.2))
def m48 (a0:List TRequest) (a1:Int):Option (Int):=bif decide ((wi .i64 (a1 - (a0.length:Int))) < 0) then some (-1) else (loopO (ms48_0 a0) NN (wi .i64 (a1 - (a0.length:Int)),0,0)).bind (contO (fun _=>none) (fun i1 s2=>if i1 = 0 then some s2.1 else none) (fun s2=>some s2.2.1))
theorem w48 {d:Nat} (hd:4≤d) (k0:Bool) (a0:List TRequest) (a1:Int):Fit (R NN d 48 [.rsl k0 false (a0.map (Enc.cs k0)),.int .i64 a1] []) (m48 a0 a1) PI:=by
  obtain ⟨d,rfl,g⟩:=up hd
  refine q_in (t48 NN d _ _) ?_
  unfold b48 m48
  refine q_len<|q_p fr<|q_p fr<|q_i ?_ ?_
  ·exact q_ret (cv_p rfl) rfl
  ·refine q_lp (A:=fun (s:Int×Int×Int)=>[.int .i64 s.1,.int .i64 s.2.1,.int .i64 s.2.2]) (B:=fun s=>[]) 0 rr ?_ ?_ ?_
   ·intro s1
    unfold s48_0 ms48_0
    exact q_len<|q_p fr<|q_i (q_ix rfl fun x1 hx1=>q_p fr<|q_c0 (aF2 (cv_a (cvs_e (l0:=k0) (x:=x1))) (cv_p rfl) fun l0_ l1_=>w22 (by omega) l0_ x1 s1.1) fun y1 hy1=>q_p fr<|q_i (q_lret 0 rr)<|q_p fr<|q_norm 0 rr)<|q_exit 0 rr
   ·exact fun i1 s2=>q_n (q_ret (cv_p rfl) rfl)<|q_none
   ·exact fun s2=>q_ret (cv_p rfl) rfl
def m11 (a0:TCluster) (a1:Int):Option (Int):=bif decide ((m45 a0.Bad a1) < 0) then some (-1) else bif decide ((m46 a0.Replicas (m45 a0.Bad a1)) < 0) then some (-1) else (m47 a0.Ledger (m46 a0.Replicas (m45 a0.Bad a1))).bind fun y1=>bif decide (y1 < 0) then some (-1) else (m48 a0.Requests y1).bind fun y2=>bif decide (y2 < 0) then some (-1) else some y2
theorem w11 {d:Nat} (hd:5≤d) (k0:Bool) (a0:TCluster) (a1:Int):Fit (R NN d 11 [.agg (Enc.cs k0 a0),.int .i64 a1] []) (m11 a0 a1) PI:=by
  obtain ⟨d,rfl,g⟩:=up hd
  refine q_in (t11 NN d _ _) ?_
  unfold b11 m11
  exact q_box (n:=5) rfl rfl (by decide) fun b1=>q_p fr<|q_ld 0 rfl rfl<|q_c0t (aF2 cv_r (cv_p rfl) fun l0_ l1_=>w45 (by omega) l0_ a0.Bad a1)<|q_p fr<|q_i (q_ret (cv_p rfl) rfl)<|q_p fr<|q_ld 0 rfl rfl<|q_c0t (aF2 cv_r (cv_p rfl) fun l0_ l1_=>w46 (by omega) l0_ a0.Replicas (m45 a0.Bad a1))<|q_p fr<|q_i (q_ret (cv_p rfl) rfl)<|q_p fr<|q_ld 0 rfl rfl<|q_c0 (aF2 cv_r (cv_p rfl) fun l0_ l1_=>w47 (by omega) l0_ a0.Ledger (m46 a0.Replicas (m45 a0.Bad a1))) fun y1 hy1=>q_p fr<|q_i (q_ret (cv_p rfl) rfl)<|q_p fr<|q_ld 0 rfl rfl<|q_c0 (aF2 cv_r (cv_p rfl) fun l0_ l1_=>w48 (by omega) l0_ a0.Requests y1) fun y2 hy2=>q_p fr<|q_i (q_ret (cv_p rfl) rfl)<|q_ret (cv_p rfl) rfl
def ms51_0 (a0:List Int) (s1:Int×(List Int)):Option (LO (Int×(List Int))):=bif decide (s1.1 < (a0.length:Int)) then (getI a0 s1.1).bind fun x1=>(getI s1.2 s1.1).bind fun x2=>some (LO.norm (wi .i64 (s1.1 + 1),s1.2.set (Int.toNat s1.1) x1)) else some (LO.exit 0 (s1.1,s1.2))
def m51 (a0:List Int):Option ((List Int)):=(mkO 8 (a0.length:Int) 0).bind fun z1=>(loopO (ms51_0 a0) NN (0,z1)).bind (contO (fun _=>none) (fun i1 s2=>if i1 = 0 then some s2.2 else none) (fun s2=>some []))
theorem w51 {d:Nat} (hd:1≤d) (k0:Bool) (a0:List Int):Fit (R NN d 51 [.rsl k0 false (a0.map (Enc.cs k0))] []) (m51 a0) (P1 (T:=List Int) one1):=by
  obtain ⟨d,rfl,g⟩:=up hd
  refine q_in (t51 NN d _) ?_
  unfold b51 m51
  refine q_len<|q_mk (z:=0) mk22 fun v1 z1 hz1=>q_lp (A:=fun (s:Int×(List Int))=>[.int .i64 s.1]) (B:=fun s=>[sl false v1 (s.2:List Int)]) 0 rr ?_ ?_ ?_
  ·intro s1
   unfold s51_0 ms51_0
   exact q_len<|q_p fr<|q_i (q_ix rfl fun x1 hx1=>q_p fr<|q_ixo 0 rfl rfl fun x2 hx2=>q_stoe (y:=x1) 0 rfl rfl hx2 rfl (by decide)<|q_p fr<|q_norm 0 rr)<|q_exit 0 rr
  ·exact fun i1 s2=>q_n (q_out (tb_sl 0 rfl plt2) rfl)<|q_none
  ·exact fun s2=>q_out (tb_nil (α:=Int) (fl:=true)) rfl
def m109 (a0:TReplica):TReplica:=a0
theorem w109 {d:Nat} (hd:1≤d) (k0:Bool) (a0:TReplica):Fit (R NN d 109 [.agg (Enc.cs k0 a0)] []) (some (m109 a0)) (P0 (fun (t:TReplica)=>AV.agg (Enc.cs false t))):=by
  obtain ⟨d,rfl,g⟩:=up hd
  refine q_in (t109 NN d _) ?_
  unfold b109 m109
  exact q_box (n:=4) rfl rfl (by decide) fun b1=>q_new rfl fun b2=>q_new rfl fun b3=>q_p fr<|q_ld 2 rfl rfl<|q_p fr<|q_st 0 rfl rfl rfl (by decide) rfl<|q_p fr<|q_ld 2 rfl rfl<|q_p fr<|q_st 0 rfl rfl rfl (by decide) rfl<|q_p fr<|q_ld 2 rfl rfl<|q_p fr<|q_st 0 rfl rfl rfl (by decide) rfl<|q_p fr<|q_ld 2 rfl rfl<|q_p fr<|q_st 0 rfl rfl rfl (by decide) rfl<|q_lda 0 rfl rfl rfl<|q_st 1 rfl rfl rfl (by decide) rfl<|q_retm (fun S hS=>hS.lda 1 rfl rfl) (cv_a (cvs_e (l0:=false) (x:=a0))) rfl
def ms52_0 (a0:List TReplica) (s1:Int×(List TReplica)):Option (LO (Int×(List TReplica))):=bif decide (s1.1 < (a0.length:Int)) then (getI a0 s1.1).bind fun x1=>(getI s1.2 s1.1).bind fun x2=>some (LO.norm (wi .i64 (s1.1 + 1),s1.2.set (Int.toNat s1.1) (m109 x1))) else some (LO.exit 0 (s1.1,s1.2))
def m52 (a0:List TReplica):Option ((List TReplica)):=(mkO 32 (a0.length:Int) (⟨0,0,0,0⟩:TReplica)).bind fun z1=>(loopO (ms52_0 a0) NN (0,z1)).bind (contO (fun _=>none) (fun i1 s2=>if i1 = 0 then some s2.2 else none) (fun s2=>some []))
theorem w52 {d:Nat} (hd:2≤d) (k0:Bool) (a0:List TReplica):Fit (R NN d 52 [.rsl k0 false (a0.map (Enc.cs k0))] []) (m52 a0) (P1 (T:=List TReplica) one1):=by
  obtain ⟨d,rfl,g⟩:=up hd
  refine q_in (t52 NN d _) ?_
  unfold b52 m52
  refine q_len<|q_mk (z:=(⟨0,0,0,0⟩:TReplica)) mk32 fun v1 z1 hz1=>q_lp (A:=fun (s:Int×(List TReplica))=>[.int .i64 s.1]) (B:=fun s=>[sl false v1 (s.2:List TReplica)]) 0 rr ?_ ?_ ?_
  ·intro s1
   unfold s52_0 ms52_0
   exact q_len<|q_p fr<|q_i (q_ix rfl fun x1 hx1=>q_p fr<|q_c0t (aF1 (cv_a (cvs_e (l0:=k0) (x:=x1))) fun l0_=>w109 (by omega) l0_ x1)<|q_ixo 0 rfl rfl fun x2 hx2=>q_stoe (y:=(m109 x1)) 0 rfl rfl hx2 rfl (by decide)<|q_p fr<|q_norm 0 rr)<|q_exit 0 rr
  ·exact fun i1 s2=>q_n (q_out (tb_sl 0 rfl plt118) rfl)<|q_none
  ·exact fun s2=>q_out (tb_nil (α:=TReplica) (fl:=true)) rfl
def m151 (a0:TCert):TCert:=a0
theorem w151 {d:Nat} (hd:1≤d) (k0:Bool) (a0:TCert):Fit (R NN d 151 [.agg (Enc.cs k0 a0)] []) (some (m151 a0)) (P0 (fun (t:TCert)=>AV.agg (Enc.cs false t))):=by
  obtain ⟨d,rfl,g⟩:=up hd
  refine q_in (t151 NN d _) ?_
  unfold b151 m151
  exact q_box (n:=3) rfl rfl (by decide) fun b1=>q_new rfl fun b2=>q_new rfl fun b3=>q_p fr<|q_ld 2 rfl rfl<|q_p fr<|q_st 0 rfl rfl rfl (by decide) rfl<|q_p fr<|q_ld 2 rfl rfl<|q_p fr<|q_st 0 rfl rfl rfl (by decide) rfl<|q_p fr<|q_ld 2 rfl rfl<|q_p fr<|q_st 0 rfl rfl rfl (by decide) rfl<|q_lda 0 rfl rfl rfl<|q_st 1 rfl rfl rfl (by decide) rfl<|q_retm (fun S hS=>hS.lda 1 rfl rfl) (cv_a (cvs_e (l0:=false) (x:=a0))) rfl
def ms95_0 (a0:List TCert) (s1:Int×(List TCert)):Option (LO (Int×(List TCert))):=bif decide (s1.1 < (a0.length:Int)) then (getI a0 s1.1).bind fun x1=>(getI s1.2 s1.1).bind fun x2=>some (LO.norm (wi .i64 (s1.1 + 1),s1.2.set (Int.toNat s1.1) (m151 x1))) else some (LO.exit 0 (s1.1,s1.2))
def m95 (a0:List TCert):Option ((List TCert)):=(mkO 24 (a0.length:Int) (⟨0,0,0⟩:TCert)).bind fun z1=>(loopO (ms95_0 a0) NN (0,z1)).bind (contO (fun _=>none) (fun i1 s2=>if i1 = 0 then some s2.2 else none) (fun s2=>some []))
theorem w95 {d:Nat} (hd:2≤d) (k0:Bool) (a0:List TCert):Fit (R NN d 95 [.rsl k0 false (a0.map (Enc.cs k0))] []) (m95 a0) (P1 (T:=List TCert) one1):=by
  obtain ⟨d,rfl,g⟩:=up hd
  refine q_in (t95 NN d _) ?_
  unfold b95 m95
  refine q_len<|q_mk (z:=(⟨0,0,0⟩:TCert)) mk69 fun v1 z1 hz1=>q_lp (A:=fun (s:Int×(List TCert))=>[.int .i64 s.1]) (B:=fun s=>[sl false v1 (s.2:List TCert)]) 0 rr ?_ ?_ ?_
  ·intro s1
   unfold s95_0 ms95_0
   exact q_len<|q_p fr<|q_i (q_ix rfl fun x1 hx1=>q_p fr<|q_c0t (aF1 (cv_a (cvs_e (l0:=k0) (x:=x1))) fun l0_=>w151 (by omega) l0_ x1)<|q_ixo 0 rfl rfl fun x2 hx2=>q_stoe (y:=(m151 x1)) 0 rfl rfl hx2 rfl (by decide)<|q_p fr<|q_norm 0 rr)<|q_exit 0 rr
  ·exact fun i1 s2=>q_n (q_out (tb_sl 0 rfl plt174) rfl)<|q_none
  ·exact fun s2=>q_out (tb_nil (α:=TCert) (fl:=true)) rfl
def m37 (a0:TMsg):Option (TMsg):=(m95 a0.Certs).bind fun y1=>(m51 a0.Refs).bind fun y2=>some (⟨a0.Kind,a0.View,a0.From,a0.Slot,a0.Value,y1,y2⟩:TMsg)
theorem w37 {d:Nat} (hd:3≤d) (k0:Bool) (a0:TMsg):Fit (R NN d 37 [.agg (Enc.cs k0 a0)] []) (m37 a0) (P1 (T:=TMsg) AV.agg):=by
  obtain ⟨d,rfl,g⟩:=up hd
  refine q_in (t37 NN d _) ?_
  unfold b37 m37
  exact q_box (n:=7) rfl rfl (by decide) fun b1=>q_new rfl fun b2=>q_new rfl fun b3=>q_p fr<|q_ld 2 rfl rfl<|q_p fr<|q_st 0 rfl rfl rfl (by decide) rfl<|q_p fr<|q_ld 2 rfl rfl<|q_p fr<|q_st 0 rfl rfl rfl (by decide) rfl<|q_p fr<|q_ld 2 rfl rfl<|q_p fr<|q_st 0 rfl rfl rfl (by decide) rfl<|q_p fr<|q_ld 2 rfl rfl<|q_p fr<|q_st 0 rfl rfl rfl (by decide) rfl<|q_p fr<|q_ld 2 rfl rfl<|q_p fr<|q_st 0 rfl rfl rfl (by decide) rfl<|q_p fr<|q_ld 2 rfl rfl<|q_c1s (mg:=m95 a0.Certs) (aF1 cv_r fun l0_=>w95 (by omega) l0_ a0.Certs) fun y1 hy1 i1 v1=>q_p fr<|q_sto1 1 rfl (fun S hS=>(HP.cell1t hS 0 rfl)) rfl<|q_p fr<|q_ld 3 rfl rfl<|q_c1s (mg:=m51 a0.Refs) (aF1 cv_r fun l0_=>w51 (by omega) l0_ a0.Refs) fun y2 hy2 i2 v2=>q_p fr<|q_sto1 2 rfl (fun S hS=>(HP.cell1t hS 0 rfl)) rfl<|q_lda 2 rfl rfl rfl<|q_st 3 rfl rfl rfl (by decide) rfl<|q_outm (fun S hS=>hS.lda 3 rfl rfl) (tb_of (α:=TMsg) (β:=Int×Int×Int×Int×Int×(List TCert)×(List Int)) (f:=fun x=>(x.Kind,x.View,x.From,x.Slot,x.Value,x.Certs,x.Refs)) (x:=(⟨a0.Kind,a0.View,a0.From,a0.Slot,a0.Value,y1,y2⟩:TMsg)) rfl (tb_pair (tb_int (n:=a0.Kind)) (tb_pair (tb_int (n:=a0.View)) (tb_pair (tb_int (n:=a0.From)) (tb_pair (tb_int (n:=a0.Slot)) (tb_pair (tb_int (n:=a0.Value)) (tb_pair (tb_tr 1 rfl) (tb_tr 0 rfl)))))))) rfl
def ms53_0 (a0:List TMsg) (s1:Int×(List TMsg)):Option (LO (Int×(List TMsg))):=bif decide (s1.1 < (a0.length:Int)) then (getI a0 s1.1).bind fun x1=>(m37 x1).bind fun y1=>(getI s1.2 s1.1).bind fun x2=>some (LO.norm (wi .i64 (s1.1 + 1),s1.2.set (Int.toNat s1.1) y1)) else some (LO.exit 0 (s1.1,s1.2))
def m53 (a0:List TMsg):Option ((List TMsg)):=(mkO 88 (a0.length:Int) (⟨0,0,0,0,0,[],[]⟩:TMsg)).bind fun z1=>(loopO (ms53_0 a0) NN (0,z1)).bind (contO (fun _=>none) (fun i5 s2=>if i5 = 0 then some s2.2 else none) (fun s2=>some []))
theorem w53 {d:Nat} (hd:4≤d) (k0:Bool) (a0:List TMsg):Fit (R NN d 53 [.rsl k0 false (a0.map (Enc.cs k0))] []) (m53 a0) (P1 (T:=List TMsg) one1):=by
  obtain ⟨d,rfl,g⟩:=up hd
  refine q_in (t53 NN d _) ?_
  unfold b53 m53
  refine q_len<|q_mkt (z:=(⟨0,0,0,0,0,[],[]⟩:TMsg)) mk33 ztr71 fun z1 hz1 v1 i1=>q_loop (I:=(fun (s:Int×(List TMsg)) l L=>∃ (i2:List Nat),l = [.int .i64 s.1]∧L = [tr i2 [v1] (s.2:List TMsg)])) 0 ⟨i1,rfl,rfl⟩ ?_ ?_ ?_
  ·rintro s1 _ _ ⟨i2,rfl,rfl⟩
   unfold s53_0 ms53_0
   refine q_len<|q_p fr<|q_i ?_ ?_
   ·refine q_ix rfl fun x1 hx1=>q_p fr<|q_c1 (W:=AV.agg) (mg:=m37 x1) sh_agg (aF1 (cv_a (cvs_e (l0:=k0) (x:=x1))) fun l0_=>w37 (by omega) l0_ x1) fun y1 hy1 i3 cs1=>q_cx (fun S hS=>trx71 (hS.get (k:=0) rfl)) fun hcs_=>?_
    obtain ⟨v2,v3,rfl⟩:=hcs_
    exact q_ixt 1 rfl rfl fun x2 hx2=>q_ste rfl (by decide) hx2 rfl fun i4=>q_p fr<|q_norm 0 ⟨i4,rfl,rfl⟩
   ·exact q_exit 0 ⟨i2,rfl,rfl⟩
  ·rintro i5 s2 _ _ ⟨i6,rfl,rfl⟩
   exact q_n (q_out (tb_tr 0 rfl) rfl)<|q_none
  ·rintro s2 _ _ ⟨i7,rfl,rfl⟩
   exact q_out (tb_nil (α:=TMsg) (fl:=true)) rfl
def m130 (a0:TOp):TOp:=a0
theorem w130 {d:Nat} (hd:1≤d) (k0:Bool) (a0:TOp):Fit (R NN d 130 [.agg (Enc.cs k0 a0)] []) (some (m130 a0)) (P0 (fun (t:TOp)=>AV.agg (Enc.cs false t))):=by
  obtain ⟨d,rfl,g⟩:=up hd
  refine q_in (t130 NN d _) ?_
  unfold b130 m130
  exact q_box (n:=6) rfl rfl (by decide) fun b1=>q_new rfl fun b2=>q_new rfl fun b3=>q_p fr<|q_ld 2 rfl rfl<|q_p fr<|q_st 0 rfl rfl rfl (by decide) rfl<|q_p fr<|q_ld 2 rfl rfl<|q_p fr<|q_st 0 rfl rfl rfl (by decide) rfl<|q_p fr<|q_ld 2 rfl rfl<|q_p fr<|q_st 0 rfl rfl rfl (by decide) rfl<|q_p fr<|q_ld 2 rfl rfl<|q_p fr<|q_st 0 rfl rfl rfl (by decide) rfl<|q_p fr<|q_ld 2 rfl rfl<|q_p fr<|q_st 0 rfl rfl rfl (by decide) rfl<|q_p fr<|q_ld 2 rfl rfl<|q_p fr<|q_st 0 rfl rfl rfl (by decide) rfl<|q_lda 0 rfl rfl rfl<|q_st 1 rfl rfl rfl (by decide) rfl<|q_retm (fun S hS=>hS.lda 1 rfl rfl) (cv_a (cvs_e (l0:=false) (x:=a0))) rfl
def ms79_0 (a0:List TOp) (s1:Int×(List TOp)):Option (LO (Int×(List TOp))):=bif decide (s1.1 < (a0.length:Int)) then (getI a0 s1.1).bind fun x1=>(getI s1.2 s1.1).bind fun x2=>some (LO.norm (wi .i64 (s1.1 + 1),s1.2.set (Int.toNat s1.1) (m130 x1))) else some (LO.exit 0 (s1.1,s1.2))
def m79 (a0:List TOp):Option ((List TOp)):=(mkO 48 (a0.length:Int) (⟨0,[],0,0,false,false⟩:TOp)).bind fun z1=>(loopO (ms79_0 a0) NN (0,z1)).bind (contO (fun _=>none) (fun i1 s2=>if i1 = 0 then some s2.2 else none) (fun s2=>some []))
theorem w79 {d:Nat} (hd:2≤d) (k0:Bool) (a0:List TOp):Fit (R NN d 79 [.rsl k0 false (a0.map (Enc.cs k0))] []) (m79 a0) (P1 (T:=List TOp) one1):=by
  obtain ⟨d,rfl,g⟩:=up hd
  refine q_in (t79 NN d _) ?_
  unfold b79 m79
  refine q_len<|q_mk (z:=(⟨0,[],0,0,false,false⟩:TOp)) mk52 fun v1 z1 hz1=>q_lp (A:=fun (s:Int×(List TOp))=>[.int .i64 s.1]) (B:=fun s=>[sl false v1 (s.2:List TOp)]) 0 rr ?_ ?_ ?_
  ·intro s1
   unfold s79_0 ms79_0
   exact q_len<|q_p fr<|q_i (q_ix rfl fun x1 hx1=>q_p fr<|q_c0t (aF1 (cv_a (cvs_e (l0:=k0) (x:=x1))) fun l0_=>w130 (by omega) l0_ x1)<|q_ixo 0 rfl rfl fun x2 hx2=>q_stoe (y:=(m130 x1)) 0 rfl rfl hx2 rfl (by decide)<|q_p fr<|q_norm 0 rr)<|q_exit 0 rr
  ·exact fun i1 s2=>q_n (q_out (tb_sl 0 rfl plt159) rfl)<|q_none
  ·exact fun s2=>q_out (tb_nil (α:=TOp) (fl:=true)) rfl
def m24 (a0:TRequest):Option (TRequest):=(m79 a0.Ops).bind fun y1=>some (⟨a0.Client,a0.Number,a0.Time,y1⟩:TRequest)
theorem w24 {d:Nat} (hd:3≤d) (k0:Bool) (a0:TRequest):Fit (R NN d 24 [.agg (Enc.cs k0 a0)] []) (m24 a0) (P1 (T:=TRequest) AV.agg):=by
  obtain ⟨d,rfl,g⟩:=up hd
  refine q_in (t24 NN d _) ?_
  unfold b24 m24
  exact q_box (n:=4) rfl rfl (by decide) fun b1=>q_new rfl fun b2=>q_new rfl fun b3=>q_p fr<|q_ld 2 rfl rfl<|q_p fr<|q_st 0 rfl rfl rfl (by decide) rfl<|q_p fr<|q_ld 2 rfl rfl<|q_p fr<|q_st 0 rfl rfl rfl (by decide) rfl<|q_p fr<|q_ld 2 rfl rfl<|q_p fr<|q_st 0 rfl rfl rfl (by decide) rfl<|q_p fr<|q_ld 2 rfl rfl<|q_c1s (mg:=m79 a0.Ops) (aF1 cv_r fun l0_=>w79 (by omega) l0_ a0.Ops) fun y1 hy1 i1 v1=>q_p fr<|q_sto1 1 rfl (fun S hS=>(HP.cell1t hS 0 rfl)) rfl<|q_lda 1 rfl rfl rfl<|q_st 2 rfl rfl rfl (by decide) rfl<|q_outm (fun S hS=>hS.lda 2 rfl rfl) (tb_of (α:=TRequest) (β:=Int×Int×Int×(List TOp)) (f:=fun x=>(x.Client,x.Number,x.Time,x.Ops)) (x:=(⟨a0.Client,a0.Number,a0.Time,y1⟩:TRequest)) rfl (tb_pair (tb_int (n:=a0.Client)) (tb_pair (tb_int (n:=a0.Number)) (tb_pair (tb_int (n:=a0.Time)) (tb_tr 0 rfl))))) rfl
def ms54_0 (a0:List TRequest) (s1:Int×(List TRequest)):Option (LO (Int×(List TRequest))):=bif decide (s1.1 < (a0.length:Int)) then (getI a0 s1.1).bind fun x1=>(m24 x1).bind fun y1=>(getI s1.2 s1.1).bind fun x2=>some (LO.norm (wi .i64 (s1.1 + 1),s1.2.set (Int.toNat s1.1) y1)) else some (LO.exit 0 (s1.1,s1.2))
def m54 (a0:List TRequest):Option ((List TRequest)):=(mkO 48 (a0.length:Int) (⟨0,0,0,[]⟩:TRequest)).bind fun z1=>(loopO (ms54_0 a0) NN (0,z1)).bind (contO (fun _=>none) (fun i5 s2=>if i5 = 0 then some s2.2 else none) (fun s2=>some []))
theorem w54 {d:Nat} (hd:4≤d) (k0:Bool) (a0:List TRequest):Fit (R NN d 54 [.rsl k0 false (a0.map (Enc.cs k0))] []) (m54 a0) (P1 (T:=List TRequest) one1):=by
  obtain ⟨d,rfl,g⟩:=up hd
  refine q_in (t54 NN d _) ?_
  unfold b54 m54
  refine q_len<|q_mkt (z:=(⟨0,0,0,[]⟩:TRequest)) mk34 ztr54 fun z1 hz1 v1 i1=>q_loop (I:=(fun (s:Int×(List TRequest)) l L=>∃ (i2:List Nat),l = [.int .i64 s.1]∧L = [tr i2 [v1] (s.2:List TRequest)])) 0 ⟨i1,rfl,rfl⟩ ?_ ?_ ?_
  ·rintro s1 _ _ ⟨i2,rfl,rfl⟩
   unfold s54_0 ms54_0
   refine q_len<|q_p fr<|q_i ?_ ?_
   ·refine q_ix rfl fun x1 hx1=>q_p fr<|q_c1 (W:=AV.agg) (mg:=m24 x1) sh_agg (aF1 (cv_a (cvs_e (l0:=k0) (x:=x1))) fun l0_=>w24 (by omega) l0_ x1) fun y1 hy1 i3 cs1=>q_cx (fun S hS=>trx54 (hS.get (k:=0) rfl)) fun hcs_=>?_
    obtain ⟨v2,rfl⟩:=hcs_
    exact q_ixt 1 rfl rfl fun x2 hx2=>q_ste rfl (by decide) hx2 rfl fun i4=>q_p fr<|q_norm 0 ⟨i4,rfl,rfl⟩
   ·exact q_exit 0 ⟨i2,rfl,rfl⟩
  ·rintro i5 s2 _ _ ⟨i6,rfl,rfl⟩
   exact q_n (q_out (tb_tr 0 rfl) rfl)<|q_none
  ·rintro s2 _ _ ⟨i7,rfl,rfl⟩
   exact q_out (tb_nil (α:=TRequest) (fl:=true)) rfl
def m13 (a0:TCluster):Option (TCluster):=(m51 a0.Bad).bind fun y1=>(m52 a0.Replicas).bind fun y2=>(m53 a0.Ledger).bind fun y3=>(m54 a0.Requests).bind fun y4=>some (⟨a0.F,y1,y2,y3,y4⟩:TCluster)
theorem w13 {d:Nat} (hd:5≤d) (k0:Bool) (a0:TCluster):Fit (R NN d 13 [.agg (Enc.cs k0 a0)] []) (m13 a0) (P1 (T:=TCluster) AV.agg):=by
  obtain ⟨d,rfl,g⟩:=up hd
  refine q_in (t13 NN d _) ?_
  unfold b13 m13
  exact q_box (n:=5) rfl rfl (by decide) fun b1=>q_new rfl fun b2=>q_new rfl fun b3=>q_p fr<|q_ld 2 rfl rfl<|q_p fr<|q_st 0 rfl rfl rfl (by decide) rfl<|q_p fr<|q_ld 2 rfl rfl<|q_c1s (mg:=m51 a0.Bad) (aF1 cv_r fun l0_=>w51 (by omega) l0_ a0.Bad) fun y1 hy1 i1 v1=>q_p fr<|q_sto1 1 rfl (fun S hS=>(HP.cell1t hS 0 rfl)) rfl<|q_p fr<|q_ld 3 rfl rfl<|q_c1s (mg:=m52 a0.Replicas) (aF1 cv_r fun l0_=>w52 (by omega) l0_ a0.Replicas) fun y2 hy2 i2 v2=>q_p fr<|q_sto1 2 rfl (fun S hS=>(HP.cell1t hS 0 rfl)) rfl<|q_p fr<|q_ld 4 rfl rfl<|q_c1s (mg:=m53 a0.Ledger) (aF1 cv_r fun l0_=>w53 (by omega) l0_ a0.Ledger) fun y3 hy3 i3 v3=>q_p fr<|q_sto1 3 rfl (fun S hS=>(HP.cell1t hS 0 rfl)) rfl<|q_p fr<|q_ld 5 rfl rfl<|q_c1s (mg:=m54 a0.Requests) (aF1 cv_r fun l0_=>w54 (by omega) l0_ a0.Requests) fun y4 hy4 i4 v4=>q_p fr<|q_sto1 4 rfl (fun S hS=>(HP.cell1t hS 0 rfl)) rfl<|q_lda 4 rfl rfl rfl<|q_st 5 rfl rfl rfl (by decide) rfl<|q_outm (fun S hS=>hS.lda 5 rfl rfl) (tb_of (α:=TCluster) (β:=Int×(List Int)×(List TReplica)×(List TMsg)×(List TRequest)) (f:=fun x=>(x.F,x.Bad,x.Replicas,x.Ledger,x.Requests)) (x:=(⟨a0.F,y1,y2,y3,y4⟩:TCluster)) rfl (tb_pair (tb_int (n:=a0.F)) (tb_pair (tb_tr 3 rfl) (tb_pair (tb_tr 2 rfl) (tb_pair (tb_tr 1 rfl) (tb_tr 0 rfl)))))) rfl
theorem w13f {d:Nat} (hd:5≤d) (k0:Bool) (a0:TCluster):Fit (R NN d 13 [.agg (Enc.cs k0 a0)] []) (m13 a0) (P0 (fun (t:TCluster)=>AV.agg (Enc.cs false t))):=p1_agg (w13 hd k0 a0)
def ms58_0 (a0:List Int) (a1:List Int) (s1:Bool×Int):Option (LO (Bool×Int)):=bif decide (s1.2 < (a0.length:Int)) then (getI a0 s1.2).bind fun x1=>(getI a1 s1.2).bind fun x2=>bif x1 != x2 then some (LO.ret (false,s1.2)) else some (LO.norm (s1.1,wi .i64 (s1.2 + 1))) else some (LO.exit 0 (s1.1,s1.2))
def m58 (a0:List Int) (a1:List Int):Option (Bool):=bif (a0.length:Int) != (a1.length:Int) then some false else (loopO (ms58_0 a0 a1) NN (false,0)).bind (contO (fun _=>none) (fun i1 s2=>if i1 = 0 then some true else none) (fun s2=>some s2.1))
theorem w58 {d:Nat} (hd:1≤d) (k0:Bool) (a0:List Int) (k1:Bool) (a1:List Int):Fit (R NN d 58 [.rsl k0 false (a0.map (Enc.cs k0)),.rsl k1 false (a1.map (Enc.cs k1))] []) (m58 a0 a1) PB:=by
  obtain ⟨d,rfl,g⟩:=up hd
  refine q_in (t58 NN d _ _) ?_
  unfold b58 m58
  refine q_len<|q_len<|q_p fr<|q_i ?_ ?_
  ·exact q_ret (cv_p rfl) rfl
  ·refine q_lp (A:=fun (s:Bool×Int)=>[.bool s.1,.int .i64 s.2]) (B:=fun s=>[]) 0 rr ?_ ?_ ?_
   ·intro s1
    unfold s58_0 ms58_0
    exact q_len<|q_p fr<|q_i (q_ix rfl fun x1 hx1=>q_p fr<|q_ix rfl fun x2 hx2=>q_p fr<|q_p fr<|q_i (q_lret 0 rr)<|q_p fr<|q_norm 0 rr)<|q_exit 0 rr
   ·exact fun i1 s2=>q_n (q_ret (cv_p rfl) rfl)<|q_none
   ·exact fun s2=>q_ret (cv_p rfl) rfl
def m119 (a0:TReplica) (a1:TReplica):Bool:=bif a0.Id != a1.Id then false else bif a0.View != a1.View then false else bif a0.Start != a1.Start then false else bif a0.Done != a1.Done then false else true
theorem w119 {d:Nat} (hd:1≤d) (k0:Bool) (a0:TReplica) (k1:Bool) (a1:TReplica):Fit (R NN d 119 [.agg (Enc.cs k0 a0),.agg (Enc.cs k1 a1)] []) (some (m119 a0 a1)) PB:=by
  obtain ⟨d,rfl,g⟩:=up hd
  refine q_in (t119 NN d _ _) ?_
  unfold b119 m119
  exact q_box (n:=4) rfl rfl (by decide) fun b1=>q_box (n:=4) rfl rfl (by decide) fun b2=>q_p fr<|q_ld 1 rfl rfl<|q_p fr<|q_ld 0 rfl rfl<|q_p fr<|q_ift (fun h4=>q_ret (cv_p rfl) rfl) fun h4=>q_p fr<|q_ld 1 rfl rfl<|q_p fr<|q_ld 0 rfl rfl<|q_p fr<|q_ift (fun h3=>q_ret (cv_p rfl) rfl) fun h3=>q_p fr<|q_ld 1 rfl rfl<|q_p fr<|q_ld 0 rfl rfl<|q_p fr<|q_ift (fun h2=>q_ret (cv_p rfl) rfl) fun h2=>q_p fr<|q_ld 1 rfl rfl<|q_p fr<|q_ld 0 rfl rfl<|q_p fr<|q_ift (fun h1=>q_ret (cv_p rfl) rfl) fun h1=>q_ret (cv_p rfl) rfl
def ms59_0 (a0:List TReplica) (a1:List TReplica) (s1:Bool×Int):Option (LO (Bool×Int)):=bif decide (s1.2 < (a0.length:Int)) then (getI a0 s1.2).bind fun x1=>(getI a1 s1.2).bind fun x2=>bif !(m119 x1 x2) then some (LO.ret (false,s1.2)) else some (LO.norm (s1.1,wi .i64 (s1.2 + 1))) else some (LO.exit 0 (s1.1,s1.2))
def m59 (a0:List TReplica) (a1:List TReplica):Option (Bool):=bif (a0.length:Int) != (a1.length:Int) then some false else (loopO (ms59_0 a0 a1) NN (false,0)).bind (contO (fun _=>none) (fun i1 s2=>if i1 = 0 then some true else none) (fun s2=>some s2.1))
theorem w59 {d:Nat} (hd:2≤d) (k0:Bool) (a0:List TReplica) (k1:Bool) (a1:List TReplica):Fit (R NN d 59 [.rsl k0 false (a0.map (Enc.cs k0)),.rsl k1 false (a1.map (Enc.cs k1))] []) (m59 a0 a1) PB:=by
  obtain ⟨d,rfl,g⟩:=up hd
  refine q_in (t59 NN d _ _) ?_
  unfold b59 m59
  refine q_len<|q_len<|q_p fr<|q_i ?_ ?_
  ·exact q_ret (cv_p rfl) rfl
  ·refine q_lp (A:=fun (s:Bool×Int)=>[.bool s.1,.int .i64 s.2]) (B:=fun s=>[]) 0 rr ?_ ?_ ?_
   ·intro s1
    unfold s59_0 ms59_0
    exact q_len<|q_p fr<|q_i (q_ix rfl fun x1 hx1=>q_p fr<|q_ix rfl fun x2 hx2=>q_p fr<|q_c0t (aF2 (cv_a (cvs_e (l0:=k0) (x:=x1))) (cv_a (cvs_e (l0:=k1) (x:=x2))) fun l0_ l1_=>w119 (by omega) l0_ x1 l1_ x2)<|q_p fr<|q_i (q_lret 0 rr)<|q_p fr<|q_norm 0 rr)<|q_exit 0 rr
   ·exact fun i1 s2=>q_n (q_ret (cv_p rfl) rfl)<|q_none
   ·exact fun s2=>q_ret (cv_p rfl) rfl
def m154 (a0:TCert) (a1:TCert):Bool:=bif a0.Slot != a1.Slot then false else bif a0.View != a1.View then false else bif a0.Value != a1.Value then false else true
theorem w154 {d:Nat} (hd:1≤d) (k0:Bool) (a0:TCert) (k1:Bool) (a1:TCert):Fit (R NN d 154 [.agg (Enc.cs k0 a0),.agg (Enc.cs k1 a1)] []) (some (m154 a0 a1)) PB:=by
  obtain ⟨d,rfl,g⟩:=up hd
  refine q_in (t154 NN d _ _) ?_
  unfold b154 m154
  exact q_box (n:=3) rfl rfl (by decide) fun b1=>q_box (n:=3) rfl rfl (by decide) fun b2=>q_p fr<|q_ld 1 rfl rfl<|q_p fr<|q_ld 0 rfl rfl<|q_p fr<|q_ift (fun h3=>q_ret (cv_p rfl) rfl) fun h3=>q_p fr<|q_ld 1 rfl rfl<|q_p fr<|q_ld 0 rfl rfl<|q_p fr<|q_ift (fun h2=>q_ret (cv_p rfl) rfl) fun h2=>q_p fr<|q_ld 1 rfl rfl<|q_p fr<|q_ld 0 rfl rfl<|q_p fr<|q_ift (fun h1=>q_ret (cv_p rfl) rfl) fun h1=>q_ret (cv_p rfl) rfl
def ms98_0 (a0:List TCert) (a1:List TCert) (s1:Bool×Int):Option (LO (Bool×Int)):=bif decide (s1.2 < (a0.length:Int)) then (getI a0 s1.2).bind fun x1=>(getI a1 s1.2).bind fun x2=>bif !(m154 x1 x2) then some (LO.ret (false,s1.2)) else some (LO.norm (s1.1,wi .i64 (s1.2 + 1))) else some (LO.exit 0 (s1.1,s1.2))
def m98 (a0:List TCert) (a1:List TCert):Option (Bool):=bif (a0.length:Int) != (a1.length:Int) then some false else (loopO (ms98_0 a0 a1) NN (false,0)).bind (contO (fun _=>none) (fun i1 s2=>if i1 = 0 then some true else none) (fun s2=>some s2.1))
theorem w98 {d:Nat} (hd:2≤d) (k0:Bool) (a0:List TCert) (k1:Bool) (a1:List TCert):Fit (R NN d 98 [.rsl k0 false (a0.map (Enc.cs k0)),.rsl k1 false (a1.map (Enc.cs k1))] []) (m98 a0 a1) PB:=by
  obtain ⟨d,rfl,g⟩:=up hd
  refine q_in (t98 NN d _ _) ?_
  unfold b98 m98
  refine q_len<|q_len<|q_p fr<|q_i ?_ ?_
  ·exact q_ret (cv_p rfl) rfl
  ·refine q_lp (A:=fun (s:Bool×Int)=>[.bool s.1,.int .i64 s.2]) (B:=fun s=>[]) 0 rr ?_ ?_ ?_
   ·intro s1
    unfold s98_0 ms98_0
    exact q_len<|q_p fr<|q_i (q_ix rfl fun x1 hx1=>q_p fr<|q_ix rfl fun x2 hx2=>q_p fr<|q_c0t (aF2 (cv_a (cvs_e (l0:=k0) (x:=x1))) (cv_a (cvs_e (l0:=k1) (x:=x2))) fun l0_ l1_=>w154 (by omega) l0_ x1 l1_ x2)<|q_p fr<|q_i (q_lret 0 rr)<|q_p fr<|q_norm 0 rr)<|q_exit 0 rr
   ·exact fun i1 s2=>q_n (q_ret (cv_p rfl) rfl)<|q_none
   ·exact fun s2=>q_ret (cv_p rfl) rfl
def m39 (a0:TMsg) (a1:TMsg):Option (Bool):=bif a0.Kind != a1.Kind then some false else bif a0.View != a1.View then some false else bif a0.From != a1.From then some false else bif a0.Slot != a1.Slot then some false else bif a0.Value != a1.Value then some false else (m98 a0.Certs a1.Certs).bind fun y1=>bif !y1 then some false else (m58 a0.Refs a1.Refs).bind fun y2=>bif !y2 then some false else some true
theorem w39 {d:Nat} (hd:3≤d) (k0:Bool) (a0:TMsg) (k1:Bool) (a1:TMsg):Fit (R NN d 39 [.agg (Enc.cs k0 a0),.agg (Enc.cs k1 a1)] []) (m39 a0 a1) PB:=by
  obtain ⟨d,rfl,g⟩:=up hd
  refine q_in (t39 NN d _ _) ?_
  unfold b39 m39
  exact q_box (n:=7) rfl rfl (by decide) fun b1=>q_box (n:=7) rfl rfl (by decide) fun b2=>q_p fr<|q_ld 1 rfl rfl<|q_p fr<|q_ld 0 rfl rfl<|q_p fr<|q_i (q_ret (cv_p rfl) rfl)<|q_p fr<|q_ld 1 rfl rfl<|q_p fr<|q_ld 0 rfl rfl<|q_p fr<|q_i (q_ret (cv_p rfl) rfl)<|q_p fr<|q_ld 1 rfl rfl<|q_p fr<|q_ld 0 rfl rfl<|q_p fr<|q_i (q_ret (cv_p rfl) rfl)<|q_p fr<|q_ld 1 rfl rfl<|q_p fr<|q_ld 0 rfl rfl<|q_p fr<|q_i (q_ret (cv_p rfl) rfl)<|q_p fr<|q_ld 1 rfl rfl<|q_p fr<|q_ld 0 rfl rfl<|q_p fr<|q_i (q_ret (cv_p rfl) rfl)<|q_p fr<|q_ld 1 rfl rfl<|q_p fr<|q_ld 0 rfl rfl<|q_c0 (aF2 cv_r cv_r fun l0_ l1_=>w98 (by omega) l0_ a0.Certs l1_ a1.Certs) fun y1 hy1=>q_p fr<|q_i (q_ret (cv_p rfl) rfl)<|q_p fr<|q_ld 1 rfl rfl<|q_p fr<|q_ld 0 rfl rfl<|q_c0 (aF2 cv_r cv_r fun l0_ l1_=>w58 (by omega) l0_ a0.Refs l1_ a1.Refs) fun y2 hy2=>q_p fr<|q_i (q_ret (cv_p rfl) rfl)<|q_ret (cv_p rfl) rfl
def ms60_0 (a0:List TMsg) (a1:List TMsg) (s1:Bool×Int):Option (LO (Bool×Int)):=bif decide (s1.2 < (a0.length:Int)) then (getI a0 s1.2).bind fun x1=>(getI a1 s1.2).bind fun x2=>(m39 x1 x2).bind fun y1=>bif !y1 then some (LO.ret (false,s1.2)) else some (LO.norm (s1.1,wi .i64 (s1.2 + 1))) else some (LO.exit 0 (s1.1,s1.2))
def m60 (a0:List TMsg) (a1:List TMsg):Option (Bool):=bif (a0.length:Int) != (a1.length:Int) then some false else (loopO (ms60_0 a0 a1) NN (false,0)).bind (contO (fun _=>none) (fun i1 s2=>if i1 = 0 then some true else none) (fun s2=>some s2.1))
theorem w60 {d:Nat} (hd:4≤d) (k0:Bool) (a0:List TMsg) (k1:Bool) (a1:List TMsg):Fit (R NN d 60 [.rsl k0 false (a0.map (Enc.cs k0)),.rsl k1 false (a1.map (Enc.cs k1))] []) (m60 a0 a1) PB:=by
  obtain ⟨d,rfl,g⟩:=up hd
  refine q_in (t60 NN d _ _) ?_
  unfold b60 m60
  refine q_len<|q_len<|q_p fr<|q_i ?_ ?_
  ·exact q_ret (cv_p rfl) rfl
  ·refine q_lp (A:=fun (s:Bool×Int)=>[.bool s.1,.int .i64 s.2]) (B:=fun s=>[]) 0 rr ?_ ?_ ?_
   ·intro s1
    unfold s60_0 ms60_0
    exact q_len<|q_p fr<|q_i (q_ix rfl fun x1 hx1=>q_p fr<|q_ix rfl fun x2 hx2=>q_p fr<|q_c0 (aF2 (cv_a (cvs_e (l0:=k0) (x:=x1))) (cv_a (cvs_e (l0:=k1) (x:=x2))) fun l0_ l1_=>w39 (by omega) l0_ x1 l1_ x2) fun y1 hy1=>q_p fr<|q_i (q_lret 0 rr)<|q_p fr<|q_norm 0 rr)<|q_exit 0 rr
   ·exact fun i1 s2=>q_n (q_ret (cv_p rfl) rfl)<|q_none
   ·exact fun s2=>q_ret (cv_p rfl) rfl
def m132 (a0:TOp) (a1:TOp):Bool:=bif a0.Kind != a1.Kind then false else bif !(a0.Path == a1.Path) then false else bif a0.Data != a1.Data then false else bif a0.Version != a1.Version then false else bif a0.Seq != a1.Seq then false else bif a0.Own != a1.Own then false else true
theorem w132 {d:Nat} (hd:1≤d) (k0:Bool) (a0:TOp) (k1:Bool) (a1:TOp):Fit (R NN d 132 [.agg (Enc.cs k0 a0),.agg (Enc.cs k1 a1)] []) (some (m132 a0 a1)) PB:=by
  obtain ⟨d,rfl,g⟩:=up hd
  refine q_in (t132 NN d _ _) ?_
  unfold b132 m132
  exact q_box (n:=6) rfl rfl (by decide) fun b1=>q_box (n:=6) rfl rfl (by decide) fun b2=>q_p fr<|q_ld 1 rfl rfl<|q_p fr<|q_ld 0 rfl rfl<|q_p fr<|q_ift (fun h6=>q_ret (cv_p rfl) rfl) fun h6=>q_p fr<|q_ld 1 rfl rfl<|q_p fr<|q_ld 0 rfl rfl<|q_p (fun _=>seq_neq2)<|q_ift (fun h5=>q_ret (cv_p rfl) rfl) fun h5=>q_p fr<|q_ld 1 rfl rfl<|q_p fr<|q_ld 0 rfl rfl<|q_p fr<|q_ift (fun h4=>q_ret (cv_p rfl) rfl) fun h4=>q_p fr<|q_ld 1 rfl rfl<|q_p fr<|q_ld 0 rfl rfl<|q_p fr<|q_ift (fun h3=>q_ret (cv_p rfl) rfl) fun h3=>q_p fr<|q_ld 1 rfl rfl<|q_p fr<|q_ld 0 rfl rfl<|q_p (fun _=>bneq42 _ _)<|q_ift (fun h2=>q_ret (cv_p rfl) rfl) fun h2=>q_p fr<|q_ld 1 rfl rfl<|q_p fr<|q_ld 0 rfl rfl<|q_p (fun _=>bneq42 _ _)<|q_ift (fun h1=>q_ret (cv_p rfl) rfl) fun h1=>q_ret (cv_p rfl) rfl
def ms83_0 (a0:List TOp) (a1:List TOp) (s1:Bool×Int):Option (LO (Bool×Int)):=bif decide (s1.2 < (a0.length:Int)) then (getI a0 s1.2).bind fun x1=>(getI a1 s1.2).bind fun x2=>bif !(m132 x1 x2) then some (LO.ret (false,s1.2)) else some (LO.norm (s1.1,wi .i64 (s1.2 + 1))) else some (LO.exit 0 (s1.1,s1.2))
def m83 (a0:List TOp) (a1:List TOp):Option (Bool):=bif (a0.length:Int) != (a1.length:Int) then some false else (loopO (ms83_0 a0 a1) NN (false,0)).bind (contO (fun _=>none) (fun i1 s2=>if i1 = 0 then some true else none) (fun s2=>some s2.1))
theorem w83 {d:Nat} (hd:2≤d) (k0:Bool) (a0:List TOp) (k1:Bool) (a1:List TOp):Fit (R NN d 83 [.rsl k0 false (a0.map (Enc.cs k0)),.rsl k1 false (a1.map (Enc.cs k1))] []) (m83 a0 a1) PB:=by
  obtain ⟨d,rfl,g⟩:=up hd
  refine q_in (t83 NN d _ _) ?_
  unfold b83 m83
  refine q_len<|q_len<|q_p fr<|q_i ?_ ?_
  ·exact q_ret (cv_p rfl) rfl
  ·refine q_lp (A:=fun (s:Bool×Int)=>[.bool s.1,.int .i64 s.2]) (B:=fun s=>[]) 0 rr ?_ ?_ ?_
   ·intro s1
    unfold s83_0 ms83_0
    exact q_len<|q_p fr<|q_i (q_ix rfl fun x1 hx1=>q_p fr<|q_ix rfl fun x2 hx2=>q_p fr<|q_c0t (aF2 (cv_a (cvs_e (l0:=k0) (x:=x1))) (cv_a (cvs_e (l0:=k1) (x:=x2))) fun l0_ l1_=>w132 (by omega) l0_ x1 l1_ x2)<|q_p fr<|q_i (q_lret 0 rr)<|q_p fr<|q_norm 0 rr)<|q_exit 0 rr
   ·exact fun i1 s2=>q_n (q_ret (cv_p rfl) rfl)<|q_none
   ·exact fun s2=>q_ret (cv_p rfl) rfl
def m27 (a0:TRequest) (a1:TRequest):Option (Bool):=bif a0.Client != a1.Client then some false else bif a0.Number != a1.Number then some false else bif a0.Time != a1.Time then some false else (m83 a0.Ops a1.Ops).bind fun y1=>bif !y1 then some false else some true
theorem w27 {d:Nat} (hd:3≤d) (k0:Bool) (a0:TRequest) (k1:Bool) (a1:TRequest):Fit (R NN d 27 [.agg (Enc.cs k0 a0),.agg (Enc.cs k1 a1)] []) (m27 a0 a1) PB:=by
  obtain ⟨d,rfl,g⟩:=up hd
  refine q_in (t27 NN d _ _) ?_
  unfold b27 m27
  exact q_box (n:=4) rfl rfl (by decide) fun b1=>q_box (n:=4) rfl rfl (by decide) fun b2=>q_p fr<|q_ld 1 rfl rfl<|q_p fr<|q_ld 0 rfl rfl<|q_p fr<|q_i (q_ret (cv_p rfl) rfl)<|q_p fr<|q_ld 1 rfl rfl<|q_p fr<|q_ld 0 rfl rfl<|q_p fr<|q_i (q_ret (cv_p rfl) rfl)<|q_p fr<|q_ld 1 rfl rfl<|q_p fr<|q_ld 0 rfl rfl<|q_p fr<|q_i (q_ret (cv_p rfl) rfl)<|q_p fr<|q_ld 1 rfl rfl<|q_p fr<|q_ld 0 rfl rfl<|q_c0 (aF2 cv_r cv_r fun l0_ l1_=>w83 (by omega) l0_ a0.Ops l1_ a1.Ops) fun y1 hy1=>q_p fr<|q_i (q_ret (cv_p rfl) rfl)<|q_ret (cv_p rfl) rfl
def ms61_0 (a0:List TRequest) (a1:List TRequest) (s1:Bool×Int):Option (LO (Bool×Int)):=bif decide (s1.2 < (a0.length:Int)) then (getI a0 s1.2).bind fun x1=>(getI a1 s1.2).bind fun x2=>(m27 x1 x2).bind fun y1=>bif !y1 then some (LO.ret (false,s1.2)) else some (LO.norm (s1.1,wi .i64 (s1.2 + 1))) else some (LO.exit 0 (s1.1,s1.2))
def m61 (a0:List TRequest) (a1:List TRequest):Option (Bool):=bif (a0.length:Int) != (a1.length:Int) then some false else (loopO (ms61_0 a0 a1) NN (false,0)).bind (contO (fun _=>none) (fun i1 s2=>if i1 = 0 then some true else none) (fun s2=>some s2.1))
theorem w61 {d:Nat} (hd:4≤d) (k0:Bool) (a0:List TRequest) (k1:Bool) (a1:List TRequest):Fit (R NN d 61 [.rsl k0 false (a0.map (Enc.cs k0)),.rsl k1 false (a1.map (Enc.cs k1))] []) (m61 a0 a1) PB:=by
  obtain ⟨d,rfl,g⟩:=up hd
  refine q_in (t61 NN d _ _) ?_
  unfold b61 m61
  refine q_len<|q_len<|q_p fr<|q_i ?_ ?_
  ·exact q_ret (cv_p rfl) rfl
  ·refine q_lp (A:=fun (s:Bool×Int)=>[.bool s.1,.int .i64 s.2]) (B:=fun s=>[]) 0 rr ?_ ?_ ?_
   ·intro s1
    unfold s61_0 ms61_0
    exact q_len<|q_p fr<|q_i (q_ix rfl fun x1 hx1=>q_p fr<|q_ix rfl fun x2 hx2=>q_p fr<|q_c0 (aF2 (cv_a (cvs_e (l0:=k0) (x:=x1))) (cv_a (cvs_e (l0:=k1) (x:=x2))) fun l0_ l1_=>w27 (by omega) l0_ x1 l1_ x2) fun y1 hy1=>q_p fr<|q_i (q_lret 0 rr)<|q_p fr<|q_norm 0 rr)<|q_exit 0 rr
   ·exact fun i1 s2=>q_n (q_ret (cv_p rfl) rfl)<|q_none
   ·exact fun s2=>q_ret (cv_p rfl) rfl
def m16 (a0:TCluster) (a1:TCluster):Option (Bool):=bif a0.F != a1.F then some false else (m58 a0.Bad a1.Bad).bind fun y1=>bif !y1 then some false else (m59 a0.Replicas a1.Replicas).bind fun y2=>bif !y2 then some false else (m60 a0.Ledger a1.Ledger).bind fun y3=>bif !y3 then some false else (m61 a0.Requests a1.Requests).bind fun y4=>bif !y4 then some false else some true
theorem w16 {d:Nat} (hd:5≤d) (k0:Bool) (a0:TCluster) (k1:Bool) (a1:TCluster):Fit (R NN d 16 [.agg (Enc.cs k0 a0),.agg (Enc.cs k1 a1)] []) (m16 a0 a1) PB:=by
  obtain ⟨d,rfl,g⟩:=up hd
  refine q_in (t16 NN d _ _) ?_
  unfold b16 m16
  exact q_box (n:=5) rfl rfl (by decide) fun b1=>q_box (n:=5) rfl rfl (by decide) fun b2=>q_p fr<|q_ld 1 rfl rfl<|q_p fr<|q_ld 0 rfl rfl<|q_p fr<|q_i (q_ret (cv_p rfl) rfl)<|q_p fr<|q_ld 1 rfl rfl<|q_p fr<|q_ld 0 rfl rfl<|q_c0 (aF2 cv_r cv_r fun l0_ l1_=>w58 (by omega) l0_ a0.Bad l1_ a1.Bad) fun y1 hy1=>q_p fr<|q_i (q_ret (cv_p rfl) rfl)<|q_p fr<|q_ld 1 rfl rfl<|q_p fr<|q_ld 0 rfl rfl<|q_c0 (aF2 cv_r cv_r fun l0_ l1_=>w59 (by omega) l0_ a0.Replicas l1_ a1.Replicas) fun y2 hy2=>q_p fr<|q_i (q_ret (cv_p rfl) rfl)<|q_p fr<|q_ld 1 rfl rfl<|q_p fr<|q_ld 0 rfl rfl<|q_c0 (aF2 cv_r cv_r fun l0_ l1_=>w60 (by omega) l0_ a0.Ledger l1_ a1.Ledger) fun y3 hy3=>q_p fr<|q_i (q_ret (cv_p rfl) rfl)<|q_p fr<|q_ld 1 rfl rfl<|q_p fr<|q_ld 0 rfl rfl<|q_c0 (aF2 cv_r cv_r fun l0_ l1_=>w61 (by omega) l0_ a0.Requests l1_ a1.Requests) fun y4 hy4=>q_p fr<|q_i (q_ret (cv_p rfl) rfl)<|q_ret (cv_p rfl) rfl
def ms62_0 (s1:Int×Int×(List Int)):Option (LO (Int×Int×(List Int))):=bif decide (s1.2.1 < (s1.2.2.length:Int)) then (getI s1.2.2 s1.2.1).bind fun x1=>letO (s1.2.2.set (Int.toNat s1.2.1) s1.1) fun z1=>some (LO.norm (wi .i64 (s1.1 + 1),wi .i64 (s1.2.1 + 1),z1)) else some (LO.exit 0 (s1.1,s1.2.1,s1.2.2))
def m62 (a0:List Int) (a1:Int):Option (Int×(List Int)):=(loopO (ms62_0) NN (a1,0,a0)).bind (contO (fun _=>none) (fun i1 s2=>if i1 = 0 then some (s2.1,s2.2.2) else none) (fun s2=>some (0,s2.2.2)))
theorem w62 {d:Nat} (hd:1≤d) (L0:List En) (i0_:List Nat) (c0_0:AV) (a0:List Int) (a1:Int):Okh (tr i0_ [c0_0] (a0:List Int)::L0) (fun S=>R NN d 62 [c0_0,.int .i64 a1] S) (m62 a0 a1) (P2 (fun (t:Int×(List Int))=>AV.int .i64 t.1) (fun (t:Int×(List Int))=>tr i0_ [c0_0] t.2::L0)):=by
  obtain ⟨d,rfl,g⟩:=up hd
  refine q_to (t62 NN d _ _) ?_
  unfold b62 m62
  refine q_lp (A:=fun (s:Int×Int×(List Int))=>[.int .i64 s.1,.int .i64 s.2.1]) (B:=fun s=>tr i0_ [c0_0] (s.2.2:List Int)::L0) 0 rr ?_ ?_ ?_
  ·intro s1
   unfold s62_0 ms62_0
   exact q_lent 0 rfl<|q_p fr<|q_i (q_ixt 0 rfl rfl fun x1 hx1=>q_stl0 0 rfl rfl hx1 rfl (up_int (n:=s1.1)) fun z1 hz1=>q_p fr<|q_p fr<|q_norm 0 rr)<|q_exit 0 rr
  ·exact fun i1 s2=>q_n (q_ret2 0 rfl rfl)<|q_none
  ·exact fun s2=>q_ret2 0 rfl rfl
def ms63_0 (s1:Int×Int×(List TReplica)):Option (LO (Int×Int×(List TReplica))):=bif decide (s1.2.1 < (s1.2.2.length:Int)) then (getI s1.2.2 s1.2.1).bind fun x1=>letO (s1.2.2.set (Int.toNat s1.2.1) ({ x1 with Id:=s1.1 })) fun z1=>(getI z1 s1.2.1).bind fun x2=>letO (z1.set (Int.toNat s1.2.1) ({ x2 with View:=wi .i64 (s1.1 + 1) })) fun z2=>(getI z2 s1.2.1).bind fun x3=>letO (z2.set (Int.toNat s1.2.1) ({ x3 with Start:=wi .i64 ((wi .i64 (s1.1 + 1)) + 1) })) fun z3=>(getI z3 s1.2.1).bind fun x4=>letO (z3.set (Int.toNat s1.2.1) ({ x4 with Done:=wi .i64 ((wi .i64 ((wi .i64 (s1.1 + 1)) + 1)) + 1) })) fun z4=>some (LO.norm (wi .i64 ((wi .i64 ((wi .i64 ((wi .i64 (s1.1 + 1)) + 1)) + 1)) + 1),wi .i64 (s1.2.1 + 1),z4)) else some (LO.exit 0 (s1.1,s1.2.1,s1.2.2))
def m63 (a0:List TReplica) (a1:Int):Option (Int×(List TReplica)):=(loopO (ms63_0) NN (a1,0,a0)).bind (contO (fun _=>none) (fun i1 s2=>if i1 = 0 then some (s2.1,s2.2.2) else none) (fun s2=>some (0,s2.2.2)))
theorem w63 {d:Nat} (hd:1≤d) (L0:List En) (i0_:List Nat) (c0_0:AV) (a0:List TReplica) (a1:Int):Okh (tr i0_ [c0_0] (a0:List TReplica)::L0) (fun S=>R NN d 63 [c0_0,.int .i64 a1] S) (m63 a0 a1) (P2 (fun (t:Int×(List TReplica))=>AV.int .i64 t.1) (fun (t:Int×(List TReplica))=>tr i0_ [c0_0] t.2::L0)):=by
  obtain ⟨d,rfl,g⟩:=up hd
  refine q_to (t63 NN d _ _) ?_
  unfold b63 m63
  refine q_lp (A:=fun (s:Int×Int×(List TReplica))=>[.int .i64 s.1,.int .i64 s.2.1]) (B:=fun s=>tr i0_ [c0_0] (s.2.2:List TReplica)::L0) 0 rr ?_ ?_ ?_
  ·intro s1
   unfold s63_0 ms63_0
   exact q_lent 0 rfl<|q_p fr<|q_i (q_ixt 0 rfl rfl fun x1 hx1=>q_flt 0 rfl hx1 (by decide)<|q_stl 0 rfl rfl hx1 rfl (up118_Id s1.1) fun z1 hz1=>q_p fr<|q_ixt 0 rfl rfl fun x2 hx2=>q_flt 0 rfl hx2 (by decide)<|q_stl 0 rfl rfl hx2 rfl (up118_View (wi .i64 (s1.1 + 1))) fun z2 hz2=>q_p fr<|q_ixt 0 rfl rfl fun x3 hx3=>q_flt 0 rfl hx3 (by decide)<|q_stl 0 rfl rfl hx3 rfl (up118_Start (wi .i64 ((wi .i64 (s1.1 + 1)) + 1))) fun z3 hz3=>q_p fr<|q_ixt 0 rfl rfl fun x4 hx4=>q_flt 0 rfl hx4 (by decide)<|q_stl 0 rfl rfl hx4 rfl (up118_Done (wi .i64 ((wi .i64 ((wi .i64 (s1.1 + 1)) + 1)) + 1))) fun z4 hz4=>q_p fr<|q_p fr<|q_norm 0 rr)<|q_exit 0 rr
  ·exact fun i1 s2=>q_n (q_ret2 0 rfl rfl)<|q_none
  ·exact fun s2=>q_ret2 0 rfl rfl
def ms99_0 (s1:Int×Int×(List TCert)):Option (LO (Int×Int×(List TCert))):=bif decide (s1.2.1 < (s1.2.2.length:Int)) then (getI s1.2.2 s1.2.1).bind fun x1=>letO (s1.2.2.set (Int.toNat s1.2.1) ({ x1 with Slot:=s1.1 })) fun z1=>(getI z1 s1.2.1).bind fun x2=>letO (z1.set (Int.toNat s1.2.1) ({ x2 with View:=wi .i64 (s1.1 + 1) })) fun z2=>(getI z2 s1.2.1).bind fun x3=>letO (z2.set (Int.toNat s1.2.1) ({ x3 with Value:=wi .i64 ((wi .i64 (s1.1 + 1)) + 1) })) fun z3=>some (LO.norm (wi .i64 ((wi .i64 ((wi .i64 (s1.1 + 1)) + 1)) + 1),wi .i64 (s1.2.1 + 1),z3)) else some (LO.exit 0 (s1.1,s1.2.1,s1.2.2))
def m99 (a0:List TCert) (a1:Int):Option (Int×(List TCert)):=(loopO (ms99_0) NN (a1,0,a0)).bind (contO (fun _=>none) (fun i1 s2=>if i1 = 0 then some (s2.1,s2.2.2) else none) (fun s2=>some (0,s2.2.2)))
theorem w99 {d:Nat} (hd:1≤d) (L0:List En) (i0_:List Nat) (c0_0:AV) (a0:List TCert) (a1:Int):Okh (tr i0_ [c0_0] (a0:List TCert)::L0) (fun S=>R NN d 99 [c0_0,.int .i64 a1] S) (m99 a0 a1) (P2 (fun (t:Int×(List TCert))=>AV.int .i64 t.1) (fun (t:Int×(List TCert))=>tr i0_ [c0_0] t.2::L0)):=by
  obtain ⟨d,rfl,g⟩:=up hd
  refine q_to (t99 NN d _ _) ?_
  unfold b99 m99
  refine q_lp (A:=fun (s:Int×Int×(List TCert))=>[.int .i64 s.1,.int .i64 s.2.1]) (B:=fun s=>tr i0_ [c0_0] (s.2.2:List TCert)::L0) 0 rr ?_ ?_ ?_
  ·intro s1
   unfold s99_0 ms99_0
   exact q_lent 0 rfl<|q_p fr<|q_i (q_ixt 0 rfl rfl fun x1 hx1=>q_flt 0 rfl hx1 (by decide)<|q_stl 0 rfl rfl hx1 rfl (up174_Slot s1.1) fun z1 hz1=>q_p fr<|q_ixt 0 rfl rfl fun x2 hx2=>q_flt 0 rfl hx2 (by decide)<|q_stl 0 rfl rfl hx2 rfl (up174_View (wi .i64 (s1.1 + 1))) fun z2 hz2=>q_p fr<|q_ixt 0 rfl rfl fun x3 hx3=>q_flt 0 rfl hx3 (by decide)<|q_stl 0 rfl rfl hx3 rfl (up174_Value (wi .i64 ((wi .i64 (s1.1 + 1)) + 1))) fun z3 hz3=>q_p fr<|q_p fr<|q_norm 0 rr)<|q_exit 0 rr
  ·exact fun i1 s2=>q_n (q_ret2 0 rfl rfl)<|q_none
  ·exact fun s2=>q_ret2 0 rfl rfl
def ms64_0 (s1:Int×Int×(List TMsg)):Option (LO (Int×Int×(List TMsg))):=bif decide (s1.2.1 < (s1.2.2.length:Int)) then (getI s1.2.2 s1.2.1).bind fun x1=>letO (s1.2.2.set (Int.toNat s1.2.1) ({ x1 with Kind:=s1.1 })) fun z1=>(getI z1 s1.2.1).bind fun x2=>letO (z1.set (Int.toNat s1.2.1) ({ x2 with View:=wi .i64 (s1.1 + 1) })) fun z2=>(getI z2 s1.2.1).bind fun x3=>letO (z2.set (Int.toNat s1.2.1) ({ x3 with From:=wi .i64 ((wi .i64 (s1.1 + 1)) + 1) })) fun z3=>(getI z3 s1.2.1).bind fun x4=>letO (z3.set (Int.toNat s1.2.1) ({ x4 with Slot:=wi .i64 ((wi .i64 ((wi .i64 (s1.1 + 1)) + 1)) + 1) })) fun z4=>(getI z4 s1.2.1).bind fun x5=>letO (z4.set (Int.toNat s1.2.1) ({ x5 with Value:=wi .i64 ((wi .i64 ((wi .i64 ((wi .i64 (s1.1 + 1)) + 1)) + 1)) + 1) })) fun z5=>(getI z5 s1.2.1).bind fun x6=>(m99 x6.Certs (wi .i64 ((wi .i64 ((wi .i64 ((wi .i64 ((wi .i64 (s1.1 + 1)) + 1)) + 1)) + 1)) + 1))).bind fun y1=>letO (z5.set (Int.toNat s1.2.1) ({ x6 with Certs:=y1.2 })) fun z6=>(getI z6 s1.2.1).bind fun x7=>(m62 x7.Refs y1.1).bind fun y2=>letO (z6.set (Int.toNat s1.2.1) ({ x7 with Refs:=y2.2 })) fun z7=>some (LO.norm (y2.1,wi .i64 (s1.2.1 + 1),z7)) else some (LO.exit 0 (s1.1,s1.2.1,s1.2.2))
def m64 (a0:List TMsg) (a1:Int):Option (Int×(List TMsg)):=(loopO (ms64_0) NN (a1,0,a0)).bind (contO (fun _=>none) (fun i1 s2=>if i1 = 0 then some (s2.1,s2.2.2) else none) (fun s2=>some (0,s2.2.2)))
theorem w64 {d:Nat} (hd:2≤d) (L0:List En) (i0_:List Nat) (c0_0:AV) (a0:List TMsg) (a1:Int):Okh (tr i0_ [c0_0] (a0:List TMsg)::L0) (fun S=>R NN d 64 [c0_0,.int .i64 a1] S) (m64 a0 a1) (P2 (fun (t:Int×(List TMsg))=>AV.int .i64 t.1) (fun (t:Int×(List TMsg))=>tr i0_ [c0_0] t.2::L0)):=by
  obtain ⟨d,rfl,g⟩:=up hd
  refine q_to (t64 NN d _ _) ?_
  unfold b64 m64
  refine q_lp (A:=fun (s:Int×Int×(List TMsg))=>[.int .i64 s.1,.int .i64 s.2.1]) (B:=fun s=>tr i0_ [c0_0] (s.2.2:List TMsg)::L0) 0 rr ?_ ?_ ?_
  ·intro s1
   unfold s64_0 ms64_0
   exact q_lent 0 rfl<|q_p fr<|q_i (q_ixt 0 rfl rfl fun x1 hx1=>q_flt 0 rfl hx1 (by decide)<|q_stl 0 rfl rfl hx1 rfl (up71_Kind s1.1) fun z1 hz1=>q_p fr<|q_ixt 0 rfl rfl fun x2 hx2=>q_flt 0 rfl hx2 (by decide)<|q_stl 0 rfl rfl hx2 rfl (up71_View (wi .i64 (s1.1 + 1))) fun z2 hz2=>q_p fr<|q_ixt 0 rfl rfl fun x3 hx3=>q_flt 0 rfl hx3 (by decide)<|q_stl 0 rfl rfl hx3 rfl (up71_From (wi .i64 ((wi .i64 (s1.1 + 1)) + 1))) fun z3 hz3=>q_p fr<|q_ixt 0 rfl rfl fun x4 hx4=>q_flt 0 rfl hx4 (by decide)<|q_stl 0 rfl rfl hx4 rfl (up71_Slot (wi .i64 ((wi .i64 ((wi .i64 (s1.1 + 1)) + 1)) + 1))) fun z4 hz4=>q_p fr<|q_ixt 0 rfl rfl fun x5 hx5=>q_flt 0 rfl hx5 (by decide)<|q_stl 0 rfl rfl hx5 rfl (up71_Value (wi .i64 ((wi .i64 ((wi .i64 ((wi .i64 (s1.1 + 1)) + 1)) + 1)) + 1))) fun z5 hz5=>q_p fr<|q_ixt 0 rfl rfl fun x6 hx6=>q_flt 0 rfl hx6 (by decide)<|q_ldf rfl rfl hx6 fo71_Certs fun w1 ic1=>q_s (mg:=m99 x6.Certs (wi .i64 ((wi .i64 ((wi .i64 ((wi .i64 ((wi .i64 (s1.1 + 1)) + 1)) + 1)) + 1)) + 1))) (w99 (by omega) _ ic1 w1 x6.Certs (wi .i64 ((wi .i64 ((wi .i64 ((wi .i64 ((wi .i64 (s1.1 + 1)) + 1)) + 1)) + 1)) + 1))) fun y1 hy1=>q_putl fun z6 hz6=>q_ixt 0 rfl rfl fun x7 hx7=>q_flt 0 rfl hx7 (by decide)<|q_ldf rfl rfl hx7 fo71_Refs fun w2 ic2=>q_s (mg:=m62 x7.Refs y1.1) (w62 (by omega) _ ic2 w2 x7.Refs y1.1) fun y2 hy2=>q_putl fun z7 hz7=>q_p fr<|q_norm 0 rr)<|q_exit 0 rr
  ·exact fun i1 s2=>q_n (q_ret2 0 rfl rfl)<|q_none
  ·exact fun s2=>q_ret2 0 rfl rfl
def ms133_0 (s1:Int×Str):Option (LO (Int×Str)):=bif decide (s1.1 > 0) then (catO ([UInt8.ofNat (Int.toNat (wi .u8 (wi .i64 (48 + (Int.tmod s1.1 10)))))]:Str) s1.2).bind fun t1=>some (LO.norm (wi .i64 (Int.tdiv s1.1 10),t1)) else some (LO.exit 0 (s1.1,s1.2))
def m133 (a0:Int):Option (Str):=bif decide (a0≤0) then some ([109,48]:Str) else (loopO (ms133_0) NN (a0,([]:Str))).bind (contO (fun _=>none) (fun i1 s2=>if i1 = 0 then (catO ([109]:Str) s2.2).bind fun t2=>some t2 else none) (fun s2=>some ([]:Str)))
theorem w133 {d:Nat} (hd:1≤d) (a0:Int):Fit (R NN d 133 [.int .i64 a0] []) (m133 a0) (P0 encS):=by
  obtain ⟨d,rfl,g⟩:=up hd
  refine q_in (t133 NN d _) ?_
  unfold b133 m133
  refine q_p fr<|q_i ?_ ?_
  ·exact q_ret (cv_p rfl) rfl
  ·refine q_lp (A:=fun (s:Int×Str)=>[.int .i64 s.1,encS s.2]) (B:=fun s=>[]) 0 rr ?_ ?_ ?_
   ·intro s1
    unfold s133_0 ms133_0
    exact q_p fr<|q_i (q_p fr<|q_p fr<|q_p (fun _=>cvt3_5 _ _)<|q_q (fun _=>qb199)<|q_p (fun _=>cvb199_9 _ _)<|q_cat2 fun t1 ht1=>q_p fr<|q_norm 0 rr)<|q_exit 0 rr
   ·exact fun i1 s2=>q_n (q_cat fun t2 ht2=>q_ret (cv_p rfl) rfl)<|q_none
   ·exact fun s2=>q_ret (cv_p rfl) rfl
def ms84_0 (s1:Int×Int×(List TOp)):Option (LO (Int×Int×(List TOp))):=bif decide (s1.2.1 < (s1.2.2.length:Int)) then (getI s1.2.2 s1.2.1).bind fun x1=>letO (s1.2.2.set (Int.toNat s1.2.1) ({ x1 with Kind:=s1.1 })) fun z1=>(m133 (wi .i64 (s1.1 + 1))).bind fun y1=>(getI z1 s1.2.1).bind fun x2=>letO (z1.set (Int.toNat s1.2.1) ({ x2 with Path:=y1 })) fun z2=>(getI z2 s1.2.1).bind fun x3=>letO (z2.set (Int.toNat s1.2.1) ({ x3 with Data:=wi .i64 ((wi .i64 (s1.1 + 1)) + 1) })) fun z3=>(getI z3 s1.2.1).bind fun x4=>letO (z3.set (Int.toNat s1.2.1) ({ x4 with Version:=wi .i64 ((wi .i64 ((wi .i64 (s1.1 + 1)) + 1)) + 1) })) fun z4=>(getI z4 s1.2.1).bind fun x5=>letO (z4.set (Int.toNat s1.2.1) ({ x5 with Seq:=(Int.tmod (wi .i64 ((wi .i64 ((wi .i64 ((wi .i64 (s1.1 + 1)) + 1)) + 1)) + 1)) 3) == 0 })) fun z5=>(getI z5 s1.2.1).bind fun x6=>letO (z5.set (Int.toNat s1.2.1) ({ x6 with Own:=(Int.tmod (wi .i64 ((wi .i64 ((wi .i64 ((wi .i64 ((wi .i64 (s1.1 + 1)) + 1)) + 1)) + 1)) + 1)) 3) == 0 })) fun z6=>some (LO.norm (wi .i64 ((wi .i64 ((wi .i64 ((wi .i64 ((wi .i64 ((wi .i64 (s1.1 + 1)) + 1)) + 1)) + 1)) + 1)) + 1),wi .i64 (s1.2.1 + 1),z6)) else some (LO.exit 0 (s1.1,s1.2.1,s1.2.2))
def m84 (a0:List TOp) (a1:Int):Option (Int×(List TOp)):=(loopO (ms84_0) NN (a1,0,a0)).bind (contO (fun _=>none) (fun i1 s2=>if i1 = 0 then some (s2.1,s2.2.2) else none) (fun s2=>some (0,s2.2.2)))
theorem w84 {d:Nat} (hd:2≤d) (L0:List En) (i0_:List Nat) (c0_0:AV) (a0:List TOp) (a1:Int):Okh (tr i0_ [c0_0] (a0:List TOp)::L0) (fun S=>R NN d 84 [c0_0,.int .i64 a1] S) (m84 a0 a1) (P2 (fun (t:Int×(List TOp))=>AV.int .i64 t.1) (fun (t:Int×(List TOp))=>tr i0_ [c0_0] t.2::L0)):=by
  obtain ⟨d,rfl,g⟩:=up hd
  refine q_to (t84 NN d _ _) ?_
  unfold b84 m84
  refine q_lp (A:=fun (s:Int×Int×(List TOp))=>[.int .i64 s.1,.int .i64 s.2.1]) (B:=fun s=>tr i0_ [c0_0] (s.2.2:List TOp)::L0) 0 rr ?_ ?_ ?_
  ·intro s1
   unfold s84_0 ms84_0
   exact q_lent 0 rfl<|q_p fr<|q_i (q_ixt 0 rfl rfl fun x1 hx1=>q_flt 0 rfl hx1 (by decide)<|q_stl 0 rfl rfl hx1 rfl (up159_Kind s1.1) fun z1 hz1=>q_p fr<|q_c0 (aF1 (cv_p rfl) fun l0_=>w133 (by omega) (wi .i64 (s1.1 + 1))) fun y1 hy1=>q_ixt 0 rfl rfl fun x2 hx2=>q_flt 0 rfl hx2 (by decide)<|q_stl 0 rfl rfl hx2 rfl (up159_Path y1) fun z2 hz2=>q_p fr<|q_ixt 0 rfl rfl fun x3 hx3=>q_flt 0 rfl hx3 (by decide)<|q_stl 0 rfl rfl hx3 rfl (up159_Data (wi .i64 ((wi .i64 (s1.1 + 1)) + 1))) fun z3 hz3=>q_p fr<|q_ixt 0 rfl rfl fun x4 hx4=>q_flt 0 rfl hx4 (by decide)<|q_stl 0 rfl rfl hx4 rfl (up159_Version (wi .i64 ((wi .i64 ((wi .i64 (s1.1 + 1)) + 1)) + 1))) fun z4 hz4=>q_p fr<|q_p fr<|q_p fr<|q_ixt 0 rfl rfl fun x5 hx5=>q_flt 0 rfl hx5 (by decide)<|q_stl 0 rfl rfl hx5 rfl (up159_Seq ((Int.tmod (wi .i64 ((wi .i64 ((wi .i64 ((wi .i64 (s1.1 + 1)) + 1)) + 1)) + 1)) 3) == 0)) fun z5 hz5=>q_p fr<|q_p fr<|q_p fr<|q_ixt 0 rfl rfl fun x6 hx6=>q_flt 0 rfl hx6 (by decide)<|q_stl 0 rfl rfl hx6 rfl (up159_Own ((Int.tmod (wi .i64 ((wi .i64 ((wi .i64 ((wi .i64 ((wi .i64 (s1.1 + 1)) + 1)) + 1)) + 1)) + 1)) 3) == 0)) fun z6 hz6=>q_p fr<|q_p fr<|q_norm 0 rr)<|q_exit 0 rr
  ·exact fun i1 s2=>q_n (q_ret2 0 rfl rfl)<|q_none
  ·exact fun s2=>q_ret2 0 rfl rfl
def ms65_0 (s1:Int×Int×(List TRequest)):Option (LO (Int×Int×(List TRequest))):=bif decide (s1.2.1 < (s1.2.2.length:Int)) then (getI s1.2.2 s1.2.1).bind fun x1=>letO (s1.2.2.set (Int.toNat s1.2.1) ({ x1 with Client:=s1.1 })) fun z1=>(getI z1 s1.2.1).bind fun x2=>letO (z1.set (Int.toNat s1.2.1) ({ x2 with Number:=wi .i64 (s1.1 + 1) })) fun z2=>(getI z2 s1.2.1).bind fun x3=>letO (z2.set (Int.toNat s1.2.1) ({ x3 with Time:=wi .i64 ((wi .i64 (s1.1 + 1)) + 1) })) fun z3=>(getI z3 s1.2.1).bind fun x4=>(m84 x4.Ops (wi .i64 ((wi .i64 ((wi .i64 (s1.1 + 1)) + 1)) + 1))).bind fun y1=>letO (z3.set (Int.toNat s1.2.1) ({ x4 with Ops:=y1.2 })) fun z4=>some (LO.norm (y1.1,wi .i64 (s1.2.1 + 1),z4)) else some (LO.exit 0 (s1.1,s1.2.1,s1.2.2))
def m65 (a0:List TRequest) (a1:Int):Option (Int×(List TRequest)):=(loopO (ms65_0) NN (a1,0,a0)).bind (contO (fun _=>none) (fun i1 s2=>if i1 = 0 then some (s2.1,s2.2.2) else none) (fun s2=>some (0,s2.2.2)))
theorem w65 {d:Nat} (hd:3≤d) (L0:List En) (i0_:List Nat) (c0_0:AV) (a0:List TRequest) (a1:Int):Okh (tr i0_ [c0_0] (a0:List TRequest)::L0) (fun S=>R NN d 65 [c0_0,.int .i64 a1] S) (m65 a0 a1) (P2 (fun (t:Int×(List TRequest))=>AV.int .i64 t.1) (fun (t:Int×(List TRequest))=>tr i0_ [c0_0] t.2::L0)):=by
  obtain ⟨d,rfl,g⟩:=up hd
  refine q_to (t65 NN d _ _) ?_
  unfold b65 m65
  refine q_lp (A:=fun (s:Int×Int×(List TRequest))=>[.int .i64 s.1,.int .i64 s.2.1]) (B:=fun s=>tr i0_ [c0_0] (s.2.2:List TRequest)::L0) 0 rr ?_ ?_ ?_
  ·intro s1
   unfold s65_0 ms65_0
   exact q_lent 0 rfl<|q_p fr<|q_i (q_ixt 0 rfl rfl fun x1 hx1=>q_flt 0 rfl hx1 (by decide)<|q_stl 0 rfl rfl hx1 rfl (up54_Client s1.1) fun z1 hz1=>q_p fr<|q_ixt 0 rfl rfl fun x2 hx2=>q_flt 0 rfl hx2 (by decide)<|q_stl 0 rfl rfl hx2 rfl (up54_Number (wi .i64 (s1.1 + 1))) fun z2 hz2=>q_p fr<|q_ixt 0 rfl rfl fun x3 hx3=>q_flt 0 rfl hx3 (by decide)<|q_stl 0 rfl rfl hx3 rfl (up54_Time (wi .i64 ((wi .i64 (s1.1 + 1)) + 1))) fun z3 hz3=>q_p fr<|q_ixt 0 rfl rfl fun x4 hx4=>q_flt 0 rfl hx4 (by decide)<|q_ldf rfl rfl hx4 fo54_Ops fun w1 ic1=>q_s (mg:=m84 x4.Ops (wi .i64 ((wi .i64 ((wi .i64 (s1.1 + 1)) + 1)) + 1))) (w84 (by omega) _ ic1 w1 x4.Ops (wi .i64 ((wi .i64 ((wi .i64 (s1.1 + 1)) + 1)) + 1))) fun y1 hy1=>q_putl fun z4 hz4=>q_p fr<|q_norm 0 rr)<|q_exit 0 rr
  ·exact fun i1 s2=>q_n (q_ret2 0 rfl rfl)<|q_none
  ·exact fun s2=>q_ret2 0 rfl rfl
def m17 (a0:TCluster) (a1:Int):Option (Int×TCluster):=(m62 a0.Bad a1).bind fun y1=>letO ({ a0 with Bad:=y1.2 }) fun z1=>(m63 z1.Replicas y1.1).bind fun y2=>letO ({ z1 with Replicas:=y2.2 }) fun z2=>(m64 z2.Ledger y2.1).bind fun y3=>letO ({ z2 with Ledger:=y3.2 }) fun z3=>(m65 z3.Requests y3.1).bind fun y4=>letO ({ z3 with Requests:=y4.2 }) fun z4=>some (y4.1,z4)
theorem w17 {d:Nat} (hd:4≤d) (L0:List En) (i0_:List Nat) (c0_0 c0_1 c0_2 c0_3 c0_4:AV) (a0:TCluster) (a1:Int):Okh (tr i0_ [c0_0,c0_1,c0_2,c0_3,c0_4] (a0:TCluster)::L0) (fun S=>R NN d 17 [.agg [c0_0,c0_1,c0_2,c0_3,c0_4],.int .i64 a1] S) (m17 a0 a1) (P2 (fun (t:Int×TCluster)=>AV.int .i64 t.1) (fun (t:Int×TCluster)=>tr i0_ [c0_0,c0_1,c0_2,c0_3,c0_4] t.2::L0)):=by
  obtain ⟨d,rfl,g⟩:=up hd
  refine q_to (t17 NN d _ _) ?_
  unfold b17 m17
  exact q_box (n:=5) rfl rfl (by decide) fun b1=>q_p fr<|q_ld 0 rfl rfl<|q_sel 2 [1,0] (by decide) (by decide)<|q_prt fo36_Bad rfl fun ic1=>q_s (mg:=m62 a0.Bad a1) (w62 (by omega) _ ic1 c0_1 a0.Bad a1) fun y1 hy1=>q_putl fun z1 hz1=>q_p fr<|q_ld 1 rfl rfl<|q_prt fo36_Replicas rfl fun ic2=>q_s (mg:=m63 z1.Replicas y1.1) (w63 (by omega) _ ic2 c0_2 z1.Replicas y1.1) fun y2 hy2=>q_putl fun z2 hz2=>q_p fr<|q_ld 1 rfl rfl<|q_prt fo36_Ledger rfl fun ic3=>q_s (mg:=m64 z2.Ledger y2.1) (w64 (by omega) _ ic3 c0_3 z2.Ledger y2.1) fun y3 hy3=>q_putl fun z3 hz3=>q_p fr<|q_ld 1 rfl rfl<|q_prt fo36_Requests rfl fun ic4=>q_s (mg:=m65 z3.Requests y3.1) (w65 (by omega) _ ic4 c0_4 z3.Requests y3.1) fun y4 hy4=>q_putl fun z4 hz4=>q_sel 2 [1,0] (by decide) (by decide)<|q_ret2 1 rfl rfl
def m26 (a0:TClusterResult) (a1:TClusterResult):Option (Bool):=bif a0.Code != a1.Code then some false else (m16 a0.Cluster a1.Cluster).bind fun y1=>bif !y1 then some false else some true
theorem w26 {d:Nat} (hd:6≤d) (k0:Bool) (a0:TClusterResult) (k1:Bool) (a1:TClusterResult):Fit (R NN d 26 [.agg (Enc.cs k0 a0),.agg (Enc.cs k1 a1)] []) (m26 a0 a1) PB:=by
  obtain ⟨d,rfl,g⟩:=up hd
  refine q_in (t26 NN d _ _) ?_
  unfold b26 m26
  exact q_box (n:=6) rfl rfl (by decide) fun b1=>q_box (n:=6) rfl rfl (by decide) fun b2=>q_p fr<|q_ld 1 rfl rfl<|q_p fr<|q_ld 0 rfl rfl<|q_p fr<|q_i (q_ret (cv_p rfl) rfl)<|q_p fr<|q_lda 1 rfl rfl rfl<|q_p fr<|q_lda 0 rfl rfl rfl<|q_c0 (aF2 (cv_a (cvs_e (l0:=k0) (x:=a0.Cluster))) (cv_a (cvs_e (l0:=k1) (x:=a1.Cluster))) fun l0_ l1_=>w16 (by omega) l0_ a0.Cluster l1_ a1.Cluster) fun y1 hy1=>q_p fr<|q_i (q_ret (cv_p rfl) rfl)<|q_ret (cv_p rfl) rfl
def m29 (a0:TClusterResult) (a1:Int):Option (Int×TClusterResult):=(m17 a0.Cluster a1).bind fun y1=>letO ({ a0 with Cluster:=y1.2 }) fun z1=>some (y1.1,z1)
theorem w29 {d:Nat} (hd:5≤d) (L0:List En) (i0_:List Nat) (c0_0 c0_1 c0_2 c0_3 c0_4 c0_5:AV) (a0:TClusterResult) (a1:Int):Okh (tr i0_ [c0_0,c0_1,c0_2,c0_3,c0_4,c0_5] (a0:TClusterResult)::L0) (fun S=>R NN d 29 [.agg [c0_0,c0_1,c0_2,c0_3,c0_4,c0_5],.int .i64 a1] S) (m29 a0 a1) (P2 (fun (t:Int×TClusterResult)=>AV.int .i64 t.1) (fun (t:Int×TClusterResult)=>tr i0_ [c0_0,c0_1,c0_2,c0_3,c0_4,c0_5] t.2::L0)):=by
  obtain ⟨d,rfl,g⟩:=up hd
  refine q_to (t29 NN d _ _) ?_
  unfold b29 m29
  exact q_box (n:=6) rfl rfl (by decide) fun b1=>q_p fr<|q_lda 0 rfl rfl rfl<|q_sel 2 [1,0] (by decide) (by decide)<|q_prt fo50_Cluster rfl fun ic1=>q_s (mg:=m17 a0.Cluster a1) (w17 (by omega) _ ic1 c0_1 c0_2 c0_3 c0_4 c0_5 a0.Cluster a1) fun y1 hy1=>q_putl fun z1 hz1=>q_sel 2 [1,0] (by decide) (by decide)<|q_ret2 1 rfl rfl
def ms66_0 (a0:List Int) (s1:Int×Int×Int):Option (LO (Int×Int×Int)):=bif decide (s1.2.2 < (a0.length:Int)) then (getI a0 s1.2.2).bind fun x1=>bif x1 != s1.1 then some (LO.ret (s1.1,(-1),s1.2.2)) else some (LO.norm (wi .i64 (s1.1 + 1),s1.2.1,wi .i64 (s1.2.2 + 1))) else some (LO.exit 0 (s1.1,s1.2.1,s1.2.2))
def m66 (a0:List Int) (a1:Int):Option (Int):=(loopO (ms66_0 a0) NN (a1,0,0)).bind (contO (fun _=>none) (fun i1 s2=>if i1 = 0 then some s2.1 else none) (fun s2=>some s2.2.1))
theorem w66 {d:Nat} (hd:1≤d) (k0:Bool) (a0:List Int) (a1:Int):Fit (R NN d 66 [.rsl k0 false (a0.map (Enc.cs k0)),.int .i64 a1] []) (m66 a0 a1) PI:=by
  obtain ⟨d,rfl,g⟩:=up hd
  refine q_in (t66 NN d _ _) ?_
  unfold b66 m66
  refine q_lp (A:=fun (s:Int×Int×Int)=>[.int .i64 s.1,.int .i64 s.2.1,.int .i64 s.2.2]) (B:=fun s=>[]) 0 rr ?_ ?_ ?_
  ·intro s1
   unfold s66_0 ms66_0
   exact q_len<|q_p fr<|q_i (q_ix rfl fun x1 hx1=>q_p fr<|q_p fr<|q_i (q_lret 0 rr)<|q_p fr<|q_p fr<|q_norm 0 rr)<|q_exit 0 rr
  ·exact fun i1 s2=>q_n (q_ret (cv_p rfl) rfl)<|q_none
  ·exact fun s2=>q_ret (cv_p rfl) rfl
def ms134_0 (a0:List TReplica) (s1:Int×Int×Int):Option (LO (Int×Int×Int)):=bif decide (s1.2.2 < (a0.length:Int)) then (getI a0 s1.2.2).bind fun x1=>bif x1.Id != s1.1 then some (LO.ret (s1.1,(-1),s1.2.2)) else (getI a0 s1.2.2).bind fun x2=>bif x2.View != (wi .i64 (s1.1 + 1)) then some (LO.ret (wi .i64 (s1.1 + 1),(-1),s1.2.2)) else (getI a0 s1.2.2).bind fun x3=>bif x3.Start != (wi .i64 ((wi .i64 (s1.1 + 1)) + 1)) then some (LO.ret (wi .i64 ((wi .i64 (s1.1 + 1)) + 1),(-1),s1.2.2)) else (getI a0 s1.2.2).bind fun x4=>bif x4.Done != (wi .i64 ((wi .i64 ((wi .i64 (s1.1 + 1)) + 1)) + 1)) then some (LO.ret (wi .i64 ((wi .i64 ((wi .i64 (s1.1 + 1)) + 1)) + 1),(-1),s1.2.2)) else some (LO.norm (wi .i64 ((wi .i64 ((wi .i64 ((wi .i64 (s1.1 + 1)) + 1)) + 1)) + 1),s1.2.1,wi .i64 (s1.2.2 + 1))) else some (LO.exit 0 (s1.1,s1.2.1,s1.2.2))
def m134 (a0:List TReplica) (a1:Int):Option (Int):=(loopO (ms134_0 a0) NN (a1,0,0)).bind (contO (fun _=>none) (fun i1 s2=>if i1 = 0 then some s2.1 else none) (fun s2=>some s2.2.1))
theorem w134 {d:Nat} (hd:1≤d) (k0:Bool) (a0:List TReplica) (a1:Int):Fit (R NN d 134 [.rsl k0 false (a0.map (Enc.cs k0)),.int .i64 a1] []) (m134 a0 a1) PI:=by
  obtain ⟨d,rfl,g⟩:=up hd
  refine q_in (t134 NN d _ _) ?_
  unfold b134 m134
  refine q_lp (A:=fun (s:Int×Int×Int)=>[.int .i64 s.1,.int .i64 s.2.1,.int .i64 s.2.2]) (B:=fun s=>[]) 0 rr ?_ ?_ ?_
  ·intro s1
   unfold s134_0 ms134_0
   exact q_len<|q_p fr<|q_i (q_ix rfl fun x1 hx1=>q_p fr<|q_p fr<|q_p fr<|q_i (q_lret 0 rr)<|q_p fr<|q_ix rfl fun x2 hx2=>q_p fr<|q_p fr<|q_p fr<|q_i (q_lret 0 rr)<|q_p fr<|q_ix rfl fun x3 hx3=>q_p fr<|q_p fr<|q_p fr<|q_i (q_lret 0 rr)<|q_p fr<|q_ix rfl fun x4 hx4=>q_p fr<|q_p fr<|q_p fr<|q_i (q_lret 0 rr)<|q_p fr<|q_p fr<|q_norm 0 rr)<|q_exit 0 rr
  ·exact fun i1 s2=>q_n (q_ret (cv_p rfl) rfl)<|q_none
  ·exact fun s2=>q_ret (cv_p rfl) rfl
def ms194_0 (a0:List TCert) (s1:Int×Int×Int):Option (LO (Int×Int×Int)):=bif decide (s1.2.2 < (a0.length:Int)) then (getI a0 s1.2.2).bind fun x1=>bif x1.Slot != s1.1 then some (LO.ret (s1.1,(-1),s1.2.2)) else (getI a0 s1.2.2).bind fun x2=>bif x2.View != (wi .i64 (s1.1 + 1)) then some (LO.ret (wi .i64 (s1.1 + 1),(-1),s1.2.2)) else (getI a0 s1.2.2).bind fun x3=>bif x3.Value != (wi .i64 ((wi .i64 (s1.1 + 1)) + 1)) then some (LO.ret (wi .i64 ((wi .i64 (s1.1 + 1)) + 1),(-1),s1.2.2)) else some (LO.norm (wi .i64 ((wi .i64 ((wi .i64 (s1.1 + 1)) + 1)) + 1),s1.2.1,wi .i64 (s1.2.2 + 1))) else some (LO.exit 0 (s1.1,s1.2.1,s1.2.2))
def m194 (a0:List TCert) (a1:Int):Option (Int):=(loopO (ms194_0 a0) NN (a1,0,0)).bind (contO (fun _=>none) (fun i1 s2=>if i1 = 0 then some s2.1 else none) (fun s2=>some s2.2.1))
theorem w194 {d:Nat} (hd:1≤d) (k0:Bool) (a0:List TCert) (a1:Int):Fit (R NN d 194 [.rsl k0 false (a0.map (Enc.cs k0)),.int .i64 a1] []) (m194 a0 a1) PI:=by
  obtain ⟨d,rfl,g⟩:=up hd
  refine q_in (t194 NN d _ _) ?_
  unfold b194 m194
  refine q_lp (A:=fun (s:Int×Int×Int)=>[.int .i64 s.1,.int .i64 s.2.1,.int .i64 s.2.2]) (B:=fun s=>[]) 0 rr ?_ ?_ ?_
  ·intro s1
   unfold s194_0 ms194_0
   exact q_len<|q_p fr<|q_i (q_ix rfl fun x1 hx1=>q_p fr<|q_p fr<|q_p fr<|q_i (q_lret 0 rr)<|q_p fr<|q_ix rfl fun x2 hx2=>q_p fr<|q_p fr<|q_p fr<|q_i (q_lret 0 rr)<|q_p fr<|q_ix rfl fun x3 hx3=>q_p fr<|q_p fr<|q_p fr<|q_i (q_lret 0 rr)<|q_p fr<|q_p fr<|q_norm 0 rr)<|q_exit 0 rr
  ·exact fun i1 s2=>q_n (q_ret (cv_p rfl) rfl)<|q_none
  ·exact fun s2=>q_ret (cv_p rfl) rfl
def ms135_0 (a0:List TMsg) (s1:Int×Int×Int):Option (LO (Int×Int×Int)):=bif decide (s1.2.2 < (a0.length:Int)) then (getI a0 s1.2.2).bind fun x1=>bif x1.Kind != s1.1 then some (LO.ret (s1.1,(-1),s1.2.2)) else (getI a0 s1.2.2).bind fun x2=>bif x2.View != (wi .i64 (s1.1 + 1)) then some (LO.ret (wi .i64 (s1.1 + 1),(-1),s1.2.2)) else (getI a0 s1.2.2).bind fun x3=>bif x3.From != (wi .i64 ((wi .i64 (s1.1 + 1)) + 1)) then some (LO.ret (wi .i64 ((wi .i64 (s1.1 + 1)) + 1),(-1),s1.2.2)) else (getI a0 s1.2.2).bind fun x4=>bif x4.Slot != (wi .i64 ((wi .i64 ((wi .i64 (s1.1 + 1)) + 1)) + 1)) then some (LO.ret (wi .i64 ((wi .i64 ((wi .i64 (s1.1 + 1)) + 1)) + 1),(-1),s1.2.2)) else (getI a0 s1.2.2).bind fun x5=>bif x5.Value != (wi .i64 ((wi .i64 ((wi .i64 ((wi .i64 (s1.1 + 1)) + 1)) + 1)) + 1)) then some (LO.ret (wi .i64 ((wi .i64 ((wi .i64 ((wi .i64 (s1.1 + 1)) + 1)) + 1)) + 1),(-1),s1.2.2)) else (getI a0 s1.2.2).bind fun x6=>(m194 x6.Certs (wi .i64 ((wi .i64 ((wi .i64 ((wi .i64 ((wi .i64 (s1.1 + 1)) + 1)) + 1)) + 1)) + 1))).bind fun y1=>bif decide (y1 < 0) then some (LO.ret (y1,(-1),s1.2.2)) else (getI a0 s1.2.2).bind fun x7=>(m66 x7.Refs y1).bind fun y2=>bif decide (y2 < 0) then some (LO.ret (y2,(-1),s1.2.2)) else some (LO.norm (y2,s1.2.1,wi .i64 (s1.2.2 + 1))) else some (LO.exit 0 (s1.1,s1.2.1,s1.2.2))
def m135 (a0:List TMsg) (a1:Int):Option (Int):=(loopO (ms135_0 a0) NN (a1,0,0)).bind (contO (fun _=>none) (fun i1 s2=>if i1 = 0 then some s2.1 else none) (fun s2=>some s2.2.1))
theorem w135 {d:Nat} (hd:2≤d) (k0:Bool) (a0:List TMsg) (a1:Int):Fit (R NN d 135 [.rsl k0 false (a0.map (Enc.cs k0)),.int .i64 a1] []) (m135 a0 a1) PI:=by
  obtain ⟨d,rfl,g⟩:=up hd
  refine q_in (t135 NN d _ _) ?_
  unfold b135 m135
  refine q_lp (A:=fun (s:Int×Int×Int)=>[.int .i64 s.1,.int .i64 s.2.1,.int .i64 s.2.2]) (B:=fun s=>[]) 0 rr ?_ ?_ ?_
  ·intro s1
   unfold s135_0 ms135_0
   exact q_len<|q_p fr<|q_i (q_ix rfl fun x1 hx1=>q_p fr<|q_p fr<|q_p fr<|q_i (q_lret 0 rr)<|q_p fr<|q_ix rfl fun x2 hx2=>q_p fr<|q_p fr<|q_p fr<|q_i (q_lret 0 rr)<|q_p fr<|q_ix rfl fun x3 hx3=>q_p fr<|q_p fr<|q_p fr<|q_i (q_lret 0 rr)<|q_p fr<|q_ix rfl fun x4 hx4=>q_p fr<|q_p fr<|q_p fr<|q_i (q_lret 0 rr)<|q_p fr<|q_ix rfl fun x5 hx5=>q_p fr<|q_p fr<|q_p fr<|q_i (q_lret 0 rr)<|q_p fr<|q_ix rfl fun x6 hx6=>q_p fr<|q_p fr<|q_c0 (aF2 cv_r (cv_p rfl) fun l0_ l1_=>w194 (by omega) l0_ x6.Certs (wi .i64 ((wi .i64 ((wi .i64 ((wi .i64 ((wi .i64 (s1.1 + 1)) + 1)) + 1)) + 1)) + 1))) fun y1 hy1=>q_p fr<|q_i (q_lret 0 rr)<|q_ix rfl fun x7 hx7=>q_p fr<|q_p fr<|q_c0 (aF2 cv_r (cv_p rfl) fun l0_ l1_=>w66 (by omega) l0_ x7.Refs y1) fun y2 hy2=>q_p fr<|q_i (q_lret 0 rr)<|q_p fr<|q_norm 0 rr)<|q_exit 0 rr
  ·exact fun i1 s2=>q_n (q_ret (cv_p rfl) rfl)<|q_none
  ·exact fun s2=>q_ret (cv_p rfl) rfl
def ms195_0 (a0:List TOp) (s1:Int×Int×Int):Option (LO (Int×Int×Int)):=bif decide (s1.2.2 < (a0.length:Int)) then (getI a0 s1.2.2).bind fun x1=>bif x1.Kind != s1.1 then some (LO.ret (s1.1,(-1),s1.2.2)) else (getI a0 s1.2.2).bind fun x2=>(m133 (wi .i64 (s1.1 + 1))).bind fun y1=>bif !(x2.Path == y1) then some (LO.ret (wi .i64 (s1.1 + 1),(-1),s1.2.2)) else (getI a0 s1.2.2).bind fun x3=>bif x3.Data != (wi .i64 ((wi .i64 (s1.1 + 1)) + 1)) then some (LO.ret (wi .i64 ((wi .i64 (s1.1 + 1)) + 1),(-1),s1.2.2)) else (getI a0 s1.2.2).bind fun x4=>bif x4.Version != (wi .i64 ((wi .i64 ((wi .i64 (s1.1 + 1)) + 1)) + 1)) then some (LO.ret (wi .i64 ((wi .i64 ((wi .i64 (s1.1 + 1)) + 1)) + 1),(-1),s1.2.2)) else (getI a0 s1.2.2).bind fun x5=>bif x5.Seq != ((Int.tmod (wi .i64 ((wi .i64 ((wi .i64 ((wi .i64 (s1.1 + 1)) + 1)) + 1)) + 1)) 3) == 0) then some (LO.ret (wi .i64 ((wi .i64 ((wi .i64 ((wi .i64 (s1.1 + 1)) + 1)) + 1)) + 1),(-1),s1.2.2)) else (getI a0 s1.2.2).bind fun x6=>bif x6.Own != ((Int.tmod (wi .i64 ((wi .i64 ((wi .i64 ((wi .i64 ((wi .i64 (s1.1 + 1)) + 1)) + 1)) + 1)) + 1)) 3) == 0) then some (LO.ret (wi .i64 ((wi .i64 ((wi .i64 ((wi .i64 ((wi .i64 (s1.1 + 1)) + 1)) + 1)) + 1)) + 1),(-1),s1.2.2)) else some (LO.norm (wi .i64 ((wi .i64 ((wi .i64 ((wi .i64 ((wi .i64 ((wi .i64 (s1.1 + 1)) + 1)) + 1)) + 1)) + 1)) + 1),s1.2.1,wi .i64 (s1.2.2 + 1))) else some (LO.exit 0 (s1.1,s1.2.1,s1.2.2))
def m195 (a0:List TOp) (a1:Int):Option (Int):=(loopO (ms195_0 a0) NN (a1,0,0)).bind (contO (fun _=>none) (fun i1 s2=>if i1 = 0 then some s2.1 else none) (fun s2=>some s2.2.1))
theorem w195 {d:Nat} (hd:2≤d) (k0:Bool) (a0:List TOp) (a1:Int):Fit (R NN d 195 [.rsl k0 false (a0.map (Enc.cs k0)),.int .i64 a1] []) (m195 a0 a1) PI:=by
  obtain ⟨d,rfl,g⟩:=up hd
  refine q_in (t195 NN d _ _) ?_
  unfold b195 m195
  refine q_lp (A:=fun (s:Int×Int×Int)=>[.int .i64 s.1,.int .i64 s.2.1,.int .i64 s.2.2]) (B:=fun s=>[]) 0 rr ?_ ?_ ?_
  ·intro s1
   unfold s195_0 ms195_0
   exact q_len<|q_p fr<|q_i (q_ix rfl fun x1 hx1=>q_p fr<|q_p fr<|q_p fr<|q_i (q_lret 0 rr)<|q_p fr<|q_ix rfl fun x2 hx2=>q_p fr<|q_p fr<|q_c0 (aF1 (cv_p rfl) fun l0_=>w133 (by omega) (wi .i64 (s1.1 + 1))) fun y1 hy1=>q_p (fun _=>seq_neq2)<|q_i (q_lret 0 rr)<|q_p fr<|q_ix rfl fun x3 hx3=>q_p fr<|q_p fr<|q_p fr<|q_i (q_lret 0 rr)<|q_p fr<|q_ix rfl fun x4 hx4=>q_p fr<|q_p fr<|q_p fr<|q_i (q_lret 0 rr)<|q_p fr<|q_ix rfl fun x5 hx5=>q_p fr<|q_p fr<|q_p fr<|q_p fr<|q_p (fun _=>bneq42 _ _)<|q_i (q_lret 0 rr)<|q_p fr<|q_ix rfl fun x6 hx6=>q_p fr<|q_p fr<|q_p fr<|q_p fr<|q_p (fun _=>bneq42 _ _)<|q_i (q_lret 0 rr)<|q_p fr<|q_p fr<|q_norm 0 rr)<|q_exit 0 rr
  ·exact fun i1 s2=>q_n (q_ret (cv_p rfl) rfl)<|q_none
  ·exact fun s2=>q_ret (cv_p rfl) rfl
def ms136_0 (a0:List TRequest) (s1:Int×Int×Int):Option (LO (Int×Int×Int)):=bif decide (s1.2.2 < (a0.length:Int)) then (getI a0 s1.2.2).bind fun x1=>bif x1.Client != s1.1 then some (LO.ret (s1.1,(-1),s1.2.2)) else (getI a0 s1.2.2).bind fun x2=>bif x2.Number != (wi .i64 (s1.1 + 1)) then some (LO.ret (wi .i64 (s1.1 + 1),(-1),s1.2.2)) else (getI a0 s1.2.2).bind fun x3=>bif x3.Time != (wi .i64 ((wi .i64 (s1.1 + 1)) + 1)) then some (LO.ret (wi .i64 ((wi .i64 (s1.1 + 1)) + 1),(-1),s1.2.2)) else (getI a0 s1.2.2).bind fun x4=>(m195 x4.Ops (wi .i64 ((wi .i64 ((wi .i64 (s1.1 + 1)) + 1)) + 1))).bind fun y1=>bif decide (y1 < 0) then some (LO.ret (y1,(-1),s1.2.2)) else some (LO.norm (y1,s1.2.1,wi .i64 (s1.2.2 + 1))) else some (LO.exit 0 (s1.1,s1.2.1,s1.2.2))
def m136 (a0:List TRequest) (a1:Int):Option (Int):=(loopO (ms136_0 a0) NN (a1,0,0)).bind (contO (fun _=>none) (fun i1 s2=>if i1 = 0 then some s2.1 else none) (fun s2=>some s2.2.1))
theorem w136 {d:Nat} (hd:3≤d) (k0:Bool) (a0:List TRequest) (a1:Int):Fit (R NN d 136 [.rsl k0 false (a0.map (Enc.cs k0)),.int .i64 a1] []) (m136 a0 a1) PI:=by
  obtain ⟨d,rfl,g⟩:=up hd
  refine q_in (t136 NN d _ _) ?_
  unfold b136 m136
  refine q_lp (A:=fun (s:Int×Int×Int)=>[.int .i64 s.1,.int .i64 s.2.1,.int .i64 s.2.2]) (B:=fun s=>[]) 0 rr ?_ ?_ ?_
  ·intro s1
   unfold s136_0 ms136_0
   exact q_len<|q_p fr<|q_i (q_ix rfl fun x1 hx1=>q_p fr<|q_p fr<|q_p fr<|q_i (q_lret 0 rr)<|q_p fr<|q_ix rfl fun x2 hx2=>q_p fr<|q_p fr<|q_p fr<|q_i (q_lret 0 rr)<|q_p fr<|q_ix rfl fun x3 hx3=>q_p fr<|q_p fr<|q_p fr<|q_i (q_lret 0 rr)<|q_p fr<|q_ix rfl fun x4 hx4=>q_p fr<|q_p fr<|q_c0 (aF2 cv_r (cv_p rfl) fun l0_ l1_=>w195 (by omega) l0_ x4.Ops (wi .i64 ((wi .i64 ((wi .i64 (s1.1 + 1)) + 1)) + 1))) fun y1 hy1=>q_p fr<|q_i (q_lret 0 rr)<|q_p fr<|q_norm 0 rr)<|q_exit 0 rr
  ·exact fun i1 s2=>q_n (q_ret (cv_p rfl) rfl)<|q_none
  ·exact fun s2=>q_ret (cv_p rfl) rfl
def m85 (a0:TCluster) (a1:Int):Option (Int):=(m66 a0.Bad a1).bind fun y1=>bif decide (y1 < 0) then some (-1) else (m134 a0.Replicas y1).bind fun y2=>bif decide (y2 < 0) then some (-1) else (m135 a0.Ledger y2).bind fun y3=>bif decide (y3 < 0) then some (-1) else (m136 a0.Requests y3).bind fun y4=>bif decide (y4 < 0) then some (-1) else some y4
theorem w85 {d:Nat} (hd:4≤d) (k0:Bool) (a0:TCluster) (a1:Int):Fit (R NN d 85 [.agg (Enc.cs k0 a0),.int .i64 a1] []) (m85 a0 a1) PI:=by
  obtain ⟨d,rfl,g⟩:=up hd
  refine q_in (t85 NN d _ _) ?_
  unfold b85 m85
  exact q_box (n:=5) rfl rfl (by decide) fun b1=>q_p fr<|q_ld 0 rfl rfl<|q_c0 (aF2 cv_r (cv_p rfl) fun l0_ l1_=>w66 (by omega) l0_ a0.Bad a1) fun y1 hy1=>q_p fr<|q_i (q_ret (cv_p rfl) rfl)<|q_p fr<|q_ld 0 rfl rfl<|q_c0 (aF2 cv_r (cv_p rfl) fun l0_ l1_=>w134 (by omega) l0_ a0.Replicas y1) fun y2 hy2=>q_p fr<|q_i (q_ret (cv_p rfl) rfl)<|q_p fr<|q_ld 0 rfl rfl<|q_c0 (aF2 cv_r (cv_p rfl) fun l0_ l1_=>w135 (by omega) l0_ a0.Ledger y2) fun y3 hy3=>q_p fr<|q_i (q_ret (cv_p rfl) rfl)<|q_p fr<|q_ld 0 rfl rfl<|q_c0 (aF2 cv_r (cv_p rfl) fun l0_ l1_=>w136 (by omega) l0_ a0.Requests y3) fun y4 hy4=>q_p fr<|q_i (q_ret (cv_p rfl) rfl)<|q_ret (cv_p rfl) rfl
def m30 (a0:TClusterResult) (a1:Int):Option (Int):=(m85 a0.Cluster a1).bind fun y1=>bif decide (y1 < 0) then some (-1) else some y1
theorem w30 {d:Nat} (hd:5≤d) (k0:Bool) (a0:TClusterResult) (a1:Int):Fit (R NN d 30 [.agg (Enc.cs k0 a0),.int .i64 a1] []) (m30 a0 a1) PI:=by
  obtain ⟨d,rfl,g⟩:=up hd
  refine q_in (t30 NN d _ _) ?_
  unfold b30 m30
  exact q_box (n:=6) rfl rfl (by decide) fun b1=>q_p fr<|q_lda 0 rfl rfl rfl<|q_c0 (aF2 (cv_a (cvs_e (l0:=k0) (x:=a0.Cluster))) (cv_p rfl) fun l0_ l1_=>w85 (by omega) l0_ a0.Cluster a1) fun y1 hy1=>q_p fr<|q_i (q_ret (cv_p rfl) rfl)<|q_ret (cv_p rfl) rfl
def m126 (a0:Int) (a1:Int) (a2:Int):Bool:=bif decide (a0 ≥ a1) then decide (a0≤a2) else false
theorem w126 {d:Nat} (hd:1≤d) (a0:Int) (a1:Int) (a2:Int):Fit (R NN d 126 [.int .i64 a0,.int .i64 a1,.int .i64 a2] []) (some (m126 a0 a1 a2)) PB:=by
  obtain ⟨d,rfl,g⟩:=up hd
  refine q_in (t126 NN d _ _ _) ?_
  unfold b126 m126
  exact q_p fr<|q_gTt (fun h1=>q_p fr<|q_ret (cv_p rfl) rfl) fun h1=>q_ret (cv_p rfl) rfl
def m125 (a0:Int):Bool:=(m126 a0 1 9)
theorem w125 {d:Nat} (hd:2≤d) (a0:Int):Fit (R NN d 125 [.int .i64 a0] []) (some (m125 a0)) PB:=by
  obtain ⟨d,rfl,g⟩:=up hd
  refine q_in (t125 NN d _) ?_
  unfold b125 m125
  exact q_c0t (aF3 (cv_p rfl) (cv_p rfl) (cv_p rfl) fun l0_ l1_ l2_=>w126 (by omega) a0 1 9)<|q_ret (cv_p rfl) rfl
def m127 (a0:Int):Bool:=(m126 a0 0 9000)
theorem w127 {d:Nat} (hd:2≤d) (a0:Int):Fit (R NN d 127 [.int .i64 a0] []) (some (m127 a0)) PB:=by
  obtain ⟨d,rfl,g⟩:=up hd
  refine q_in (t127 NN d _) ?_
  unfold b127 m127
  exact q_c0t (aF3 (cv_p rfl) (cv_p rfl) (cv_p rfl) fun l0_ l1_ l2_=>w126 (by omega) a0 0 9000)<|q_ret (cv_p rfl) rfl
def m185 (a0:Int):Bool:=(m126 a0 3 8)
theorem w185 {d:Nat} (hd:2≤d) (a0:Int):Fit (R NN d 185 [.int .i64 a0] []) (some (m185 a0)) PB:=by
  obtain ⟨d,rfl,g⟩:=up hd
  refine q_in (t185 NN d _) ?_
  unfold b185 m185
  exact q_c0t (aF3 (cv_p rfl) (cv_p rfl) (cv_p rfl) fun l0_ l1_ l2_=>w126 (by omega) a0 3 8)<|q_ret (cv_p rfl) rfl
def m186 (a0:Int):Bool:=bif a0 == 3 then true else a0 == 5
theorem w186 {d:Nat} (hd:1≤d) (a0:Int):Fit (R NN d 186 [.int .i64 a0] []) (some (m186 a0)) PB:=by
  obtain ⟨d,rfl,g⟩:=up hd
  refine q_in (t186 NN d _) ?_
  unfold b186 m186
  exact q_p fr<|q_gFt (fun h1=>q_ret (cv_p rfl) rfl) fun h1=>q_p fr<|q_ret (cv_p rfl) rfl
def m187 (a0:Int):Option (Bool):=( bif a0 == 4 then some (LO.norm true) else bif a0 == 5 then some (LO.norm true) else some (LO.norm (a0 == 8))).bind (contO (fun s2=>some s2) (fun i1 s2=>none) (fun s2=>some s2))
theorem w187 {d:Nat} (hd:1≤d) (a0:Int):Fit (R NN d 187 [.int .i64 a0] []) (m187 a0) PB:=by
  obtain ⟨d,rfl,g⟩:=up hd
  refine q_in (t187 NN d _) ?_
  unfold b187 m187
  refine q_cu (A:=fun (s:Bool)=>[.bool s]) (B:=fun s=>[]) ?_ ?_ ?_ ?_
  ·exact q_p fr<|q_j (q_norm 0 rr)<|q_p fr<|q_j (q_norm 0 rr)<|q_p fr<|q_norm 0 rr
  ·exact fun s2=>q_ret (cv_p rfl) rfl
  ·exact fun i1 s2=>q_none
  ·exact fun s2=>q_ret (cv_p rfl) rfl
def ms226_0 (a0:Str) (a1:Int) (s1:Int×Int×(List Str)):Option (LO (Int×Int×(List Str))):=bif decide (s1.2.1≤(a0.length:Int)) then ( bif s1.2.1 == (a0.length:Int) then (subI a0 s1.1 s1.2.1).bind fun t2=>(appO 16 s1.2.2 [t2]).bind fun z2=>some (LO.norm (wi .i64 (s1.2.1 + 1),z2)) else (getI a0 s1.2.1).bind fun c1=>bif (c1.toNat:Int) == a1 then (subI a0 s1.1 s1.2.1).bind fun t1=>(appO 16 s1.2.2 [t1]).bind fun z1=>some (LO.norm (wi .i64 (s1.2.1 + 1),z1)) else some (LO.norm (s1.1,s1.2.2))).bind (contO (fun s3=>some (LO.norm (s3.1,wi .i64 (s1.2.1 + 1),s3.2))) (fun i1 s3=>some (LO.exit i1 (s3.1,s1.2.1,s3.2))) (fun s3=>some (LO.ret (s3.1,s1.2.1,s3.2)))) else some (LO.exit 0 (s1.1,s1.2.1,s1.2.2))
def m226 (a0:Str) (a1:Int):Option ((List Str)):=(loopO (ms226_0 a0 a1) NN (0,0,[])).bind (contO (fun _=>none) (fun i2 s4=>if i2 = 0 then some s4.2.2 else none) (fun s4=>some []))
theorem w226 {d:Nat} (hd:1≤d) (a0:Str) (a1:Int):Fit (R NN d 226 [encS a0,.int .u8 a1] []) (m226 a0 a1) (P0 (fun (t:List Str)=>AV.rsl false false (t.map (Enc.cs false)))):=by
  obtain ⟨d,rfl,g⟩:=up hd
  refine q_in (t226 NN d _ _) ?_
  unfold b226 m226
  refine q_q (fun _=>qs221_0)<|q_nil (α:=Str) false<|q_loop (I:=(fun (s:Int×Int×(List Str)) l L=>∃ (v1:AV),l = [v1,.int .i64 s.1,.int .i64 s.2.1]∧L = [sl false v1 (s.2.2:List Str)])) 0 ⟨(.rsl false true []),rfl,rfl⟩ ?_ ?_ ?_
  ·rintro s1 _ _ ⟨v1,rfl,rfl⟩
   unfold s226_0 ms226_0
   refine q_slen<|q_p fr<|q_i ?_ ?_
   ·refine q_cut (I:=(fun (s:Int×(List Str)) l L=>∃ (v2:AV),l = [v2,.int .i64 s.1]∧L = [sl false v2 (s.2:List Str)])) ?_ ?_ ?_ ?_
    ·refine q_slen<|q_p fr<|q_j ?_ ?_
     ·first | refine q_ifT1 ?_ | skip
      exact q_ssub (.inl rfl) (.inl rfl) fun t2 ht2=>q_q (fun _=>qs221_1)<|q_app (ys:=[t2]) 0 rfl rfl (fun _ _=>rfl) fun v3 z2 hz2=>q_p fr<|q_norm 0 ⟨v3,rfl,rfl⟩
     ·exact q_sx fun c1 hc1=>q_p fr<|q_i (q_ssub (.inl rfl) (.inl rfl) fun t1 ht1=>q_q (fun _=>qs221_1)<|q_app (ys:=[t1]) 0 rfl rfl (fun _ _=>rfl) fun v2 z1 hz1=>q_p fr<|q_norm 0 ⟨v2,rfl,rfl⟩)<|q_norm 0 ⟨v1,rfl,rfl⟩
    ·rintro s3 _ _ ⟨v4,rfl,rfl⟩
     exact q_p fr<|q_norm 0 ⟨v4,rfl,rfl⟩
    ·rintro i1 s3 _ _ ⟨v5,rfl,rfl⟩
     exact q_exit 0 ⟨v5,rfl,rfl⟩
    ·rintro s3 _ _ ⟨v6,rfl,rfl⟩
     exact q_lret 0 ⟨v6,rfl,rfl⟩
   ·exact q_exit 0 ⟨v1,rfl,rfl⟩
  ·rintro i2 s4 _ _ ⟨v7,rfl,rfl⟩
   exact q_n (q_ret (cv_o 0 rfl) rfl)<|q_none
  ·rintro s4 _ _ ⟨v8,rfl,rfl⟩
   exact q_ret (cv_r (α:=Str) (l0:=false) (fl:=true) (xs:=[])) rfl
def ms253_0 (a0:Str) (s1:Bool×Int):Option (LO (Bool×Int)):=bif decide (s1.2 < (a0.length:Int)) then ( ( (getI a0 s1.2).bind fun c1=>bif decide ((c1.toNat:Int) < 97) then (getI a0 s1.2).bind fun c5=>bif decide ((c5.toNat:Int) < 48) then some (LO.norm true) else (getI a0 s1.2).bind fun c6=>some (LO.norm (decide ((c6.toNat:Int) > 57))) else (getI a0 s1.2).bind fun c2=>bif decide ((c2.toNat:Int) > 122) then (getI a0 s1.2).bind fun c3=>bif decide ((c3.toNat:Int) < 48) then some (LO.norm true) else (getI a0 s1.2).bind fun c4=>some (LO.norm (decide ((c4.toNat:Int) > 57))) else some (LO.norm false)).bind (contO (fun s4=>bif s4 then some (LO.ret false) else some (LO.norm s1.1)) (fun i1 s4=>if i1 = 1 then some (LO.norm s1.1) else some (LO.exit i1 s1.1)) (fun s4=>some (LO.ret s1.1)))).bind (contO (fun s5=>some (LO.norm (s5,wi .i64 (s1.2 + 1)))) (fun i2 s5=>some (LO.exit i2 (s5,s1.2))) (fun s5=>some (LO.ret (s5,s1.2)))) else some (LO.exit 0 (s1.1,s1.2))
def m253 (a0:Str):Option (Bool):=(loopO (ms253_0 a0) NN (false,0)).bind (contO (fun _=>none) (fun i3 s6=>if i3 = 0 then some (m126 (a0.length:Int) 1 8) else none) (fun s6=>some s6.1))
theorem w253 {d:Nat} (hd:2≤d) (a0:Str):Fit (R NN d 253 [encS a0] []) (m253 a0) PB:=by
  obtain ⟨d,rfl,g⟩:=up hd
  refine q_in (t253 NN d _) ?_
  unfold b253 m253
  refine q_lp (A:=fun (s:Bool×Int)=>[.bool s.1,.int .i64 s.2]) (B:=fun s=>[]) 0 rr ?_ ?_ ?_
  ·intro s1
   unfold s253_0 ms253_0
   refine q_slen<|q_p fr<|q_i ?_ ?_
   ·refine q_cu (A:=fun (s:Bool)=>[.bool s]) (B:=fun s=>[]) ?_ ?_ ?_ ?_
    ·refine q_cu (A:=fun (s:Bool)=>[.bool s]) (B:=fun s=>[]) ?_ ?_ ?_ ?_
     ·exact q_sx fun c1 hc1=>q_p fr<|q_j (q_sx fun c5 hc5=>q_p fr<|q_j (q_norm 0 rr)<|q_sx fun c6 hc6=>q_p fr<|q_norm 0 rr)<|q_sx fun c2 hc2=>q_p fr<|q_k (q_sx fun c3 hc3=>q_p fr<|q_j (q_norm 0 rr)<|q_sx fun c4 hc4=>q_p fr<|q_norm 0 rr)<|q_norm 0 rr
     ·exact fun s4=>q_i (q_lret 0 rr)<|q_norm 0 rr
     ·exact fun i1 s4=>q_n (q_norm 0 rr)<|q_exit 0 rr
     ·exact fun s4=>q_lret 0 rr
    ·exact fun s5=>q_p fr<|q_norm 0 rr
    ·exact fun i2 s5=>q_exit 0 rr
    ·exact fun s5=>q_lret 0 rr
   ·exact q_exit 0 rr
  ·exact fun i3 s6=>q_n (q_slen<|q_c0t (aF3 (cv_p rfl) (cv_p rfl) (cv_p rfl) fun l0_ l1_ l2_=>w126 (by omega) (a0.length:Int) 1 8)<|q_ret (cv_p rfl) rfl)<|q_none
  ·exact fun s6=>q_ret (cv_p rfl) rfl
def ms227_0 (y1:(List Str)) (s3:(List Str)×Bool×Int):Option (LO ((List Str)×Bool×Int)):=bif decide (s3.2.2 < (y1.length:Int)) then (getI y1 s3.2.2).bind fun x2=>(m253 x2).bind fun y2=>bif !y2 then some (LO.ret ([],false,s3.2.2)) else some (LO.norm (s3.1,s3.2.1,wi .i64 (s3.2.2 + 1))) else some (LO.exit 0 (s3.1,s3.2.1,s3.2.2))
def m227 (a0:Str):Option ((List Str)×Bool):=bif a0 == ([47]:Str) then some ([],true) else (m226 a0 47).bind fun y1=>( bif decide ((y1.length:Int) < 2) then some (LO.ret ([],false)) else (getI y1 0).bind fun x1=>bif !(x1 == ([]:Str)) then some (LO.ret ([],false)) else some (LO.norm ([],false))).bind (contO (fun s2=>(loopO (ms227_0 y1) NN (s2.1,s2.2,1)).bind (contO (fun _=>none) (fun i2 s4=>if i2 = 0 then (subI y1 1 (y1.length:Int)).bind fun ys1=>some (ys1,true) else none) (fun s4=>some (s4.1,s4.2.1)))) (fun i1 s2=>none) (fun s2=>some (s2.1,s2.2)))
theorem w227 {d:Nat} (hd:3≤d) (a0:Str):Fit (R NN d 227 [encS a0] []) (m227 a0) (P0 (fun (t:(List Str)×Bool)=>AV.tup [.rsl false false (t.1.map (Enc.cs false)),.bool t.2])):=by
  obtain ⟨d,rfl,g⟩:=up hd
  refine q_in (t227 NN d _) ?_
  unfold b227 m227
  refine q_p (fun _=>seq_eql)<|q_i ?_ ?_
  ·exact q_q (fun _=>qs221_0)<|q_ret (cv_t (cvs_cons (cv_r (α:=Str) (l0:=false) (fl:=true) (xs:=[])) (cvs_cons (cv_p rfl) cvs_nil))) rfl
  ·refine q_c0 (aF2 (cv_p rfl) (cv_p rfl) fun l0_ l1_=>w226 (by omega) a0 47) fun y1 hy1=>q_cut (I:=(fun (s:(List Str)×Bool) l L=>∃ (fl1:Bool),l = [.rsl false fl1 (s.1.map (Enc.cs false)),.bool s.2]∧L = [])) ?_ ?_ ?_ ?_
   ·refine q_len<|q_p fr<|q_j ?_ ?_
    ·first | refine q_ifT1 ?_ | skip
     exact q_lret 0 ⟨true,rfl,rfl⟩
    ·exact q_ix rfl fun x1 hx1=>q_p fr<|q_p (fun _=>seq_neq)<|q_i (q_lret 0 ⟨true,rfl,rfl⟩)<|q_norm 0 ⟨true,rfl,rfl⟩
   ·rintro s2 _ _ ⟨fl1,rfl,rfl⟩
    refine q_loop (I:=(fun (s:(List Str)×Bool×Int) l L=>∃ (fl2:Bool),l = [.rsl false fl2 (s.1.map (Enc.cs false)),.bool s.2.1,.int .i64 s.2.2]∧L = [])) 0 ⟨fl1,rfl,rfl⟩ ?_ ?_ ?_
    ·rintro s3 _ _ ⟨fl2,rfl,rfl⟩
     unfold s227_0 ms227_0
     exact q_len<|q_p fr<|q_i (q_ix rfl fun x2 hx2=>q_p fr<|q_c0 (aF1 (cv_p rfl) fun l0_=>w253 (by omega) x2) fun y2 hy2=>q_p fr<|q_i (q_lret 0 ⟨true,rfl,rfl⟩)<|q_p fr<|q_norm 0 ⟨fl2,rfl,rfl⟩)<|q_exit 0 ⟨fl2,rfl,rfl⟩
    ·rintro i2 s4 _ _ ⟨fl3,rfl,rfl⟩
     exact q_n (q_sub rfl (.inl rfl) (.inr ⟨rfl,rfl⟩) fun fl4 ys1 hys1=>q_ret (cv_t (cvs_cons cv_r (cvs_cons (cv_p rfl) cvs_nil))) rfl)<|q_none
    ·rintro s4 _ _ ⟨fl5,rfl,rfl⟩
     exact q_ret (cv_t (cvs_cons cv_r (cvs_cons (cv_p rfl) cvs_nil))) rfl
   ·rintro i1 s2 _ _ ⟨fl6,rfl,rfl⟩
    exact q_none
   ·rintro s2 _ _ ⟨fl7,rfl,rfl⟩
    exact q_ret (cv_t (cvs_cons cv_r (cvs_cons (cv_p rfl) cvs_nil))) rfl
def m188 (a0:Str):Option (Int):=( ( bif decide ((a0.length:Int) > 24) then some (LO.norm true) else bif !(a0 == ([47]:Str)) then (m226 a0 47).bind fun y1=>some (LO.norm (decide ((y1.length:Int) > 5))) else some (LO.norm false)).bind (contO (fun s3=>bif s3 then some (LO.ret 2) else some (LO.norm 0)) (fun i1 s3=>some (LO.exit i1 0)) (fun s3=>some (LO.ret 0)))).bind (contO (fun s4=>(m227 a0).bind fun y2=>bif !y2.2 then some 5 else some 0) (fun i2 s4=>none) (fun s4=>some s4))
theorem w188 {d:Nat} (hd:4≤d) (a0:Str):Fit (R NN d 188 [encS a0] []) (m188 a0) PI:=by
  obtain ⟨d,rfl,g⟩:=up hd
  refine q_in (t188 NN d _) ?_
  unfold b188 m188
  refine q_cu (A:=fun (s:Int)=>[.int .i64 s]) (B:=fun s=>[]) ?_ ?_ ?_ ?_
  ·refine q_cu (A:=fun (s:Bool)=>[.bool s]) (B:=fun s=>[]) ?_ ?_ ?_ ?_
   ·exact q_slen<|q_p fr<|q_j (q_norm 0 rr)<|q_p (fun _=>seq_neq)<|q_k (q_c0 (aF2 (cv_p rfl) (cv_p rfl) fun l0_ l1_=>w226 (by omega) a0 47) fun y1 hy1=>q_len<|q_p fr<|q_norm 0 rr)<|q_norm 0 rr
   ·exact fun s3=>q_i (q_lret 0 rr)<|q_norm 0 rr
   ·exact fun i1 s3=>q_exit 0 rr
   ·exact fun s3=>q_lret 0 rr
  ·exact fun s4=>q_c0 (aF1 (cv_p rfl) fun l0_=>w227 (by omega) a0) fun y2 hy2=>q_q fr<|q_q fr<|q_p fr<|q_i (q_ret (cv_p rfl) rfl)<|q_ret (cv_p rfl) rfl
  ·exact fun i2 s4=>q_none
  ·exact fun s4=>q_ret (cv_p rfl) rfl
def m189 (a0:Int):Bool:=(m126 a0 0 9999)
theorem w189 {d:Nat} (hd:2≤d) (a0:Int):Fit (R NN d 189 [.int .i64 a0] []) (some (m189 a0)) PB:=by
  obtain ⟨d,rfl,g⟩:=up hd
  refine q_in (t189 NN d _) ?_
  unfold b189 m189
  exact q_c0t (aF3 (cv_p rfl) (cv_p rfl) (cv_p rfl) fun l0_ l1_ l2_=>w126 (by omega) a0 0 9999)<|q_ret (cv_p rfl) rfl
def m128 (a0:TOp):Option (Int):=bif !(m126 a0.Kind 1 8) then some 1 else ( ( bif !(m185 a0.Kind) then bif !(a0.Path == ([]:Str)) then some (LO.norm true) else bif !(m186 a0.Kind) then bif a0.Data != 0 then some (LO.norm true) else (m187 a0.Kind).bind fun y1=>bif !y1 then bif a0.Version != 0 then some (LO.norm true) else bif a0.Kind != 3 then bif a0.Seq then some (LO.norm true) else some (LO.norm a0.Own) else some (LO.norm false) else bif a0.Kind != 3 then bif a0.Seq then some (LO.norm true) else some (LO.norm a0.Own) else some (LO.norm false) else (m187 a0.Kind).bind fun y2=>bif !y2 then bif a0.Version != 0 then some (LO.norm true) else bif a0.Kind != 3 then bif a0.Seq then some (LO.norm true) else some (LO.norm a0.Own) else some (LO.norm false) else bif a0.Kind != 3 then bif a0.Seq then some (LO.norm true) else some (LO.norm a0.Own) else some (LO.norm false) else bif !(m186 a0.Kind) then bif a0.Data != 0 then some (LO.norm true) else (m187 a0.Kind).bind fun y3=>bif !y3 then bif a0.Version != 0 then some (LO.norm true) else bif a0.Kind != 3 then bif a0.Seq then some (LO.norm true) else some (LO.norm a0.Own) else some (LO.norm false) else bif a0.Kind != 3 then bif a0.Seq then some (LO.norm true) else some (LO.norm a0.Own) else some (LO.norm false) else (m187 a0.Kind).bind fun y4=>bif !y4 then bif a0.Version != 0 then some (LO.norm true) else bif a0.Kind != 3 then bif a0.Seq then some (LO.norm true) else some (LO.norm a0.Own) else some (LO.norm false) else bif a0.Kind != 3 then bif a0.Seq then some (LO.norm true) else some (LO.norm a0.Own) else some (LO.norm false)).bind (contO (fun s3=>bif s3 then some (LO.ret 1) else some (LO.norm 0)) (fun i1 s3=>some (LO.exit i1 0)) (fun s3=>some (LO.ret 0)))).bind (contO (fun s4=>( bif (m185 a0.Kind) then (m188 a0.Path).bind fun y5=>bif y5 != 0 then some (LO.ret y5) else some (LO.norm s4) else some (LO.norm s4)).bind (contO (fun s6=>( bif !(m189 a0.Data) then some (LO.ret 3) else bif !(m126 a0.Version (-1) 999) then some (LO.ret 3) else some (LO.norm s6)).bind (contO (fun s8=>some 0) (fun i4 s8=>none) (fun s8=>some s8))) (fun i3 s6=>none) (fun s6=>some s6))) (fun i2 s4=>none) (fun s4=>some s4))
theorem w128 {d:Nat} (hd:5≤d) (k0:Bool) (a0:TOp):Fit (R NN d 128 [.rp k0 (Enc.cs k0 a0)] []) (m128 a0) PI:=by
  obtain ⟨d,rfl,g⟩:=up hd
  refine q_in (t128 NN d _) ?_
  unfold b128 m128
  refine q_q fr<|q_p fr<|q_p fr<|q_c0t (aF3 (cv_p rfl) (cv_p rfl) (cv_p rfl) fun l0_ l1_ l2_=>w126 (by omega) a0.Kind 1 8)<|q_p fr<|q_i ?_ ?_
  ·exact q_ret (cv_p rfl) rfl
  ·refine q_cu (A:=fun (s:Int)=>[.int .i64 s]) (B:=fun s=>[]) ?_ ?_ ?_ ?_
   ·refine q_cu (A:=fun (s:Bool)=>[.bool s]) (B:=fun s=>[]) ?_ ?_ ?_ ?_
    ·exact q_q fr<|q_p fr<|q_p fr<|q_c0t (aF1 (cv_p rfl) fun l0_=>w185 (by omega) a0.Kind)<|q_p fr<|q_k (q_q fr<|q_p fr<|q_p fr<|q_p (fun _=>seq_neq)<|q_j (q_norm 0 rr)<|q_q fr<|q_p fr<|q_p fr<|q_c0t (aF1 (cv_p rfl) fun l0_=>w186 (by omega) a0.Kind)<|q_p fr<|q_k (q_q fr<|q_p fr<|q_p fr<|q_p fr<|q_j (q_norm 0 rr)<|q_q fr<|q_p fr<|q_p fr<|q_c0 (aF1 (cv_p rfl) fun l0_=>w187 (by omega) a0.Kind) fun y1 hy1=>q_p fr<|q_k (q_q fr<|q_p fr<|q_p fr<|q_p fr<|q_j (q_norm 0 rr)<|q_q fr<|q_p fr<|q_p fr<|q_p fr<|q_k (q_q fr<|q_p fr<|q_p fr<|q_j (q_norm 0 rr)<|q_q fr<|q_p fr<|q_p fr<|q_norm 0 rr)<|q_norm 0 rr)<|q_q fr<|q_p fr<|q_p fr<|q_p fr<|q_k (q_q fr<|q_p fr<|q_p fr<|q_j (q_norm 0 rr)<|q_q fr<|q_p fr<|q_p fr<|q_norm 0 rr)<|q_norm 0 rr)<|q_q fr<|q_p fr<|q_p fr<|q_c0 (aF1 (cv_p rfl) fun l0_=>w187 (by omega) a0.Kind) fun y2 hy2=>q_p fr<|q_k (q_q fr<|q_p fr<|q_p fr<|q_p fr<|q_j (q_norm 0 rr)<|q_q fr<|q_p fr<|q_p fr<|q_p fr<|q_k (q_q fr<|q_p fr<|q_p fr<|q_j (q_norm 0 rr)<|q_q fr<|q_p fr<|q_p fr<|q_norm 0 rr)<|q_norm 0 rr)<|q_q fr<|q_p fr<|q_p fr<|q_p fr<|q_k (q_q fr<|q_p fr<|q_p fr<|q_j (q_norm 0 rr)<|q_q fr<|q_p fr<|q_p fr<|q_norm 0 rr)<|q_norm 0 rr)<|q_q fr<|q_p fr<|q_p fr<|q_c0t (aF1 (cv_p rfl) fun l0_=>w186 (by omega) a0.Kind)<|q_p fr<|q_k (q_q fr<|q_p fr<|q_p fr<|q_p fr<|q_j (q_norm 0 rr)<|q_q fr<|q_p fr<|q_p fr<|q_c0 (aF1 (cv_p rfl) fun l0_=>w187 (by omega) a0.Kind) fun y3 hy3=>q_p fr<|q_k (q_q fr<|q_p fr<|q_p fr<|q_p fr<|q_j (q_norm 0 rr)<|q_q fr<|q_p fr<|q_p fr<|q_p fr<|q_k (q_q fr<|q_p fr<|q_p fr<|q_j (q_norm 0 rr)<|q_q fr<|q_p fr<|q_p fr<|q_norm 0 rr)<|q_norm 0 rr)<|q_q fr<|q_p fr<|q_p fr<|q_p fr<|q_k (q_q fr<|q_p fr<|q_p fr<|q_j (q_norm 0 rr)<|q_q fr<|q_p fr<|q_p fr<|q_norm 0 rr)<|q_norm 0 rr)<|q_q fr<|q_p fr<|q_p fr<|q_c0 (aF1 (cv_p rfl) fun l0_=>w187 (by omega) a0.Kind) fun y4 hy4=>q_p fr<|q_k (q_q fr<|q_p fr<|q_p fr<|q_p fr<|q_j (q_norm 0 rr)<|q_q fr<|q_p fr<|q_p fr<|q_p fr<|q_k (q_q fr<|q_p fr<|q_p fr<|q_j (q_norm 0 rr)<|q_q fr<|q_p fr<|q_p fr<|q_norm 0 rr)<|q_norm 0 rr)<|q_q fr<|q_p fr<|q_p fr<|q_p fr<|q_k (q_q fr<|q_p fr<|q_p fr<|q_j (q_norm 0 rr)<|q_q fr<|q_p fr<|q_p fr<|q_norm 0 rr)<|q_norm 0 rr
    ·exact fun s3=>q_i (q_lret 0 rr)<|q_norm 0 rr
    ·exact fun i1 s3=>q_exit 0 rr
    ·exact fun s3=>q_lret 0 rr
   ·intro s4
    refine q_cu (A:=fun (s:Int)=>[.int .i64 s]) (B:=fun s=>[]) ?_ ?_ ?_ ?_
    ·exact q_q fr<|q_p fr<|q_p fr<|q_c0t (aF1 (cv_p rfl) fun l0_=>w185 (by omega) a0.Kind)<|q_i (q_q fr<|q_p fr<|q_p fr<|q_c0 (aF1 (cv_p rfl) fun l0_=>w188 (by omega) a0.Path) fun y5 hy5=>q_p fr<|q_i (q_lret 0 rr)<|q_norm 0 rr)<|q_norm 0 rr
    ·intro s6
     refine q_cu (A:=fun (s:Int)=>[.int .i64 s]) (B:=fun s=>[]) ?_ ?_ ?_ ?_
     ·refine q_q fr<|q_p fr<|q_p fr<|q_c0t (aF1 (cv_p rfl) fun l0_=>w189 (by omega) a0.Data)<|q_p fr<|q_j ?_ ?_
      ·first | refine q_ifT1 ?_ | skip
       exact q_lret 0 rr
      ·exact q_q fr<|q_p fr<|q_p fr<|q_c0t (aF3 (cv_p rfl) (cv_p rfl) (cv_p rfl) fun l0_ l1_ l2_=>w126 (by omega) a0.Version (-1) 999)<|q_p fr<|q_i (q_lret 0 rr)<|q_norm 0 rr
     ·exact fun s8=>q_ret (cv_p rfl) rfl
     ·exact fun i4 s8=>q_none
     ·exact fun s8=>q_ret (cv_p rfl) rfl
    ·exact fun i3 s6=>q_none
    ·exact fun s6=>q_ret (cv_p rfl) rfl
   ·exact fun i2 s4=>q_none
   ·exact fun s4=>q_ret (cv_p rfl) rfl
def ms75_0 (a0:TRequest) (s7:Int×Int):Option (LO (Int×Int)):=bif decide (s7.2 < (a0.Ops.length:Int)) then (getI a0.Ops s7.2).bind fun x1=>(m128 x1).bind fun y1=>bif y1 != 0 then some (LO.ret (y1,s7.2)) else some (LO.norm (s7.1,wi .i64 (s7.2 + 1))) else some (LO.exit 0 (s7.1,s7.2))
def ms75_1 (a0:TRequest) (s9:Int×Int):Option (LO (Int×Int)):=( ( bif decide (s9.2 < (a0.Ops.length:Int)) then some (LO.norm (decide ((a0.Ops.length:Int) > 1))) else some (LO.norm false)).bind (contO (fun s12=>bif s12 then some (LO.norm s12) else some (LO.exit 2 s12)) (fun i5 s12=>some (LO.exit i5 s12)) (fun s12=>some (LO.ret s12)))).bind (contO (fun s13=>(getI a0.Ops s9.2).bind fun x2=>bif decide (x2.Kind≤2) then some (LO.ret (1,s9.2)) else some (LO.norm (s9.1,wi .i64 (s9.2 + 1)))) (fun i6 s13=>some (LO.exit i6 (s9.1,s9.2))) (fun s13=>some (LO.ret (s9.1,s9.2))))
def m75 (a0:TRequest):Option (Int):=( ( bif !(m125 a0.Client) then some (LO.norm true) else bif !(m126 a0.Number 1 99) then some (LO.norm true) else some (LO.norm (!(m127 a0.Time)))).bind (contO (fun s3=>bif s3 then some (LO.ret 3) else some (LO.norm 0)) (fun i1 s3=>some (LO.exit i1 0)) (fun s3=>some (LO.ret 0)))).bind (contO (fun s4=>( bif decide ((a0.Ops.length:Int) < 1) then some (LO.ret 2) else bif decide ((a0.Ops.length:Int) > 3) then some (LO.ret 2) else some (LO.norm s4)).bind (contO (fun s6=>(loopO (ms75_0 a0) NN (s6,0)).bind (contO (fun _=>none) (fun i4 s8=>if i4 = 0 then (loopO (ms75_1 a0) NN (s8.1,0)).bind (contO (fun _=>none) (fun i7 s14=>if i7 = 2 then some 0 else none) (fun s14=>some s14.1)) else none) (fun s8=>some s8.1))) (fun i3 s6=>none) (fun s6=>some s6))) (fun i2 s4=>none) (fun s4=>some s4))
theorem w75 {d:Nat} (hd:6≤d) (k0:Bool) (a0:TRequest):Fit (R NN d 75 [.rp k0 (Enc.cs k0 a0)] []) (m75 a0) PI:=by
  obtain ⟨d,rfl,g⟩:=up hd
  refine q_in (t75 NN d _) ?_
  unfold b75 m75
  refine q_cu (A:=fun (s:Int)=>[.int .i64 s]) (B:=fun s=>[]) ?_ ?_ ?_ ?_
  ·refine q_cu (A:=fun (s:Bool)=>[.bool s]) (B:=fun s=>[]) ?_ ?_ ?_ ?_
   ·exact q_q fr<|q_p fr<|q_p fr<|q_c0t (aF1 (cv_p rfl) fun l0_=>w125 (by omega) a0.Client)<|q_p fr<|q_j (q_norm 0 rr)<|q_q fr<|q_p fr<|q_p fr<|q_c0t (aF3 (cv_p rfl) (cv_p rfl) (cv_p rfl) fun l0_ l1_ l2_=>w126 (by omega) a0.Number 1 99)<|q_p fr<|q_j (q_norm 0 rr)<|q_q fr<|q_p fr<|q_p fr<|q_c0t (aF1 (cv_p rfl) fun l0_=>w127 (by omega) a0.Time)<|q_p fr<|q_norm 0 rr
   ·exact fun s3=>q_i (q_lret 0 rr)<|q_norm 0 rr
   ·exact fun i1 s3=>q_exit 0 rr
   ·exact fun s3=>q_lret 0 rr
  ·intro s4
   refine q_cu (A:=fun (s:Int)=>[.int .i64 s]) (B:=fun s=>[]) ?_ ?_ ?_ ?_
   ·refine q_q fr<|q_p fr<|q_p fr<|q_len<|q_p fr<|q_j ?_ ?_
    ·first | refine q_ifT1 ?_ | skip
     exact q_lret 0 rr
    ·exact q_q fr<|q_p fr<|q_p fr<|q_len<|q_p fr<|q_i (q_lret 0 rr)<|q_norm 0 rr
   ·intro s6
    refine q_lp (A:=fun (s:Int×Int)=>[.int .i64 s.1,.int .i64 s.2]) (B:=fun s=>[]) 0 rr ?_ ?_ ?_
    ·intro s7
     unfold s75_0 ms75_0
     exact q_q fr<|q_p fr<|q_p fr<|q_len<|q_p fr<|q_i (q_q fr<|q_p fr<|q_p fr<|q_ix rfl fun x1 hx1=>q_c0 (aF1 (cv_rp (cvs_e (l0:=k0) (x:=x1)) (fun _ _ _ h=>Enc.frz k0 x1 _ _ _ h)) fun l0_=>w128 (by omega) l0_ x1) fun y1 hy1=>q_p fr<|q_i (q_lret 0 rr)<|q_p fr<|q_norm 0 rr)<|q_exit 0 rr
    ·intro i4 s8
     refine q_n ?_ ?_
     ·refine q_lp (A:=fun (s:Int×Int)=>[.int .i64 s.1,.int .i64 s.2]) (B:=fun s=>[]) 0 rr ?_ ?_ ?_
      ·intro s9
       unfold s75_1 ms75_1
       refine q_cu (A:=fun (s:Bool)=>[.bool s]) (B:=fun s=>[]) ?_ ?_ ?_ ?_
       ·refine q_cu (A:=fun (s:Bool)=>[.bool s]) (B:=fun s=>[]) ?_ ?_ ?_ ?_
        ·exact q_q fr<|q_p fr<|q_p fr<|q_len<|q_p fr<|q_k (q_q fr<|q_p fr<|q_p fr<|q_len<|q_p fr<|q_norm 0 rr)<|q_norm 0 rr
        ·exact fun s12=>q_i (q_norm 0 rr)<|q_exit 0 rr
        ·exact fun i5 s12=>q_exit 0 rr
        ·exact fun s12=>q_lret 0 rr
       ·exact fun s13=>q_q fr<|q_p fr<|q_p fr<|q_ix rfl fun x2 hx2=>q_p fr<|q_p fr<|q_p fr<|q_i (q_lret 0 rr)<|q_p fr<|q_norm 0 rr
       ·exact fun i6 s13=>q_exit 0 rr
       ·exact fun s13=>q_lret 0 rr
      ·exact fun i7 s14=>q_n (q_ret (cv_p rfl) rfl)<|q_none
      ·exact fun s14=>q_ret (cv_p rfl) rfl
     ·exact q_none
    ·exact fun s8=>q_ret (cv_p rfl) rfl
   ·exact fun i3 s6=>q_none
   ·exact fun s6=>q_ret (cv_p rfl) rfl
  ·exact fun i2 s4=>q_none
  ·exact fun s4=>q_ret (cv_p rfl) rfl
def ms76_0 (a0:List TRequest) (a1:Int) (a2:Int) (s1:Int×Int):Option (LO (Int×Int)):=bif decide (s1.2 < (a0.length:Int)) then ( (getI a0 s1.2).bind fun x1=>bif x1.Client == a1 then (getI a0 s1.2).bind fun x2=>bif x2.Number == a2 then some (LO.ret s1.2) else some (LO.norm s1.1) else some (LO.norm s1.1)).bind (contO (fun s3=>some (LO.norm (s3,wi .i64 (s1.2 + 1)))) (fun i1 s3=>some (LO.exit i1 (s3,s1.2))) (fun s3=>some (LO.ret (s3,s1.2)))) else some (LO.exit 0 (s1.1,s1.2))
def m76 (a0:List TRequest) (a1:Int) (a2:Int):Option (Int):=(loopO (ms76_0 a0 a1 a2) NN (0,0)).bind (contO (fun _=>none) (fun i2 s4=>if i2 = 0 then some (-1) else none) (fun s4=>some s4.1))
theorem w76 {d:Nat} (hd:1≤d) (k0:Bool) (a0:List TRequest) (a1:Int) (a2:Int):Fit (R NN d 76 [.rsl k0 false (a0.map (Enc.cs k0)),.int .i64 a1,.int .i64 a2] []) (m76 a0 a1 a2) PI:=by
  obtain ⟨d,rfl,g⟩:=up hd
  refine q_in (t76 NN d _ _ _) ?_
  unfold b76 m76
  refine q_lp (A:=fun (s:Int×Int)=>[.int .i64 s.1,.int .i64 s.2]) (B:=fun s=>[]) 0 rr ?_ ?_ ?_
  ·intro s1
   unfold s76_0 ms76_0
   refine q_len<|q_p fr<|q_i ?_ ?_
   ·refine q_cu (A:=fun (s:Int)=>[.int .i64 s]) (B:=fun s=>[]) ?_ ?_ ?_ ?_
    ·refine q_ix rfl fun x1 hx1=>q_p fr<|q_p fr<|q_p fr<|q_k ?_ ?_
     ·exact q_ix rfl fun x2 hx2=>q_p fr<|q_p fr<|q_p fr<|q_i (q_lret 0 rr)<|q_norm 0 rr
     ·first | refine q_ifF1 ?_ | skip
      exact q_norm 0 rr
    ·exact fun s3=>q_p fr<|q_norm 0 rr
    ·exact fun i1 s3=>q_exit 0 rr
    ·exact fun s3=>q_lret 0 rr
   ·exact q_exit 0 rr
  ·exact fun i2 s4=>q_n (q_ret (cv_p rfl) rfl)<|q_none
  ·exact fun s4=>q_ret (cv_p rfl) rfl
def m167 (a0:Int):Bool:=(m126 a0 1 2)
theorem w167 {d:Nat} (hd:2≤d) (a0:Int):Fit (R NN d 167 [.int .i64 a0] []) (some (m167 a0)) PB:=by
  obtain ⟨d,rfl,g⟩:=up hd
  refine q_in (t167 NN d _) ?_
  unfold b167 m167
  exact q_c0t (aF3 (cv_p rfl) (cv_p rfl) (cv_p rfl) fun l0_ l1_ l2_=>w126 (by omega) a0 1 2)<|q_ret (cv_p rfl) rfl
def m147 (a0:TMsg):Option (Bool):=( bif (m126 a0.Kind 1 5) then bif (m126 a0.Kind 1 3) then bif a0.Kind == 4 then bif a0.Kind == 5 then some (LO.norm true) else some (LO.norm ((a0.Refs.length:Int) == 0)) else bif (a0.Certs.length:Int) == 0 then bif a0.Kind == 5 then some (LO.norm true) else some (LO.norm ((a0.Refs.length:Int) == 0)) else some (LO.norm false) else bif a0.Slot == 0 then bif a0.Value == 0 then bif a0.Kind == 4 then bif a0.Kind == 5 then some (LO.norm true) else some (LO.norm ((a0.Refs.length:Int) == 0)) else bif (a0.Certs.length:Int) == 0 then bif a0.Kind == 5 then some (LO.norm true) else some (LO.norm ((a0.Refs.length:Int) == 0)) else some (LO.norm false) else some (LO.norm false) else some (LO.norm false) else some (LO.norm false)).bind (contO (fun s2=>some s2) (fun i1 s2=>none) (fun s2=>some s2))
theorem w147 {d:Nat} (hd:2≤d) (k0:Bool) (a0:TMsg):Fit (R NN d 147 [.rp k0 (Enc.cs k0 a0)] []) (m147 a0) PB:=by
  obtain ⟨d,rfl,g⟩:=up hd
  refine q_in (t147 NN d _) ?_
  unfold b147 m147
  refine q_q fr<|q_p fr<|q_p fr<|q_c0t (aF3 (cv_p rfl) (cv_p rfl) (cv_p rfl) fun l0_ l1_ l2_=>w126 (by omega) a0.Kind 1 3)<|q_cu (A:=fun (s:Bool)=>[.bool s]) (B:=fun s=>[]) ?_ ?_ ?_ ?_
  ·exact q_q fr<|q_p fr<|q_p fr<|q_c0t (aF3 (cv_p rfl) (cv_p rfl) (cv_p rfl) fun l0_ l1_ l2_=>w126 (by omega) a0.Kind 1 5)<|q_k (q_j (q_q fr<|q_p fr<|q_p fr<|q_p fr<|q_j (q_q fr<|q_p fr<|q_p fr<|q_p fr<|q_j (q_norm 0 rr)<|q_q fr<|q_p fr<|q_p fr<|q_len<|q_p fr<|q_norm 0 rr)<|q_q fr<|q_p fr<|q_p fr<|q_len<|q_p fr<|q_k (q_q fr<|q_p fr<|q_p fr<|q_p fr<|q_j (q_norm 0 rr)<|q_q fr<|q_p fr<|q_p fr<|q_len<|q_p fr<|q_norm 0 rr)<|q_norm 0 rr)<|q_q fr<|q_p fr<|q_p fr<|q_p fr<|q_k (q_q fr<|q_p fr<|q_p fr<|q_p fr<|q_k (q_q fr<|q_p fr<|q_p fr<|q_p fr<|q_j (q_q fr<|q_p fr<|q_p fr<|q_p fr<|q_j (q_norm 0 rr)<|q_q fr<|q_p fr<|q_p fr<|q_len<|q_p fr<|q_norm 0 rr)<|q_q fr<|q_p fr<|q_p fr<|q_len<|q_p fr<|q_k (q_q fr<|q_p fr<|q_p fr<|q_p fr<|q_j (q_norm 0 rr)<|q_q fr<|q_p fr<|q_p fr<|q_len<|q_p fr<|q_norm 0 rr)<|q_norm 0 rr)<|q_norm 0 rr)<|q_norm 0 rr)<|q_norm 0 rr
  ·exact fun s2=>q_ret (cv_p rfl) rfl
  ·exact fun i1 s2=>q_none
  ·exact fun s2=>q_ret (cv_p rfl) rfl
def m148 (a0:Int) (a1:Int):Bool:=(m126 a1 1 (wi .i64 ((wi .i64 (3 * a0)) + 1)))
theorem w148 {d:Nat} (hd:2≤d) (a0:Int) (a1:Int):Fit (R NN d 148 [.int .i64 a0,.int .i64 a1] []) (some (m148 a0 a1)) PB:=by
  obtain ⟨d,rfl,g⟩:=up hd
  refine q_in (t148 NN d _ _) ?_
  unfold b148 m148
  exact q_p fr<|q_p fr<|q_c0t (aF3 (cv_p rfl) (cv_p rfl) (cv_p rfl) fun l0_ l1_ l2_=>w126 (by omega) a1 1 (wi .i64 ((wi .i64 (3 * a0)) + 1)))<|q_ret (cv_p rfl) rfl
def ms149_0 (a0:TMsg) (s1:Int×Int):Option (LO (Int×Int)):=bif decide (s1.2 < (a0.Certs.length:Int)) then (getI a0.Certs s1.2).bind fun x1=>(getI a0.Certs (wi .i64 (s1.2 - 1))).bind fun x2=>bif decide (x1.Slot≤x2.Slot) then some (LO.ret (1,s1.2)) else some (LO.norm (s1.1,wi .i64 (s1.2 + 1))) else some (LO.exit 0 (s1.1,s1.2))
def ms149_1 (a0:TMsg) (s3:Int×Int):Option (LO (Int×Int)):=bif decide (s3.2 < (a0.Refs.length:Int)) then (getI a0.Refs s3.2).bind fun x3=>(getI a0.Refs (wi .i64 (s3.2 - 1))).bind fun x4=>bif decide (x3≤x4) then some (LO.ret (1,s3.2)) else some (LO.norm (s3.1,wi .i64 (s3.2 + 1))) else some (LO.exit 2 (s3.1,s3.2))
def ms149_2 (a0:TMsg) (s5:Int×Int):Option (LO (Int×Int)):=bif decide (s5.2 < (a0.Certs.length:Int)) then ( (getI a0.Certs s5.2).bind fun x5=>( bif !(m126 x5.Slot 1 30) then some (LO.norm true) else bif !(m126 x5.View 0 (wi .i64 (a0.View - 1))) then some (LO.norm true) else some (LO.norm (!(m126 x5.Value 0 12)))).bind (contO (fun s8=>bif s8 then some (LO.ret 3) else some (LO.norm s5.1)) (fun i3 s8=>if i3 = 5 then some (LO.norm s5.1) else some (LO.exit i3 s5.1)) (fun s8=>some (LO.ret s5.1)))).bind (contO (fun s9=>some (LO.norm (s9,wi .i64 (s5.2 + 1)))) (fun i4 s9=>some (LO.exit i4 (s9,s5.2))) (fun s9=>some (LO.ret (s9,s5.2)))) else some (LO.exit 4 (s5.1,s5.2))
def ms149_3 (a0:TMsg) (s11:Int×Int):Option (LO (Int×Int)):=bif decide (s11.2 < (a0.Refs.length:Int)) then (getI a0.Refs s11.2).bind fun x6=>bif !(m126 x6 0 239) then some (LO.ret (3,s11.2)) else some (LO.norm (s11.1,wi .i64 (s11.2 + 1))) else some (LO.exit 6 (s11.1,s11.2))
def m149 (a0:TMsg):Option (Int):=(loopO (ms149_0 a0) NN (0,1)).bind (contO (fun _=>none) (fun i1 s2=>if i1 = 0 then (loopO (ms149_1 a0) NN (s2.1,1)).bind (contO (fun _=>none) (fun i2 s4=>if i2 = 2 then (loopO (ms149_2 a0) NN (s4.1,0)).bind (contO (fun _=>none) (fun i5 s10=>if i5 = 4 then (loopO (ms149_3 a0) NN (s10.1,0)).bind (contO (fun _=>none) (fun i6 s12=>if i6 = 6 then some 0 else none) (fun s12=>some s12.1)) else none) (fun s10=>some s10.1)) else none) (fun s4=>some s4.1)) else none) (fun s2=>some s2.1))
theorem w149 {d:Nat} (hd:2≤d) (k0:Bool) (a0:TMsg):Fit (R NN d 149 [.rp k0 (Enc.cs k0 a0)] []) (m149 a0) PI:=by
  obtain ⟨d,rfl,g⟩:=up hd
  refine q_in (t149 NN d _) ?_
  unfold b149 m149
  refine q_lp (A:=fun (s:Int×Int)=>[.int .i64 s.1,.int .i64 s.2]) (B:=fun s=>[]) 0 rr ?_ ?_ ?_
  ·intro s1
   unfold s149_0 ms149_0
   exact q_q fr<|q_p fr<|q_p fr<|q_len<|q_p fr<|q_i (q_q fr<|q_p fr<|q_p fr<|q_ix rfl fun x1 hx1=>q_p fr<|q_p fr<|q_q fr<|q_p fr<|q_p fr<|q_p fr<|q_ix rfl fun x2 hx2=>q_p fr<|q_p fr<|q_p fr<|q_i (q_lret 0 rr)<|q_p fr<|q_norm 0 rr)<|q_exit 0 rr
  ·intro i1 s2
   refine q_n ?_ ?_
   ·refine q_lp (A:=fun (s:Int×Int)=>[.int .i64 s.1,.int .i64 s.2]) (B:=fun s=>[]) 0 rr ?_ ?_ ?_
    ·intro s3
     unfold s149_1 ms149_1
     exact q_q fr<|q_p fr<|q_p fr<|q_len<|q_p fr<|q_i (q_q fr<|q_p fr<|q_p fr<|q_ix rfl fun x3 hx3=>q_p fr<|q_q fr<|q_p fr<|q_p fr<|q_p fr<|q_ix rfl fun x4 hx4=>q_p fr<|q_p fr<|q_i (q_lret 0 rr)<|q_p fr<|q_norm 0 rr)<|q_exit 0 rr
    ·intro i2 s4
     refine q_n ?_ ?_
     ·refine q_lp (A:=fun (s:Int×Int)=>[.int .i64 s.1,.int .i64 s.2]) (B:=fun s=>[]) 0 rr ?_ ?_ ?_
      ·intro s5
       unfold s149_2 ms149_2
       refine q_q fr<|q_p fr<|q_p fr<|q_len<|q_p fr<|q_i ?_ ?_
       ·refine q_cu (A:=fun (s:Int)=>[.int .i64 s]) (B:=fun s=>[]) ?_ ?_ ?_ ?_
        ·refine q_q fr<|q_p fr<|q_p fr<|q_ix rfl fun x5 hx5=>q_p fr<|q_new rfl fun b1=>q_st 0 rfl rfl rfl (by decide) rfl<|q_cu (A:=fun (s:Bool)=>[.bool s]) (B:=fun s=>[bx b1 [.int .i64 x5.Slot,.int .i64 x5.View,.int .i64 x5.Value]]) ?_ ?_ ?_ ?_
         ·exact q_p fr<|q_ld 0 rfl rfl<|q_c0t (aF3 (cv_p rfl) (cv_p rfl) (cv_p rfl) fun l0_ l1_ l2_=>w126 (by omega) x5.Slot 1 30)<|q_p fr<|q_j (q_norm 0 rr)<|q_p fr<|q_ld 0 rfl rfl<|q_q fr<|q_p fr<|q_p fr<|q_p fr<|q_c0t (aF3 (cv_p rfl) (cv_p rfl) (cv_p rfl) fun l0_ l1_ l2_=>w126 (by omega) x5.View 0 (wi .i64 (a0.View - 1)))<|q_p fr<|q_j (q_norm 0 rr)<|q_p fr<|q_ld 0 rfl rfl<|q_c0t (aF3 (cv_p rfl) (cv_p rfl) (cv_p rfl) fun l0_ l1_ l2_=>w126 (by omega) x5.Value 0 12)<|q_p fr<|q_norm 0 rr
         ·exact fun s8=>q_i (q_lret 1 rr)<|q_norm 1 rr
         ·exact fun i3 s8=>q_n (q_norm 1 rr)<|q_exit 1 rr
         ·exact fun s8=>q_lret 1 rr
        ·exact fun s9=>q_p fr<|q_norm 0 rr
        ·exact fun i4 s9=>q_exit 0 rr
        ·exact fun s9=>q_lret 0 rr
       ·exact q_exit 0 rr
      ·intro i5 s10
       refine q_n ?_ ?_
       ·refine q_lp (A:=fun (s:Int×Int)=>[.int .i64 s.1,.int .i64 s.2]) (B:=fun s=>[]) 0 rr ?_ ?_ ?_
        ·intro s11
         unfold s149_3 ms149_3
         exact q_q fr<|q_p fr<|q_p fr<|q_len<|q_p fr<|q_i (q_q fr<|q_p fr<|q_p fr<|q_ix rfl fun x6 hx6=>q_p fr<|q_c0t (aF3 (cv_p rfl) (cv_p rfl) (cv_p rfl) fun l0_ l1_ l2_=>w126 (by omega) x6 0 239)<|q_p fr<|q_i (q_lret 0 rr)<|q_p fr<|q_norm 0 rr)<|q_exit 0 rr
        ·exact fun i6 s12=>q_n (q_ret (cv_p rfl) rfl)<|q_none
        ·exact fun s12=>q_ret (cv_p rfl) rfl
       ·exact q_none
      ·exact fun s10=>q_ret (cv_p rfl) rfl
     ·exact q_none
    ·exact fun s4=>q_ret (cv_p rfl) rfl
   ·exact q_none
  ·exact fun s2=>q_ret (cv_p rfl) rfl
def m91 (a0:Int) (a1:TMsg):Option (Int):=(m147 a1).bind fun y1=>bif !y1 then some 1 else ( ( bif !(m126 a1.View 0 20) then some (LO.norm true) else bif !(m148 a0 a1.From) then some (LO.norm true) else bif decide (a1.Kind≤3) then bif !(m126 a1.Slot 1 30) then some (LO.norm true) else some (LO.norm (!(m126 a1.Value 0 12))) else some (LO.norm false)).bind (contO (fun s3=>bif s3 then some (LO.ret 3) else some (LO.norm 0)) (fun i1 s3=>some (LO.exit i1 0)) (fun s3=>some (LO.ret 0)))).bind (contO (fun s4=>( bif decide ((a1.Certs.length:Int) > 30) then some (LO.ret 2) else bif decide ((a1.Refs.length:Int) > (wi .i64 ((wi .i64 (3 * a0)) + 1))) then some (LO.ret 2) else some (LO.norm s4)).bind (contO (fun s6=>(m149 a1).bind fun y2=>some y2) (fun i3 s6=>none) (fun s6=>some s6))) (fun i2 s4=>none) (fun s4=>some s4))
theorem w91 {d:Nat} (hd:3≤d) (a0:Int) (k1:Bool) (a1:TMsg):Fit (R NN d 91 [.int .i64 a0,.rp k1 (Enc.cs k1 a1)] []) (m91 a0 a1) PI:=by
  obtain ⟨d,rfl,g⟩:=up hd
  refine q_in (t91 NN d _ _) ?_
  unfold b91 m91
  refine q_c0 (aF1 (cv_rp (cvs_e (l0:=k1) (x:=a1)) (fun _ _ _ h=>Enc.frz k1 a1 _ _ _ h)) fun l0_=>w147 (by omega) l0_ a1) fun y1 hy1=>q_p fr<|q_i ?_ ?_
  ·exact q_ret (cv_p rfl) rfl
  ·refine q_q fr<|q_p fr<|q_p fr<|q_p fr<|q_cu (A:=fun (s:Int)=>[.int .i64 s]) (B:=fun s=>[]) ?_ ?_ ?_ ?_
   ·refine q_cu (A:=fun (s:Bool)=>[.bool s]) (B:=fun s=>[]) ?_ ?_ ?_ ?_
    ·exact q_q fr<|q_p fr<|q_p fr<|q_c0t (aF3 (cv_p rfl) (cv_p rfl) (cv_p rfl) fun l0_ l1_ l2_=>w126 (by omega) a1.View 0 20)<|q_p fr<|q_j (q_norm 0 rr)<|q_q fr<|q_p fr<|q_p fr<|q_c0t (aF2 (cv_p rfl) (cv_p rfl) fun l0_ l1_=>w148 (by omega) a0 a1.From)<|q_p fr<|q_j (q_norm 0 rr)<|q_k (q_q fr<|q_p fr<|q_p fr<|q_c0t (aF3 (cv_p rfl) (cv_p rfl) (cv_p rfl) fun l0_ l1_ l2_=>w126 (by omega) a1.Slot 1 30)<|q_p fr<|q_j (q_norm 0 rr)<|q_q fr<|q_p fr<|q_p fr<|q_c0t (aF3 (cv_p rfl) (cv_p rfl) (cv_p rfl) fun l0_ l1_ l2_=>w126 (by omega) a1.Value 0 12)<|q_p fr<|q_norm 0 rr)<|q_norm 0 rr
    ·exact fun s3=>q_i (q_lret 0 rr)<|q_norm 0 rr
    ·exact fun i1 s3=>q_exit 0 rr
    ·exact fun s3=>q_lret 0 rr
   ·intro s4
    refine q_cu (A:=fun (s:Int)=>[.int .i64 s]) (B:=fun s=>[]) ?_ ?_ ?_ ?_
    ·refine q_q fr<|q_p fr<|q_p fr<|q_len<|q_p fr<|q_j ?_ ?_
     ·first | refine q_ifT1 ?_ | skip
      exact q_lret 0 rr
     ·exact q_q fr<|q_p fr<|q_p fr<|q_len<|q_p fr<|q_p fr<|q_p fr<|q_i (q_lret 0 rr)<|q_norm 0 rr
    ·exact fun s6=>q_c0 (aF1 (cv_rp (cvs_e (l0:=k1) (x:=a1)) (fun _ _ _ h=>Enc.frz k1 a1 _ _ _ h)) fun l0_=>w149 (by omega) l0_ a1) fun y2 hy2=>q_ret (cv_p rfl) rfl
    ·exact fun i3 s6=>q_none
    ·exact fun s6=>q_ret (cv_p rfl) rfl
   ·exact fun i2 s4=>q_none
   ·exact fun s4=>q_ret (cv_p rfl) rfl
def ms93_0 (a0:TMsg) (a1:Int) (s1:Bool×Int):Option (LO (Bool×Int)):=bif decide (s1.2 < (a0.Refs.length:Int)) then (getI a0.Refs s1.2).bind fun x1=>bif decide (x1 ≥ a1) then some (LO.ret (false,s1.2)) else some (LO.norm (s1.1,wi .i64 (s1.2 + 1))) else some (LO.exit 0 (s1.1,s1.2))
def m93 (a0:TMsg) (a1:Int):Option (Bool):=(loopO (ms93_0 a0 a1) NN (false,0)).bind (contO (fun _=>none) (fun i1 s2=>if i1 = 0 then some true else none) (fun s2=>some s2.1))
theorem w93 {d:Nat} (hd:1≤d) (k0:Bool) (a0:TMsg) (a1:Int):Fit (R NN d 93 [.rp k0 (Enc.cs k0 a0),.int .i64 a1] []) (m93 a0 a1) PB:=by
  obtain ⟨d,rfl,g⟩:=up hd
  refine q_in (t93 NN d _ _) ?_
  unfold b93 m93
  refine q_lp (A:=fun (s:Bool×Int)=>[.bool s.1,.int .i64 s.2]) (B:=fun s=>[]) 0 rr ?_ ?_ ?_
  ·intro s1
   unfold s93_0 ms93_0
   exact q_q fr<|q_p fr<|q_p fr<|q_len<|q_p fr<|q_i (q_q fr<|q_p fr<|q_p fr<|q_ix rfl fun x1 hx1=>q_p fr<|q_p fr<|q_i (q_lret 0 rr)<|q_p fr<|q_norm 0 rr)<|q_exit 0 rr
  ·exact fun i1 s2=>q_n (q_ret (cv_p rfl) rfl)<|q_none
  ·exact fun s2=>q_ret (cv_p rfl) rfl
def ms164_0 (a0:TMsg) (a1:TMsg) (s5:Bool×Int):Option (LO (Bool×Int)):=bif decide (s5.2 < (a0.Certs.length:Int)) then (getI a0.Certs s5.2).bind fun x1=>(getI a1.Certs s5.2).bind fun x2=>bif !(((x1.Slot == x2.Slot) && ((x1.View == x2.View) && ((x1.Value == x2.Value) && true)))) then some (LO.ret (false,s5.2)) else some (LO.norm (s5.1,wi .i64 (s5.2 + 1))) else some (LO.exit 0 (s5.1,s5.2))
def ms164_1 (a0:TMsg) (a1:TMsg) (s7:Bool×Int):Option (LO (Bool×Int)):=bif decide (s7.2 < (a0.Refs.length:Int)) then (getI a0.Refs s7.2).bind fun x3=>(getI a1.Refs s7.2).bind fun x4=>bif x3 != x4 then some (LO.ret (false,s7.2)) else some (LO.norm (s7.1,wi .i64 (s7.2 + 1))) else some (LO.exit 2 (s7.1,s7.2))
def m164 (a0:TMsg) (a1:TMsg):Option (Bool):=( ( bif a0.Kind != a1.Kind then some (LO.norm true) else bif a0.View != a1.View then some (LO.norm true) else bif a0.From != a1.From then some (LO.norm true) else bif a0.Slot != a1.Slot then some (LO.norm true) else bif a0.Value != a1.Value then some (LO.norm true) else bif (a0.Certs.length:Int) != (a1.Certs.length:Int) then some (LO.norm true) else some (LO.norm ((a0.Refs.length:Int) != (a1.Refs.length:Int)))).bind (contO (fun s3=>bif s3 then some (LO.ret false) else some (LO.norm false)) (fun i1 s3=>some (LO.exit i1 false)) (fun s3=>some (LO.ret false)))).bind (contO (fun s4=>(loopO (ms164_0 a0 a1) NN (s4,0)).bind (contO (fun _=>none) (fun i3 s6=>if i3 = 0 then (loopO (ms164_1 a0 a1) NN (s6.1,0)).bind (contO (fun _=>none) (fun i4 s8=>if i4 = 2 then some true else none) (fun s8=>some s8.1)) else none) (fun s6=>some s6.1))) (fun i2 s4=>none) (fun s4=>some s4))
theorem w164 {d:Nat} (hd:1≤d) (k0:Bool) (a0:TMsg) (k1:Bool) (a1:TMsg):Fit (R NN d 164 [.rp k0 (Enc.cs k0 a0),.rp k1 (Enc.cs k1 a1)] []) (m164 a0 a1) PB:=by
  obtain ⟨d,rfl,g⟩:=up hd
  refine q_in (t164 NN d _ _) ?_
  unfold b164 m164
  refine q_cu (A:=fun (s:Bool)=>[.bool s]) (B:=fun s=>[]) ?_ ?_ ?_ ?_
  ·refine q_cu (A:=fun (s:Bool)=>[.bool s]) (B:=fun s=>[]) ?_ ?_ ?_ ?_
   ·exact q_q fr<|q_p fr<|q_p fr<|q_q fr<|q_p fr<|q_p fr<|q_p fr<|q_j (q_norm 0 rr)<|q_q fr<|q_p fr<|q_p fr<|q_q fr<|q_p fr<|q_p fr<|q_p fr<|q_j (q_norm 0 rr)<|q_q fr<|q_p fr<|q_p fr<|q_q fr<|q_p fr<|q_p fr<|q_p fr<|q_j (q_norm 0 rr)<|q_q fr<|q_p fr<|q_p fr<|q_q fr<|q_p fr<|q_p fr<|q_p fr<|q_j (q_norm 0 rr)<|q_q fr<|q_p fr<|q_p fr<|q_q fr<|q_p fr<|q_p fr<|q_p fr<|q_j (q_norm 0 rr)<|q_q fr<|q_p fr<|q_p fr<|q_len<|q_q fr<|q_p fr<|q_p fr<|q_len<|q_p fr<|q_j (q_norm 0 rr)<|q_q fr<|q_p fr<|q_p fr<|q_len<|q_q fr<|q_p fr<|q_p fr<|q_len<|q_p fr<|q_norm 0 rr
   ·exact fun s3=>q_i (q_lret 0 rr)<|q_norm 0 rr
   ·exact fun i1 s3=>q_exit 0 rr
   ·exact fun s3=>q_lret 0 rr
  ·intro s4
   refine q_lp (A:=fun (s:Bool×Int)=>[.bool s.1,.int .i64 s.2]) (B:=fun s=>[]) 0 rr ?_ ?_ ?_
   ·intro s5
    unfold s164_0 ms164_0
    exact q_q fr<|q_p fr<|q_p fr<|q_len<|q_p fr<|q_i (q_q fr<|q_p fr<|q_p fr<|q_ix rfl fun x1 hx1=>q_p fr<|q_q fr<|q_p fr<|q_p fr<|q_ix rfl fun x2 hx2=>q_p fr<|q_p (fun _=>sneq1742 _ _ _ _ _ _)<|q_i (q_lret 0 rr)<|q_p fr<|q_norm 0 rr)<|q_exit 0 rr
   ·intro i3 s6
    refine q_n ?_ ?_
    ·refine q_lp (A:=fun (s:Bool×Int)=>[.bool s.1,.int .i64 s.2]) (B:=fun s=>[]) 0 rr ?_ ?_ ?_
     ·intro s7
      unfold s164_1 ms164_1
      exact q_q fr<|q_p fr<|q_p fr<|q_len<|q_p fr<|q_i (q_q fr<|q_p fr<|q_p fr<|q_ix rfl fun x3 hx3=>q_p fr<|q_q fr<|q_p fr<|q_p fr<|q_ix rfl fun x4 hx4=>q_p fr<|q_p fr<|q_i (q_lret 0 rr)<|q_p fr<|q_norm 0 rr)<|q_exit 0 rr
     ·exact fun i4 s8=>q_n (q_ret (cv_p rfl) rfl)<|q_none
     ·exact fun s8=>q_ret (cv_p rfl) rfl
    ·exact q_none
   ·exact fun s6=>q_ret (cv_p rfl) rfl
  ·exact fun i2 s4=>q_none
  ·exact fun s4=>q_ret (cv_p rfl) rfl
def ms103_0 (a0:List TMsg) (a1:TMsg) (s1:Int×Int):Option (LO (Int×Int)):=bif decide (s1.2 < (a0.length:Int)) then (getI a0 s1.2).bind fun x1=>(m164 x1 a1).bind fun y1=>bif y1 then some (LO.ret (s1.2,s1.2)) else some (LO.norm (s1.1,wi .i64 (s1.2 + 1))) else some (LO.exit 0 (s1.1,s1.2))
def m103 (a0:List TMsg) (a1:TMsg):Option (Int):=(loopO (ms103_0 a0 a1) NN (0,0)).bind (contO (fun _=>none) (fun i1 s2=>if i1 = 0 then some (-1) else none) (fun s2=>some s2.1))
theorem w103 {d:Nat} (hd:2≤d) (k0:Bool) (a0:List TMsg) (k1:Bool) (a1:TMsg):Fit (R NN d 103 [.rsl k0 false (a0.map (Enc.cs k0)),.rp k1 (Enc.cs k1 a1)] []) (m103 a0 a1) PI:=by
  obtain ⟨d,rfl,g⟩:=up hd
  refine q_in (t103 NN d _ _) ?_
  unfold b103 m103
  refine q_lp (A:=fun (s:Int×Int)=>[.int .i64 s.1,.int .i64 s.2]) (B:=fun s=>[]) 0 rr ?_ ?_ ?_
  ·intro s1
   unfold s103_0 ms103_0
   exact q_len<|q_p fr<|q_i (q_ix rfl fun x1 hx1=>q_c0 (aF2 (cv_rp (cvs_e (l0:=k0) (x:=x1)) (fun _ _ _ h=>Enc.frz k0 x1 _ _ _ h)) (cv_rp (cvs_e (l0:=k1) (x:=a1)) (fun _ _ _ h=>Enc.frz k1 a1 _ _ _ h)) fun l0_ l1_=>w164 (by omega) l0_ x1 l1_ a1) fun y1 hy1=>q_i (q_lret 0 rr)<|q_p fr<|q_norm 0 rr)<|q_exit 0 rr
  ·exact fun i1 s2=>q_n (q_ret (cv_p rfl) rfl)<|q_none
  ·exact fun s2=>q_ret (cv_p rfl) rfl
def ms168_0 (a0:Int) (a1:List TMsg) (s1:Int×Int):Option (LO (Int×Int)):=bif decide (s1.2 < (a1.length:Int)) then (getI a1 s1.2).bind fun x1=>(m91 a0 x1).bind fun y1=>bif y1 != 0 then some (LO.ret (y1,s1.2)) else (getI a1 s1.2).bind fun x2=>(m93 x2 s1.2).bind fun y2=>bif !y2 then some (LO.ret (4,s1.2)) else (getI a1 s1.2).bind fun x3=>(m103 a1 x3).bind fun y3=>bif y3 != s1.2 then some (LO.ret (6,s1.2)) else some (LO.norm (s1.1,wi .i64 (s1.2 + 1))) else some (LO.exit 0 (s1.1,s1.2))
def m168 (a0:Int) (a1:List TMsg):Option (Int):=bif decide ((a1.length:Int) > 240) then some 2 else (loopO (ms168_0 a0 a1) NN (0,0)).bind (contO (fun _=>none) (fun i1 s2=>if i1 = 0 then some 0 else none) (fun s2=>some s2.1))
theorem w168 {d:Nat} (hd:4≤d) (a0:Int) (k1:Bool) (a1:List TMsg):Fit (R NN d 168 [.int .i64 a0,.rsl k1 false (a1.map (Enc.cs k1))] []) (m168 a0 a1) PI:=by
  obtain ⟨d,rfl,g⟩:=up hd
  refine q_in (t168 NN d _ _) ?_
  unfold b168 m168
  refine q_len<|q_p fr<|q_i ?_ ?_
  ·exact q_ret (cv_p rfl) rfl
  ·refine q_lp (A:=fun (s:Int×Int)=>[.int .i64 s.1,.int .i64 s.2]) (B:=fun s=>[]) 0 rr ?_ ?_ ?_
   ·intro s1
    unfold s168_0 ms168_0
    exact q_len<|q_p fr<|q_i (q_ix rfl fun x1 hx1=>q_c0 (aF2 (cv_p rfl) (cv_rp (cvs_e (l0:=k1) (x:=x1)) (fun _ _ _ h=>Enc.frz k1 x1 _ _ _ h)) fun l0_ l1_=>w91 (by omega) a0 l1_ x1) fun y1 hy1=>q_p fr<|q_i (q_lret 0 rr)<|q_ix rfl fun x2 hx2=>q_c0 (aF2 (cv_rp (cvs_e (l0:=k1) (x:=x2)) (fun _ _ _ h=>Enc.frz k1 x2 _ _ _ h)) (cv_p rfl) fun l0_ l1_=>w93 (by omega) l0_ x2 s1.2) fun y2 hy2=>q_p fr<|q_i (q_lret 0 rr)<|q_ix rfl fun x3 hx3=>q_c0 (aF2 cv_r (cv_rp (cvs_e (l0:=k1) (x:=x3)) (fun _ _ _ h=>Enc.frz k1 x3 _ _ _ h)) fun l0_ l1_=>w103 (by omega) l0_ a1 l1_ x3) fun y3 hy3=>q_p fr<|q_i (q_lret 0 rr)<|q_p fr<|q_norm 0 rr)<|q_exit 0 rr
   ·exact fun i1 s2=>q_n (q_ret (cv_p rfl) rfl)<|q_none
   ·exact fun s2=>q_ret (cv_p rfl) rfl
def m105 (a0:Int) (a1:List TMsg):Option (Int):=bif !(m167 a0) then some 3 else (m168 a0 a1).bind fun y1=>some y1
theorem w105 {d:Nat} (hd:5≤d) (a0:Int) (k1:Bool) (a1:List TMsg):Fit (R NN d 105 [.int .i64 a0,.rsl k1 false (a1.map (Enc.cs k1))] []) (m105 a0 a1) PI:=by
  obtain ⟨d,rfl,g⟩:=up hd
  refine q_in (t105 NN d _ _) ?_
  unfold b105 m105
  exact q_c0t (aF1 (cv_p rfl) fun l0_=>w167 (by omega) a0)<|q_p fr<|q_i (q_ret (cv_p rfl) rfl)<|q_c0 (aF2 (cv_p rfl) cv_r fun l0_ l1_=>w168 (by omega) a0 l1_ a1) fun y1 hy1=>q_ret (cv_p rfl) rfl
def ms106_0 (a0:Int) (a1:List Int) (s1:Int×Int):Option (LO (Int×Int)):=bif decide (s1.2 < (a1.length:Int)) then ( (getI a1 s1.2).bind fun x1=>bif !(m148 a0 x1) then some (LO.ret 3) else bif decide (s1.2 > 0) then (getI a1 s1.2).bind fun x2=>(getI a1 (wi .i64 (s1.2 - 1))).bind fun x3=>bif decide (x2≤x3) then some (LO.ret 1) else some (LO.norm s1.1) else some (LO.norm s1.1)).bind (contO (fun s3=>some (LO.norm (s3,wi .i64 (s1.2 + 1)))) (fun i1 s3=>some (LO.exit i1 (s3,s1.2))) (fun s3=>some (LO.ret (s3,s1.2)))) else some (LO.exit 0 (s1.1,s1.2))
def m106 (a0:Int) (a1:List Int):Option (Int):=bif decide ((a1.length:Int) > a0) then some 2 else (loopO (ms106_0 a0 a1) NN (0,0)).bind (contO (fun _=>none) (fun i2 s4=>if i2 = 0 then some 0 else none) (fun s4=>some s4.1))
theorem w106 {d:Nat} (hd:3≤d) (a0:Int) (k1:Bool) (a1:List Int):Fit (R NN d 106 [.int .i64 a0,.rsl k1 false (a1.map (Enc.cs k1))] []) (m106 a0 a1) PI:=by
  obtain ⟨d,rfl,g⟩:=up hd
  refine q_in (t106 NN d _ _) ?_
  unfold b106 m106
  refine q_len<|q_p fr<|q_i ?_ ?_
  ·exact q_ret (cv_p rfl) rfl
  ·refine q_lp (A:=fun (s:Int×Int)=>[.int .i64 s.1,.int .i64 s.2]) (B:=fun s=>[]) 0 rr ?_ ?_ ?_
   ·intro s1
    unfold s106_0 ms106_0
    refine q_len<|q_p fr<|q_i ?_ ?_
    ·refine q_cu (A:=fun (s:Int)=>[.int .i64 s]) (B:=fun s=>[]) ?_ ?_ ?_ ?_
     ·refine q_ix rfl fun x1 hx1=>q_p fr<|q_c0t (aF2 (cv_p rfl) (cv_p rfl) fun l0_ l1_=>w148 (by omega) a0 x1)<|q_p fr<|q_i ?_ ?_
      ·exact q_lret 0 rr
      ·refine q_p fr<|q_k ?_ ?_
       ·exact q_ix rfl fun x2 hx2=>q_p fr<|q_p fr<|q_ix rfl fun x3 hx3=>q_p fr<|q_p fr<|q_i (q_lret 0 rr)<|q_norm 0 rr
       ·first | refine q_ifF1 ?_ | skip
        exact q_norm 0 rr
     ·exact fun s3=>q_p fr<|q_norm 0 rr
     ·exact fun i1 s3=>q_exit 0 rr
     ·exact fun s3=>q_lret 0 rr
    ·exact q_exit 0 rr
   ·exact fun i2 s4=>q_n (q_ret (cv_p rfl) rfl)<|q_none
   ·exact fun s4=>q_ret (cv_p rfl) rfl
def ms92_0 (a0:List Int) (a1:Int) (s1:Bool×Int):Option (LO (Bool×Int)):=bif decide (s1.2 < (a0.length:Int)) then (getI a0 s1.2).bind fun x1=>bif x1 == a1 then some (LO.ret (true,s1.2)) else some (LO.norm (s1.1,wi .i64 (s1.2 + 1))) else some (LO.exit 0 (s1.1,s1.2))
def m92 (a0:List Int) (a1:Int):Option (Bool):=(loopO (ms92_0 a0 a1) NN (false,0)).bind (contO (fun _=>none) (fun i1 s2=>if i1 = 0 then some false else none) (fun s2=>some s2.1))
theorem w92 {d:Nat} (hd:1≤d) (k0:Bool) (a0:List Int) (a1:Int):Fit (R NN d 92 [.rsl k0 false (a0.map (Enc.cs k0)),.int .i64 a1] []) (m92 a0 a1) PB:=by
  obtain ⟨d,rfl,g⟩:=up hd
  refine q_in (t92 NN d _ _) ?_
  unfold b92 m92
  refine q_lp (A:=fun (s:Bool×Int)=>[.bool s.1,.int .i64 s.2]) (B:=fun s=>[]) 0 rr ?_ ?_ ?_
  ·intro s1
   unfold s92_0 ms92_0
   exact q_len<|q_p fr<|q_i (q_ix rfl fun x1 hx1=>q_p fr<|q_p fr<|q_i (q_lret 0 rr)<|q_p fr<|q_norm 0 rr)<|q_exit 0 rr
  ·exact fun i1 s2=>q_n (q_ret (cv_p rfl) rfl)<|q_none
  ·exact fun s2=>q_ret (cv_p rfl) rfl
def m139 (a0:Int):Int:=wi .i64 ((wi .i64 (2 * a0)) + 1)
theorem w139 {d:Nat} (hd:1≤d) (a0:Int):Fit (R NN d 139 [.int .i64 a0] []) (some (m139 a0)) PI:=by
  obtain ⟨d,rfl,g⟩:=up hd
  refine q_in (t139 NN d _) ?_
  unfold b139 m139
  exact q_p fr<|q_p fr<|q_ret (cv_p rfl) rfl
def ms207_0 (a0:Int) (a1:List TMsg) (a2:Int) (a3:TCert) (s1:Int×(List Int)):Option (LO (Int×(List Int))):=bif decide (s1.1≤(wi .i64 ((wi .i64 (3 * a0)) + 1))) then ( (m103 a1 (⟨a2,a3.View,s1.1,a3.Slot,a3.Value,[],[]⟩:TMsg)).bind fun y1=>bif decide (y1 ≥ 0) then (appO 8 s1.2 [s1.1]).bind fun z1=>some (LO.norm z1) else some (LO.norm s1.2)).bind (contO (fun s3=>some (LO.norm (wi .i64 (s1.1 + 1),s3))) (fun i1 s3=>some (LO.exit i1 (s1.1,s3))) (fun s3=>some (LO.ret (s1.1,s3)))) else some (LO.exit 0 (s1.1,s1.2))
def m207 (a0:Int) (a1:List TMsg) (a2:Int) (a3:TCert):Option ((List Int)):=(loopO (ms207_0 a0 a1 a2 a3) NN (1,[])).bind (contO (fun _=>none) (fun i2 s4=>if i2 = 0 then some s4.2 else none) (fun s4=>some []))
theorem w207 {d:Nat} (hd:3≤d) (a0:Int) (k1:Bool) (a1:List TMsg) (a2:Int) (k3:Bool) (a3:TCert):Fit (R NN d 207 [.int .i64 a0,.rsl k1 false (a1.map (Enc.cs k1)),.int .i64 a2,.agg (Enc.cs k3 a3)] []) (m207 a0 a1 a2 a3) (P0 (fun (t:List Int)=>AV.rsl false false (t.map (Enc.cs false)))):=by
  obtain ⟨d,rfl,g⟩:=up hd
  refine q_in (t207 NN d _ _ _ _) ?_
  unfold b207 m207
  refine q_box (n:=3) rfl rfl (by decide) fun b1=>q_q (fun _=>qs22_0)<|q_nil (α:=Int) false<|q_loop (I:=(fun (s:Int×(List Int)) l L=>∃ (v1:AV),l = [v1,.int .i64 s.1]∧L = [sl false v1 (s.2:List Int),bx b1 [.int .i64 a3.Slot,.int .i64 a3.View,.int .i64 a3.Value]])) 0 ⟨(.rsl false true []),rfl,rfl⟩ ?_ ?_ ?_
  ·rintro s1 _ _ ⟨v1,rfl,rfl⟩
   unfold s207_0 ms207_0
   refine q_p fr<|q_p fr<|q_p fr<|q_i ?_ ?_
   ·refine q_cut (I:=(fun (s:(List Int)) l L=>∃ (v2:AV),l = [v2]∧L = [sl false v2 (s:List Int),bx b1 [.int .i64 a3.Slot,.int .i64 a3.View,.int .i64 a3.Value]])) ?_ ?_ ?_ ?_
    ·exact q_p fr<|q_ld 1 rfl rfl<|q_p fr<|q_ld 1 rfl rfl<|q_p fr<|q_ld 1 rfl rfl<|q_p (fun _=>bd71_0_1_2_3_4 rfl)<|q_new rfl fun b2=>q_st 0 rfl rfl rfl (by decide) rfl<|q_c0 (aF2 cv_r (cv_b 0 rfl (cvs_cons (cv_p rfl) (cvs_cons (cv_p rfl) (cvs_cons (cv_p rfl) (cvs_cons (cv_p rfl) (cvs_cons (cv_p rfl) (cvs_cons (cv_r (α:=TCert) (l0:=false) (fl:=true) (xs:=[])) (cvs_cons (cv_r (α:=Int) (l0:=false) (fl:=true) (xs:=[])) cvs_nil)))))))) fun l0_ l1_=>w103 (by omega) l0_ a1 l1_ (⟨a2,a3.View,s1.1,a3.Slot,a3.Value,[],[]⟩:TMsg)) fun y1 hy1=>q_p fr<|q_i (q_e (fun _=>bs22_1 rfl)<|q_app (ys:=[s1.1]) 1 rfl rfl (fun _ _=>rfl) fun v2 z1 hz1=>q_norm 1 ⟨v2,rfl,rfl⟩)<|q_norm 1 ⟨v1,rfl,rfl⟩
    ·rintro s3 _ _ ⟨v3,rfl,rfl⟩
     exact q_p fr<|q_norm 0 ⟨v3,rfl,rfl⟩
    ·rintro i1 s3 _ _ ⟨v4,rfl,rfl⟩
     exact q_exit 0 ⟨v4,rfl,rfl⟩
    ·rintro s3 _ _ ⟨v5,rfl,rfl⟩
     exact q_lret 0 ⟨v5,rfl,rfl⟩
   ·exact q_exit 0 ⟨v1,rfl,rfl⟩
  ·rintro i2 s4 _ _ ⟨v6,rfl,rfl⟩
   exact q_n (q_ret (cv_o 0 rfl) rfl)<|q_none
  ·rintro s4 _ _ ⟨v7,rfl,rfl⟩
   exact q_ret (cv_r (α:=Int) (l0:=false) (fl:=true) (xs:=[])) rfl
def m157 (a0:Int) (a1:List TMsg) (a2:Int) (a3:TCert):Option (Bool):=(m207 a0 a1 a2 a3).bind fun y1=>some (decide ((y1.length:Int) ≥ (m139 a0)))
theorem w157 {d:Nat} (hd:4≤d) (a0:Int) (k1:Bool) (a1:List TMsg) (a2:Int) (k3:Bool) (a3:TCert):Fit (R NN d 157 [.int .i64 a0,.rsl k1 false (a1.map (Enc.cs k1)),.int .i64 a2,.agg (Enc.cs k3 a3)] []) (m157 a0 a1 a2 a3) PB:=by
  obtain ⟨d,rfl,g⟩:=up hd
  refine q_in (t157 NN d _ _ _ _) ?_
  unfold b157 m157
  exact q_box (n:=3) rfl rfl (by decide) fun b1=>q_lda 0 rfl rfl rfl<|q_c0 (fun S hS=>argF4 (cv_p rfl) cv_r (cv_p rfl) (cv_a (cvs_e (l0:=false) (x:=a3))) hS fun l0_ l1_ l2_ l3_=>w207 (by omega) a0 l1_ a1 a2 l3_ a3) fun y1 hy1=>q_len<|q_c0t (aF1 (cv_p rfl) fun l0_=>w139 (by omega) a0)<|q_p fr<|q_ret (cv_p rfl) rfl
def ms108_0 (a0:Int) (a1:List TMsg) (a2:Int) (s1:Int×(List Int)) (s3:Bool×Int):Option (LO (Bool×Int)):=( ( bif decide (s3.2 < (a1.length:Int)) then some (LO.norm (!s3.1)) else some (LO.norm false)).bind (contO (fun s6=>bif s6 then some (LO.norm s6) else some (LO.exit 2 s6)) (fun i1 s6=>some (LO.exit i1 s6)) (fun s6=>some (LO.ret s6)))).bind (contO (fun s7=>( (getI a1 s3.2).bind fun x1=>( bif x1.Kind == 3 then bif x1.Slot == a2 then some (LO.norm (x1.Value == s1.1)) else some (LO.norm false) else some (LO.norm false)).bind (contO (fun s10=>bif s10 then (m157 a0 a1 3 (⟨a2,x1.View,s1.1⟩:TCert)).bind fun y1=>some (LO.norm y1) else some (LO.norm s3.1)) (fun i3 s10=>if i3 = 3 then some (LO.norm s3.1) else some (LO.exit i3 s3.1)) (fun s10=>some (LO.ret s3.1)))).bind (contO (fun s11=>some (LO.norm (s11,wi .i64 (s3.2 + 1)))) (fun i4 s11=>some (LO.exit i4 (s11,s3.2))) (fun s11=>some (LO.ret (s11,s3.2))))) (fun i2 s7=>some (LO.exit i2 (s3.1,s3.2))) (fun s7=>some (LO.ret (s3.1,s3.2))))
def ms108_1 (a0:Int) (a1:List TMsg) (a2:Int) (s1:Int×(List Int)):Option (LO (Int×(List Int))):=bif decide (s1.1≤12) then ( (loopO (ms108_0 a0 a1 a2 s1) NN (false,0)).bind (contO (fun _=>none) (fun i5 s12=>if i5 = 2 then bif s12.1 then (appO 8 s1.2 [s1.1]).bind fun z1=>some (LO.norm z1) else some (LO.norm s1.2) else if i5 = 1 then some (LO.norm s1.2) else some (LO.exit i5 s1.2)) (fun s12=>some (LO.ret s1.2)))).bind (contO (fun s13=>some (LO.norm (wi .i64 (s1.1 + 1),s13))) (fun i6 s13=>some (LO.exit i6 (s1.1,s13))) (fun s13=>some (LO.ret (s1.1,s13)))) else some (LO.exit 0 (s1.1,s1.2))
def m108 (a0:Int) (a1:List TMsg) (a2:Int):Option ((List Int)):=(loopO (ms108_1 a0 a1 a2) NN (0,[])).bind (contO (fun _=>none) (fun i7 s14=>if i7 = 0 then some s14.2 else none) (fun s14=>some []))
theorem w108 {d:Nat} (hd:5≤d) (a0:Int) (k1:Bool) (a1:List TMsg) (a2:Int):Fit (R NN d 108 [.int .i64 a0,.rsl k1 false (a1.map (Enc.cs k1)),.int .i64 a2] []) (m108 a0 a1 a2) (P0 (fun (t:List Int)=>AV.rsl false false (t.map (Enc.cs false)))):=by
  obtain ⟨d,rfl,g⟩:=up hd
  refine q_in (t108 NN d _ _ _) ?_
  unfold b108 m108
  refine q_q (fun _=>qs22_0)<|q_nil (α:=Int) false<|q_loop (I:=(fun (s:Int×(List Int)) l L=>∃ (v1:AV),l = [v1,.int .i64 s.1]∧L = [sl false v1 (s.2:List Int)])) 0 ⟨(.rsl false true []),rfl,rfl⟩ ?_ ?_ ?_
  ·rintro s1 _ _ ⟨v1,rfl,rfl⟩
   unfold s108_1 ms108_1
   refine q_p fr<|q_i ?_ ?_
   ·refine q_cut (I:=(fun (s:(List Int)) l L=>∃ (v2:AV),l = [v2]∧L = [sl false v2 (s:List Int)])) ?_ ?_ ?_ ?_
    ·refine q_lp (A:=fun (s:Bool×Int)=>[.bool s.1,.int .i64 s.2]) (B:=fun s=>[sl false v1 (s1.2:List Int)]) 0 rr ?_ ?_ ?_
     ·intro s3
      unfold s108_0 ms108_0
      refine q_cu (A:=fun (s:Bool)=>[.bool s]) (B:=fun s=>[sl false v1 (s1.2:List Int)]) ?_ ?_ ?_ ?_
      ·refine q_cu (A:=fun (s:Bool)=>[.bool s]) (B:=fun s=>[sl false v1 (s1.2:List Int)]) ?_ ?_ ?_ ?_
       ·exact q_len<|q_p fr<|q_k (q_p fr<|q_norm 0 rr)<|q_norm 0 rr
       ·exact fun s6=>q_i (q_norm 0 rr)<|q_exit 0 rr
       ·exact fun i1 s6=>q_exit 0 rr
       ·exact fun s6=>q_lret 0 rr
      ·intro s7
       refine q_cu (A:=fun (s:Bool)=>[.bool s]) (B:=fun s=>[sl false v1 (s1.2:List Int)]) ?_ ?_ ?_ ?_
       ·refine q_ix rfl fun x1 hx1=>q_cu (A:=fun (s:Bool)=>[.bool s]) (B:=fun s=>[sl false v1 (s1.2:List Int)]) ?_ ?_ ?_ ?_
        ·exact q_q fr<|q_p fr<|q_p fr<|q_p fr<|q_k (q_q fr<|q_p fr<|q_p fr<|q_p fr<|q_k (q_q fr<|q_p fr<|q_p fr<|q_p fr<|q_norm 0 rr)<|q_norm 0 rr)<|q_norm 0 rr
        ·exact fun s10=>q_i (q_q fr<|q_p fr<|q_p fr<|q_p (fun _=>bd174_0_1_2 rfl)<|q_c0 (fun S hS=>argF4 (cv_p rfl) cv_r (cv_p rfl) (cv_a (cvs_cons (cv_p rfl) (cvs_cons (cv_p rfl) (cvs_cons (cv_p rfl) cvs_nil)))) hS fun l0_ l1_ l2_ l3_=>w157 (by omega) a0 l1_ a1 3 l3_ (⟨a2,x1.View,s1.1⟩:TCert)) fun y1 hy1=>q_norm 0 rr)<|q_norm 0 rr
        ·exact fun i3 s10=>q_n (q_norm 0 rr)<|q_exit 0 rr
        ·exact fun s10=>q_lret 0 rr
       ·exact fun s11=>q_p fr<|q_norm 0 rr
       ·exact fun i4 s11=>q_exit 0 rr
       ·exact fun s11=>q_lret 0 rr
      ·exact fun i2 s7=>q_exit 0 rr
      ·exact fun s7=>q_lret 0 rr
     ·exact fun i5 s12=>q_n (q_i (q_e (fun _=>bs22_1 rfl)<|q_app (ys:=[s1.1]) 0 rfl rfl (fun _ _=>rfl) fun v2 z1 hz1=>q_norm 0 ⟨v2,rfl,rfl⟩)<|q_norm 0 ⟨v1,rfl,rfl⟩)<|q_n (q_norm 0 ⟨v1,rfl,rfl⟩)<|q_exit 0 ⟨v1,rfl,rfl⟩
     ·exact fun s12=>q_lret 0 ⟨v1,rfl,rfl⟩
    ·rintro s13 _ _ ⟨v3,rfl,rfl⟩
     exact q_p fr<|q_norm 0 ⟨v3,rfl,rfl⟩
    ·rintro i6 s13 _ _ ⟨v4,rfl,rfl⟩
     exact q_exit 0 ⟨v4,rfl,rfl⟩
    ·rintro s13 _ _ ⟨v5,rfl,rfl⟩
     exact q_lret 0 ⟨v5,rfl,rfl⟩
   ·exact q_exit 0 ⟨v1,rfl,rfl⟩
  ·rintro i7 s14 _ _ ⟨v6,rfl,rfl⟩
   exact q_n (q_ret (cv_o 0 rfl) rfl)<|q_none
  ·rintro s14 _ _ ⟨v7,rfl,rfl⟩
   exact q_ret (cv_r (α:=Int) (l0:=false) (fl:=true) (xs:=[])) rfl
def ms50_0 (a0:Int) (a1:List TMsg) (s1:Bool×Int×(List Int)):Option (LO (Bool×Int×(List Int))):=bif s1.1 then none else bif decide (s1.2.1≤30) then (m108 a0 a1 s1.2.1).bind fun y1=>bif (y1.length:Int) == 0 then some (LO.ret (true,s1.2.1,s1.2.2)) else (getI y1 0).bind fun x1=>(appO 8 s1.2.2 [x1]).bind fun z1=>some (LO.norm (false,wi .i64 (s1.2.1 + 1),z1)) else some (LO.exit 0 (false,s1.2.1,s1.2.2))
def m50 (a0:Int) (a1:List TMsg):Option ((List Int)):=(loopO (ms50_0 a0 a1) NN (false,1,[])).bind (contO (fun _=>none) (fun i1 s2=>if i1 = 0 then some s2.2.2 else none) (fun s2=>some (bif s2.1 then s2.2.2 else [])))
theorem w50 {d:Nat} (hd:6≤d) (a0:Int) (k1:Bool) (a1:List TMsg):Fit (R NN d 50 [.int .i64 a0,.rsl k1 false (a1.map (Enc.cs k1))] []) (m50 a0 a1) (P0 (fun (t:List Int)=>AV.rsl false false (t.map (Enc.cs false)))):=by
  obtain ⟨d,rfl,g⟩:=up hd
  refine q_in (t50 NN d _ _) ?_
  unfold b50 m50
  refine q_q (fun _=>qs22_0)<|q_nil (α:=Int) false<|q_loop (I:=(fun (s:Bool×Int×(List Int)) l L=>∃ (v1:AV),l = [(bif s.1 then v1 else AV.rsl false true []),v1,.int .i64 s.2.1]∧L = [sl false v1 (s.2.2:List Int)])) 0 ⟨(.rsl false true []),rfl,rfl⟩ ?_ ?_ ?_
  ·rintro s1 _ _ ⟨v1,rfl,rfl⟩
   unfold s50_0 ms50_0
   refine q_flag (b:=s1.1) fun hfg_=>?_
   try rw [hfg_]
   exact q_p fr<|q_i (q_c0 (aF3 (cv_p rfl) cv_r (cv_p rfl) fun l0_ l1_ l2_=>w108 (by omega) a0 l1_ a1 s1.2.1) fun y1 hy1=>q_len<|q_p fr<|q_i (q_lret 0 ⟨v1,rfl,rfl⟩)<|q_ix rfl fun x1 hx1=>q_p fr<|q_e (fun _=>bs22_1 rfl)<|q_app (ys:=[x1]) 0 rfl rfl (fun _ _=>rfl) fun v2 z1 hz1=>q_p fr<|q_norm 0 ⟨v2,rfl,rfl⟩)<|q_exit 0 ⟨v1,rfl,rfl⟩
  ·rintro i1 s2 _ _ ⟨v3,rfl,rfl⟩
   exact q_n (q_ret (cv_o 0 rfl) rfl)<|q_none
  ·rintro s2 _ _ ⟨v4,rfl,rfl⟩
   exact q_ret (cv_alt 0 rfl) rfl
def m137 (a0:List TMsg) (a1:Int) (a2:Int):Option (Bool):=bif (m126 a1 0 (wi .i64 ((a0.length:Int) - 1))) then (getI a0 a1).bind fun x1=>some (x1.Kind == a2) else some false
theorem w137 {d:Nat} (hd:2≤d) (k0:Bool) (a0:List TMsg) (a1:Int) (a2:Int):Fit (R NN d 137 [.rsl k0 false (a0.map (Enc.cs k0)),.int .i64 a1,.int .i64 a2] []) (m137 a0 a1 a2) PB:=by
  obtain ⟨d,rfl,g⟩:=up hd
  refine q_in (t137 NN d _ _ _) ?_
  unfold b137 m137
  exact q_len<|q_p fr<|q_c0t (aF3 (cv_p rfl) (cv_p rfl) (cv_p rfl) fun l0_ l1_ l2_=>w126 (by omega) a1 0 (wi .i64 ((a0.length:Int) - 1)))<|q_k (q_ix rfl fun x1 hx1=>q_p fr<|q_p fr<|q_p fr<|q_ret (cv_p rfl) rfl)<|q_ret (cv_p rfl) rfl
def m138 (a0:Int) (a1:Int):Option (Int):=(remO a1 (wi .i64 ((wi .i64 (3 * a0)) + 1))).bind fun q1=>some (wi .i64 (1 + q1))
theorem w138 {d:Nat} (hd:1≤d) (a0:Int) (a1:Int):Fit (R NN d 138 [.int .i64 a0,.int .i64 a1] []) (m138 a0 a1) PI:=by
  obtain ⟨d,rfl,g⟩:=up hd
  refine q_in (t138 NN d _ _) ?_
  unfold b138 m138
  exact q_p fr<|q_p fr<|q_rem2 fun q1 hq1=>q_p fr<|q_ret (cv_p rfl) rfl
def ms140_0 (a0:Int) (a1:List TMsg) (a2:Int) (s3:Bool×Int):Option (LO (Bool×Int)):=(getI a1 a2).bind fun x2=>bif decide (s3.2 < (x2.Certs.length:Int)) then (getI a1 a2).bind fun x3=>(getI x3.Certs s3.2).bind fun x4=>(m157 a0 a1 2 x4).bind fun y2=>bif !y2 then some (LO.ret (false,s3.2)) else some (LO.norm (s3.1,wi .i64 (s3.2 + 1))) else some (LO.exit 0 (s3.1,s3.2))
def m140 (a0:Int) (a1:List TMsg) (a2:Int):Option (Bool):=( (m137 a1 a2 4).bind fun y1=>bif !y1 then some (LO.ret false) else (getI a1 a2).bind fun x1=>bif decide (x1.View < 1) then some (LO.ret false) else some (LO.norm false)).bind (contO (fun s2=>(loopO (ms140_0 a0 a1 a2) NN (s2,0)).bind (contO (fun _=>none) (fun i2 s4=>if i2 = 0 then some true else none) (fun s4=>some s4.1))) (fun i1 s2=>none) (fun s2=>some s2))
theorem w140 {d:Nat} (hd:5≤d) (a0:Int) (k1:Bool) (a1:List TMsg) (a2:Int):Fit (R NN d 140 [.int .i64 a0,.rsl k1 false (a1.map (Enc.cs k1)),.int .i64 a2] []) (m140 a0 a1 a2) PB:=by
  obtain ⟨d,rfl,g⟩:=up hd
  refine q_in (t140 NN d _ _ _) ?_
  unfold b140 m140
  refine q_cu (A:=fun (s:Bool)=>[.bool s]) (B:=fun s=>[]) ?_ ?_ ?_ ?_
  ·refine q_c0 (aF3 cv_r (cv_p rfl) (cv_p rfl) fun l0_ l1_ l2_=>w137 (by omega) l0_ a1 a2 4) fun y1 hy1=>q_p fr<|q_j ?_ ?_
   ·first | refine q_ifT1 ?_ | skip
    exact q_lret 0 rr
   ·exact q_ix rfl fun x1 hx1=>q_p fr<|q_p fr<|q_p fr<|q_i (q_lret 0 rr)<|q_norm 0 rr
  ·intro s2
   refine q_lp (A:=fun (s:Bool×Int)=>[.bool s.1,.int .i64 s.2]) (B:=fun s=>[]) 0 rr ?_ ?_ ?_
   ·intro s3
    unfold s140_0 ms140_0
    exact q_ix rfl fun x2 hx2=>q_p fr<|q_p fr<|q_len<|q_p fr<|q_i (q_ix rfl fun x3 hx3=>q_p fr<|q_p fr<|q_ix rfl fun x4 hx4=>q_p fr<|q_c0 (fun S hS=>argF4 (cv_p rfl) cv_r (cv_p rfl) (cv_a (cvs_e (l0:=k1) (x:=x4))) hS fun l0_ l1_ l2_ l3_=>w157 (by omega) a0 l1_ a1 2 l3_ x4) fun y2 hy2=>q_p fr<|q_i (q_lret 0 rr)<|q_p fr<|q_norm 0 rr)<|q_exit 0 rr
   ·exact fun i2 s4=>q_n (q_ret (cv_p rfl) rfl)<|q_none
   ·exact fun s4=>q_ret (cv_p rfl) rfl
  ·exact fun i1 s2=>q_none
  ·exact fun s2=>q_ret (cv_p rfl) rfl
def ms141_0 (a0:List TMsg) (a1:List Int) (a2:Int) (s1:Bool×Int):Option (LO (Bool×Int)):=bif decide (s1.2 < (a1.length:Int)) then (getI a1 s1.2).bind fun x1=>(getI a0 x1).bind fun x2=>bif x2.From == a2 then some (LO.ret (true,s1.2)) else some (LO.norm (s1.1,wi .i64 (s1.2 + 1))) else some (LO.exit 0 (s1.1,s1.2))
def m141 (a0:List TMsg) (a1:List Int) (a2:Int):Option (Bool):=(loopO (ms141_0 a0 a1 a2) NN (false,0)).bind (contO (fun _=>none) (fun i1 s2=>if i1 = 0 then some false else none) (fun s2=>some s2.1))
theorem w141 {d:Nat} (hd:1≤d) (k0:Bool) (a0:List TMsg) (k1:Bool) (a1:List Int) (a2:Int):Fit (R NN d 141 [.rsl k0 false (a0.map (Enc.cs k0)),.rsl k1 false (a1.map (Enc.cs k1)),.int .i64 a2] []) (m141 a0 a1 a2) PB:=by
  obtain ⟨d,rfl,g⟩:=up hd
  refine q_in (t141 NN d _ _ _) ?_
  unfold b141 m141
  refine q_lp (A:=fun (s:Bool×Int)=>[.bool s.1,.int .i64 s.2]) (B:=fun s=>[]) 0 rr ?_ ?_ ?_
  ·intro s1
   unfold s141_0 ms141_0
   exact q_len<|q_p fr<|q_i (q_ix rfl fun x1 hx1=>q_p fr<|q_ix rfl fun x2 hx2=>q_p fr<|q_p fr<|q_p fr<|q_i (q_lret 0 rr)<|q_p fr<|q_norm 0 rr)<|q_exit 0 rr
  ·exact fun i1 s2=>q_n (q_ret (cv_p rfl) rfl)<|q_none
  ·exact fun s2=>q_ret (cv_p rfl) rfl
def ms86_0 (a0:Int) (a1:List TMsg) (x1:TMsg) (s5:Bool×Int):Option (LO (Bool×Int)):=bif decide (s5.2 < (x1.Refs.length:Int)) then ( ( (getI x1.Refs s5.2).bind fun x2=>(m140 a0 a1 x2).bind fun y3=>bif !y3 then some (LO.norm true) else (getI x1.Refs s5.2).bind fun x3=>(getI a1 x3).bind fun x4=>bif x4.View != x1.View then some (LO.norm true) else (subI x1.Refs 0 s5.2).bind fun ys1=>(getI x1.Refs s5.2).bind fun x5=>(getI a1 x5).bind fun x6=>(m141 a1 ys1 x6.From).bind fun y4=>some (LO.norm y4)).bind (contO (fun s8=>bif s8 then some (LO.ret false) else some (LO.norm s5.1)) (fun i3 s8=>if i3 = 1 then some (LO.norm s5.1) else some (LO.exit i3 s5.1)) (fun s8=>some (LO.ret s5.1)))).bind (contO (fun s9=>some (LO.norm (s9,wi .i64 (s5.2 + 1)))) (fun i4 s9=>some (LO.exit i4 (s9,s5.2))) (fun s9=>some (LO.ret (s9,s5.2)))) else some (LO.exit 0 (s5.1,s5.2))
def m86 (a0:Int) (a1:List TMsg) (a2:Int):Option (Bool):=(m137 a1 a2 5).bind fun y1=>bif !y1 then some false else (getI a1 a2).bind fun x1=>( ( bif decide (x1.View < 1) then some (LO.norm true) else (m138 a0 x1.View).bind fun y2=>bif x1.From != y2 then some (LO.norm true) else some (LO.norm (decide ((x1.Refs.length:Int) < (m139 a0))))).bind (contO (fun s3=>bif s3 then some (LO.ret false) else some (LO.norm false)) (fun i1 s3=>some (LO.exit i1 false)) (fun s3=>some (LO.ret false)))).bind (contO (fun s4=>(loopO (ms86_0 a0 a1 x1) NN (s4,0)).bind (contO (fun _=>none) (fun i5 s10=>if i5 = 0 then some true else none) (fun s10=>some s10.1))) (fun i2 s4=>none) (fun s4=>some s4))
theorem w86 {d:Nat} (hd:6≤d) (a0:Int) (k1:Bool) (a1:List TMsg) (a2:Int):Fit (R NN d 86 [.int .i64 a0,.rsl k1 false (a1.map (Enc.cs k1)),.int .i64 a2] []) (m86 a0 a1 a2) PB:=by
  obtain ⟨d,rfl,g⟩:=up hd
  refine q_in (t86 NN d _ _ _) ?_
  unfold b86 m86
  refine q_c0 (aF3 cv_r (cv_p rfl) (cv_p rfl) fun l0_ l1_ l2_=>w137 (by omega) l0_ a1 a2 5) fun y1 hy1=>q_p fr<|q_i ?_ ?_
  ·exact q_ret (cv_p rfl) rfl
  ·refine q_ix rfl fun x1 hx1=>q_cu (A:=fun (s:Bool)=>[.bool s]) (B:=fun s=>[]) ?_ ?_ ?_ ?_
   ·refine q_cu (A:=fun (s:Bool)=>[.bool s]) (B:=fun s=>[]) ?_ ?_ ?_ ?_
    ·exact q_q fr<|q_p fr<|q_p fr<|q_p fr<|q_j (q_norm 0 rr)<|q_q fr<|q_p fr<|q_p fr<|q_q fr<|q_p fr<|q_p fr<|q_c0 (aF2 (cv_p rfl) (cv_p rfl) fun l0_ l1_=>w138 (by omega) a0 x1.View) fun y2 hy2=>q_p fr<|q_j (q_norm 0 rr)<|q_q fr<|q_p fr<|q_p fr<|q_len<|q_c0t (aF1 (cv_p rfl) fun l0_=>w139 (by omega) a0)<|q_p fr<|q_norm 0 rr
    ·exact fun s3=>q_i (q_lret 0 rr)<|q_norm 0 rr
    ·exact fun i1 s3=>q_exit 0 rr
    ·exact fun s3=>q_lret 0 rr
   ·intro s4
    refine q_lp (A:=fun (s:Bool×Int)=>[.bool s.1,.int .i64 s.2]) (B:=fun s=>[]) 0 rr ?_ ?_ ?_
    ·intro s5
     unfold s86_0 ms86_0
     refine q_q fr<|q_p fr<|q_p fr<|q_len<|q_p fr<|q_i ?_ ?_
     ·refine q_cu (A:=fun (s:Bool)=>[.bool s]) (B:=fun s=>[]) ?_ ?_ ?_ ?_
      ·refine q_cu (A:=fun (s:Bool)=>[.bool s]) (B:=fun s=>[]) ?_ ?_ ?_ ?_
       ·exact q_q fr<|q_p fr<|q_p fr<|q_ix rfl fun x2 hx2=>q_p fr<|q_c0 (aF3 (cv_p rfl) cv_r (cv_p rfl) fun l0_ l1_ l2_=>w140 (by omega) a0 l1_ a1 x2) fun y3 hy3=>q_p fr<|q_j (q_norm 0 rr)<|q_q fr<|q_p fr<|q_p fr<|q_ix rfl fun x3 hx3=>q_p fr<|q_ix rfl fun x4 hx4=>q_p fr<|q_p fr<|q_q fr<|q_p fr<|q_p fr<|q_p fr<|q_j (q_norm 0 rr)<|q_q fr<|q_p fr<|q_p fr<|q_sub rfl (.inr ⟨rfl,rfl⟩) (.inl rfl) fun fl1 ys1 hys1=>q_q fr<|q_p fr<|q_p fr<|q_ix rfl fun x5 hx5=>q_p fr<|q_ix rfl fun x6 hx6=>q_p fr<|q_p fr<|q_c0 (aF3 cv_r cv_r (cv_p rfl) fun l0_ l1_ l2_=>w141 (by omega) l0_ a1 l1_ ys1 x6.From) fun y4 hy4=>q_norm 0 rr
       ·exact fun s8=>q_i (q_lret 0 rr)<|q_norm 0 rr
       ·exact fun i3 s8=>q_n (q_norm 0 rr)<|q_exit 0 rr
       ·exact fun s8=>q_lret 0 rr
      ·exact fun s9=>q_p fr<|q_norm 0 rr
      ·exact fun i4 s9=>q_exit 0 rr
      ·exact fun s9=>q_lret 0 rr
     ·exact q_exit 0 rr
    ·exact fun i5 s10=>q_n (q_ret (cv_p rfl) rfl)<|q_none
    ·exact fun s10=>q_ret (cv_p rfl) rfl
   ·exact fun i2 s4=>q_none
   ·exact fun s4=>q_ret (cv_p rfl) rfl
def m215 (a0:Int) (a1:List TMsg) (a2:Int) (a3:Int):Option (Bool):=bif a2 == 0 then some (a3 == (-1)) else (m86 a0 a1 a3).bind fun y1=>bif y1 then (getI a1 a3).bind fun x1=>some (x1.View == a2) else some false
theorem w215 {d:Nat} (hd:7≤d) (a0:Int) (k1:Bool) (a1:List TMsg) (a2:Int) (a3:Int):Fit (R NN d 215 [.int .i64 a0,.rsl k1 false (a1.map (Enc.cs k1)),.int .i64 a2,.int .i64 a3] []) (m215 a0 a1 a2 a3) PB:=by
  obtain ⟨d,rfl,g⟩:=up hd
  refine q_in (t215 NN d _ _ _ _) ?_
  unfold b215 m215
  exact q_p fr<|q_i (q_p fr<|q_ret (cv_p rfl) rfl)<|q_c0 (aF3 (cv_p rfl) cv_r (cv_p rfl) fun l0_ l1_ l2_=>w86 (by omega) a0 l1_ a1 a3) fun y1 hy1=>q_k (q_ix rfl fun x1 hx1=>q_p fr<|q_p fr<|q_p fr<|q_ret (cv_p rfl) rfl)<|q_ret (cv_p rfl) rfl
def m169 (a0:Int) (a1:List TMsg) (a2:TReplica):Option (Int):=( ( bif !(m148 a0 a2.Id) then some (LO.norm true) else bif !(m126 a2.View 0 20) then some (LO.norm true) else some (LO.norm (!(m126 a2.Done 0 30)))).bind (contO (fun s3=>bif s3 then some (LO.ret 3) else some (LO.norm 0)) (fun i1 s3=>some (LO.exit i1 0)) (fun s3=>some (LO.ret 0)))).bind (contO (fun s4=>( ( bif a2.Start != (-1) then bif a2.View == 0 then some (LO.norm true) else (m215 a0 a1 a2.View a2.Start).bind fun y1=>some (LO.norm (!y1)) else some (LO.norm false)).bind (contO (fun s7=>bif s7 then some (LO.ret 1) else some (LO.norm s4)) (fun i3 s7=>some (LO.exit i3 s4)) (fun s7=>some (LO.ret s4)))).bind (contO (fun s8=>( bif decide (a2.Done > 0) then (m50 a0 a1).bind fun y2=>bif decide (a2.Done > (y2.length:Int)) then some (LO.ret 8) else some (LO.norm s8) else some (LO.norm s8)).bind (contO (fun s10=>some 0) (fun i5 s10=>none) (fun s10=>some s10))) (fun i4 s8=>none) (fun s8=>some s8))) (fun i2 s4=>none) (fun s4=>some s4))
theorem w169 {d:Nat} (hd:8≤d) (a0:Int) (k1:Bool) (a1:List TMsg) (k2:Bool) (a2:TReplica):Fit (R NN d 169 [.int .i64 a0,.rsl k1 false (a1.map (Enc.cs k1)),.rp k2 (Enc.cs k2 a2)] []) (m169 a0 a1 a2) PI:=by
  obtain ⟨d,rfl,g⟩:=up hd
  refine q_in (t169 NN d _ _ _) ?_
  unfold b169 m169
  refine q_cu (A:=fun (s:Int)=>[.int .i64 s]) (B:=fun s=>[]) ?_ ?_ ?_ ?_
  ·refine q_cu (A:=fun (s:Bool)=>[.bool s]) (B:=fun s=>[]) ?_ ?_ ?_ ?_
   ·exact q_q fr<|q_p fr<|q_p fr<|q_c0t (aF2 (cv_p rfl) (cv_p rfl) fun l0_ l1_=>w148 (by omega) a0 a2.Id)<|q_p fr<|q_j (q_norm 0 rr)<|q_q fr<|q_p fr<|q_p fr<|q_c0t (aF3 (cv_p rfl) (cv_p rfl) (cv_p rfl) fun l0_ l1_ l2_=>w126 (by omega) a2.View 0 20)<|q_p fr<|q_j (q_norm 0 rr)<|q_q fr<|q_p fr<|q_p fr<|q_c0t (aF3 (cv_p rfl) (cv_p rfl) (cv_p rfl) fun l0_ l1_ l2_=>w126 (by omega) a2.Done 0 30)<|q_p fr<|q_norm 0 rr
   ·exact fun s3=>q_i (q_lret 0 rr)<|q_norm 0 rr
   ·exact fun i1 s3=>q_exit 0 rr
   ·exact fun s3=>q_lret 0 rr
  ·intro s4
   refine q_cu (A:=fun (s:Int)=>[.int .i64 s]) (B:=fun s=>[]) ?_ ?_ ?_ ?_
   ·refine q_cu (A:=fun (s:Bool)=>[.bool s]) (B:=fun s=>[]) ?_ ?_ ?_ ?_
    ·exact q_q fr<|q_p fr<|q_p fr<|q_p fr<|q_k (q_q fr<|q_p fr<|q_p fr<|q_p fr<|q_j (q_norm 0 rr)<|q_q fr<|q_p fr<|q_p fr<|q_q fr<|q_p fr<|q_p fr<|q_c0 (fun S hS=>argF4 (cv_p rfl) cv_r (cv_p rfl) (cv_p rfl) hS fun l0_ l1_ l2_ l3_=>w215 (by omega) a0 l1_ a1 a2.View a2.Start) fun y1 hy1=>q_p fr<|q_norm 0 rr)<|q_norm 0 rr
    ·exact fun s7=>q_i (q_lret 0 rr)<|q_norm 0 rr
    ·exact fun i3 s7=>q_exit 0 rr
    ·exact fun s7=>q_lret 0 rr
   ·intro s8
    refine q_cu (A:=fun (s:Int)=>[.int .i64 s]) (B:=fun s=>[]) ?_ ?_ ?_ ?_
    ·refine q_q fr<|q_p fr<|q_p fr<|q_p fr<|q_k ?_ ?_
     ·exact q_q fr<|q_p fr<|q_p fr<|q_c0 (aF2 (cv_p rfl) cv_r fun l0_ l1_=>w50 (by omega) a0 l1_ a1) fun y2 hy2=>q_len<|q_p fr<|q_i (q_lret 0 rr)<|q_norm 0 rr
     ·first | refine q_ifF1 ?_ | skip
      exact q_norm 0 rr
    ·exact fun s10=>q_ret (cv_p rfl) rfl
    ·exact fun i5 s10=>q_none
    ·exact fun s10=>q_ret (cv_p rfl) rfl
   ·exact fun i4 s8=>q_none
   ·exact fun s8=>q_ret (cv_p rfl) rfl
  ·exact fun i2 s4=>q_none
  ·exact fun s4=>q_ret (cv_p rfl) rfl
def ms107_0 (a0:TCluster) (s1:Int×Int×Int):Option (LO (Int×Int×Int)):=bif decide (s1.2.2≤(wi .i64 ((wi .i64 (3 * a0.F)) + 1))) then ( (m92 a0.Bad s1.2.2).bind fun y1=>bif y1 then some (LO.norm (s1.1,s1.2.1)) else ( bif decide (s1.2.1 ≥ (a0.Replicas.length:Int)) then some (LO.ret 1) else (getI a0.Replicas s1.2.1).bind fun x1=>bif x1.Id != s1.2.2 then some (LO.ret 1) else some (LO.norm s1.1)).bind (contO (fun s4=>some (LO.norm (s4,wi .i64 (s1.2.1 + 1)))) (fun i1 s4=>if i1 = 1 then some (LO.norm (s4,s1.2.1)) else some (LO.exit i1 (s4,s1.2.1))) (fun s4=>some (LO.ret (s4,s1.2.1))))).bind (contO (fun s5=>some (LO.norm (s5.1,s5.2,wi .i64 (s1.2.2 + 1)))) (fun i2 s5=>some (LO.exit i2 (s5.1,s5.2,s1.2.2))) (fun s5=>some (LO.ret (s5.1,s5.2,s1.2.2)))) else some (LO.exit 0 (s1.1,s1.2.1,s1.2.2))
def ms107_1 (a0:TCluster) (s7:Int×Int):Option (LO (Int×Int)):=bif decide (s7.2 < (a0.Replicas.length:Int)) then (getI a0.Replicas s7.2).bind fun x2=>(m169 a0.F a0.Ledger x2).bind fun y2=>bif y2 != 0 then some (LO.ret (y2,s7.2)) else some (LO.norm (s7.1,wi .i64 (s7.2 + 1))) else some (LO.exit 2 (s7.1,s7.2))
def m107 (a0:TCluster):Option (Int):=(loopO (ms107_0 a0) NN (0,0,1)).bind (contO (fun _=>none) (fun i3 s6=>if i3 = 0 then bif s6.2.1 != (a0.Replicas.length:Int) then some 1 else (loopO (ms107_1 a0) NN (s6.1,0)).bind (contO (fun _=>none) (fun i4 s8=>if i4 = 2 then some 0 else none) (fun s8=>some s8.1)) else none) (fun s6=>some s6.1))
theorem w107 {d:Nat} (hd:9≤d) (k0:Bool) (a0:TCluster):Fit (R NN d 107 [.rp k0 (Enc.cs k0 a0)] []) (m107 a0) PI:=by
  obtain ⟨d,rfl,g⟩:=up hd
  refine q_in (t107 NN d _) ?_
  unfold b107 m107
  refine q_lp (A:=fun (s:Int×Int×Int)=>[.int .i64 s.1,.int .i64 s.2.1,.int .i64 s.2.2]) (B:=fun s=>[]) 0 rr ?_ ?_ ?_
  ·intro s1
   unfold s107_0 ms107_0
   refine q_q fr<|q_p fr<|q_p fr<|q_p fr<|q_p fr<|q_p fr<|q_i ?_ ?_
   ·refine q_cu (A:=fun (s:Int×Int)=>[.int .i64 s.1,.int .i64 s.2]) (B:=fun s=>[]) ?_ ?_ ?_ ?_
    ·refine q_q fr<|q_p fr<|q_p fr<|q_c0 (aF2 cv_r (cv_p rfl) fun l0_ l1_=>w92 (by omega) l0_ a0.Bad s1.2.2) fun y1 hy1=>q_i ?_ ?_
     ·exact q_norm 0 rr
     ·refine q_cu (A:=fun (s:Int)=>[.int .i64 s]) (B:=fun s=>[]) ?_ ?_ ?_ ?_
      ·refine q_q fr<|q_p fr<|q_p fr<|q_len<|q_p fr<|q_j ?_ ?_
       ·first | refine q_ifT1 ?_ | skip
        exact q_lret 0 rr
       ·exact q_q fr<|q_p fr<|q_p fr<|q_ix rfl fun x1 hx1=>q_p fr<|q_p fr<|q_p fr<|q_i (q_lret 0 rr)<|q_norm 0 rr
      ·exact fun s4=>q_p fr<|q_norm 0 rr
      ·exact fun i1 s4=>q_n (q_norm 0 rr)<|q_exit 0 rr
      ·exact fun s4=>q_lret 0 rr
    ·exact fun s5=>q_p fr<|q_norm 0 rr
    ·exact fun i2 s5=>q_exit 0 rr
    ·exact fun s5=>q_lret 0 rr
   ·exact q_exit 0 rr
  ·intro i3 s6
   refine q_n ?_ ?_
   ·refine q_q fr<|q_p fr<|q_p fr<|q_len<|q_p fr<|q_i ?_ ?_
    ·exact q_ret (cv_p rfl) rfl
    ·refine q_lp (A:=fun (s:Int×Int)=>[.int .i64 s.1,.int .i64 s.2]) (B:=fun s=>[]) 0 rr ?_ ?_ ?_
     ·intro s7
      unfold s107_1 ms107_1
      exact q_q fr<|q_p fr<|q_p fr<|q_len<|q_p fr<|q_i (q_q fr<|q_p fr<|q_p fr<|q_q fr<|q_p fr<|q_p fr<|q_q fr<|q_p fr<|q_p fr<|q_ix rfl fun x2 hx2=>q_c0 (aF3 (cv_p rfl) cv_r (cv_rp (cvs_e (l0:=k0) (x:=x2)) (fun _ _ _ h=>Enc.frz k0 x2 _ _ _ h)) fun l0_ l1_ l2_=>w169 (by omega) a0.F l1_ a0.Ledger l2_ x2) fun y2 hy2=>q_p fr<|q_i (q_lret 0 rr)<|q_p fr<|q_norm 0 rr)<|q_exit 0 rr
     ·exact fun i4 s8=>q_n (q_ret (cv_p rfl) rfl)<|q_none
     ·exact fun s8=>q_ret (cv_p rfl) rfl
   ·exact q_none
  ·exact fun s6=>q_ret (cv_p rfl) rfl
def ms49_0 (a0:TCluster) (s1:Int×Int):Option (LO (Int×Int)):=bif decide (s1.2 < (a0.Requests.length:Int)) then (getI a0.Requests s1.2).bind fun x1=>(m75 x1).bind fun y4=>bif y4 != 0 then some (LO.ret (y4,s1.2)) else (getI a0.Requests s1.2).bind fun x2=>(getI a0.Requests s1.2).bind fun x3=>(m76 a0.Requests x2.Client x3.Number).bind fun y5=>bif y5 != s1.2 then some (LO.ret (6,s1.2)) else some (LO.norm (s1.1,wi .i64 (s1.2 + 1))) else some (LO.exit 0 (s1.1,s1.2))
def m49 (a0:TCluster):Option (Int):=(m105 a0.F a0.Ledger).bind fun y1=>bif y1 != 0 then some y1 else bif decide ((a0.Requests.length:Int) > 12) then some 2 else (m106 a0.F a0.Bad).bind fun y2=>bif y2 != 0 then some y2 else (m107 a0).bind fun y3=>bif y3 != 0 then some y3 else (loopO (ms49_0 a0) NN (0,0)).bind (contO (fun _=>none) (fun i1 s2=>if i1 = 0 then some 0 else none) (fun s2=>some s2.1))
theorem w49 {d:Nat} (hd:10≤d) (k0:Bool) (a0:TCluster):Fit (R NN d 49 [.rp k0 (Enc.cs k0 a0)] []) (m49 a0) PI:=by
  obtain ⟨d,rfl,g⟩:=up hd
  refine q_in (t49 NN d _) ?_
  unfold b49 m49
  refine q_q fr<|q_p fr<|q_p fr<|q_q fr<|q_p fr<|q_p fr<|q_c0 (aF2 (cv_p rfl) cv_r fun l0_ l1_=>w105 (by omega) a0.F l1_ a0.Ledger) fun y1 hy1=>q_p fr<|q_i ?_ ?_
  ·exact q_ret (cv_p rfl) rfl
  ·refine q_q fr<|q_p fr<|q_p fr<|q_len<|q_p fr<|q_i ?_ ?_
   ·exact q_ret (cv_p rfl) rfl
   ·refine q_q fr<|q_p fr<|q_p fr<|q_q fr<|q_p fr<|q_p fr<|q_c0 (aF2 (cv_p rfl) cv_r fun l0_ l1_=>w106 (by omega) a0.F l1_ a0.Bad) fun y2 hy2=>q_p fr<|q_i ?_ ?_
    ·exact q_ret (cv_p rfl) rfl
    ·refine q_c0 (aF1 (cv_rp (cvs_e (l0:=k0) (x:=a0)) (fun _ _ _ h=>Enc.frz k0 a0 _ _ _ h)) fun l0_=>w107 (by omega) l0_ a0) fun y3 hy3=>q_p fr<|q_i ?_ ?_
     ·exact q_ret (cv_p rfl) rfl
     ·refine q_lp (A:=fun (s:Int×Int)=>[.int .i64 s.1,.int .i64 s.2]) (B:=fun s=>[]) 0 rr ?_ ?_ ?_
      ·intro s1
       unfold s49_0 ms49_0
       exact q_q fr<|q_p fr<|q_p fr<|q_len<|q_p fr<|q_i (q_q fr<|q_p fr<|q_p fr<|q_ix rfl fun x1 hx1=>q_c0 (aF1 (cv_rp (cvs_e (l0:=k0) (x:=x1)) (fun _ _ _ h=>Enc.frz k0 x1 _ _ _ h)) fun l0_=>w75 (by omega) l0_ x1) fun y4 hy4=>q_p fr<|q_i (q_lret 0 rr)<|q_q fr<|q_p fr<|q_p fr<|q_q fr<|q_p fr<|q_p fr<|q_ix rfl fun x2 hx2=>q_p fr<|q_p fr<|q_q fr<|q_p fr<|q_p fr<|q_ix rfl fun x3 hx3=>q_p fr<|q_p fr<|q_c0 (aF3 cv_r (cv_p rfl) (cv_p rfl) fun l0_ l1_ l2_=>w76 (by omega) l0_ a0.Requests x2.Client x3.Number) fun y5 hy5=>q_p fr<|q_i (q_lret 0 rr)<|q_p fr<|q_norm 0 rr)<|q_exit 0 rr
      ·exact fun i1 s2=>q_n (q_ret (cv_p rfl) rfl)<|q_none
      ·exact fun s2=>q_ret (cv_p rfl) rfl
def ms120_0 (a0:TCluster) (a1:Int) (s1:Int×Int):Option (LO (Int×Int)):=bif decide (s1.2 < (a0.Replicas.length:Int)) then (getI a0.Replicas s1.2).bind fun x1=>bif x1.Id == a1 then some (LO.ret (s1.2,s1.2)) else some (LO.norm (s1.1,wi .i64 (s1.2 + 1))) else some (LO.exit 0 (s1.1,s1.2))
def m120 (a0:TCluster) (a1:Int):Option (Int):=(loopO (ms120_0 a0 a1) NN (0,0)).bind (contO (fun _=>none) (fun i1 s2=>if i1 = 0 then some (-1) else none) (fun s2=>some s2.1))
theorem w120 {d:Nat} (hd:1≤d) (k0:Bool) (a0:TCluster) (a1:Int):Fit (R NN d 120 [.rp k0 (Enc.cs k0 a0),.int .i64 a1] []) (m120 a0 a1) PI:=by
  obtain ⟨d,rfl,g⟩:=up hd
  refine q_in (t120 NN d _ _) ?_
  unfold b120 m120
  refine q_lp (A:=fun (s:Int×Int)=>[.int .i64 s.1,.int .i64 s.2]) (B:=fun s=>[]) 0 rr ?_ ?_ ?_
  ·intro s1
   unfold s120_0 ms120_0
   exact q_q fr<|q_p fr<|q_p fr<|q_len<|q_p fr<|q_i (q_q fr<|q_p fr<|q_p fr<|q_ix rfl fun x1 hx1=>q_p fr<|q_p fr<|q_p fr<|q_i (q_lret 0 rr)<|q_p fr<|q_norm 0 rr)<|q_exit 0 rr
  ·exact fun i1 s2=>q_n (q_ret (cv_p rfl) rfl)<|q_none
  ·exact fun s2=>q_ret (cv_p rfl) rfl
def m67 (a0:TCluster) (a1:Int):Option (Int×Int):=(m49 a0).bind fun y1=>bif y1 != 0 then some (0,y1) else (m120 a0 a1).bind fun y2=>bif decide (y2 < 0) then some (0,4) else some (y2,0)
theorem w67 {d:Nat} (hd:11≤d) (k0:Bool) (a0:TCluster) (a1:Int):Fit (R NN d 67 [.rp k0 (Enc.cs k0 a0),.int .i64 a1] []) (m67 a0 a1) (P0 (fun (t:Int×Int)=>AV.tup [.int .i64 t.1,.int .i64 t.2])):=by
  obtain ⟨d,rfl,g⟩:=up hd
  refine q_in (t67 NN d _ _) ?_
  unfold b67 m67
  exact q_c0 (aF1 (cv_rp (cvs_e (l0:=k0) (x:=a0)) (fun _ _ _ h=>Enc.frz k0 a0 _ _ _ h)) fun l0_=>w49 (by omega) l0_ a0) fun y1 hy1=>q_p fr<|q_i (q_ret (cv_t (cvs_cons (cv_p rfl) (cvs_cons (cv_p rfl) cvs_nil))) rfl)<|q_c0 (aF2 (cv_rp (cvs_e (l0:=k0) (x:=a0)) (fun _ _ _ h=>Enc.frz k0 a0 _ _ _ h)) (cv_p rfl) fun l0_ l1_=>w120 (by omega) l0_ a0 a1) fun y2 hy2=>q_p fr<|q_i (q_ret (cv_t (cvs_cons (cv_p rfl) (cvs_cons (cv_p rfl) cvs_nil))) rfl)<|q_ret (cv_t (cvs_cons (cv_p rfl) (cvs_cons (cv_p rfl) cvs_nil))) rfl
def m74 (a0:Int):TClusterResult:=(⟨a0,(⟨0,[],[],[],[]⟩:TCluster)⟩:TClusterResult)
theorem w74 {d:Nat} (hd:1≤d) (a0:Int):Fit (R NN d 74 [.int .i64 a0] []) (some (m74 a0)) (P0 (fun (t:TClusterResult)=>AV.agg (Enc.cs false t))):=by
  obtain ⟨d,rfl,g⟩:=up hd
  refine q_in (t74 NN d _) ?_
  unfold b74 m74
  exact q_new rfl fun b1=>q_p (fun _=>bd50_0 rfl)<|q_st 0 rfl rfl rfl (by decide) rfl<|q_retm (fun S hS=>hS.lda 0 rfl rfl) (cv_a (cvs_cons (cv_p rfl) (cvs_cons (cv_p rfl) (cvs_cons (cv_r (α:=Int) (l0:=false) (fl:=true) (xs:=[])) (cvs_cons (cv_r (α:=TReplica) (l0:=false) (fl:=true) (xs:=[])) (cvs_cons (cv_r (α:=TMsg) (l0:=false) (fl:=true) (xs:=[])) (cvs_cons (cv_r (α:=TRequest) (l0:=false) (fl:=true) (xs:=[])) cvs_nil))))))) rfl
def m78 (a0:TRequest):Option (TRequest):=(appO 48 [] a0.Ops).bind fun z1=>some (⟨a0.Client,a0.Number,a0.Time,z1⟩:TRequest)
theorem w78 {d:Nat} (hd:1≤d) (k0:Bool) (a0:TRequest):Fit (R NN d 78 [.agg (Enc.cs k0 a0)] []) (m78 a0) (P1 (T:=TRequest) AV.agg):=by
  obtain ⟨d,rfl,g⟩:=up hd
  refine q_in (t78 NN d _) ?_
  unfold b78 m78
  exact q_box (n:=4) rfl rfl (by decide) fun b1=>q_new rfl fun b2=>q_q (fun _=>qs52_0)<|q_p fr<|q_ld 1 rfl rfl<|q_nil (α:=TOp) false<|q_app (ys:=a0.Ops) 0 rfl rfl (fun _ _=>rfl) fun v1 z1 hz1=>q_p fr<|q_sto1 2 rfl (fun S hS=>(HP.cell1 hS 0 rfl)) rfl<|q_lda 2 rfl rfl rfl<|q_st 1 rfl rfl rfl (by decide) rfl<|q_outm (fun S hS=>hS.lda 1 rfl rfl) (tb_of (α:=TRequest) (β:=Int×Int×Int×(List TOp)) (f:=fun x=>(x.Client,x.Number,x.Time,x.Ops)) (x:=(⟨a0.Client,a0.Number,a0.Time,z1⟩:TRequest)) rfl (tb_pair (tb_int (n:=a0.Client)) (tb_pair (tb_int (n:=a0.Number)) (tb_pair (tb_int (n:=a0.Time)) (tb_sl 0 rfl plt159))))) rfl
def m190 (a0:TMsg):Option (TMsg):=(appO 24 [] a0.Certs).bind fun z1=>(appO 8 [] a0.Refs).bind fun z2=>some (⟨a0.Kind,a0.View,a0.From,a0.Slot,a0.Value,z1,z2⟩:TMsg)
theorem w190 {d:Nat} (hd:1≤d) (k0:Bool) (a0:TMsg):Fit (R NN d 190 [.agg (Enc.cs k0 a0)] []) (m190 a0) (P1 (T:=TMsg) AV.agg):=by
  obtain ⟨d,rfl,g⟩:=up hd
  refine q_in (t190 NN d _) ?_
  unfold b190 m190
  exact q_box (n:=7) rfl rfl (by decide) fun b1=>q_new rfl fun b2=>q_q (fun _=>qs69_0)<|q_p fr<|q_ld 1 rfl rfl<|q_nil (α:=TCert) false<|q_app (ys:=a0.Certs) 0 rfl rfl (fun _ _=>rfl) fun v1 z1 hz1=>q_p fr<|q_sto1 2 rfl (fun S hS=>(HP.cell1 hS 0 rfl)) rfl<|q_q (fun _=>qs22_0)<|q_p fr<|q_ld 2 rfl rfl<|q_nil (α:=Int) false<|q_app (ys:=a0.Refs) 0 rfl rfl (fun _ _=>rfl) fun v2 z2 hz2=>q_p fr<|q_sto1 3 rfl (fun S hS=>(HP.cell1 hS 0 rfl)) rfl<|q_lda 3 rfl rfl rfl<|q_st 2 rfl rfl rfl (by decide) rfl<|q_outm (fun S hS=>hS.lda 2 rfl rfl) (tb_of (α:=TMsg) (β:=Int×Int×Int×Int×Int×(List TCert)×(List Int)) (f:=fun x=>(x.Kind,x.View,x.From,x.Slot,x.Value,x.Certs,x.Refs)) (x:=(⟨a0.Kind,a0.View,a0.From,a0.Slot,a0.Value,z1,z2⟩:TMsg)) rfl (tb_pair (tb_int (n:=a0.Kind)) (tb_pair (tb_int (n:=a0.View)) (tb_pair (tb_int (n:=a0.From)) (tb_pair (tb_int (n:=a0.Slot)) (tb_pair (tb_int (n:=a0.Value)) (tb_pair (tb_sl 1 rfl plt174) (tb_sl 0 rfl plt2)))))))) rfl
def ms129_0 (a0:List TMsg) (s1:Int×(List TMsg)):Option (LO (Int×(List TMsg))):=bif decide (s1.1 < (a0.length:Int)) then (getI a0 s1.1).bind fun x1=>(m190 x1).bind fun y1=>(appO 88 s1.2 [y1]).bind fun z1=>some (LO.norm (wi .i64 (s1.1 + 1),z1)) else some (LO.exit 0 (s1.1,s1.2))
def m129 (a0:List TMsg):Option ((List TMsg)):=(loopO (ms129_0 a0) NN (0,[])).bind (contO (fun _=>none) (fun i4 s2=>if i4 = 0 then some s2.2 else none) (fun s2=>some []))
theorem w129 {d:Nat} (hd:2≤d) (k0:Bool) (a0:List TMsg):Fit (R NN d 129 [.rsl k0 false (a0.map (Enc.cs k0))] []) (m129 a0) P1a:=by
  obtain ⟨d,rfl,g⟩:=up hd
  refine q_in (t129 NN d _) ?_
  unfold b129 m129
  refine q_q (fun _=>qs33_0)<|q_nila (α:=TMsg)<|q_loop (I:=(fun (s:Int×(List TMsg)) l L=>∃ (i1:List Nat) (v1:AV),l = [v1,.int .i64 s.1]∧L = [tra i1 v1 (s.2:List TMsg)])) 0 ⟨[],(.rsl false true []),rfl,rfl⟩ ?_ ?_ ?_
  ·rintro s1 _ _ ⟨i1,v1,rfl,rfl⟩
   unfold s129_0 ms129_0
   refine q_len<|q_p fr<|q_i ?_ ?_
   ·refine q_ix rfl fun x1 hx1=>q_p fr<|q_c1 (W:=AV.agg) (mg:=m190 x1) sh_agg (aF1 (cv_a (cvs_e (l0:=k0) (x:=x1))) fun l0_=>w190 (by omega) l0_ x1) fun y1 hy1 i2 cs1=>q_cx (fun S hS=>trx71 (hS.get (k:=0) rfl)) fun hcs_=>?_
    obtain ⟨v2,v3,rfl⟩:=hcs_
    exact q_ap1 rfl (fun _=>bt33) rfl fun z1 hz1 v4 i3=>q_p fr<|q_norm 0 ⟨i3,v4,rfl,rfl⟩
   ·exact q_exit 0 ⟨i1,v1,rfl,rfl⟩
  ·rintro i4 s2 _ _ ⟨i5,v5,rfl,rfl⟩
   exact q_n (q_outa 0 rfl)<|q_none
  ·rintro s2 _ _ ⟨i6,v6,rfl,rfl⟩
   exact q_nila (α:=TMsg)<|q_outa 0 rfl
theorem w129g {d:Nat} (hd:2≤d) (k0:Bool) (a0:List TMsg):Fit (R NN d 129 [.rsl k0 false (a0.map (Enc.cs k0))] []) (m129 a0) (P1 one1):=p1a (w129 hd k0 a0)
def ms77_0 (a0:TCluster) (s1:Int×(List TRequest)):Option (LO (Int×(List TRequest))):=bif decide (s1.1 < (a0.Requests.length:Int)) then (getI a0.Requests s1.1).bind fun x1=>(m78 x1).bind fun y2=>(appO 48 s1.2 [y2]).bind fun z3=>some (LO.norm (wi .i64 (s1.1 + 1),z3)) else some (LO.exit 0 (s1.1,s1.2))
def m77 (a0:TCluster):Option (TCluster):=(appO 8 [] a0.Bad).bind fun z1=>(appO 32 [] a0.Replicas).bind fun z2=>(m129 a0.Ledger).bind fun y1=>(loopO (ms77_0 a0) NN (0,[])).bind (contO (fun _=>none) (fun i5 s2=>if i5 = 0 then some (⟨a0.F,z1,z2,y1,s2.2⟩:TCluster) else none) (fun s2=>some (⟨0,[],[],[],[]⟩:TCluster)))
theorem w77 {d:Nat} (hd:3≤d) (k0:Bool) (a0:TCluster):Fit (R NN d 77 [.agg (Enc.cs k0 a0)] []) (m77 a0) (P1q (T:=TCluster) AV.agg):=by
  obtain ⟨d,rfl,g⟩:=up hd
  refine q_in (t77 NN d _) ?_
  unfold b77 m77
  refine q_box (n:=5) rfl rfl (by decide) fun b1=>q_new rfl fun b2=>q_new rfl fun b3=>q_p fr<|q_ld 2 rfl rfl<|q_q (fun _=>qs22_0)<|q_p fr<|q_ld 2 rfl rfl<|q_q (fun _=>qs32_0)<|q_p fr<|q_ld 2 rfl rfl<|q_p fr<|q_ld 2 rfl rfl ?_
  refine q_nil (α:=Int) false<|q_app (ys:=a0.Bad) 0 rfl rfl (fun _ _=>rfl) fun v1 z1 hz1=>q_nil (α:=TReplica) false<|q_app (ys:=a0.Replicas) 0 rfl rfl (fun _ _=>rfl) fun v2 z2 hz2=>q_c1s (mg:=m129 a0.Ledger) (aF1 cv_r fun l0_=>w129g (by omega) l0_ a0.Ledger) fun y1 hy1 i1 v3=>q_ph (fun S hS=>bd36_0_1_2_3 (by simp only [afill,plc,gd,List.getD_cons_zero,List.getD_cons_succ,List.getElem?_cons_zero,List.getElem?_cons_succ,hS.cell1 2 rfl,hS.cell1 1 rfl,hS.cell1t 0 rfl]; rfl)) ?_
  refine q_st 3 rfl rfl rfl (by decide) rfl<|q_ap (fun S hS=>(and_t rfl (and_t rfl (and_t rfl (and_t rfl (and_t rfl (and_t rfl (and_t rfl rfl))))))))<|q_nila (α:=TRequest)<|q_loop (I:=(fun (s:Int×(List TRequest)) l L=>∃ (i2:List Nat) (v4:AV),l = [.int .i64 s.1]∧L = [tra i2 v4 (s.2:List TRequest),tr i1 [v3] (y1:List TMsg),sl false v2 (z2:List TReplica),sl false v1 (z1:List Int),bx b3 [.int .i64 a0.F,v1,v2,v3,v4],bx b2 [.int .i64 0,.rsl false true [],.rsl false true [],.rsl false true [],.rsl false true []],bx b1 [.int .i64 a0.F,.rsl k0 false (a0.Bad.map (Enc.cs k0)),.rsl k0 false (a0.Replicas.map (Enc.cs k0)),.rsl k0 false (a0.Ledger.map (Enc.cs k0)),.rsl k0 false (a0.Requests.map (Enc.cs k0))]])) 0 ⟨[],(.rsl false true []),rfl,rfl⟩ ?_ ?_ ?_
  ·rintro s1 _ _ ⟨i2,v4,rfl,rfl⟩
   unfold s77_0 ms77_0
   refine q_p fr<|q_ld 6 rfl rfl<|q_len<|q_p fr<|q_i ?_ ?_
   ·refine q_p fr<|q_ld 4 rfl rfl<|q_p fr<|q_ld 6 rfl rfl<|q_ix rfl fun x1 hx1=>q_p fr<|q_c1 (W:=AV.agg) (mg:=m78 x1) sh_agg (aF1 (cv_a (cvs_e (l0:=k0) (x:=x1))) fun l0_=>w78 (by omega) l0_ x1) fun y2 hy2 i3 cs2=>q_cx (fun S hS=>trx54 (hS.get (k:=0) rfl)) fun hcs_=>?_
    obtain ⟨v5,rfl⟩:=hcs_
    exact q_ap1 rfl (fun _=>bt34) rfl fun z3 hz3 v6 i4=>q_p fr<|q_sto1 4 rfl (fun S hS=>(HP.cella hS 0 rfl)) rfl<|q_p fr<|q_norm 0 ⟨i4,v6,rfl,rfl⟩
   ·exact q_exit 0 ⟨i2,v4,rfl,rfl⟩
  ·rintro i5 s2 _ _ ⟨i6,v7,rfl,rfl⟩
   exact q_n (q_lda 4 rfl rfl rfl<|q_st 5 rfl rfl rfl (by decide) rfl<|q_outqm (fun S hS=>q4_tra 0 rfl S hS) (fun S hS=>hS.lda 5 rfl rfl) (tb_of (α:=TCluster) (β:=Int×(List Int)×(List TReplica)×(List TMsg)×(List TRequest)) (f:=fun x=>(x.F,x.Bad,x.Replicas,x.Ledger,x.Requests)) (x:=(⟨a0.F,z1,z2,y1,s2.2⟩:TCluster)) rfl (tb_pair (tb_int (n:=a0.F)) (tb_pair (tb_sl 3 rfl plt2) (tb_pair (tb_sl 2 rfl plt118) (tb_pair (tb_tr (cs:=[v3]) 1 rfl) (tb_tra 0 rfl)))))) rfl)<|q_none
  ·rintro s2 _ _ ⟨i7,v8,rfl,rfl⟩
   exact q_outqm (fun _ _=>q4_nil) (fun S hS=>hS.lda 5 rfl rfl) (tb_of (α:=TCluster) (β:=Int×(List Int)×(List TReplica)×(List TMsg)×(List TRequest)) (f:=fun x=>(x.F,x.Bad,x.Replicas,x.Ledger,x.Requests)) (x:=(⟨0,[],[],[],[]⟩:TCluster)) rfl (tb_pair (tb_int (n:=0)) (tb_pair (tb_nil (α:=Int) (fl:=true)) (tb_pair (tb_nil (α:=TReplica) (fl:=true)) (tb_pair (tb_nil (α:=TMsg) (fl:=true)) (tb_nil (α:=TRequest) (fl:=true))))))) rfl
def m150 (a0:List TMsg) (a1:TMsg):Option ((List TMsg)×Int):=(m103 a0 a1).bind fun y1=>bif decide (y1 ≥ 0) then (m129 a0).bind fun y2=>some (y2,0) else bif decide ((a0.length:Int) ≥ 240) then some ([],2) else (m129 a0).bind fun y3=>(m190 a1).bind fun y4=>(appO 88 y3 [y4]).bind fun z1=>some (z1,0)
theorem w150 {d:Nat} (hd:3≤d) (k0:Bool) (a0:List TMsg) (k1:Bool) (a1:TMsg):Fit (R NN d 150 [.rsl k0 false (a0.map (Enc.cs k0)),.rp k1 (Enc.cs k1 a1)] []) (m150 a0 a1) (P0 (fun (t:(List TMsg)×Int)=>AV.tup [.rsl false false (t.1.map (Enc.cs false)),.int .i64 t.2])):=by
  obtain ⟨d,rfl,g⟩:=up hd
  refine q_in (t150 NN d _ _) ?_
  unfold b150 m150
  refine q_c0 (aF2 cv_r (cv_rp (cvs_e (l0:=k1) (x:=a1)) (fun _ _ _ h=>Enc.frz k1 a1 _ _ _ h)) fun l0_ l1_=>w103 (by omega) l0_ a0 l1_ a1) fun y1 hy1=>q_p fr<|q_i ?_ ?_
  ·exact q_c1a (mg:=m129 a0) (aF1 cv_r fun l0_=>w129 (by omega) l0_ a0) fun y2 hy2 i1 v1=>q_ret (cv_t (cvs_cons (cv_tra 0 rfl) (cvs_cons (cv_p rfl) cvs_nil))) rfl
  ·refine q_len<|q_p fr<|q_i ?_ ?_
   ·exact q_ret (cv_t (cvs_cons (cv_r (α:=TMsg) (l0:=false) (fl:=true) (xs:=[])) (cvs_cons (cv_p rfl) cvs_nil))) rfl
   ·refine q_q fr<|q_p fr<|q_c1a (mg:=m129 a0) (aF1 cv_r fun l0_=>w129 (by omega) l0_ a0) fun y3 hy3 i2 v2=>q_c1 (W:=AV.agg) (mg:=m190 a1) sh_agg (aF1 (cv_a (cvs_e (l0:=k1) (x:=a1))) fun l0_=>w190 (by omega) l0_ a1) fun y4 hy4 i3 cs3=>q_cx (fun S hS=>trx71 (hS.get (k:=0) rfl)) fun hcs_=>?_
    obtain ⟨v3,v4,rfl⟩:=hcs_
    exact q_ap1 rfl (fun _=>bt33) rfl fun z1 hz1 v5 i4=>q_ret (cv_t (cvs_cons (cv_tra 0 rfl) (cvs_cons (cv_p rfl) cvs_nil))) rfl
def m94 (a0:TCluster) (a1:TMsg):Option (TClusterResult):=(m77 a0).bind fun y1=>(m150 a0.Ledger a1).bind fun y2=>bif y2.2 != 0 then some (m74 y2.2) else some (⟨0,(⟨y1.F,y1.Bad,y1.Replicas,y2.1,y1.Requests⟩:TCluster)⟩:TClusterResult)
theorem w94 {d:Nat} (hd:4≤d) (k0:Bool) (a0:TCluster) (k1:Bool) (a1:TMsg):Fit (R NN d 94 [.agg (Enc.cs k0 a0),.agg (Enc.cs k1 a1)] []) (m94 a0 a1) (P0 (fun (t:TClusterResult)=>AV.agg (Enc.cs false t))):=by
  obtain ⟨d,rfl,g⟩:=up hd
  refine q_in (t94 NN d _ _) ?_
  unfold b94 m94
  refine q_box (n:=5) rfl rfl (by decide) fun b1=>q_box (n:=7) rfl rfl (by decide) fun b2=>q_new rfl fun b3=>q_lda 2 rfl rfl rfl<|q_c1q (mg:=m77 a0) (aF1 (cv_a (cvs_e (l0:=k0) (x:=a0))) fun l0_=>w77 (by omega) l0_ a0) fun y1 hy1 i1 cs1 hq_=>q_cx (fun S hS=>trx36 (hS.get (k:=0) rfl)) fun hcs_=>?_
  obtain ⟨v1,v2,v3,v4,rfl⟩:=hcs_
  exact q_xpt (x:=(y1.F,y1.Bad,y1.Replicas,y1.Ledger,y1.Requests)) hq_ rfl (fun _ h=>h) fun i2 i3 i4 i5=>q_new rfl fun b4=>q_st 0 rfl rfl rfl (by decide) rfl<|q_p fr<|q_ld 7 rfl rfl<|q_c0 (aF2 cv_r (cv_b 6 rfl (cvs_cons (cv_p rfl) (cvs_cons (cv_p rfl) (cvs_cons (cv_p rfl) (cvs_cons (cv_p rfl) (cvs_cons (cv_p rfl) (cvs_cons cv_r (cvs_cons cv_r cvs_nil)))))))) fun l0_ l1_=>w150 (by omega) l0_ a0.Ledger l1_ a1) fun y2 hy2=>q_q fr<|q_q fr<|q_p fr<|q_i (q_c0t (aF1 (cv_p rfl) fun l0_=>w74 (by omega) y2.2)<|q_st 5 rfl rfl rfl (by decide) rfl<|q_retm (fun S hS=>hS.lda 5 rfl rfl) (cv_a (cvs_cons (cv_p rfl) (cvs_cons (cv_p rfl) (cvs_cons cv_r (cvs_cons cv_r (cvs_cons cv_r (cvs_cons cv_r cvs_nil))))))) rfl)<|q_p fr<|q_st 0 rfl rfl rfl (by decide) rfl<|q_lda 0 rfl rfl rfl<|q_p (fun _=>bd50_1 rfl)<|q_st 5 rfl rfl rfl (by decide) rfl<|q_retm (fun S hS=>hS.lda 5 rfl rfl) (cv_a (cvs_cons (cv_p rfl) (cvs_cons (cv_p rfl) (cvs_cons (cv_tr 1 rfl) (cvs_cons (cv_tr 2 rfl) (cvs_cons cv_r (cvs_cons (cv_tra 4 rfl) cvs_nil))))))) rfl
def m155 (a0:Int) (a1:Int):Bool:=bif (m126 a0 1 30) then (m126 a1 0 12) else false
theorem w155 {d:Nat} (hd:2≤d) (a0:Int) (a1:Int):Fit (R NN d 155 [.int .i64 a0,.int .i64 a1] []) (some (m155 a0 a1)) PB:=by
  obtain ⟨d,rfl,g⟩:=up hd
  refine q_in (t155 NN d _ _) ?_
  unfold b155 m155
  exact q_c0t (aF3 (cv_p rfl) (cv_p rfl) (cv_p rfl) fun l0_ l1_ l2_=>w126 (by omega) a0 1 30)<|q_gTt (fun h1=>q_c0t (aF3 (cv_p rfl) (cv_p rfl) (cv_p rfl) fun l0_ l1_ l2_=>w126 (by omega) a1 0 12)<|q_ret (cv_p rfl) rfl) fun h1=>q_ret (cv_p rfl) rfl
def m156 (a0:TReplica):Bool:=bif a0.View == 0 then true else a0.Start != (-1)
theorem w156 {d:Nat} (hd:1≤d) (k0:Bool) (a0:TReplica):Fit (R NN d 156 [.rp k0 (Enc.cs k0 a0)] []) (some (m156 a0)) PB:=by
  obtain ⟨d,rfl,g⟩:=up hd
  refine q_in (t156 NN d _) ?_
  unfold b156 m156
  exact q_q fr<|q_p fr<|q_p fr<|q_p fr<|q_gFt (fun h1=>q_ret (cv_p rfl) rfl) fun h1=>q_q fr<|q_p fr<|q_p fr<|q_p fr<|q_ret (cv_p rfl) rfl
def ms158_0 (a0:List TMsg) (a1:TReplica) (a2:Int) (a3:Int) (a4:Int) (s1:Bool×Int):Option (LO (Bool×Int)):=bif decide (s1.2 < (a0.length:Int)) then ( (getI a0 s1.2).bind fun x1=>( bif x1.Kind == a2 then bif x1.From == a1.Id then bif x1.View == a1.View then bif a3 == 0 then bif decide (a4 < 0) then some (LO.norm true) else some (LO.norm (x1.Value == a4)) else bif x1.Slot == a3 then bif decide (a4 < 0) then some (LO.norm true) else some (LO.norm (x1.Value == a4)) else some (LO.norm false) else some (LO.norm false) else some (LO.norm false) else some (LO.norm false)).bind (contO (fun s4=>bif s4 then some (LO.ret true) else some (LO.norm s1.1)) (fun i1 s4=>if i1 = 1 then some (LO.norm s1.1) else some (LO.exit i1 s1.1)) (fun s4=>some (LO.ret s1.1)))).bind (contO (fun s5=>some (LO.norm (s5,wi .i64 (s1.2 + 1)))) (fun i2 s5=>some (LO.exit i2 (s5,s1.2))) (fun s5=>some (LO.ret (s5,s1.2)))) else some (LO.exit 0 (s1.1,s1.2))
def m158 (a0:List TMsg) (a1:TReplica) (a2:Int) (a3:Int) (a4:Int):Option (Bool):=(loopO (ms158_0 a0 a1 a2 a3 a4) NN (false,0)).bind (contO (fun _=>none) (fun i3 s6=>if i3 = 0 then some false else none) (fun s6=>some s6.1))
theorem w158 {d:Nat} (hd:1≤d) (k0:Bool) (a0:List TMsg) (k1:Bool) (a1:TReplica) (a2:Int) (a3:Int) (a4:Int):Fit (R NN d 158 [.rsl k0 false (a0.map (Enc.cs k0)),.rp k1 (Enc.cs k1 a1),.int .i64 a2,.int .i64 a3,.int .i64 a4] []) (m158 a0 a1 a2 a3 a4) PB:=by
  obtain ⟨d,rfl,g⟩:=up hd
  refine q_in (t158 NN d _ _ _ _ _) ?_
  unfold b158 m158
  refine q_lp (A:=fun (s:Bool×Int)=>[.bool s.1,.int .i64 s.2]) (B:=fun s=>[]) 0 rr ?_ ?_ ?_
  ·intro s1
   unfold s158_0 ms158_0
   refine q_len<|q_p fr<|q_i ?_ ?_
   ·refine q_cu (A:=fun (s:Bool)=>[.bool s]) (B:=fun s=>[]) ?_ ?_ ?_ ?_
    ·refine q_ix rfl fun x1 hx1=>q_cu (A:=fun (s:Bool)=>[.bool s]) (B:=fun s=>[]) ?_ ?_ ?_ ?_
     ·exact q_q fr<|q_p fr<|q_p fr<|q_p fr<|q_k (q_q fr<|q_p fr<|q_p fr<|q_q fr<|q_p fr<|q_p fr<|q_p fr<|q_k (q_q fr<|q_p fr<|q_p fr<|q_q fr<|q_p fr<|q_p fr<|q_p fr<|q_k (q_p fr<|q_j (q_p fr<|q_j (q_norm 0 rr)<|q_q fr<|q_p fr<|q_p fr<|q_p fr<|q_norm 0 rr)<|q_q fr<|q_p fr<|q_p fr<|q_p fr<|q_k (q_p fr<|q_j (q_norm 0 rr)<|q_q fr<|q_p fr<|q_p fr<|q_p fr<|q_norm 0 rr)<|q_norm 0 rr)<|q_norm 0 rr)<|q_norm 0 rr)<|q_norm 0 rr
     ·exact fun s4=>q_i (q_lret 0 rr)<|q_norm 0 rr
     ·exact fun i1 s4=>q_n (q_norm 0 rr)<|q_exit 0 rr
     ·exact fun s4=>q_lret 0 rr
    ·exact fun s5=>q_p fr<|q_norm 0 rr
    ·exact fun i2 s5=>q_exit 0 rr
    ·exact fun s5=>q_lret 0 rr
   ·exact q_exit 0 rr
  ·exact fun i3 s6=>q_n (q_ret (cv_p rfl) rfl)<|q_none
  ·exact fun s6=>q_ret (cv_p rfl) rfl
def m100 (a0:Int) (a1:List TMsg) (a2:TReplica) (a3:Int) (a4:Int):Option (Int):=bif !(m155 a3 a4) then some 3 else bif !(m156 a2) then some 8 else (m157 a0 a1 2 (⟨a3,a2.View,a4⟩:TCert)).bind fun y1=>bif !y1 then some 10 else (m158 a1 a2 3 a3 (-1)).bind fun y2=>bif y2 then some 6 else some 0
theorem w100 {d:Nat} (hd:5≤d) (a0:Int) (k1:Bool) (a1:List TMsg) (k2:Bool) (a2:TReplica) (a3:Int) (a4:Int):Fit (R NN d 100 [.int .i64 a0,.rsl k1 false (a1.map (Enc.cs k1)),.rp k2 (Enc.cs k2 a2),.int .i64 a3,.int .i64 a4] []) (m100 a0 a1 a2 a3 a4) PI:=by
  obtain ⟨d,rfl,g⟩:=up hd
  refine q_in (t100 NN d _ _ _ _ _) ?_
  unfold b100 m100
  exact q_c0t (aF2 (cv_p rfl) (cv_p rfl) fun l0_ l1_=>w155 (by omega) a3 a4)<|q_p fr<|q_i (q_ret (cv_p rfl) rfl)<|q_c0t (aF1 (cv_rp (cvs_e (l0:=k2) (x:=a2)) (fun _ _ _ h=>Enc.frz k2 a2 _ _ _ h)) fun l0_=>w156 (by omega) l0_ a2)<|q_p fr<|q_i (q_ret (cv_p rfl) rfl)<|q_q fr<|q_p fr<|q_p fr<|q_p (fun _=>bd174_0_1_2 rfl)<|q_c0 (fun S hS=>argF4 (cv_p rfl) cv_r (cv_p rfl) (cv_a (cvs_cons (cv_p rfl) (cvs_cons (cv_p rfl) (cvs_cons (cv_p rfl) cvs_nil)))) hS fun l0_ l1_ l2_ l3_=>w157 (by omega) a0 l1_ a1 2 l3_ (⟨a3,a2.View,a4⟩:TCert)) fun y1 hy1=>q_p fr<|q_i (q_ret (cv_p rfl) rfl)<|q_c0 (fun S hS=>argF5 cv_r (cv_rp (cvs_e (l0:=k2) (x:=a2)) (fun _ _ _ h=>Enc.frz k2 a2 _ _ _ h)) (cv_p rfl) (cv_p rfl) (cv_p rfl) hS fun l0_ l1_ l2_ l3_ l4_=>w158 (by omega) l0_ a1 l1_ a2 3 a3 (-1)) fun y2 hy2=>q_i (q_ret (cv_p rfl) rfl)<|q_ret (cv_p rfl) rfl
def m41 (a0:TCluster) (a1:Int) (a2:Int) (a3:Int):Option (TClusterResult):=(m67 a0 a1).bind fun y1=>bif y1.2 != 0 then some (m74 y1.2) else (getI a0.Replicas y1.1).bind fun x1=>(m100 a0.F a0.Ledger x1 a2 a3).bind fun y2=>bif y2 != 0 then some (⟨(m74 y2).Code,(m74 y2).Cluster⟩:TClusterResult) else (m94 a0 (⟨3,x1.View,a1,a2,a3,[],[]⟩:TMsg)).bind fun y3=>some y3
theorem w41 {d:Nat} (hd:12≤d) (k0:Bool) (a0:TCluster) (a1:Int) (a2:Int) (a3:Int):Fit (R NN d 41 [.agg (Enc.cs k0 a0),.int .i64 a1,.int .i64 a2,.int .i64 a3] []) (m41 a0 a1 a2 a3) (P0 (fun (t:TClusterResult)=>AV.agg (Enc.cs false t))):=by
  obtain ⟨d,rfl,g⟩:=up hd
  refine q_in (t41 NN d _ _ _ _) ?_
  unfold b41 m41
  exact q_box (n:=5) rfl rfl (by decide) fun b1=>q_new rfl fun b2=>q_c0 (aF2 (cv_b 1 rfl (cvs_cons (cv_p rfl) (cvs_cons cv_r (cvs_cons cv_r (cvs_cons cv_r (cvs_cons cv_r cvs_nil)))))) (cv_p rfl) fun l0_ l1_=>w67 (by omega) l0_ a0 a1) fun y1 hy1=>q_q fr<|q_q fr<|q_p fr<|q_i (q_c0t (aF1 (cv_p rfl) fun l0_=>w74 (by omega) y1.2)<|q_st 0 rfl rfl rfl (by decide) rfl<|q_retm (fun S hS=>hS.lda 0 rfl rfl) (cv_a (cvs_cons (cv_p rfl) (cvs_cons (cv_p rfl) (cvs_cons cv_r (cvs_cons cv_r (cvs_cons cv_r (cvs_cons cv_r cvs_nil))))))) rfl)<|q_p fr<|q_ld 1 rfl rfl<|q_ix rfl fun x1 hx1=>q_p fr<|q_ld 1 rfl rfl<|q_p fr<|q_ld 1 rfl rfl<|q_c0 (fun S hS=>argF5 (cv_p rfl) cv_r (cv_rp (cvs_e (l0:=k0) (x:=x1)) (fun _ _ _ h=>Enc.frz k0 x1 _ _ _ h)) (cv_p rfl) (cv_p rfl) hS fun l0_ l1_ l2_ l3_ l4_=>w100 (by omega) a0.F l1_ a0.Ledger l2_ x1 a2 a3) fun y2 hy2=>q_p fr<|q_i (q_c0t (aF1 (cv_p rfl) fun l0_=>w74 (by omega) y2)<|q_st 0 rfl rfl rfl (by decide) rfl<|q_retm (fun S hS=>hS.lda 0 rfl rfl) (cv_a (cvs_cons (cv_p rfl) (cvs_cons (cv_p rfl) (cvs_cons cv_r (cvs_cons cv_r (cvs_cons cv_r (cvs_cons cv_r cvs_nil))))))) rfl)<|q_lda 1 rfl rfl rfl<|q_q fr<|q_p fr<|q_p fr<|q_p (fun _=>bd71_0_1_2_3_4 rfl)<|q_c0 (aF2 (cv_a (cvs_e (l0:=k0) (x:=a0))) (cv_a (cvs_cons (cv_p rfl) (cvs_cons (cv_p rfl) (cvs_cons (cv_p rfl) (cvs_cons (cv_p rfl) (cvs_cons (cv_p rfl) (cvs_cons (cv_r (α:=TCert) (l0:=false) (fl:=true) (xs:=[])) (cvs_cons (cv_r (α:=Int) (l0:=false) (fl:=true) (xs:=[])) cvs_nil)))))))) fun l0_ l1_=>w94 (by omega) l0_ a0 l1_ (⟨3,x1.View,a1,a2,a3,[],[]⟩:TMsg)) fun y3 hy3=>q_st 0 rfl rfl rfl (by decide) rfl<|q_retm (fun S hS=>hS.lda 0 rfl rfl) (cv_a (cvs_e (l0:=false) (x:=y3))) rfl
def ms118_0 (a0:List Int) (a1:Int) (s1:Int×Int):Option (LO (Int×Int)):=bif decide (s1.2 < (a0.length:Int)) then (getI a0 s1.2).bind fun x1=>bif a1 == x1 then some (LO.ret (s1.2,s1.2)) else some (LO.norm (s1.1,wi .i64 (s1.2 + 1))) else some (LO.exit 0 (s1.1,s1.2))
def m118 (a0:List Int) (a1:Int):Option (Int):=(loopO (ms118_0 a0 a1) NN (0,0)).bind (contO (fun _=>none) (fun i1 s2=>if i1 = 0 then some (-1) else none) (fun s2=>some s2.1))
theorem w118 {d:Nat} (hd:1≤d) (k0:Bool) (a0:List Int) (a1:Int):Fit (R NN d 118 [.rsl k0 false (a0.map (Enc.cs k0)),.int .i64 a1] []) (m118 a0 a1) PI:=by
  obtain ⟨d,rfl,g⟩:=up hd
  refine q_in (t118 NN d _ _) ?_
  unfold b118 m118
  refine q_len<|q_lp (A:=fun (s:Int×Int)=>[.int .i64 s.1,.int .i64 s.2]) (B:=fun s=>[]) 0 rr ?_ ?_ ?_
  ·intro s1
   unfold s118_0 ms118_0
   exact q_p fr<|q_i (q_ix rfl fun x1 hx1=>q_p fr<|q_p fr<|q_i (q_lret 0 rr)<|q_p fr<|q_norm 0 rr)<|q_exit 0 rr
  ·exact fun i1 s2=>q_n (q_ret (cv_p rfl) rfl)<|q_none
  ·exact fun s2=>q_ret (cv_p rfl) rfl
end
end Go.Proofs.YtlgfhcillmbcgaaGreatDoor
