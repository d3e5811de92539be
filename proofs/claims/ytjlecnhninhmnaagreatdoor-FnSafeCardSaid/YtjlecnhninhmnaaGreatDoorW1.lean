/- Plain functions, and that the evaluator computes them. -/
import Derived.Test.YtjlecnhninhmnaaGreatDoorT
import Derived.Test.YtjlecnhninhmnaaGreatDoorRh6
import Derived.Test.YtjlecnhninhmnaaGreatDoorRh10
import Derived.Test.YtjlecnhninhmnaaGreatDoorRh12
import Derived.Test.YtjlecnhninhmnaaGreatDoorRh13
import Derived.Test.YtjlecnhninhmnaaGreatDoorRh14
import Derived.Test.YtjlecnhninhmnaaGreatDoorRh16
namespace Go.Proofs.YtjlecnhninhmnaaGreatDoor
open Go Go.Rf
set_option linter.unusedVariables false
set_option linter.unusedSimpArgs false
noncomputable section
structure Af where
  Id:Int
  View:Int
  Start:Int
  Done:Int
  deriving DecidableEq
instance:Enc Af:=(Enc.of fun x:Af=>(x.Id,x.View,x.Start,x.Done)).copy (fun l x=>[iW x.Id,iW x.View,iW x.Start,iW x.Done]) (fun _ _=>rfl) 4 0 rfl rfl
instance:Tr Af:=Tr.of (fun x:Af=>(x.Id,x.View,x.Start,x.Done)) (fun _ _=>rfl) rfl rfl
structure AE where
  Slot:Int
  View:Int
  Value:Int
  deriving DecidableEq
instance:Enc AE:=(Enc.of fun x:AE=>(x.Slot,x.View,x.Value)).copy (fun l x=>[iW x.Slot,iW x.View,iW x.Value]) (fun _ _=>rfl) 3 0 rfl rfl
instance:Tr AE:=Tr.of (fun x:AE=>(x.Slot,x.View,x.Value)) (fun _ _=>rfl) rfl rfl
structure Ah where
  Kind:Int
  View:Int
  From:Int
  Slot:Int
  Value:Int
  Certs:List AE
  Refs:List Int
  deriving DecidableEq
instance:Enc Ah:=(Enc.of fun x:Ah=>(x.Kind,x.View,x.From,x.Slot,x.Value,x.Certs,x.Refs)).copy (fun l x=>[iW x.Kind,iW x.View,iW x.From,iW x.Slot,iW x.Value,.rsl l false (x.Certs.map (Enc.cs l)),.rsl l false (x.Refs.map (Enc.cs l))]) (fun _ _=>rfl) 7 1 rfl rfl
instance:Tr Ah:=Tr.of (fun x:Ah=>(x.Kind,x.View,x.From,x.Slot,x.Value,x.Certs,x.Refs)) (fun _ _=>rfl) rfl rfl
structure TOp where
  Kind:Int
  Path:Str
  Data:Int
  Version:Int
  Seq:Bool
  Own:Bool
  deriving DecidableEq
instance:Enc TOp:=(Enc.of fun x:TOp=>(x.Kind,x.Path,x.Data,x.Version,x.Seq,x.Own)).copy (fun l x=>[iW x.Kind,Cb x.Path,iW x.Data,iW x.Version,.bool x.Seq,.bool x.Own]) (fun _ _=>rfl) 6 0 rfl rfl
instance:Tr TOp:=Tr.of (fun x:TOp=>(x.Kind,x.Path,x.Data,x.Version,x.Seq,x.Own)) (fun _ _=>rfl) rfl rfl
structure Ag where
  Client:Int
  Number:Int
  Time:Int
  Ops:List TOp
  deriving DecidableEq
instance:Enc Ag:=(Enc.of fun x:Ag=>(x.Client,x.Number,x.Time,x.Ops)).copy (fun l x=>[iW x.Client,iW x.Number,iW x.Time,.rsl l false (x.Ops.map (Enc.cs l))]) (fun _ _=>rfl) 4 1 rfl rfl
instance:Tr Ag:=Tr.of (fun x:Ag=>(x.Client,x.Number,x.Time,x.Ops)) (fun _ _=>rfl) rfl rfl
structure Aa where
  F:Int
  Bad:List Int
  Replicas:List Af
  Ledger:List Ah
  Requests:List Ag
  deriving DecidableEq
instance:Enc Aa:=(Enc.of fun x:Aa=>(x.F,x.Bad,x.Replicas,x.Ledger,x.Requests)).copy (fun l x=>[iW x.F,.rsl l false (x.Bad.map (Enc.cs l)),.rsl l false (x.Replicas.map (Enc.cs l)),.rsl l false (x.Ledger.map (Enc.cs l)),.rsl l false (x.Requests.map (Enc.cs l))]) (fun _ _=>rfl) 5 2 rfl rfl
instance:Tr Aa:=Tr.of (fun x:Aa=>(x.F,x.Bad,x.Replicas,x.Ledger,x.Requests)) (fun _ _=>rfl) rfl rfl
structure Ac where
  Code:Int
  Cluster:Aa
  deriving DecidableEq
instance:Enc Ac:=(Enc.of fun x:Ac=>(x.Code,x.Cluster)).copy (fun l x=>[iW x.Code,iW x.Cluster.F,.rsl l false (x.Cluster.Bad.map (Enc.cs l)),.rsl l false (x.Cluster.Replicas.map (Enc.cs l)),.rsl l false (x.Cluster.Ledger.map (Enc.cs l)),.rsl l false (x.Cluster.Requests.map (Enc.cs l))]) (fun _ _=>rfl) 6 2 rfl rfl
instance:Tr Ac:=Tr.of (fun x:Ac=>(x.Code,x.Cluster)) (fun _ _=>rfl) rfl rfl
structure Bz where
  Code:Int
  Msg:Ah
  deriving DecidableEq
instance:Enc Bz:=(Enc.of fun x:Bz=>(x.Code,x.Msg)).copy (fun l x=>[iW x.Code,iW x.Msg.Kind,iW x.Msg.View,iW x.Msg.From,iW x.Msg.Slot,iW x.Msg.Value,.rsl l false (x.Msg.Certs.map (Enc.cs l)),.rsl l false (x.Msg.Refs.map (Enc.cs l))]) (fun _ _=>rfl) 8 1 rfl rfl
instance:Tr Bz:=Tr.of (fun x:Bz=>(x.Code,x.Msg)) (fun _ _=>rfl) rfl rfl
theorem K0 {x0 r:AV} (hr:(CJ (plc [(0,1),(1,7)]) [iW 0,iW 0,iW 0,iW 0,iW 0,iW 0,.rsl false true [],.rsl false true []] [(0,x0)]).map AV.agg = some r):AO Tryz.prog 105 [(0,x0)] = some r:=Eq.trans (by kernel_rfl) hr
theorem Td {x1 r:AV} (hr:(CJ (plc [(0,1),(1,7)]) [iW 0,iW 0,iW 0,iW 0,iW 0,iW 0,.rsl false true [],.rsl false true []] [(1,x1)]).map AV.agg = some r):AO Tryz.prog 105 [(1,x1)] = some r:=Eq.trans (by kernel_rfl) hr
theorem Yc {x0 x1 r:AV} (hr:(CJ (plc [(0,1),(1,1),(2,1),(3,1),(4,1)]) [iW 0,.rsl false true [],.rsl false true [],.rsl false true [],.rsl false true []] [(0,x0),(1,x1)]).map AV.agg = some r):AO Tryz.prog 29 [(0,x0),(1,x1)] = some r:=Eq.trans (by kernel_rfl) hr
theorem O1 {x0 x1 x2 x3 r:AV} (hr:(CJ (plc [(0,1),(1,1),(2,1),(3,1),(4,1)]) [iW 0,.rsl false true [],.rsl false true [],.rsl false true [],.rsl false true []] [(0,x0),(1,x1),(2,x2),(3,x3)]).map AV.agg = some r):AO Tryz.prog 29 [(0,x0),(1,x1),(2,x2),(3,x3)] = some r:=Eq.trans (by kernel_rfl) hr
theorem bd35 { r:AV} (hr:(CJ (plc [(0,1),(1,5)]) [iW 0,iW 0,.rsl false true [],.rsl false true [],.rsl false true [],.rsl false true []] []).map AV.agg = some r):AO Tryz.prog 35 [] = some r:=Eq.trans (by kernel_rfl) hr
theorem CQ {x0 r:AV} (hr:(CJ (plc [(0,1),(1,5)]) [iW 0,iW 0,.rsl false true [],.rsl false true [],.rsl false true [],.rsl false true []] [(0,x0)]).map AV.agg = some r):AO Tryz.prog 35 [(0,x0)] = some r:=Eq.trans (by kernel_rfl) hr
theorem FL {x1 r:AV} (hr:(CJ (plc [(0,1),(1,5)]) [iW 0,iW 0,.rsl false true [],.rsl false true [],.rsl false true [],.rsl false true []] [(1,x1)]).map AV.agg = some r):AO Tryz.prog 35 [(1,x1)] = some r:=Eq.trans (by kernel_rfl) hr
theorem Yb {x0 x1 r:AV} (hr:(CJ (plc [(0,1),(1,1),(2,1),(3,1),(4,1),(5,1)]) [iW 0,.str ⟨#[]⟩,iW 0,iW 0,.bool false,.bool false] [(0,x0),(1,x1)]).map AV.agg = some r):AO Tryz.prog 38 [(0,x0),(1,x1)] = some r:=Eq.trans (by kernel_rfl) hr
theorem Ry {x0 x1 x2 r:AV} (hr:(CJ (plc [(0,1),(1,1),(2,1),(3,1),(4,1),(5,1)]) [iW 0,.str ⟨#[]⟩,iW 0,iW 0,.bool false,.bool false] [(0,x0),(1,x1),(2,x2)]).map AV.agg = some r):AO Tryz.prog 38 [(0,x0),(1,x1),(2,x2)] = some r:=Eq.trans (by kernel_rfl) hr
theorem O0 {x0 x1 x2 x3 r:AV} (hr:(CJ (plc [(0,1),(1,1),(2,1),(3,1),(4,1),(5,1)]) [iW 0,.str ⟨#[]⟩,iW 0,iW 0,.bool false,.bool false] [(0,x0),(1,x1),(2,x2),(3,x3)]).map AV.agg = some r):AO Tryz.prog 38 [(0,x0),(1,x1),(2,x2),(3,x3)] = some r:=Eq.trans (by kernel_rfl) hr
theorem M4 {x0 x1 x2 x4 x5 r:AV} (hr:(CJ (plc [(0,1),(1,1),(2,1),(3,1),(4,1),(5,1)]) [iW 0,.str ⟨#[]⟩,iW 0,iW 0,.bool false,.bool false] [(0,x0),(1,x1),(2,x2),(4,x4),(5,x5)]).map AV.agg = some r):AO Tryz.prog 38 [(0,x0),(1,x1),(2,x2),(4,x4),(5,x5)] = some r:=Eq.trans (by kernel_rfl) hr
theorem fX {x0 r:AV} (hr:(CJ (plc [(0,1),(1,1),(2,1),(3,1),(4,1),(5,1)]) [iW 0,.str ⟨#[]⟩,iW 0,iW 0,.bool false,.bool false] [(0,x0)]).map AV.agg = some r):AO Tryz.prog 38 [(0,x0)] = some r:=Eq.trans (by kernel_rfl) hr
theorem Oz {x0 x1 x2 x3 r:AV} (hr:(CJ (plc [(0,1),(1,1),(2,1),(3,1)]) [iW 0,iW 0,iW 0,.rsl false true []] [(0,x0),(1,x1),(2,x2),(3,x3)]).map AV.agg = some r):AO Tryz.prog 42 [(0,x0),(1,x1),(2,x2),(3,x3)] = some r:=Eq.trans (by kernel_rfl) hr
theorem bd46 { r:AV} (hr:(CJ (plc [(0,1),(1,1),(2,1),(3,1),(4,1),(5,1),(6,1)]) [iW 0,iW 0,iW 0,iW 0,iW 0,.rsl false true [],.rsl false true []] []).map AV.agg = some r):AO Tryz.prog 46 [] = some r:=Eq.trans (by kernel_rfl) hr
theorem Rx {x0 x1 x2 r:AV} (hr:(CJ (plc [(0,1),(1,1),(2,1),(3,1),(4,1),(5,1),(6,1)]) [iW 0,iW 0,iW 0,iW 0,iW 0,.rsl false true [],.rsl false true []] [(0,x0),(1,x1),(2,x2)]).map AV.agg = some r):AO Tryz.prog 46 [(0,x0),(1,x1),(2,x2)] = some r:=Eq.trans (by kernel_rfl) hr
theorem Fz {x0 x1 x2 x3 x4 r:AV} (hr:(CJ (plc [(0,1),(1,1),(2,1),(3,1),(4,1),(5,1),(6,1)]) [iW 0,iW 0,iW 0,iW 0,iW 0,.rsl false true [],.rsl false true []] [(0,x0),(1,x1),(2,x2),(3,x3),(4,x4)]).map AV.agg = some r):AO Tryz.prog 46 [(0,x0),(1,x1),(2,x2),(3,x3),(4,x4)] = some r:=Eq.trans (by kernel_rfl) hr
theorem Oy {x0 x1 x2 x5 r:AV} (hr:(CJ (plc [(0,1),(1,1),(2,1),(3,1),(4,1),(5,1),(6,1)]) [iW 0,iW 0,iW 0,iW 0,iW 0,.rsl false true [],.rsl false true []] [(0,x0),(1,x1),(2,x2),(5,x5)]).map AV.agg = some r):AO Tryz.prog 46 [(0,x0),(1,x1),(2,x2),(5,x5)] = some r:=Eq.trans (by kernel_rfl) hr
theorem Ox {x0 x1 x2 x6 r:AV} (hr:(CJ (plc [(0,1),(1,1),(2,1),(3,1),(4,1),(5,1),(6,1)]) [iW 0,iW 0,iW 0,iW 0,iW 0,.rsl false true [],.rsl false true []] [(0,x0),(1,x1),(2,x2),(6,x6)]).map AV.agg = some r):AO Tryz.prog 46 [(0,x0),(1,x1),(2,x2),(6,x6)] = some r:=Eq.trans (by kernel_rfl) hr
theorem bd50 { r:AV} (hr:(CJ (plc [(0,1),(1,1),(2,1)]) [iW 0,iW 0,iW 0] []).map AV.agg = some r):AO Tryz.prog 50 [] = some r:=Eq.trans (by kernel_rfl) hr
theorem GA {x0 x1 x2 r:AV} (hr:(CJ (plc [(0,1),(1,1),(2,1)]) [iW 0,iW 0,iW 0] [(0,x0),(1,x1),(2,x2)]).map AV.agg = some r):AO Tryz.prog 50 [(0,x0),(1,x1),(2,x2)] = some r:=Eq.trans (by kernel_rfl) hr
theorem Ya {x0 x2 r:AV} (hr:(CJ (plc [(0,1),(1,1),(2,1),(3,1)]) [iW 0,iW 0,iW 0,iW 0] [(0,x0),(2,x2)]).map AV.agg = some r):AO Tryz.prog 68 [(0,x0),(2,x2)] = some r:=Eq.trans (by kernel_rfl) hr
theorem EM {x0:Int} {S:St}:AL (Aw Tryz.prog 24 1 [(0,iW x0)] S) S = some (.rsl false true [[iW x0]],S):=by kernel_rfl
theorem RO {S:St}:AL (Aw Tryz.prog 168 0 [] S) S = some (.rsl false true [],S):=by kernel_rfl
theorem RN {x0:Str} {S:St}:AL (Aw Tryz.prog 168 1 [(0,Cb x0)] S) S = some (.rsl false true [[Cb x0]],S):=by kernel_rfl
theorem Em {S:St}:AL (Aw Tryz.prog 24 0 [] S) S = some (.rsl false true [],S):=by kernel_rfl
theorem VU {S:St}:AL (Aw Tryz.prog 25 0 [] S) S = some (.rsl false true [],S):=by kernel_rfl
theorem VT {S:St}:AL (Aw Tryz.prog 26 0 [] S) S = some (.rsl false true [],S):=by kernel_rfl
theorem VS {S:St}:AL (Aw Tryz.prog 39 0 [] S) S = some (.rsl false true [],S):=by kernel_rfl
theorem Q9 {S:St}:AL (Aw Tryz.prog 44 0 [] S) S = some (.rsl false true [],S):=by kernel_rfl
theorem fU {x0 r:AV} {S:St} (hr:(DD 4 0 [(0,x0)]).map (fun es=>mkS 4 es S) = some (r,S)):Aw Tryz.prog 25 1 [(0,x0)] S = some (r,S):=Eq.trans (by kernel_rfl) hr
theorem fS {x0 r:AV} {S:St} (hr:(DD 7 0 [(0,x0)]).map (fun es=>mkS 7 es S) = some (r,S)):Aw Tryz.prog 26 1 [(0,x0)] S = some (r,S):=Eq.trans (by kernel_rfl) hr
theorem fR {x0 r:AV} {S:St} (hr:(DD 4 0 [(0,x0)]).map (fun es=>mkS 4 es S) = some (r,S)):Aw Tryz.prog 27 1 [(0,x0)] S = some (r,S):=Eq.trans (by kernel_rfl) hr
theorem fQ {x0 r:AV} {S:St} (hr:(DD 6 0 [(0,x0)]).map (fun es=>mkS 6 es S) = some (r,S)):Aw Tryz.prog 39 1 [(0,x0)] S = some (r,S):=Eq.trans (by kernel_rfl) hr
theorem fP {x0 x1 x2 x3 x4 r:AV} {S:St} (hr:(DD 6 0 [(0,x0),(1,x1),(2,x2),(3,x3),(4,x4)]).map (fun es=>mkS 6 es S) = some (r,S)):Aw Tryz.prog 39 5 [(0,x0),(1,x1),(2,x2),(3,x3),(4,x4)] S = some (r,S):=Eq.trans (by kernel_rfl) hr
theorem XZ {x0 r:AV} {S:St} (hr:(DD 3 0 [(0,x0)]).map (fun es=>mkS 3 es S) = some (r,S)):Aw Tryz.prog 44 1 [(0,x0)] S = some (r,S):=Eq.trans (by kernel_rfl) hr
theorem bt26 {a:AV} {S:St}:Aw Tryz.prog 26 1 [(0,a)] S = (DD 7 0 [(0,a)]).map fun es=>mkS 7 es S:=by kernel_rfl
theorem bt27 {a:AV} {S:St}:Aw Tryz.prog 27 1 [(0,a)] S = (DD 4 0 [(0,a)]).map fun es=>mkS 4 es S:=by kernel_rfl
theorem AP (run:FuncId→List AV→St→Option (AV×St)) (cap args:List AV) (S:St):AK (cfg NN) run 100 (.fn 142 cap) args S = BD run 142 (args++cap) S:=by kernel_rfl
theorem PU (run:FuncId→List AV→St→Option (AV×St)) (cap args:List AV) (S:St):AK (cfg NN) run 172 (.fn 130 cap) args S = BD run 130 (args++cap) S:=by kernel_rfl
theorem U5 (run:FuncId→List AV→St→Option (AV×St)) (cap args:List AV) (S:St):AK (cfg NN) run 103 (.fn 104 cap) args S = BD run 104 (args++cap) S:=by kernel_rfl
theorem U4 (run:FuncId→List AV→St→Option (AV×St)) (cap args:List AV) (S:St):AK (cfg NN) run 105 (.fn 137 cap) args S = BD run 137 (args++cap) S:=by kernel_rfl
theorem XM (run:FuncId→List AV→St→Option (AV×St)) (cap args:List AV) (S:St):AK (cfg NN) run 105 (.fn 61 cap) args S = BD run 61 (args++cap) S:=by kernel_rfl
theorem U3 (run:FuncId→List AV→St→Option (AV×St)) (cap args:List AV) (S:St):AK (cfg NN) run 146 (.fn 102 cap) args S = BD run 102 (args++cap) S:=by kernel_rfl
theorem U2 (run:FuncId→List AV→St→Option (AV×St)) (cap args:List AV) (S:St):AK (cfg NN) run 172 (.fn 171 cap) args S = BD run 171 (args++cap) S:=by kernel_rfl
theorem U1 (run:FuncId→List AV→St→Option (AV×St)) (cap args:List AV) (S:St):AK (cfg NN) run 175 (.fn 139 cap) args S = BD run 139 (args++cap) S:=by kernel_rfl
theorem U0 (run:FuncId→List AV→St→Option (AV×St)) (cap args:List AV) (S:St):AK (cfg NN) run 175 (.fn 140 cap) args S = BD run 140 (args++cap) S:=by kernel_rfl
theorem ZB (run:FuncId→List AV→St→Option (AV×St)) (cap args:List AV) (S:St):AK (cfg NN) run 57 (.fn 58 cap) args S = BD run 58 (args++cap) S:=by kernel_rfl
theorem Rn (run:FuncId→List AV→St→Option (AV×St)) (cap args:List AV) (S:St):AK (cfg NN) run 64 (.fn 172 cap) args S = BD run 172 (args++cap) S:=by kernel_rfl
theorem XL (run:FuncId→List AV→St→Option (AV×St)) (cap args:List AV) (S:St):AK (cfg NN) run 64 (.fn 135 cap) args S = BD run 135 (args++cap) S:=by kernel_rfl
theorem XK (run:FuncId→List AV→St→Option (AV×St)) (cap args:List AV) (S:St):AK (cfg NN) run 64 (.fn 172 cap) args S = BD run 172 (args++cap) S:=by kernel_rfl
theorem MD (run:FuncId→List AV→St→Option (AV×St)) (cap args:List AV) (S:St):AK (cfg NN) run 37 (.fn 77 cap) args S = Bg run 77 (args++cap) S:=by kernel_rfl
theorem Rm (run:FuncId→List AV→St→Option (AV×St)) (cap args:List AV) (S:St):AK (cfg NN) run 78 (.fn 83 cap) args S = Bg run 83 (args++cap) S:=by kernel_rfl
theorem MC (run:FuncId→List AV→St→Option (AV×St)) (cap args:List AV) (S:St):AK (cfg NN) run 37 (.fn 77 cap) args S = Bg run 77 (args++cap) S:=by kernel_rfl
theorem Rl (run:FuncId→List AV→St→Option (AV×St)) (cap args:List AV) (S:St):AK (cfg NN) run 78 (.fn 85 cap) args S = Bg run 85 (args++cap) S:=by kernel_rfl
theorem ZA (run:FuncId→List AV→St→Option (AV×St)) (cap args:List AV) (S:St):AK (cfg NN) run 37 (.fn 77 cap) args S = Bg run 77 (args++cap) S:=by kernel_rfl
theorem MB (run:FuncId→List AV→St→Option (AV×St)) (cap args:List AV) (S:St):AK (cfg NN) run 37 (.fn 77 cap) args S = Bg run 77 (args++cap) S:=by kernel_rfl
theorem Rk (run:FuncId→List AV→St→Option (AV×St)) (cap args:List AV) (S:St):AK (cfg NN) run 78 (.fn 87 cap) args S = Bg run 87 (args++cap) S:=by kernel_rfl
theorem MA (run:FuncId→List AV→St→Option (AV×St)) (cap args:List AV) (S:St):AK (cfg NN) run 37 (.fn 77 cap) args S = Bg run 77 (args++cap) S:=by kernel_rfl
theorem Rj (run:FuncId→List AV→St→Option (AV×St)) (cap args:List AV) (S:St):AK (cfg NN) run 78 (.fn 45 cap) args S = Bg run 45 (args++cap) S:=by kernel_rfl
theorem M9 (run:FuncId→List AV→St→Option (AV×St)) (cap args:List AV) (S:St):AK (cfg NN) run 37 (.fn 77 cap) args S = Bg run 77 (args++cap) S:=by kernel_rfl
theorem Ri (run:FuncId→List AV→St→Option (AV×St)) (cap args:List AV) (S:St):AK (cfg NN) run 78 (.fn 92 cap) args S = Bg run 92 (args++cap) S:=by kernel_rfl
theorem M8 (run:FuncId→List AV→St→Option (AV×St)) (cap args:List AV) (S:St):AK (cfg NN) run 37 (.fn 77 cap) args S = Bg run 77 (args++cap) S:=by kernel_rfl
theorem Rh (run:FuncId→List AV→St→Option (AV×St)) (cap args:List AV) (S:St):AK (cfg NN) run 78 (.fn 47 cap) args S = Bg run 47 (args++cap) S:=by kernel_rfl
theorem Z9 (run:FuncId→List AV→St→Option (AV×St)) (cap args:List AV) (S:St):AK (cfg NN) run 78 (.fn 79 cap) args S = Bg run 79 (args++cap) S:=by kernel_rfl
theorem Re (run:FuncId→List AV→St→Option (AV×St)) (cap args:List AV) (S:St):AK (cfg NN) run 37 (.fn 38 cap) args S = Bg run 38 (args++cap) S:=by kernel_rfl
theorem Rb (run:FuncId→List AV→St→Option (AV×St)) (cap args:List AV) (S:St):AK (cfg NN) run 37 (.fn 48 cap) args S = Bg run 48 (args++cap) S:=by kernel_rfl
theorem XI (n:Int) (S:St):FF Tryz.prog 160 5 (.int .u64 n) S = some (.int .u8 (wi .u8 n)):=by kernel_rfl
theorem XH (n:Int) (S:St):FF Tryz.prog 3 126 (iW n) S = some (.int .u64 (wi .u64 n)):=by kernel_rfl
theorem XG (n:Int) (S:St):FF Tryz.prog 5 2 (.int .u8 n) S = some (iW (wi .i64 n)):=by kernel_rfl
theorem fG (n:Int) (S:St):FF Tryz.prog 5 3 (.int .u8 n) S = some (iW (wi .i64 n)):=by kernel_rfl
theorem j5 {x:Ah} {cs:List AV} (h:cs.length = 7) (h2:∀ (o:Nat) (z:Int),(Enc.cs false x)[o]? = some (AV.int .i64 z)→cs[o]? = some (AV.int .i64 z)):∃ v0 v1:AV,cs = [iW x.Kind,iW x.View,iW x.From,iW x.Slot,iW x.Value,v0,v1]:=by
  match cs,h with
  | [c0,c1,c2,c3,c4,c5,c6],_=>
    have e0:=h2 0 _ rfl
    simp only [List.getElem?_cons_zero,List.getElem?_cons_succ,Option.some.injEq] at e0
    subst e0
    have e1:=h2 1 _ rfl
    simp only [List.getElem?_cons_zero,List.getElem?_cons_succ,Option.some.injEq] at e1
    subst e1
    have e2:=h2 2 _ rfl
    simp only [List.getElem?_cons_zero,List.getElem?_cons_succ,Option.some.injEq] at e2
    subst e2
    have e3:=h2 3 _ rfl
    simp only [List.getElem?_cons_zero,List.getElem?_cons_succ,Option.some.injEq] at e3
    subst e3
    have e4:=h2 4 _ rfl
    simp only [List.getElem?_cons_zero,List.getElem?_cons_succ,Option.some.injEq] at e4
    subst e4
    exact ⟨_,_,rfl⟩
theorem jX (S:St) (n:Nat) (h:(n + 1) * (16 + 1)≤70368744177664):HL Tryz.prog 168 (iW n) (iW n) S = some (.bsl S.length 0 n n true,S++[⟨1,List.replicate n [.str ⟨#[]⟩],true⟩]):=
  Yo (e:=9) (sz:=1) (by_:=16) (z:=[.str ⟨#[]⟩]) (z0:=[.str ⟨#[]⟩]) (by kernel_rfl) (by kernel_rfl) (by kernel_rfl) rfl rfl (by omega) rfl rfl h
theorem Gv (b i o n L:Nat):Ec Tryz.prog .eql 53 (.bp b i o n L) .nilp = some (.bool false):=by kernel_rfl
theorem Gu:Ec Tryz.prog .eql 53 (.nilp) .nilp = some (.bool true):=by kernel_rfl
theorem plt2 {l:Bool} (S:St) (x:Int):Tr.ow S [] (Enc.cs l x) x:=Fe x
theorem eE {S:St} {l:Bool} (x:TOp):Tr.ow S [] (Enc.cs l x) x:=(EH Fe (EH TO (EH Fe (EH Fe (EH RV RV)))) _:Tr.ow (α:=Int×Str×Int×Int×Bool×Bool) S [] (Enc.cs l _) (x.Kind,x.Path,x.Data,x.Version,x.Seq,x.Own))
theorem jS {l:Bool} (S:St) (x:TOp):Tr.ow S [] (Enc.cs l x) x:=eE x
theorem Wl {S:St} {l:Bool} (x:AE):Tr.ow S [] (Enc.cs l x) x:=(EH Fe (EH Fe Fe) _:Tr.ow (α:=Int×Int×Int) S [] (Enc.cs l _) (x.Slot,x.View,x.Value))
theorem jR {l:Bool} (S:St) (x:AE):Tr.ow S [] (Enc.cs l x) x:=Wl x
theorem OS {S:St} {l:Bool} (x:Af):Tr.ow S [] (Enc.cs l x) x:=(EH Fe (EH Fe (EH Fe Fe)) _:Tr.ow (α:=Int×Int×Int×Int) S [] (Enc.cs l _) (x.Id,x.View,x.Start,x.Done))
theorem bK {l:Bool} (S:St) (x:Af):Tr.ow S [] (Enc.cs l x) x:=OS x
theorem Jf:Rd (α:=Af) 3 (fun x=>AV.int .i64 x.Done):=(RL (α:=Af) (β:=Int×Int×Int×Int) (f:=fun x=>(x.Id,x.View,x.Start,x.Done)) (Je (Je (Je NM))) rfl)
theorem YM:Rd (α:=Af) 0 (fun x=>AV.int .i64 x.Id):=(RL (α:=Af) (β:=Int×Int×Int×Int) (f:=fun x=>(x.Id,x.View,x.Start,x.Done)) (Q6 NM) rfl)
theorem Q7:Rd (α:=Af) 2 (fun x=>AV.int .i64 x.Start):=(RL (α:=Af) (β:=Int×Int×Int×Int) (f:=fun x=>(x.Id,x.View,x.Start,x.Done)) (Je (Je (Q6 NM))) rfl)
theorem MR:Rd (α:=Af) 1 (fun x=>AV.int .i64 x.View):=(RL (α:=Af) (β:=Int×Int×Int×Int) (f:=fun x=>(x.Id,x.View,x.Start,x.Done)) (Je (Q6 NM)) rfl)
theorem RE (x0:Int) (x1:Int) (x2:Int) (y0:Int) (y1:Int) (y2:Int):Qc Tryz.prog .neq 50 (.agg [iW x0,iW x1,iW x2]) (.agg [iW y0,iW y1,iW y2]) = some (.bool (!((x0 == y0) && ((x1 == y1) && ((x2 == y2) && true))))):=by kernel_rfl
theorem E8 {S:St} {ids:List Nat} {cs:List AV} {x:Aa} (h:Tr.ow S ids cs x):∃ v0 v1 v2 v3:AV,cs = [iW x.F,v0,v1,v2,v3]:=by
  obtain ⟨_,_,_,_,rfl,_,rfl,⟨rfl,rfl⟩,⟨_,_,_,_,rfl,_,rfl,⟨v0,rfl,_⟩,⟨_,_,_,_,rfl,_,rfl,⟨v1,rfl,_⟩,⟨_,_,_,_,rfl,_,rfl,⟨v2,rfl,_⟩,⟨v3,rfl,_⟩⟩⟩⟩⟩:=h
  exact ⟨_,_,_,_,rfl⟩
theorem K5 {S:St} {ids:List Nat} {cs:List AV} {x:Ac} (h:Tr.ow S ids cs x):∃ v0 v1 v2 v3:AV,cs = [iW x.Code,iW x.Cluster.F,v0,v1,v2,v3]:=by
  obtain ⟨_,_,_,_,rfl,_,rfl,⟨rfl,rfl⟩,⟨_,_,_,_,rfl,_,rfl,⟨rfl,rfl⟩,⟨_,_,_,_,rfl,_,rfl,⟨v0,rfl,_⟩,⟨_,_,_,_,rfl,_,rfl,⟨v1,rfl,_⟩,⟨_,_,_,_,rfl,_,rfl,⟨v2,rfl,_⟩,⟨v3,rfl,_⟩⟩⟩⟩⟩⟩:=h
  exact ⟨_,_,_,_,rfl⟩
theorem iR {S:St} {ids:List Nat} {cs:List AV} {x:Ag} (h:Tr.ow S ids cs x):∃ v0:AV,cs = [iW x.Client,iW x.Number,iW x.Time,v0]:=by
  obtain ⟨_,_,_,_,rfl,_,rfl,⟨rfl,rfl⟩,⟨_,_,_,_,rfl,_,rfl,⟨rfl,rfl⟩,⟨_,_,_,_,rfl,_,rfl,⟨rfl,rfl⟩,⟨v0,rfl,_⟩⟩⟩⟩:=h
  exact ⟨_,rfl⟩
theorem iQ {S:St} {ids:List Nat} {cs:List AV} {x:Ah} (h:Tr.ow S ids cs x):∃ v0 v1:AV,cs = [iW x.Kind,iW x.View,iW x.From,iW x.Slot,iW x.Value,v0,v1]:=by
  obtain ⟨_,_,_,_,rfl,_,rfl,⟨rfl,rfl⟩,⟨_,_,_,_,rfl,_,rfl,⟨rfl,rfl⟩,⟨_,_,_,_,rfl,_,rfl,⟨rfl,rfl⟩,⟨_,_,_,_,rfl,_,rfl,⟨rfl,rfl⟩,⟨_,_,_,_,rfl,_,rfl,⟨rfl,rfl⟩,⟨_,_,_,_,rfl,_,rfl,⟨v0,rfl,_⟩,⟨v1,rfl,_⟩⟩⟩⟩⟩⟩⟩:=h
  exact ⟨_,_,rfl⟩
theorem iO:Tryz.prog.underlying 24 = some (.slice 2):=by kernel_rfl
theorem iM:Tryz.prog.underlying 25 = some (.slice 68):=by kernel_rfl
theorem iL:Tryz.prog.underlying 26 = some (.slice 46):=by kernel_rfl
theorem iK:Tryz.prog.underlying 39 = some (.slice 38):=by kernel_rfl
theorem iJ:Tryz.prog.underlying 44 = some (.slice 50):=by kernel_rfl
theorem Tz (n:Int):Up (α:=Af) 3 (iW n) (fun x=>{ x with Done:=n }):=(UR (α:=Af) (β:=Int×Int×Int×Int) (f:=fun x=>(x.Id,x.View,x.Start,x.Done)) (v:=fun x=>{ x with Done:=n }) (IZ (IZ (IZ (Qs (n:=n))))) rfl (fun _=>rfl))
theorem HN (n:Int):Up (α:=Af) 2 (iW n) (fun x=>{ x with Start:=n }):=(UR (α:=Af) (β:=Int×Int×Int×Int) (f:=fun x=>(x.Id,x.View,x.Start,x.Done)) (v:=fun x=>{ x with Start:=n }) (IZ (IZ (US (Qs (n:=n))))) rfl (fun _=>rfl))
theorem Tv (n:Int):Up (α:=Af) 1 (iW n) (fun x=>{ x with View:=n }):=(UR (α:=Af) (β:=Int×Int×Int×Int) (f:=fun x=>(x.Id,x.View,x.Start,x.Done)) (v:=fun x=>{ x with View:=n }) (IZ (US (Qs (n:=n)))) rfl (fun _=>rfl))
def m5 (a0:List U8):Bool:=decide ((a0.length:Int) > 1048576)
theorem w5 {d:Nat} (hd:1≤d) (k0:Bool) (a0:List U8):Fit (R NN d 5 [.rsl k0 false (a0.map (Enc.cs k0))] []) (some (m5 a0)) PB:=by
  obtain ⟨d,rfl,g⟩:=up hd
  refine A8 (t5 NN d _) ?_
  unfold b5 m5
  exact A7<|q_p fr<|Ak (Ae rfl) rfl
def m11 (a0:List U8) (a1:Int) (a2:Int):Option (Int):=bif decide (a2≤1) then some 0 else bif (a0.length:Int) == 0 then (I0 (wi .i64 (a1 * 7)) a2).bind fun q1=>some q1 else (I0 a1 (a0.length:Int)).bind fun q2=>(Aq a0 q2).bind fun x1=>(Q8 .i64 a1 (a0.length:Int)).bind fun q3=>( bif decide (a2 > 200) then (I0 (wi .i64 (a1 + 1)) (a0.length:Int)).bind fun q4=>(Aq a0 q4).bind fun x2=>some (LO.norm (wi .i64 ((wi .i64 ((wi .i64 ((wi .i64 x1.v) + (wi .i64 (q3 * 3)))) * 251)) + (wi .i64 x2.v)))) else some (LO.norm (wi .i64 ((wi .i64 x1.v) + (wi .i64 (q3 * 3)))))).bind (Ai (fun s2=>(I0 s2 a2).bind fun q5=>some q5) (fun i1 s2=>none) (fun s2=>some 0))
theorem w11 {d:Nat} (hd:1≤d) (k0:Bool) (a0:List U8) (a1:Int) (a2:Int):Fit (R NN d 11 [.rsl k0 false (a0.map (Enc.cs k0)),iW a1,iW a2] []) (m11 a0 a1 a2) PI:=by
  obtain ⟨d,rfl,g⟩:=up hd
  refine A8 (t11 NN d _ _ _) ?_
  unfold b11 m11
  refine A7<|q_p fr<|q_i ?_ ?_
  ·exact Ak (Ae rfl) rfl
  ·refine q_p fr<|q_i ?_ ?_
   ·exact q_p fr<|Jh fun q1 hq1=>Ak (Ae rfl) rfl
   ·refine Jh fun q2 hq2=>Bd rfl fun x1 hx1=>q_p fr<|q_p (fun _=>XG _ _)<|dW fun q3 hq3=>q_p fr<|q_p fr<|AY (A:=fun (s:Int)=>[iW s]) (B:=fun s=>[]) ?_ ?_ ?_ ?_
    ·exact q_p fr<|q_i (q_p fr<|q_p fr<|Jh fun q4 hq4=>Bd rfl fun x2 hx2=>q_p fr<|q_p (fun _=>XG _ _)<|q_p fr<|Ad 0 rr)<|Ad 0 rr
    ·exact fun s2=>Jh fun q5 hq5=>Ak (Ae rfl) rfl
    ·exact fun i1 s2=>As
    ·exact fun s2=>Ak (Ae rfl) rfl
def m63 (a0:Int) (a1:Int) (a2:Int):Bool:=bif decide (a1≤a0) then decide (a0≤a2) else false
theorem w63 {d:Nat} (hd:1≤d) (a0:Int) (a1:Int) (a2:Int):Fit (R NN d 63 [iW a0,iW a1,iW a2] []) (some (m63 a0 a1 a2)) PB:=by
  obtain ⟨d,rfl,g⟩:=up hd
  refine A8 (t63 NN d _ _ _) ?_
  unfold b63 m63
  exact q_p fr<|VZ (fun h1=>q_p fr<|Ak (Ae rfl) rfl) fun h1=>Ak (Ae rfl) rfl
def m33 (a0:Int):Bool:=(m63 a0 1 2)
theorem w33 {d:Nat} (hd:2≤d) (a0:Int):Fit (R NN d 33 [iW a0] []) (some (m33 a0)) PB:=by
  obtain ⟨d,rfl,g⟩:=up hd
  refine A8 (t33 NN d _) ?_
  unfold b33 m33
  exact AA (aF3 (Ae rfl) (Ae rfl) (Ae rfl) fun l0_ l1_ l2_=>w63 (by omega) a0 1 2)<|Ak (Ae rfl) rfl
def m75 (a0:Int):Int:=wi .i64 ((wi .i64 (3 * a0)) + 1)
theorem w75 {d:Nat} (hd:1≤d) (a0:Int):Fit (R NN d 75 [iW a0] []) (some (m75 a0)) PI:=by
  obtain ⟨d,rfl,g⟩:=up hd
  refine A8 (t75 NN d _) ?_
  unfold b75 m75
  exact q_p fr<|q_p fr<|Ak (Ae rfl) rfl
def m96 (a0:Int) (a1:Int):Bool:=(m63 a1 1 (m75 a0))
theorem w96 {d:Nat} (hd:2≤d) (a0:Int) (a1:Int):Fit (R NN d 96 [iW a0,iW a1] []) (some (m96 a0 a1)) PB:=by
  obtain ⟨d,rfl,g⟩:=up hd
  refine A8 (t96 NN d _ _) ?_
  unfold b96 m96
  exact AA (aF1 (Ae rfl) fun l0_=>w75 (by omega) a0)<|AA (aF3 (Ae rfl) (Ae rfl) (Ae rfl) fun l0_ l1_ l2_=>w63 (by omega) a1 1 (m75 a0))<|Ak (Ae rfl) rfl
def GZ (a0:Int) (a1:List Int) (s1:Int×Int):Option (LO (Int×Int)):=bif decide (s1.2 < (a1.length:Int)) then ( (Aq a1 s1.2).bind fun x1=>bif !(m96 a0 x1) then some (LO.ret 3) else bif decide (s1.2 > 0) then (Aq a1 (wi .i64 (s1.2 - 1))).bind fun x2=>bif decide (x1≤x2) then some (LO.ret 1) else some (LO.norm s1.1) else some (LO.norm s1.1)).bind (Ai (fun s3=>some (LO.norm (s3,wi .i64 (s1.2 + 1)))) (fun i1 s3=>some (LO.exit i1 (s3,s1.2))) (fun s3=>some (LO.ret (s3,s1.2)))) else some (LO.exit 0 (s1.1,s1.2))
def m51 (a0:Int) (a1:List Int):Option (Int):=(Ax (GZ a0 a1) NN (0,0)).bind (Ai (fun _=>none) (fun i2 s4=>if i2 = 0 then some 0 else none) (fun s4=>some s4.1))
theorem w51 {d:Nat} (hd:3≤d) (a0:Int) (k1:Bool) (a1:List Int):Fit (R NN d 51 [iW a0,.rsl k1 false (a1.map (Enc.cs k1))] []) (m51 a0 a1) PI:=by
  obtain ⟨d,rfl,g⟩:=up hd
  refine A8 (t51 NN d _ _) ?_
  unfold b51 m51
  refine A7<|Cc (A:=fun (s:Int×Int)=>[iW s.1,iW s.2]) (B:=fun s=>[]) 0 rr ?_ ?_ ?_
  ·intro s1
   unfold aQ GZ
   refine q_p fr<|q_i ?_ ?_
   ·refine AY (A:=fun (s:Int)=>[iW s]) (B:=fun s=>[]) ?_ ?_ ?_ ?_
    ·refine Bd rfl fun x1 hx1=>q_p fr<|AA (aF2 (Ae rfl) (Ae rfl) fun l0_ l1_=>w96 (by omega) a0 x1)<|q_p fr<|q_i ?_ ?_
     ·exact Am 0 rr
     ·refine q_p fr<|q_k ?_ ?_
      ·exact q_p fr<|Bd rfl fun x2 hx2=>q_p fr<|q_p fr<|q_i (Am 0 rr)<|Ad 0 rr
      ·first | refine Dy ?_ | skip
       exact Ad 0 rr
    ·exact fun s3=>q_p fr<|Ad 0 rr
    ·exact fun i1 s3=>Ap 0 rr
    ·exact fun s3=>Am 0 rr
   ·exact Ap 0 rr
  ·exact fun i2 s4=>q_n (Ak (Ae rfl) rfl)<|As
  ·exact fun s4=>Ak (Ae rfl) rfl
def m34 (a0:Int) (a1:List Int):Option (Int):=bif decide ((a1.length:Int) > a0) then some 2 else (m51 a0 a1).bind fun y1=>some y1
theorem w34 {d:Nat} (hd:4≤d) (a0:Int) (k1:Bool) (a1:List Int):Fit (R NN d 34 [iW a0,.rsl k1 false (a1.map (Enc.cs k1))] []) (m34 a0 a1) PI:=by
  obtain ⟨d,rfl,g⟩:=up hd
  refine A8 (t34 NN d _ _) ?_
  unfold b34 m34
  exact A7<|q_p fr<|q_i (Ak (Ae rfl) rfl)<|A5 (aF2 (Ae rfl) A3 fun l0_ l1_=>w51 (by omega) a0 l1_ a1) fun y1 hy1=>Ak (Ae rfl) rfl
def m35 (a0:List Int):Option (List Int):=B7 8 [] a0
theorem w35 {d:Nat} (hd:1≤d) (k0:Bool) (a0:List Int):Fit (R NN d 35 [.rsl k0 false (a0.map (Enc.cs k0))] []) (m35 a0) (P1 (T:=List Int) QE):=by
  obtain ⟨d,rfl,g⟩:=up hd
  rw [t35]
  refine (?_:Okh [] (fun S=>b35 (cfg NN) (R NN d) (.rsl k0 false (a0.map (Enc.cs k0))) S) _ _) [] HP.nil
  unfold b35 m35
  refine NR (e:=2) iO (fun h S=>?_) ?_
  · subst h
    refine Eq.symm (show pq (AL (Aw _ _ _ _ S) S) _ = _ from ?_)
    rw [Em]; rfl
  refine q_q (fun _=>Em) ?_
  refine Eo (α:=Int) false ?_
  rw [show B7 8 ([]:List Int) a0 = (B7 8 [] a0).bind some from by cases B7 8 ([]:List Int) a0 <;> rfl]
  refine Ed (ys:=a0) 0 rfl rfl (fun _ _=>rfl) fun v1 z1 hz1=>?_
  exact MU (OD 0 rfl plt2) rfl
def SB (a0:List Int) (a1:Int) (s1:Int×Int):Option (LO (Int×Int)):=bif decide (s1.2 < (a0.length:Int)) then (Aq a0 s1.2).bind fun x1=>bif a1 == x1 then some (LO.ret (s1.2,s1.2)) else some (LO.norm (s1.1,wi .i64 (s1.2 + 1))) else some (LO.exit 0 (s1.1,s1.2))
def eP (a0:List Int) (a1:Int):Option (Int):=(Ax (SB a0 a1) NN (0,0)).bind (Ai (fun _=>none) (fun i1 s2=>if i1 = 0 then some (-1) else none) (fun s2=>some s2.1))
theorem w118 {d:Nat} (hd:1≤d) (k0:Bool) (a0:List Int) (a1:Int):Fit (R NN d 118 [.rsl k0 false (a0.map (Enc.cs k0)),iW a1] []) (eP a0 a1) PI:=by
  obtain ⟨d,rfl,g⟩:=up hd
  refine A8 (t118 NN d _ _) ?_
  unfold oC eP
  refine A7<|Cc (A:=fun (s:Int×Int)=>[iW s.1,iW s.2]) (B:=fun s=>[]) 0 rr ?_ ?_ ?_
  ·intro s1
   unfold VH SB
   exact q_p fr<|q_i (Bd rfl fun x1 hx1=>q_p fr<|q_p fr<|q_i (Am 0 rr)<|q_p fr<|Ad 0 rr)<|Ap 0 rr
  ·exact fun i1 s2=>q_n (Ak (Ae rfl) rfl)<|As
  ·exact fun s2=>Ak (Ae rfl) rfl
def m72 (a0:List Int) (a1:Int):Option (Bool):=(eP a0 a1).bind fun y1=>some (decide (y1 ≥ 0))
theorem w72 {d:Nat} (hd:2≤d) (k0:Bool) (a0:List Int) (a1:Int):Fit (R NN d 72 [.rsl k0 false (a0.map (Enc.cs k0)),iW a1] []) (m72 a0 a1) PB:=by
  obtain ⟨d,rfl,g⟩:=up hd
  refine A8 (t72 NN d _ _) ?_
  unfold b72 m72
  exact A5 (aF2 A3 (Ae rfl) fun l0_ l1_=>w118 (by omega) l0_ a0 a1) fun y1 hy1=>q_p fr<|Ak (Ae rfl) rfl
def KV (a0:Int) (a1:List Int) (s1:Int×(List Int)):Option (LO (Int×(List Int))):=bif decide (s1.1≤(m75 a0)) then ( (m72 a1 s1.1).bind fun y1=>bif !y1 then (B7 8 s1.2 [s1.1]).bind fun z1=>some (LO.norm z1) else some (LO.norm s1.2)).bind (Ai (fun s3=>some (LO.norm (wi .i64 (s1.1 + 1),s3))) (fun i1 s3=>some (LO.exit i1 (s1.1,s3))) (fun s3=>some (LO.ret (s1.1,s3)))) else some (LO.exit 0 (s1.1,s1.2))
def m36 (a0:Int) (a1:List Int):Option ((List Int)):=(Ax (KV a0 a1) NN (1,[])).bind (Ai (fun _=>none) (fun i2 s4=>if i2 = 0 then some s4.2 else none) (fun s4=>some []))
theorem w36 {d:Nat} (hd:3≤d) (a0:Int) (k1:Bool) (a1:List Int):Fit (R NN d 36 [iW a0,.rsl k1 false (a1.map (Enc.cs k1))] []) (m36 a0 a1) (P0 (fun (t:List Int)=>AV.rsl false false (t.map (Enc.cs false)))):=by
  obtain ⟨d,rfl,g⟩:=up hd
  refine A8 (t36 NN d _ _) ?_
  unfold b36 m36
  refine q_q (fun _=>Em)<|Eo (α:=Int) false<|BW (I:=(fun (s:Int×(List Int)) l L=>∃ (v1:AV),l = [v1,iW s.1]∧L = [sl false v1 (s.2:List Int)])) 0 ⟨(.rsl false true []),rfl,rfl⟩ ?_ ?_ ?_
  ·rintro s1 _ _ ⟨v1,rfl,rfl⟩
   unfold aS KV
   refine AA (aF1 (Ae rfl) fun l0_=>w75 (by omega) a0)<|q_p fr<|q_i ?_ ?_
   ·refine DN (I:=(fun (s:(List Int)) l L=>∃ (v2:AV),l = [v2]∧L = [sl false v2 (s:List Int)])) ?_ ?_ ?_ ?_
    ·exact A5 (aF2 A3 (Ae rfl) fun l0_ l1_=>w72 (by omega) l0_ a1 s1.1) fun y1 hy1=>q_p fr<|q_i (q_q (fun _=>EM)<|Ed (ys:=[s1.1]) 0 rfl rfl (fun _ _=>rfl) fun v2 z1 hz1=>Ad 0 ⟨v2,rfl,rfl⟩)<|Ad 0 ⟨v1,rfl,rfl⟩
    ·rintro s3 _ _ ⟨v3,rfl,rfl⟩
     exact q_p fr<|Ad 0 ⟨v3,rfl,rfl⟩
    ·rintro i1 s3 _ _ ⟨v4,rfl,rfl⟩
     exact Ap 0 ⟨v4,rfl,rfl⟩
    ·rintro s3 _ _ ⟨v5,rfl,rfl⟩
     exact Am 0 ⟨v5,rfl,rfl⟩
   ·exact Ap 0 ⟨v1,rfl,rfl⟩
  ·rintro i2 s4 _ _ ⟨v6,rfl,rfl⟩
   exact q_n (Ak (Io 0 rfl) rfl)<|As
  ·rintro s4 _ _ ⟨v7,rfl,rfl⟩
   exact Ak (A3 (α:=Int) (l0:=false) (fl:=true) (xs:=[])) rfl
def Jr (y3:(List Int)) (s1:Int×(List Af)):Option (LO (Int×(List Af))):=bif decide (s1.1 < (y3.length:Int)) then (Aq y3 s1.1).bind fun x1=>(B7 32 s1.2 [(⟨x1,0,(-1),0⟩:Af)]).bind fun z1=>some (LO.norm (wi .i64 (s1.1 + 1),z1)) else some (LO.exit 0 (s1.1,s1.2))
def m12 (a0:Int) (a1:List Int):Option (Ac):=bif !(m33 a0) then some (⟨3,(⟨0,[],[],[],[]⟩:Aa)⟩:Ac) else (m34 a0 a1).bind fun y1=>bif y1 != 0 then some (⟨y1,(⟨0,[],[],[],[]⟩:Aa)⟩:Ac) else (m35 a1).bind fun y2=>(m36 a0 a1).bind fun y3=>(Ax (Jr y3) NN (0,[])).bind (Ai (fun _=>none) (fun i2 s2=>if i2 = 0 then some (⟨0,(⟨a0,y2,s2.2,[],[]⟩:Aa)⟩:Ac) else none) (fun s2=>some (⟨0,(⟨0,[],[],[],[]⟩:Aa)⟩:Ac)))
theorem w12 {d:Nat} (hd:5≤d) (a0:Int) (k1:Bool) (a1:List Int):Fit (R NN d 12 [iW a0,.rsl k1 false (a1.map (Enc.cs k1))] []) (m12 a0 a1) (P1 (T:=Ac) AV.agg):=by
  obtain ⟨d,rfl,g⟩:=up hd
  refine A8 (t12 NN d _ _) ?_
  unfold b12 m12
  refine AT rfl fun b1=>AA (aF1 (Ae rfl) fun l0_=>w33 (by omega) a0)<|q_p fr<|q_i ?_ ?_
  ·exact q_p (fun _=>CQ rfl)<|AN 0 rfl rfl rfl (by decide) rfl<|Bi (fun S hS=>hS.lda 0 rfl rfl) (Bf (α:=Ac) (β:=Int×Aa) (f:=fun x=>(x.Code,x.Cluster)) (x:=(⟨3,(⟨0,[],[],[],[]⟩:Aa)⟩:Ac)) rfl (An (AH (n:=3)) (Bf (α:=Aa) (β:=Int×(List Int)×(List Af)×(List Ah)×(List Ag)) (f:=fun x=>(x.F,x.Bad,x.Replicas,x.Ledger,x.Requests)) (x:=(⟨0,[],[],[],[]⟩:Aa)) rfl (An (AH (n:=0)) (An (A4 (α:=Int) (fl:=true)) (An (A4 (α:=Af) (fl:=true)) (An (A4 (α:=Ah) (fl:=true)) (A4 (α:=Ag) (fl:=true))))))))) rfl
  ·refine A5 (aF2 (Ae rfl) A3 fun l0_ l1_=>w34 (by omega) a0 l1_ a1) fun y1 hy1=>q_p fr<|q_i ?_ ?_
   ·exact q_p (fun _=>CQ rfl)<|AN 0 rfl rfl rfl (by decide) rfl<|Bi (fun S hS=>hS.lda 0 rfl rfl) (Bf (α:=Ac) (β:=Int×Aa) (f:=fun x=>(x.Code,x.Cluster)) (x:=(⟨y1,(⟨0,[],[],[],[]⟩:Aa)⟩:Ac)) rfl (An (AH (n:=y1)) (Bf (α:=Aa) (β:=Int×(List Int)×(List Af)×(List Ah)×(List Ag)) (f:=fun x=>(x.F,x.Bad,x.Replicas,x.Ledger,x.Requests)) (x:=(⟨0,[],[],[],[]⟩:Aa)) rfl (An (AH (n:=0)) (An (A4 (α:=Int) (fl:=true)) (An (A4 (α:=Af) (fl:=true)) (An (A4 (α:=Ah) (fl:=true)) (A4 (α:=Ag) (fl:=true))))))))) rfl
   ·refine KH (mg:=m35 a1) (aF1 A3 fun l0_=>w35 (by omega) l0_ a1) fun y2 hy2 i1 v1=>JM (fun S hS=>Yc (by simp only [CJ,plc,gd,List.getD_cons_zero,List.getD_cons_succ,List.getElem?_cons_zero,List.getElem?_cons_succ,hS.cell1t 0 rfl]; rfl)) ?_
    refine AT rfl fun b2=>AN 0 rfl rfl rfl (by decide) rfl<|A5 (aF2 (Ae rfl) A3 fun l0_ l1_=>w36 (by omega) a0 l1_ a1) fun y3 hy3=>A7<|Eo (α:=Af) false<|BW (I:=(fun (s:Int×(List Af)) l L=>∃ (v2:AV),l = [iW s.1]∧L = [sl false v2 (s.2:List Af),bx b2 [iW a0,v1,v2,.rsl false true [],.rsl false true []],tr i1 [v1] (y2:List Int),bx b1 [iW 0,iW 0,.rsl false true [],.rsl false true [],.rsl false true [],.rsl false true []]])) 0 ⟨(.rsl false true []),rfl,rfl⟩ ?_ ?_ ?_
    ·rintro s1 _ _ ⟨v2,rfl,rfl⟩
     unfold bC Jr
     exact q_p fr<|q_i (Bd rfl fun x1 hx1=>q_p fr<|q_p fr<|Au 1 rfl rfl<|q_p (fun _=>Ya rfl)<|q_e (fun _=>fU rfl)<|Ed (ys:=[(⟨x1,0,(-1),0⟩:Af)]) 0 rfl rfl (fun _ _=>rfl) fun v3 z1 hz1=>q_p fr<|HV 1 rfl (fun S hS=>(HP.cell1 hS 0 rfl)) rfl<|q_p fr<|Ad 0 ⟨v3,rfl,rfl⟩)<|Ap 0 ⟨v2,rfl,rfl⟩
    ·rintro i2 s2 _ _ ⟨v4,rfl,rfl⟩
     exact q_n (AB 1 rfl rfl rfl<|q_p (fun _=>FL rfl)<|AN 3 rfl rfl rfl (by decide) rfl<|Bi (fun S hS=>hS.lda 3 rfl rfl) (Bf (α:=Ac) (β:=Int×Aa) (f:=fun x=>(x.Code,x.Cluster)) (x:=(⟨0,(⟨a0,y2,s2.2,[],[]⟩:Aa)⟩:Ac)) rfl (An (AH (n:=0)) (Bf (α:=Aa) (β:=Int×(List Int)×(List Af)×(List Ah)×(List Ag)) (f:=fun x=>(x.F,x.Bad,x.Replicas,x.Ledger,x.Requests)) (x:=(⟨a0,y2,s2.2,[],[]⟩:Aa)) rfl (An (AH (n:=a0)) (An (Do 2 rfl) (An (OD 0 rfl bK) (An (A4 (α:=Ah) (fl:=true)) (A4 (α:=Ag) (fl:=true))))))))) rfl)<|As
    ·rintro s2 _ _ ⟨v5,rfl,rfl⟩
     exact Bi (fun S hS=>hS.lda 3 rfl rfl) (Bf (α:=Ac) (β:=Int×Aa) (f:=fun x=>(x.Code,x.Cluster)) (x:=(⟨0,(⟨0,[],[],[],[]⟩:Aa)⟩:Ac)) rfl (An (AH (n:=0)) (Bf (α:=Aa) (β:=Int×(List Int)×(List Af)×(List Ah)×(List Ag)) (f:=fun x=>(x.F,x.Bad,x.Replicas,x.Ledger,x.Requests)) (x:=(⟨0,[],[],[],[]⟩:Aa)) rfl (An (AH (n:=0)) (An (A4 (α:=Int) (fl:=true)) (An (A4 (α:=Af) (fl:=true)) (An (A4 (α:=Ah) (fl:=true)) (A4 (α:=Ag) (fl:=true))))))))) rfl
theorem w12f {d:Nat} (hd:5≤d) (a0:Int) (k1:Bool) (a1:List Int):Fit (R NN d 12 [iW a0,.rsl k1 false (a1.map (Enc.cs k1))] []) (m12 a0 a1) (P0 (fun (t:Ac)=>AV.agg (Enc.cs false t))):=Ff (w12 hd a0 k1 a1)
def m98 (a0:Int):Bool:=(m63 a0 1 9)
theorem w98 {d:Nat} (hd:2≤d) (a0:Int):Fit (R NN d 98 [iW a0] []) (some (m98 a0)) PB:=by
  obtain ⟨d,rfl,g⟩:=up hd
  refine A8 (t98 NN d _) ?_
  unfold b98 m98
  exact AA (aF3 (Ae rfl) (Ae rfl) (Ae rfl) fun l0_ l1_ l2_=>w63 (by omega) a0 1 9)<|Ak (Ae rfl) rfl
def m99 (a0:Int):Bool:=(m63 a0 0 9000)
theorem w99 {d:Nat} (hd:2≤d) (a0:Int):Fit (R NN d 99 [iW a0] []) (some (m99 a0)) PB:=by
  obtain ⟨d,rfl,g⟩:=up hd
  refine A8 (t99 NN d _) ?_
  unfold b99 m99
  exact AA (aF3 (Ae rfl) (Ae rfl) (Ae rfl) fun l0_ l1_ l2_=>w63 (by omega) a0 0 9000)<|Ak (Ae rfl) rfl
def A6 (a0:Int):Str×Str:=bif a0 == 1 then (([111,112,101,110]:Str),([]:Str)) else bif a0 == 2 then (([99,108,111,115,101]:Str),([]:Str)) else bif a0 == 3 then (([99,114,101,97,116,101]:Str),([112,100,115,111]:Str)) else bif a0 == 4 then (([100,101,108,101,116,101]:Str),([112,118]:Str)) else bif a0 == 5 then (([115,101,116]:Str),([112,100,118]:Str)) else bif a0 == 6 then (([103,101,116]:Str),([112]:Str)) else bif a0 == 7 then (([107,105,100,115]:Str),([112]:Str)) else bif a0 == 8 then (([99,104,101,99,107]:Str),([112,118]:Str)) else (([]:Str),([]:Str))
theorem w141 {d:Nat} (hd:1≤d) (a0:Int):Fit (R NN d 141 [iW a0] []) (some (A6 a0)) (P0 (fun (t:Str×Str)=>AV.tup [Cb t.1,Cb t.2])):=by
  obtain ⟨d,rfl,g⟩:=up hd
  refine A8 (t141 NN d _) ?_
  unfold nJ A6
  exact q_p fr<|J4 (fun h8=>Ak (Hh (Ab (Ae rfl) (Ab (Ae rfl) Ao))) rfl) fun h8=>q_p fr<|J4 (fun h7=>Ak (Hh (Ab (Ae rfl) (Ab (Ae rfl) Ao))) rfl) fun h7=>q_p fr<|J4 (fun h6=>Ak (Hh (Ab (Ae rfl) (Ab (Ae rfl) Ao))) rfl) fun h6=>q_p fr<|J4 (fun h5=>Ak (Hh (Ab (Ae rfl) (Ab (Ae rfl) Ao))) rfl) fun h5=>q_p fr<|J4 (fun h4=>Ak (Hh (Ab (Ae rfl) (Ab (Ae rfl) Ao))) rfl) fun h4=>q_p fr<|J4 (fun h3=>Ak (Hh (Ab (Ae rfl) (Ab (Ae rfl) Ao))) rfl) fun h3=>q_p fr<|J4 (fun h2=>Ak (Hh (Ab (Ae rfl) (Ab (Ae rfl) Ao))) rfl) fun h2=>q_p fr<|J4 (fun h1=>Ak (Hh (Ab (Ae rfl) (Ab (Ae rfl) Ao))) rfl) fun h1=>Ak (Hh (Ab (Ae rfl) (Ab (Ae rfl) Ao))) rfl
def WU (a0 a1:Str):Option Int:=match a1 with
  | [c]=>some (Lib.indexByte a0 c:Int)
  | _=>none
theorem gW {d:Nat} (hd:1≤d) (a0 a1:Str):Fit (R NN d 176 [Cb a0,Cb a1] []) (WU a0 a1) PI:=by
  obtain ⟨d,rfl,g⟩:=up hd
  rw [t176]
  intro t ht
  unfold WU at ht
  split at ht
  · injection ht with ht
    subst ht
    exact ⟨_,rfl,rfl⟩
  · cases ht
def eN (a0:Str) (a1:Str):Option (Bool):=(WU a0 a1).bind fun y1=>some (decide (y1 ≥ 0))
theorem w143 {d:Nat} (hd:2≤d) (a0:Str) (a1:Str):Fit (R NN d 143 [Cb a0,Cb a1] []) (eN a0 a1) PB:=by
  obtain ⟨d,rfl,g⟩:=up hd
  refine A8 (t143 NN d _ _) ?_
  unfold nH eN
  exact A5 (aF2 (Ae rfl) (Ae rfl) fun l0_ l1_=>gW (by omega) a0 a1) fun y1 hy1=>q_p fr<|Ak (Ae rfl) rfl
def AW (a0:Str) (a1:Str):Option (Bool):=(eN a1 a0).bind fun y1=>some (!y1)
theorem DF {d:Nat} (hd:3≤d) (a0:Str) (k1:Bool) (a1:Str):Fit (R NN d 142 [Cb a0,.rp k1 (Enc.cs k1 a1)] []) (AW a0 a1) PB:=by
  obtain ⟨d,rfl,g⟩:=up hd
  refine A8 (t142 NN d _ _) ?_
  unfold nI AW
  exact q_p fr<|A5 (aF2 (Ae rfl) (Ae rfl) fun l0_ l1_=>w143 (by omega) a1 a0) fun y1 hy1=>q_p fr<|Ak (Ae rfl) rfl
def Ue (a0 a1:Str):Option Int:=match a1 with
  | [c]=>some (Lib.countByte a0 c:Int)
  | _=>none
theorem gV {d:Nat} (hd:1≤d) (a0 a1:Str):Fit (R NN d 177 [Cb a0,Cb a1] []) (Ue a0 a1) PI:=by
  obtain ⟨d,rfl,g⟩:=up hd
  rw [t177]
  intro t ht
  unfold Ue at ht
  split at ht
  · injection ht with ht
    subst ht
    exact ⟨_,rfl,rfl⟩
  · cases ht
def JZ (a0:Str) (a1:Str) (a2:Int) (s2:Int) (s3:Str×Int×(List Str)):Option (LO (Str×Int×(List Str))):=bif decide (s3.2.1 < (wi .i64 ((Ub s2 (wi .i64 ((a0.length:Int) + 1))) - 1))) then (WU s3.1 a1).bind fun y2=>bif decide (y2 < 0) then some (LO.exit 0 (s3.1,s3.2.1,s3.2.2)) else (DV s3.1 0 (wi .i64 (y2 + a2))).bind fun t1=>(Aq s3.2.2 s3.2.1).bind fun x1=>(DV s3.1 (wi .i64 (y2 + (a1.length:Int))) (s3.1.length:Int)).bind fun t2=>some (LO.norm (t2,wi .i64 (s3.2.1 + 1),s3.2.2.set (Int.toNat s3.2.1) t1)) else some (LO.exit 0 (s3.1,s3.2.1,s3.2.2))
def Zd (a0:Str) (a1:Str) (a2:Int) (a3:Int):Option ((List Str)):=bif a3 == 0 then some [] else bif a1 == ([]:Str) then none else ( bif decide (a3 < 0) then (Ue a0 a1).bind fun y1=>some (LO.norm (wi .i64 (y1 + 1))) else some (LO.norm a3)).bind (Ai (fun s2=>(mkO 16 (Ub s2 (wi .i64 ((a0.length:Int) + 1))) []).bind fun z1=>(Ax (JZ a0 a1 a2 s2) NN (a0,0,z1)).bind (Ai (fun _=>none) (fun i2 s4=>if i2 = 0 then (Aq s4.2.2 s4.2.1).bind fun x2=>(DV (s4.2.2.set (Int.toNat s4.2.1) s4.1) 0 (wi .i64 (s4.2.1 + 1))).bind fun ys1=>some ys1 else none) (fun s4=>some []))) (fun i1 s2=>none) (fun s2=>some []))
theorem w196 {d:Nat} (hd:2≤d) (a0:Str) (a1:Str) (a2:Int) (a3:Int):Fit (R NN d 196 [Cb a0,Cb a1,iW a2,iW a3] []) (Zd a0 a1 a2 a3) (P0 (fun (t:List Str)=>AV.rsl false false (t.map (Enc.cs false)))):=by
  obtain ⟨d,rfl,g⟩:=up hd
  refine A8 (t196 NN d _ _ _ _) ?_
  unfold mF Zd
  refine q_p fr<|q_i ?_ ?_
  ·exact Ak (A3 (α:=Str) (l0:=false) (fl:=true) (xs:=[])) rfl
  ·refine q_p (fun _=>NK)<|q_i ?_ ?_
   ·exact As
   ·refine AY (A:=fun (s:Int)=>[iW s]) (B:=fun s=>[]) ?_ ?_ ?_ ?_
    ·exact q_p fr<|q_i (A5 (aF2 (Ae rfl) (Ae rfl) fun l0_ l1_=>gV (by omega) a0 a1) fun y1 hy1=>q_p fr<|Ad 0 rr)<|Ad 0 rr
    ·intro s2
     refine FH<|q_p fr<|q_p (fun _=>pE)<|q_mk (z:=[]) jX fun v1 z1 hz1=>q_p fr<|Cc (A:=fun (s:Str×Int×(List Str))=>[Cb s.1,iW s.2.1]) (B:=fun s=>[sl false v1 (s.2.2:List Str)]) 0 rr ?_ ?_ ?_
     ·intro s3
      unfold Vo JZ
      exact q_p fr<|q_i (A5 (aF2 (Ae rfl) (Ae rfl) fun l0_ l1_=>gW (by omega) s3.1 a1) fun y2 hy2=>q_p fr<|q_i (Ap 0 rr)<|q_p fr<|NP (.inr ⟨rfl,rfl⟩) (.inl rfl) fun t1 ht1=>GT 0 rfl rfl fun x1 hx1=>KD (y:=t1) 0 rfl rfl hx1 rfl (by decide)<|FH<|q_p fr<|NP (.inl rfl) (.inr ⟨rfl,rfl⟩) fun t2 ht2=>q_p fr<|Ad 0 rr)<|Ap 0 rr
     ·exact fun i2 s4=>q_n (GT 0 rfl rfl fun x2 hx2=>KD (y:=s4.1) 0 rfl rfl hx2 rfl (by decide)<|q_p fr<|eA rfl (.inr ⟨rfl,rfl⟩) (.inl rfl) fun ys1 hys1=>Ak (bV 0 rfl) rfl)<|As
     ·exact fun s4=>Ak (A3 (α:=Str) (l0:=false) (fl:=true) (xs:=[])) rfl
    ·exact fun i1 s2=>As
    ·exact fun s2=>Ak (A3 (α:=Str) (l0:=false) (fl:=true) (xs:=[])) rfl
def WS (a0:Str) (a1:Str):Option ((List Str)):=(Zd a0 a1 0 (-1)).bind fun y1=>some y1
theorem w178 {d:Nat} (hd:3≤d) (a0:Str) (a1:Str):Fit (R NN d 178 [Cb a0,Cb a1] []) (WS a0 a1) (P0 (fun (t:List Str)=>AV.rsl false false (t.map (Enc.cs false)))):=by
  obtain ⟨d,rfl,g⟩:=up hd
  refine A8 (t178 NN d _ _) ?_
  unfold mO WS
  exact A5 (fun S hS=>ET (Ae rfl) (Ae rfl) (Ae rfl) (Ae rfl) hS fun l0_ l1_ l2_ l3_=>w196 (by omega) a0 a1 0 (-1)) fun y1 hy1=>Ak A3 rfl
def Sm (a0:Str) (s1:Bool×Int):Option (LO (Bool×Int)):=bif decide (s1.2 < (a0.length:Int)) then ( ( (Aq a0 s1.2).bind fun c1=>bif decide ((c1.toNat:Int) < 97) then (Aq a0 s1.2).bind fun c5=>bif decide ((c5.toNat:Int) < 48) then some (LO.norm true) else (Aq a0 s1.2).bind fun c6=>some (LO.norm (decide ((c6.toNat:Int) > 57))) else (Aq a0 s1.2).bind fun c2=>bif decide ((c2.toNat:Int) > 122) then (Aq a0 s1.2).bind fun c3=>bif decide ((c3.toNat:Int) < 48) then some (LO.norm true) else (Aq a0 s1.2).bind fun c4=>some (LO.norm (decide ((c4.toNat:Int) > 57))) else some (LO.norm false)).bind (Ai (fun s4=>bif s4 then some (LO.ret false) else some (LO.norm s1.1)) (fun i1 s4=>if i1 = 1 then some (LO.norm s1.1) else some (LO.exit i1 s1.1)) (fun s4=>some (LO.ret s1.1)))).bind (Ai (fun s5=>some (LO.norm (s5,wi .i64 (s1.2 + 1)))) (fun i2 s5=>some (LO.exit i2 (s5,s1.2))) (fun s5=>some (LO.ret (s5,s1.2)))) else some (LO.exit 0 (s1.1,s1.2))
def WR (a0:Str):Option (Bool):=(Ax (Sm a0) NN (false,0)).bind (Ai (fun _=>none) (fun i3 s6=>if i3 = 0 then some (m63 (a0.length:Int) 1 8) else none) (fun s6=>some s6.1))
theorem w179 {d:Nat} (hd:2≤d) (a0:Str):Fit (R NN d 179 [Cb a0] []) (WR a0) PB:=by
  obtain ⟨d,rfl,g⟩:=up hd
  refine A8 (t179 NN d _) ?_
  unfold mN WR
  refine FH<|Cc (A:=fun (s:Bool×Int)=>[.bool s.1,iW s.2]) (B:=fun s=>[]) 0 rr ?_ ?_ ?_
  ·intro s1
   unfold Vy Sm
   refine q_p fr<|q_i ?_ ?_
   ·refine AY (A:=fun (s:Bool)=>[.bool s]) (B:=fun s=>[]) ?_ ?_ ?_ ?_
    ·refine AY (A:=fun (s:Bool)=>[.bool s]) (B:=fun s=>[]) ?_ ?_ ?_ ?_
     ·exact I4 fun c1 hc1=>q_p fr<|q_j (I4 fun c5 hc5=>q_p fr<|q_j (Ad 0 rr)<|I4 fun c6 hc6=>q_p fr<|Ad 0 rr)<|I4 fun c2 hc2=>q_p fr<|q_k (I4 fun c3 hc3=>q_p fr<|q_j (Ad 0 rr)<|I4 fun c4 hc4=>q_p fr<|Ad 0 rr)<|Ad 0 rr
     ·exact fun s4=>q_i (Am 0 rr)<|Ad 0 rr
     ·exact fun i1 s4=>q_n (Ad 0 rr)<|Ap 0 rr
     ·exact fun s4=>Am 0 rr
    ·exact fun s5=>q_p fr<|Ad 0 rr
    ·exact fun i2 s5=>Ap 0 rr
    ·exact fun s5=>Am 0 rr
   ·exact Ap 0 rr
  ·exact fun i3 s6=>q_n (FH<|AA (aF3 (Ae rfl) (Ae rfl) (Ae rfl) fun l0_ l1_ l2_=>w63 (by omega) (a0.length:Int) 1 8)<|Ak (Ae rfl) rfl)<|As
  ·exact fun s6=>Ak (Ae rfl) rfl
def H7 (ys1:List Str) (s5:Int×Int):Option (LO (Int×Int)):=bif decide (s5.2 < (ys1.length:Int)) then (Aq ys1 s5.2).bind fun x2=>(WR x2).bind fun y3=>bif !y3 then some (LO.ret (5,s5.2)) else some (LO.norm (s5.1,wi .i64 (s5.2 + 1))) else some (LO.exit 0 (s5.1,s5.2))
def Uj (a0:Str):Option (Int):=( bif decide ((a0.length:Int) > 24) then some (LO.ret 2) else (Ue a0 ([47]:Str)).bind fun y1=>bif decide (y1 > 4) then some (LO.ret 2) else some (LO.norm 0)).bind (Ai (fun s2=>bif a0 == ([47]:Str) then some 0 else (WS a0 ([47]:Str)).bind fun y2=>( bif decide ((y2.length:Int) < 2) then some (LO.ret 5) else (Aq y2 0).bind fun x1=>bif !(x1 == ([]:Str)) then some (LO.ret 5) else some (LO.norm s2)).bind (Ai (fun s4=>(DV y2 1 (y2.length:Int)).bind fun ys1=>(Ax (H7 ys1) NN (s4,0)).bind (Ai (fun _=>none) (fun i3 s6=>if i3 = 0 then some 0 else none) (fun s6=>some s6.1))) (fun i2 s4=>none) (fun s4=>some s4))) (fun i1 s2=>none) (fun s2=>some s2))
theorem w144 {d:Nat} (hd:4≤d) (a0:Str):Fit (R NN d 144 [Cb a0] []) (Uj a0) PI:=by
  obtain ⟨d,rfl,g⟩:=up hd
  refine A8 (t144 NN d _) ?_
  unfold nG Uj
  refine AY (A:=fun (s:Int)=>[iW s]) (B:=fun s=>[]) ?_ ?_ ?_ ?_
  ·refine FH<|q_p fr<|q_j ?_ ?_
   ·first | refine BL ?_ | skip
    exact Am 0 rr
   ·exact A5 (aF2 (Ae rfl) (Ae rfl) fun l0_ l1_=>gV (by omega) a0 ([47]:Str)) fun y1 hy1=>q_p fr<|q_i (Am 0 rr)<|Ad 0 rr
  ·intro s2
   refine q_p (fun _=>NK)<|q_i ?_ ?_
   ·exact Ak (Ae rfl) rfl
   ·refine A5 (aF2 (Ae rfl) (Ae rfl) fun l0_ l1_=>w178 (by omega) a0 ([47]:Str)) fun y2 hy2=>AY (A:=fun (s:Int)=>[iW s]) (B:=fun s=>[]) ?_ ?_ ?_ ?_
    ·refine A7<|q_p fr<|q_j ?_ ?_
     ·first | refine BL ?_ | skip
      exact Am 0 rr
     ·exact Bd rfl fun x1 hx1=>q_p fr<|q_p (fun _=>Iu)<|q_i (Am 0 rr)<|Ad 0 rr
    ·intro s4
     refine OO rfl (.inl rfl) (.inr ⟨rfl,rfl⟩) fun fl1 ys1 hys1=>A7<|Cc (A:=fun (s:Int×Int)=>[iW s.1,iW s.2]) (B:=fun s=>[]) 0 rr ?_ ?_ ?_
     ·intro s5
      unfold VA H7
      exact q_p fr<|q_i (Bd rfl fun x2 hx2=>q_p fr<|A5 (aF1 (Ae rfl) fun l0_=>w179 (by omega) x2) fun y3 hy3=>q_p fr<|q_i (Am 0 rr)<|q_p fr<|Ad 0 rr)<|Ap 0 rr
     ·exact fun i3 s6=>q_n (Ak (Ae rfl) rfl)<|As
     ·exact fun s6=>Ak (Ae rfl) rfl
    ·exact fun i2 s4=>As
    ·exact fun s4=>Ak (Ae rfl) rfl
  ·exact fun i1 s2=>As
  ·exact fun s2=>Ak (Ae rfl) rfl
def Xb (a0:Int):Bool:=(m63 a0 0 9999)
theorem w145 {d:Nat} (hd:2≤d) (a0:Int):Fit (R NN d 145 [iW a0] []) (some (Xb a0)) PB:=by
  obtain ⟨d,rfl,g⟩:=up hd
  refine A8 (t145 NN d _) ?_
  unfold nF Xb
  exact AA (aF3 (Ae rfl) (Ae rfl) (Ae rfl) fun l0_ l1_ l2_=>w63 (by omega) a0 0 9999)<|Ak (Ae rfl) rfl
def Pq (a0:TOp):Option (Int):=( ( bif !(m63 a0.Kind 1 8) then some (LO.norm true) else (AW ([112]:Str) ((A6 a0.Kind).2)).bind fun y1=>bif y1 then bif !(a0.Path == ([]:Str)) then some (LO.norm true) else (AW ([100]:Str) ((A6 a0.Kind).2)).bind fun y2=>bif y2 then bif a0.Data != 0 then some (LO.norm true) else (AW ([118]:Str) ((A6 a0.Kind).2)).bind fun y3=>bif y3 then bif a0.Version != 0 then some (LO.norm true) else (AW ([115]:Str) ((A6 a0.Kind).2)).bind fun y4=>bif y4 then bif a0.Seq then some (LO.norm true) else (AW ([111]:Str) ((A6 a0.Kind).2)).bind fun y5=>bif y5 then some (LO.norm a0.Own) else some (LO.norm false) else (AW ([111]:Str) ((A6 a0.Kind).2)).bind fun y6=>bif y6 then some (LO.norm a0.Own) else some (LO.norm false) else (AW ([115]:Str) ((A6 a0.Kind).2)).bind fun y7=>bif y7 then bif a0.Seq then some (LO.norm true) else (AW ([111]:Str) ((A6 a0.Kind).2)).bind fun y8=>bif y8 then some (LO.norm a0.Own) else some (LO.norm false) else (AW ([111]:Str) ((A6 a0.Kind).2)).bind fun y9=>bif y9 then some (LO.norm a0.Own) else some (LO.norm false) else (AW ([118]:Str) ((A6 a0.Kind).2)).bind fun y10=>bif y10 then bif a0.Version != 0 then some (LO.norm true) else (AW ([115]:Str) ((A6 a0.Kind).2)).bind fun y11=>bif y11 then bif a0.Seq then some (LO.norm true) else (AW ([111]:Str) ((A6 a0.Kind).2)).bind fun y12=>bif y12 then some (LO.norm a0.Own) else some (LO.norm false) else (AW ([111]:Str) ((A6 a0.Kind).2)).bind fun y13=>bif y13 then some (LO.norm a0.Own) else some (LO.norm false) else (AW ([115]:Str) ((A6 a0.Kind).2)).bind fun y14=>bif y14 then bif a0.Seq then some (LO.norm true) else (AW ([111]:Str) ((A6 a0.Kind).2)).bind fun y15=>bif y15 then some (LO.norm a0.Own) else some (LO.norm false) else (AW ([111]:Str) ((A6 a0.Kind).2)).bind fun y16=>bif y16 then some (LO.norm a0.Own) else some (LO.norm false) else (AW ([100]:Str) ((A6 a0.Kind).2)).bind fun y17=>bif y17 then bif a0.Data != 0 then some (LO.norm true) else (AW ([118]:Str) ((A6 a0.Kind).2)).bind fun y18=>bif y18 then bif a0.Version != 0 then some (LO.norm true) else (AW ([115]:Str) ((A6 a0.Kind).2)).bind fun y19=>bif y19 then bif a0.Seq then some (LO.norm true) else (AW ([111]:Str) ((A6 a0.Kind).2)).bind fun y20=>bif y20 then some (LO.norm a0.Own) else some (LO.norm false) else (AW ([111]:Str) ((A6 a0.Kind).2)).bind fun y21=>bif y21 then some (LO.norm a0.Own) else some (LO.norm false) else (AW ([115]:Str) ((A6 a0.Kind).2)).bind fun y22=>bif y22 then bif a0.Seq then some (LO.norm true) else (AW ([111]:Str) ((A6 a0.Kind).2)).bind fun y23=>bif y23 then some (LO.norm a0.Own) else some (LO.norm false) else (AW ([111]:Str) ((A6 a0.Kind).2)).bind fun y24=>bif y24 then some (LO.norm a0.Own) else some (LO.norm false) else (AW ([118]:Str) ((A6 a0.Kind).2)).bind fun y25=>bif y25 then bif a0.Version != 0 then some (LO.norm true) else (AW ([115]:Str) ((A6 a0.Kind).2)).bind fun y26=>bif y26 then bif a0.Seq then some (LO.norm true) else (AW ([111]:Str) ((A6 a0.Kind).2)).bind fun y27=>bif y27 then some (LO.norm a0.Own) else some (LO.norm false) else (AW ([111]:Str) ((A6 a0.Kind).2)).bind fun y28=>bif y28 then some (LO.norm a0.Own) else some (LO.norm false) else (AW ([115]:Str) ((A6 a0.Kind).2)).bind fun y29=>bif y29 then bif a0.Seq then some (LO.norm true) else (AW ([111]:Str) ((A6 a0.Kind).2)).bind fun y30=>bif y30 then some (LO.norm a0.Own) else some (LO.norm false) else (AW ([111]:Str) ((A6 a0.Kind).2)).bind fun y31=>bif y31 then some (LO.norm a0.Own) else some (LO.norm false)).bind (Ai (fun s3=>bif s3 then some (LO.ret 1) else (AW ([112]:Str) ((A6 a0.Kind).2)).bind fun y32=>bif y32 then some (LO.ret 0) else some (LO.norm 0)) (fun i1 s3=>if i1 = 0 then some (LO.norm 0) else some (LO.exit i1 0)) (fun s3=>some (LO.ret 0)))).bind (Ai (fun s4=>(Uj a0.Path).bind fun y33=>bif y33 != 0 then some y33 else ( bif !(Xb a0.Data) then some (LO.ret 3) else bif !(m63 a0.Version (-1) 999) then some (LO.ret 3) else some (LO.norm s4)).bind (Ai (fun s6=>some 0) (fun i3 s6=>none) (fun s6=>some s6))) (fun i2 s4=>none) (fun s4=>some s4))
theorem w100 {d:Nat} (hd:5≤d) (k0:Bool) (a0:TOp):Fit (R NN d 100 [.agg (Enc.cs k0 a0)] []) (Pq a0) PI:=by
  obtain ⟨d,rfl,g⟩:=up hd
  refine A8 (t100 NN d _) ?_
  unfold oZ Pq
  refine AD (n:=6) rfl rfl (by decide) fun b1=>q_p fr<|Au 0 rfl rfl<|AA (aF1 (Ae rfl) fun l0_=>w141 (by omega) a0.Kind)<|q_q fr<|q_q fr<|AT rfl fun b2=>AN 0 rfl rfl rfl (by decide) rfl<|AY (A:=fun (s:Int)=>[iW s]) (B:=fun s=>[bx b2 [Cb ((A6 a0.Kind).2)],bx b1 [iW a0.Kind,Cb a0.Path,iW a0.Data,iW a0.Version,.bool a0.Seq,.bool a0.Own]]) ?_ ?_ ?_ ?_
  ·refine AY (A:=fun (s:Bool)=>[.bool s]) (B:=fun s=>[bx b2 [Cb ((A6 a0.Kind).2)],bx b1 [iW a0.Kind,Cb a0.Path,iW a0.Data,iW a0.Version,.bool a0.Seq,.bool a0.Own]]) ?_ ?_ ?_ ?_
   ·exact q_p fr<|Au 1 rfl rfl<|AA (aF3 (Ae rfl) (Ae rfl) (Ae rfl) fun l0_ l1_ l2_=>w63 (by omega) a0.Kind 1 8)<|q_p fr<|q_j (Ad 0 rr)<|DK (mg:=AW ([112]:Str) ((A6 a0.Kind).2)) (E:=(fun (t:Bool)=>AV.bool t)) (fun S=>AP _ _ _ _) (aF2 (Ae rfl) (Bv 0 rfl (Ar (l0:=false) (x:=(A6 a0.Kind).2))) fun l0_ l1_=>DF (by omega) ([112]:Str) l1_ ((A6 a0.Kind).2)) fun y1 hy1=>q_k (q_p fr<|Au 1 rfl rfl<|q_p (fun _=>Iu)<|q_j (Ad 0 rr)<|DK (mg:=AW ([100]:Str) ((A6 a0.Kind).2)) (E:=(fun (t:Bool)=>AV.bool t)) (fun S=>AP _ _ _ _) (aF2 (Ae rfl) (Bv 0 rfl (Ar (l0:=false) (x:=(A6 a0.Kind).2))) fun l0_ l1_=>DF (by omega) ([100]:Str) l1_ ((A6 a0.Kind).2)) fun y2 hy2=>q_k (q_p fr<|Au 1 rfl rfl<|q_p fr<|q_j (Ad 0 rr)<|DK (mg:=AW ([118]:Str) ((A6 a0.Kind).2)) (E:=(fun (t:Bool)=>AV.bool t)) (fun S=>AP _ _ _ _) (aF2 (Ae rfl) (Bv 0 rfl (Ar (l0:=false) (x:=(A6 a0.Kind).2))) fun l0_ l1_=>DF (by omega) ([118]:Str) l1_ ((A6 a0.Kind).2)) fun y3 hy3=>q_k (q_p fr<|Au 1 rfl rfl<|q_p fr<|q_j (Ad 0 rr)<|DK (mg:=AW ([115]:Str) ((A6 a0.Kind).2)) (E:=(fun (t:Bool)=>AV.bool t)) (fun S=>AP _ _ _ _) (aF2 (Ae rfl) (Bv 0 rfl (Ar (l0:=false) (x:=(A6 a0.Kind).2))) fun l0_ l1_=>DF (by omega) ([115]:Str) l1_ ((A6 a0.Kind).2)) fun y4 hy4=>q_k (q_p fr<|Au 1 rfl rfl<|q_j (Ad 0 rr)<|DK (mg:=AW ([111]:Str) ((A6 a0.Kind).2)) (E:=(fun (t:Bool)=>AV.bool t)) (fun S=>AP _ _ _ _) (aF2 (Ae rfl) (Bv 0 rfl (Ar (l0:=false) (x:=(A6 a0.Kind).2))) fun l0_ l1_=>DF (by omega) ([111]:Str) l1_ ((A6 a0.Kind).2)) fun y5 hy5=>q_k (q_p fr<|Au 1 rfl rfl<|Ad 0 rr)<|Ad 0 rr)<|DK (mg:=AW ([111]:Str) ((A6 a0.Kind).2)) (E:=(fun (t:Bool)=>AV.bool t)) (fun S=>AP _ _ _ _) (aF2 (Ae rfl) (Bv 0 rfl (Ar (l0:=false) (x:=(A6 a0.Kind).2))) fun l0_ l1_=>DF (by omega) ([111]:Str) l1_ ((A6 a0.Kind).2)) fun y6 hy6=>q_k (q_p fr<|Au 1 rfl rfl<|Ad 0 rr)<|Ad 0 rr)<|DK (mg:=AW ([115]:Str) ((A6 a0.Kind).2)) (E:=(fun (t:Bool)=>AV.bool t)) (fun S=>AP _ _ _ _) (aF2 (Ae rfl) (Bv 0 rfl (Ar (l0:=false) (x:=(A6 a0.Kind).2))) fun l0_ l1_=>DF (by omega) ([115]:Str) l1_ ((A6 a0.Kind).2)) fun y7 hy7=>q_k (q_p fr<|Au 1 rfl rfl<|q_j (Ad 0 rr)<|DK (mg:=AW ([111]:Str) ((A6 a0.Kind).2)) (E:=(fun (t:Bool)=>AV.bool t)) (fun S=>AP _ _ _ _) (aF2 (Ae rfl) (Bv 0 rfl (Ar (l0:=false) (x:=(A6 a0.Kind).2))) fun l0_ l1_=>DF (by omega) ([111]:Str) l1_ ((A6 a0.Kind).2)) fun y8 hy8=>q_k (q_p fr<|Au 1 rfl rfl<|Ad 0 rr)<|Ad 0 rr)<|DK (mg:=AW ([111]:Str) ((A6 a0.Kind).2)) (E:=(fun (t:Bool)=>AV.bool t)) (fun S=>AP _ _ _ _) (aF2 (Ae rfl) (Bv 0 rfl (Ar (l0:=false) (x:=(A6 a0.Kind).2))) fun l0_ l1_=>DF (by omega) ([111]:Str) l1_ ((A6 a0.Kind).2)) fun y9 hy9=>q_k (q_p fr<|Au 1 rfl rfl<|Ad 0 rr)<|Ad 0 rr)<|DK (mg:=AW ([118]:Str) ((A6 a0.Kind).2)) (E:=(fun (t:Bool)=>AV.bool t)) (fun S=>AP _ _ _ _) (aF2 (Ae rfl) (Bv 0 rfl (Ar (l0:=false) (x:=(A6 a0.Kind).2))) fun l0_ l1_=>DF (by omega) ([118]:Str) l1_ ((A6 a0.Kind).2)) fun y10 hy10=>q_k (q_p fr<|Au 1 rfl rfl<|q_p fr<|q_j (Ad 0 rr)<|DK (mg:=AW ([115]:Str) ((A6 a0.Kind).2)) (E:=(fun (t:Bool)=>AV.bool t)) (fun S=>AP _ _ _ _) (aF2 (Ae rfl) (Bv 0 rfl (Ar (l0:=false) (x:=(A6 a0.Kind).2))) fun l0_ l1_=>DF (by omega) ([115]:Str) l1_ ((A6 a0.Kind).2)) fun y11 hy11=>q_k (q_p fr<|Au 1 rfl rfl<|q_j (Ad 0 rr)<|DK (mg:=AW ([111]:Str) ((A6 a0.Kind).2)) (E:=(fun (t:Bool)=>AV.bool t)) (fun S=>AP _ _ _ _) (aF2 (Ae rfl) (Bv 0 rfl (Ar (l0:=false) (x:=(A6 a0.Kind).2))) fun l0_ l1_=>DF (by omega) ([111]:Str) l1_ ((A6 a0.Kind).2)) fun y12 hy12=>q_k (q_p fr<|Au 1 rfl rfl<|Ad 0 rr)<|Ad 0 rr)<|DK (mg:=AW ([111]:Str) ((A6 a0.Kind).2)) (E:=(fun (t:Bool)=>AV.bool t)) (fun S=>AP _ _ _ _) (aF2 (Ae rfl) (Bv 0 rfl (Ar (l0:=false) (x:=(A6 a0.Kind).2))) fun l0_ l1_=>DF (by omega) ([111]:Str) l1_ ((A6 a0.Kind).2)) fun y13 hy13=>q_k (q_p fr<|Au 1 rfl rfl<|Ad 0 rr)<|Ad 0 rr)<|DK (mg:=AW ([115]:Str) ((A6 a0.Kind).2)) (E:=(fun (t:Bool)=>AV.bool t)) (fun S=>AP _ _ _ _) (aF2 (Ae rfl) (Bv 0 rfl (Ar (l0:=false) (x:=(A6 a0.Kind).2))) fun l0_ l1_=>DF (by omega) ([115]:Str) l1_ ((A6 a0.Kind).2)) fun y14 hy14=>q_k (q_p fr<|Au 1 rfl rfl<|q_j (Ad 0 rr)<|DK (mg:=AW ([111]:Str) ((A6 a0.Kind).2)) (E:=(fun (t:Bool)=>AV.bool t)) (fun S=>AP _ _ _ _) (aF2 (Ae rfl) (Bv 0 rfl (Ar (l0:=false) (x:=(A6 a0.Kind).2))) fun l0_ l1_=>DF (by omega) ([111]:Str) l1_ ((A6 a0.Kind).2)) fun y15 hy15=>q_k (q_p fr<|Au 1 rfl rfl<|Ad 0 rr)<|Ad 0 rr)<|DK (mg:=AW ([111]:Str) ((A6 a0.Kind).2)) (E:=(fun (t:Bool)=>AV.bool t)) (fun S=>AP _ _ _ _) (aF2 (Ae rfl) (Bv 0 rfl (Ar (l0:=false) (x:=(A6 a0.Kind).2))) fun l0_ l1_=>DF (by omega) ([111]:Str) l1_ ((A6 a0.Kind).2)) fun y16 hy16=>q_k (q_p fr<|Au 1 rfl rfl<|Ad 0 rr)<|Ad 0 rr)<|DK (mg:=AW ([100]:Str) ((A6 a0.Kind).2)) (E:=(fun (t:Bool)=>AV.bool t)) (fun S=>AP _ _ _ _) (aF2 (Ae rfl) (Bv 0 rfl (Ar (l0:=false) (x:=(A6 a0.Kind).2))) fun l0_ l1_=>DF (by omega) ([100]:Str) l1_ ((A6 a0.Kind).2)) fun y17 hy17=>q_k (q_p fr<|Au 1 rfl rfl<|q_p fr<|q_j (Ad 0 rr)<|DK (mg:=AW ([118]:Str) ((A6 a0.Kind).2)) (E:=(fun (t:Bool)=>AV.bool t)) (fun S=>AP _ _ _ _) (aF2 (Ae rfl) (Bv 0 rfl (Ar (l0:=false) (x:=(A6 a0.Kind).2))) fun l0_ l1_=>DF (by omega) ([118]:Str) l1_ ((A6 a0.Kind).2)) fun y18 hy18=>q_k (q_p fr<|Au 1 rfl rfl<|q_p fr<|q_j (Ad 0 rr)<|DK (mg:=AW ([115]:Str) ((A6 a0.Kind).2)) (E:=(fun (t:Bool)=>AV.bool t)) (fun S=>AP _ _ _ _) (aF2 (Ae rfl) (Bv 0 rfl (Ar (l0:=false) (x:=(A6 a0.Kind).2))) fun l0_ l1_=>DF (by omega) ([115]:Str) l1_ ((A6 a0.Kind).2)) fun y19 hy19=>q_k (q_p fr<|Au 1 rfl rfl<|q_j (Ad 0 rr)<|DK (mg:=AW ([111]:Str) ((A6 a0.Kind).2)) (E:=(fun (t:Bool)=>AV.bool t)) (fun S=>AP _ _ _ _) (aF2 (Ae rfl) (Bv 0 rfl (Ar (l0:=false) (x:=(A6 a0.Kind).2))) fun l0_ l1_=>DF (by omega) ([111]:Str) l1_ ((A6 a0.Kind).2)) fun y20 hy20=>q_k (q_p fr<|Au 1 rfl rfl<|Ad 0 rr)<|Ad 0 rr)<|DK (mg:=AW ([111]:Str) ((A6 a0.Kind).2)) (E:=(fun (t:Bool)=>AV.bool t)) (fun S=>AP _ _ _ _) (aF2 (Ae rfl) (Bv 0 rfl (Ar (l0:=false) (x:=(A6 a0.Kind).2))) fun l0_ l1_=>DF (by omega) ([111]:Str) l1_ ((A6 a0.Kind).2)) fun y21 hy21=>q_k (q_p fr<|Au 1 rfl rfl<|Ad 0 rr)<|Ad 0 rr)<|DK (mg:=AW ([115]:Str) ((A6 a0.Kind).2)) (E:=(fun (t:Bool)=>AV.bool t)) (fun S=>AP _ _ _ _) (aF2 (Ae rfl) (Bv 0 rfl (Ar (l0:=false) (x:=(A6 a0.Kind).2))) fun l0_ l1_=>DF (by omega) ([115]:Str) l1_ ((A6 a0.Kind).2)) fun y22 hy22=>q_k (q_p fr<|Au 1 rfl rfl<|q_j (Ad 0 rr)<|DK (mg:=AW ([111]:Str) ((A6 a0.Kind).2)) (E:=(fun (t:Bool)=>AV.bool t)) (fun S=>AP _ _ _ _) (aF2 (Ae rfl) (Bv 0 rfl (Ar (l0:=false) (x:=(A6 a0.Kind).2))) fun l0_ l1_=>DF (by omega) ([111]:Str) l1_ ((A6 a0.Kind).2)) fun y23 hy23=>q_k (q_p fr<|Au 1 rfl rfl<|Ad 0 rr)<|Ad 0 rr)<|DK (mg:=AW ([111]:Str) ((A6 a0.Kind).2)) (E:=(fun (t:Bool)=>AV.bool t)) (fun S=>AP _ _ _ _) (aF2 (Ae rfl) (Bv 0 rfl (Ar (l0:=false) (x:=(A6 a0.Kind).2))) fun l0_ l1_=>DF (by omega) ([111]:Str) l1_ ((A6 a0.Kind).2)) fun y24 hy24=>q_k (q_p fr<|Au 1 rfl rfl<|Ad 0 rr)<|Ad 0 rr)<|DK (mg:=AW ([118]:Str) ((A6 a0.Kind).2)) (E:=(fun (t:Bool)=>AV.bool t)) (fun S=>AP _ _ _ _) (aF2 (Ae rfl) (Bv 0 rfl (Ar (l0:=false) (x:=(A6 a0.Kind).2))) fun l0_ l1_=>DF (by omega) ([118]:Str) l1_ ((A6 a0.Kind).2)) fun y25 hy25=>q_k (q_p fr<|Au 1 rfl rfl<|q_p fr<|q_j (Ad 0 rr)<|DK (mg:=AW ([115]:Str) ((A6 a0.Kind).2)) (E:=(fun (t:Bool)=>AV.bool t)) (fun S=>AP _ _ _ _) (aF2 (Ae rfl) (Bv 0 rfl (Ar (l0:=false) (x:=(A6 a0.Kind).2))) fun l0_ l1_=>DF (by omega) ([115]:Str) l1_ ((A6 a0.Kind).2)) fun y26 hy26=>q_k (q_p fr<|Au 1 rfl rfl<|q_j (Ad 0 rr)<|DK (mg:=AW ([111]:Str) ((A6 a0.Kind).2)) (E:=(fun (t:Bool)=>AV.bool t)) (fun S=>AP _ _ _ _) (aF2 (Ae rfl) (Bv 0 rfl (Ar (l0:=false) (x:=(A6 a0.Kind).2))) fun l0_ l1_=>DF (by omega) ([111]:Str) l1_ ((A6 a0.Kind).2)) fun y27 hy27=>q_k (q_p fr<|Au 1 rfl rfl<|Ad 0 rr)<|Ad 0 rr)<|DK (mg:=AW ([111]:Str) ((A6 a0.Kind).2)) (E:=(fun (t:Bool)=>AV.bool t)) (fun S=>AP _ _ _ _) (aF2 (Ae rfl) (Bv 0 rfl (Ar (l0:=false) (x:=(A6 a0.Kind).2))) fun l0_ l1_=>DF (by omega) ([111]:Str) l1_ ((A6 a0.Kind).2)) fun y28 hy28=>q_k (q_p fr<|Au 1 rfl rfl<|Ad 0 rr)<|Ad 0 rr)<|DK (mg:=AW ([115]:Str) ((A6 a0.Kind).2)) (E:=(fun (t:Bool)=>AV.bool t)) (fun S=>AP _ _ _ _) (aF2 (Ae rfl) (Bv 0 rfl (Ar (l0:=false) (x:=(A6 a0.Kind).2))) fun l0_ l1_=>DF (by omega) ([115]:Str) l1_ ((A6 a0.Kind).2)) fun y29 hy29=>q_k (q_p fr<|Au 1 rfl rfl<|q_j (Ad 0 rr)<|DK (mg:=AW ([111]:Str) ((A6 a0.Kind).2)) (E:=(fun (t:Bool)=>AV.bool t)) (fun S=>AP _ _ _ _) (aF2 (Ae rfl) (Bv 0 rfl (Ar (l0:=false) (x:=(A6 a0.Kind).2))) fun l0_ l1_=>DF (by omega) ([111]:Str) l1_ ((A6 a0.Kind).2)) fun y30 hy30=>q_k (q_p fr<|Au 1 rfl rfl<|Ad 0 rr)<|Ad 0 rr)<|DK (mg:=AW ([111]:Str) ((A6 a0.Kind).2)) (E:=(fun (t:Bool)=>AV.bool t)) (fun S=>AP _ _ _ _) (aF2 (Ae rfl) (Bv 0 rfl (Ar (l0:=false) (x:=(A6 a0.Kind).2))) fun l0_ l1_=>DF (by omega) ([111]:Str) l1_ ((A6 a0.Kind).2)) fun y31 hy31=>q_k (q_p fr<|Au 1 rfl rfl<|Ad 0 rr)<|Ad 0 rr
   ·exact fun s3=>q_i (Am 0 rr)<|DK (mg:=AW ([112]:Str) ((A6 a0.Kind).2)) (E:=(fun (t:Bool)=>AV.bool t)) (fun S=>AP _ _ _ _) (aF2 (Ae rfl) (Bv 0 rfl (Ar (l0:=false) (x:=(A6 a0.Kind).2))) fun l0_ l1_=>DF (by omega) ([112]:Str) l1_ ((A6 a0.Kind).2)) fun y32 hy32=>q_i (Am 0 rr)<|Ad 0 rr
   ·exact fun i1 s3=>q_n (Ad 0 rr)<|Ap 0 rr
   ·exact fun s3=>Am 0 rr
  ·intro s4
   refine q_p fr<|Au 1 rfl rfl<|A5 (aF1 (Ae rfl) fun l0_=>w144 (by omega) a0.Path) fun y33 hy33=>q_p fr<|q_i ?_ ?_
   ·exact Ak (Ae rfl) rfl
   ·refine AY (A:=fun (s:Int)=>[iW s]) (B:=fun s=>[bx b2 [Cb ((A6 a0.Kind).2)],bx b1 [iW a0.Kind,Cb a0.Path,iW a0.Data,iW a0.Version,.bool a0.Seq,.bool a0.Own]]) ?_ ?_ ?_ ?_
    ·refine q_p fr<|Au 1 rfl rfl<|AA (aF1 (Ae rfl) fun l0_=>w145 (by omega) a0.Data)<|q_p fr<|q_j ?_ ?_
     ·first | refine BL ?_ | skip
      exact Am 0 rr
     ·exact q_p fr<|Au 1 rfl rfl<|AA (aF3 (Ae rfl) (Ae rfl) (Ae rfl) fun l0_ l1_ l2_=>w63 (by omega) a0.Version (-1) 999)<|q_p fr<|q_i (Am 0 rr)<|Ad 0 rr
    ·exact fun s6=>Ak (Ae rfl) rfl
    ·exact fun i3 s6=>As
    ·exact fun s6=>Ak (Ae rfl) rfl
  ·exact fun i2 s4=>As
  ·exact fun s4=>Ak (Ae rfl) rfl
def SA (a0:List TOp) (a1:TOp→Option (Bool)) (s1:Int×Int):Option (LO (Int×Int)):=bif decide (s1.2 < (a0.length:Int)) then (Aq a0 s1.2).bind fun x1=>(a1 x1).bind fun y1=>bif y1 then some (LO.ret (s1.2,s1.2)) else some (LO.norm (s1.1,wi .i64 (s1.2 + 1))) else some (LO.exit 0 (s1.1,s1.2))
def eM (a0:List TOp) (a1:TOp→Option (Bool)):Option (Int):=(Ax (SA a0 a1) NN (0,0)).bind (Ai (fun _=>none) (fun i1 s2=>if i1 = 0 then some (-1) else none) (fun s2=>some s2.1))
theorem w146 {Dc:Nat} {d:Nat} (hd:Dc + 1≤d) (k0:Bool) (a0:List TOp) (c1:Bool→AV) (hc1:∀ l,CV 8 [] false (c1 l) c1) (a1:TOp→Option (Bool)) (tc1:∀ (d:Nat),Dc≤d→∀ (l:Bool) (q0:Bool) (x0:TOp) (S:St) (t:Bool),a1 x0 = some t→AK (cfg NN) (R NN d) 146 (c1 l) [.agg (Enc.cs q0 x0)] S = some ((fun (t:Bool)=>AV.bool t) t,S)) (k1:Bool):Fit (R NN d 146 [.rsl k0 false (a0.map (Enc.cs k0)),c1 k1] []) (eM a0 a1) PI:=by
  obtain ⟨d,rfl,g⟩:=up hd
  refine A8 (t146 NN d _ _) ?_
  unfold nE eM
  refine A7<|Cc (A:=fun (s:Int×Int)=>[iW s.1,iW s.2]) (B:=fun s=>[]) 0 rr ?_ ?_ ?_
  ·intro s1
   unfold V9 SA
   exact q_p fr<|q_i (Bd rfl fun x1 hx1=>q_p fr<|TK (mg:=a1 x1) (E:=(fun (t:Bool)=>AV.bool t)) (fun S t ht=>tc1 d (by omega) k1 k0 x1 S t ht) fun y1 hy1=>q_i (Am 0 rr)<|q_p fr<|Ad 0 rr)<|Ap 0 rr
  ·exact fun i1 s2=>q_n (Ak (Ae rfl) rfl)<|As
  ·exact fun s2=>Ak (Ae rfl) rfl
def Zn (a0:List TOp) (a1:TOp→Option (Bool)):Option (Bool):=(eM a0 a1).bind fun y1=>some (decide (y1 ≥ 0))
theorem w101 {Dc:Nat} {d:Nat} (hd:Dc + 2≤d) (k0:Bool) (a0:List TOp) (c1:Bool→AV) (hc1:∀ l,CV 8 [] false (c1 l) c1) (a1:TOp→Option (Bool)) (tc1:∀ (d:Nat),Dc≤d→∀ (l:Bool) (q0:Bool) (x0:TOp) (S:St) (t:Bool),a1 x0 = some t→AK (cfg NN) (R NN d) 146 (c1 l) [.agg (Enc.cs q0 x0)] S = some ((fun (t:Bool)=>AV.bool t) t,S)) (k1:Bool):Fit (R NN d 101 [.rsl k0 false (a0.map (Enc.cs k0)),c1 k1] []) (Zn a0 a1) PB:=by
  obtain ⟨d,rfl,g⟩:=up hd
  refine A8 (t101 NN d _ _) ?_
  unfold oY Zn
  exact A5 (aF2 A3 (CV.any (hc1 k1)) fun l0_ l1_=>w146 (by omega) l0_ a0 c1 hc1 a1 tc1 l1_) fun y1 hy1=>q_p fr<|Ak (Ae rfl) rfl
def QQ (a0:TOp):Bool:=bif a0.Kind == 1 then true else a0.Kind == 2
theorem w102 {d:Nat} (hd:1≤d) (k0:Bool) (a0:TOp):Fit (R NN d 102 [.agg (Enc.cs k0 a0)] []) (some (QQ a0)) PB:=by
  obtain ⟨d,rfl,g⟩:=up hd
  refine A8 (t102 NN d _) ?_
  unfold oW QQ
  exact AD (n:=6) rfl rfl (by decide) fun b1=>q_p fr<|Au 0 rfl rfl<|q_p fr<|Wa (fun h1=>Ak (Ae rfl) rfl) fun h1=>q_p fr<|Au 0 rfl rfl<|q_p fr<|Ak (Ae rfl) rfl
def GY (a0:Ag) (s5:Int×Int):Option (LO (Int×Int)):=bif decide (s5.2 < (a0.Ops.length:Int)) then (Aq a0.Ops s5.2).bind fun x1=>(Pq x1).bind fun y1=>bif y1 != 0 then some (LO.ret (y1,s5.2)) else some (LO.norm (s5.1,wi .i64 (s5.2 + 1))) else some (LO.exit 1 (s5.1,s5.2))
def m55 (a0:Ag):Option (Int):=( ( bif !(m98 a0.Client) then some (LO.norm true) else bif !(m63 a0.Number 1 99) then some (LO.norm true) else some (LO.norm (!(m99 a0.Time)))).bind (Ai (fun s3=>bif s3 then some (LO.ret 3) else bif !(m63 (a0.Ops.length:Int) 1 3) then some (LO.ret 2) else some (LO.norm 0)) (fun i1 s3=>if i1 = 0 then some (LO.norm 0) else some (LO.exit i1 0)) (fun s3=>some (LO.ret 0)))).bind (Ai (fun s4=>(Ax (GY a0) NN (s4,0)).bind (Ai (fun _=>none) (fun i3 s6=>if i3 = 1 then ( bif decide ((a0.Ops.length:Int) > 1) then (Zn a0.Ops (fun x0_=>some (QQ x0_))).bind fun y2=>bif y2 then some (LO.ret 1) else some (LO.norm s6.1) else some (LO.norm s6.1)).bind (Ai (fun s8=>some 0) (fun i4 s8=>none) (fun s8=>some s8)) else none) (fun s6=>some s6.1))) (fun i2 s4=>none) (fun s4=>some s4))
theorem w55 {d:Nat} (hd:8≤d) (k0:Bool) (a0:Ag):Fit (R NN d 55 [.agg (Enc.cs k0 a0)] []) (m55 a0) PI:=by
  obtain ⟨d,rfl,g⟩:=up hd
  refine A8 (t55 NN d _) ?_
  unfold b55 m55
  refine AD (n:=4) rfl rfl (by decide) fun b1=>AY (A:=fun (s:Int)=>[iW s]) (B:=fun s=>[bx b1 [iW a0.Client,iW a0.Number,iW a0.Time,.rsl k0 false (a0.Ops.map (Enc.cs k0))]]) ?_ ?_ ?_ ?_
  ·refine AY (A:=fun (s:Bool)=>[.bool s]) (B:=fun s=>[bx b1 [iW a0.Client,iW a0.Number,iW a0.Time,.rsl k0 false (a0.Ops.map (Enc.cs k0))]]) ?_ ?_ ?_ ?_
   ·exact q_p fr<|Au 0 rfl rfl<|AA (aF1 (Ae rfl) fun l0_=>w98 (by omega) a0.Client)<|q_p fr<|q_j (Ad 0 rr)<|q_p fr<|Au 0 rfl rfl<|AA (aF3 (Ae rfl) (Ae rfl) (Ae rfl) fun l0_ l1_ l2_=>w63 (by omega) a0.Number 1 99)<|q_p fr<|q_j (Ad 0 rr)<|q_p fr<|Au 0 rfl rfl<|AA (aF1 (Ae rfl) fun l0_=>w99 (by omega) a0.Time)<|q_p fr<|Ad 0 rr
   ·exact fun s3=>q_i (Am 0 rr)<|q_p fr<|Au 0 rfl rfl<|A7<|AA (aF3 (Ae rfl) (Ae rfl) (Ae rfl) fun l0_ l1_ l2_=>w63 (by omega) (a0.Ops.length:Int) 1 3)<|q_p fr<|q_i (Am 0 rr)<|Ad 0 rr
   ·exact fun i1 s3=>q_n (Ad 0 rr)<|Ap 0 rr
   ·exact fun s3=>Am 0 rr
  ·intro s4
   refine q_p fr<|Au 0 rfl rfl<|A7<|Cc (A:=fun (s:Int×Int)=>[iW s.1,iW s.2]) (B:=fun s=>[bx b1 [iW a0.Client,iW a0.Number,iW a0.Time,.rsl k0 false (a0.Ops.map (Enc.cs k0))]]) 0 rr ?_ ?_ ?_
   ·intro s5
    unfold aN GY
    exact q_p fr<|q_i (Bd rfl fun x1 hx1=>q_p fr<|AT rfl fun b2=>AN 0 rfl rfl rfl (by decide) rfl<|AB 0 rfl rfl rfl<|A5 (aF1 (AS (Ar (l0:=false) (x:=x1))) fun l0_=>w100 (by omega) l0_ x1) fun y1 hy1=>q_p fr<|q_i (Am 1 rr)<|q_p fr<|Ad 1 rr)<|Ap 0 rr
   ·intro i3 s6
    refine q_n ?_ ?_
    ·refine AY (A:=fun (s:Int)=>[iW s]) (B:=fun s=>[bx b1 [iW a0.Client,iW a0.Number,iW a0.Time,.rsl k0 false (a0.Ops.map (Enc.cs k0))]]) ?_ ?_ ?_ ?_
     ·refine q_p fr<|Au 0 rfl rfl<|A7<|q_p fr<|q_k ?_ ?_
      ·exact q_p fr<|Au 0 rfl rfl<|A5 (aF2 A3 (BJ Ao) fun l0_ l1_=>w101 (Dc:=1) (by omega) l0_ a0.Ops (fun l=>.fn 102 []) (fun l=>BJ Ao) (fun x0_=>some (QQ x0_)) (fun d hd l q0_ x0_ S t ht=>(U3 _ _ _ _).trans (Dk (E:=(fun (t:Bool)=>AV.bool t)) (mg:=some (QQ x0_)) (Yh (M:=fun a=>Fit (R NN d 102 a []) _ _) (AS (Ar (l0:=q0_) (x:=x0_))) HP.nil fun u0_=>w102 hd u0_ x0_) ht)) l1_) fun y2 hy2=>q_i (Am 0 rr)<|Ad 0 rr
      ·first | refine Dy ?_ | skip
       exact Ad 0 rr
     ·exact fun s8=>Ak (Ae rfl) rfl
     ·exact fun i4 s8=>As
     ·exact fun s8=>Ak (Ae rfl) rfl
    ·exact As
   ·exact fun s6=>Ak (Ae rfl) rfl
  ·exact fun i2 s4=>As
  ·exact fun s4=>Ak (Ae rfl) rfl
def SD (a0:List Ag) (a1:Ag→Option (Bool)) (s1:Int×Int):Option (LO (Int×Int)):=bif decide (s1.2 < (a0.length:Int)) then (Aq a0 s1.2).bind fun x1=>(a1 x1).bind fun y1=>bif y1 then some (LO.ret (s1.2,s1.2)) else some (LO.norm (s1.1,wi .i64 (s1.2 + 1))) else some (LO.exit 0 (s1.1,s1.2))
def Zm (a0:List Ag) (a1:Ag→Option (Bool)):Option (Int):=(Ax (SD a0 a1) NN (0,0)).bind (Ai (fun _=>none) (fun i1 s2=>if i1 = 0 then some (-1) else none) (fun s2=>some s2.1))
theorem w103 {Dc:Nat} {d:Nat} (hd:Dc + 1≤d) (k0:Bool) (a0:List Ag) (c1:Bool→AV) (hc1:∀ l,CV 8 [] false (c1 l) c1) (a1:Ag→Option (Bool)) (tc1:∀ (d:Nat),Dc≤d→∀ (l:Bool) (q0:Bool) (x0:Ag) (S:St) (t:Bool),a1 x0 = some t→AK (cfg NN) (R NN d) 103 (c1 l) [.agg (Enc.cs q0 x0)] S = some ((fun (t:Bool)=>AV.bool t) t,S)) (k1:Bool):Fit (R NN d 103 [.rsl k0 false (a0.map (Enc.cs k0)),c1 k1] []) (Zm a0 a1) PI:=by
  obtain ⟨d,rfl,g⟩:=up hd
  refine A8 (t103 NN d _ _) ?_
  unfold oV Zm
  refine A7<|Cc (A:=fun (s:Int×Int)=>[iW s.1,iW s.2]) (B:=fun s=>[]) 0 rr ?_ ?_ ?_
  ·intro s1
   unfold VL SD
   exact q_p fr<|q_i (Bd rfl fun x1 hx1=>q_p fr<|TK (mg:=a1 x1) (E:=(fun (t:Bool)=>AV.bool t)) (fun S t ht=>tc1 d (by omega) k1 k0 x1 S t ht) fun y1 hy1=>q_i (Am 0 rr)<|q_p fr<|Ad 0 rr)<|Ap 0 rr
  ·exact fun i1 s2=>q_n (Ak (Ae rfl) rfl)<|As
  ·exact fun s2=>Ak (Ae rfl) rfl
def QP (a0:Ag) (a1:Ag):Bool:=bif a0.Client == a1.Client then a0.Number == a1.Number else false
theorem w104 {d:Nat} (hd:1≤d) (k0:Bool) (a0:Ag) (k1:Bool) (a1:Ag):Fit (R NN d 104 [.agg (Enc.cs k0 a0),.rp k1 (Enc.cs k1 a1)] []) (some (QP a0 a1)) PB:=by
  obtain ⟨d,rfl,g⟩:=up hd
  refine A8 (t104 NN d _ _) ?_
  unfold oU QP
  exact AD (n:=4) rfl rfl (by decide) fun b1=>q_p fr<|Au 0 rfl rfl<|q_p fr<|q_p fr<|q_p fr<|VZ (fun h1=>q_p fr<|Au 0 rfl rfl<|q_p fr<|q_p fr<|q_p fr<|Ak (Ae rfl) rfl) fun h1=>Ak (Ae rfl) rfl
def m56 (a0:List Ag) (a1:Ag):Option (Int):=(Zm a0 (fun x0_=>some (QP x0_ a1))).bind fun y1=>some y1
theorem w56 {d:Nat} (hd:3≤d) (k0:Bool) (a0:List Ag) (k1:Bool) (a1:Ag):Fit (R NN d 56 [.rsl k0 false (a0.map (Enc.cs k0)),.agg (Enc.cs k1 a1)] []) (m56 a0 a1) PI:=by
  obtain ⟨d,rfl,g⟩:=up hd
  refine A8 (t56 NN d _ _) ?_
  unfold b56 m56
  exact AD (n:=4) rfl rfl (by decide) fun b1=>A5 (aF2 A3 (BJ (Ab (Bv 0 rfl (Ar (l0:=k1) (x:=a1))) Ao)) fun l0_ l1_=>w103 (Dc:=1) (by omega) l0_ a0 (fun l=>.fn 104 [.rp l (Enc.cs l a1)]) (fun l=>BJ (Ab (Bc (Ar (l0:=l) (x:=a1)) (fun _ _ _ h=>Enc.frz _ a1 _ _ _ h)) Ao)) (fun x0_=>some (QP x0_ a1)) (fun d hd l q0_ x0_ S t ht=>(U5 _ _ _ _).trans (Dk (E:=(fun (t:Bool)=>AV.bool t)) (mg:=some (QP x0_ a1)) (N8 (M:=fun a=>Fit (R NN d 104 a []) _ _) (AS (Ar (l0:=q0_) (x:=x0_))) (Bc (Ar (l0:=l) (x:=a1)) (fun _ _ _ h=>Enc.frz _ a1 _ _ _ h)) HP.nil fun u0_ v0_=>w104 hd u0_ x0_ v0_ a1) ht)) l1_) fun y1 hy1=>Ak (Ae rfl) rfl
def m39 (a0:Aa) (a1:Ag):Option (Int×Aa):=(m55 a1).bind fun y1=>bif y1 != 0 then some (y1,a0) else (m56 a0.Requests a1).bind fun y2=>bif decide (y2 ≥ 0) then some (6,a0) else bif (a0.Requests.length:Int) == 12 then some (2,a0) else (B7 48 a0.Requests [a1]).bind fun z1=>some (0,(⟨a0.F,a0.Bad,a0.Replicas,a0.Ledger,z1⟩:Aa))
theorem w39 {d:Nat} (hd:9≤d) (L0:List En) (b0_:Nat) (i0_1 i0_2 i0_3 i0_4:List Nat) (v0_1 v0_2 v0_3 v0_4:AV) (a0:Aa) (k1:Bool) (a1:Ag):Okh (bx b0_ [iW a0.F,v0_1,v0_2,v0_3,v0_4]::tr i0_1 [v0_1] (a0.Bad:List Int)::tr i0_2 [v0_2] (a0.Replicas:List Af)::wls i0_3 v0_3 (a0.Ledger:List Ah)::wla i0_4 v0_4 (a0.Requests:List Ag)::L0) (fun S=>R NN d 39 [.bp b0_ 0 0 5 1,.agg (Enc.cs k1 a1)] S) (m39 a0 a1) (P5 (fun (x:List Nat×List Nat×AV×AV) (t:Int×Aa)=>AV.int .i64 t.1) (fun (x:List Nat×List Nat×AV×AV) (t:Int×Aa)=>bx b0_ [iW t.2.F,v0_1,v0_2,x.2.2.1,x.2.2.2]::tr i0_1 [v0_1] (t.2.Bad:List Int)::tr i0_2 [v0_2] (t.2.Replicas:List Af)::wls x.1 x.2.2.1 (t.2.Ledger:List Ah)::wla x.2.1 x.2.2.2 (t.2.Requests:List Ag)::L0)):=by
  obtain ⟨d,rfl,g⟩:=up hd
  refine D9 (t39 NN d _ _) ?_
  unfold b39 m39
  exact AD (n:=4) rfl rfl (by decide) fun b1=>AB 0 rfl rfl rfl<|A5 (aF1 (AS (Ar (l0:=k1) (x:=a1))) fun l0_=>w55 (by omega) l0_ a1) fun y1 hy1=>q_p fr<|q_i (AX (i0_3,i0_4,v0_3,v0_4) 1 rfl rfl)<|q_q fr<|q_p fr<|Au 1 rfl rfl<|AB 0 rfl rfl rfl<|A5 (aF2 (EG (α:=Ag) 5 rfl) (AS (Ar (l0:=k1) (x:=a1))) fun l0_ l1_=>w56 (by omega) l0_ a0.Requests l1_ a1) fun y2 hy2=>q_p fr<|q_i (AX (i0_3,i0_4,v0_3,v0_4) 1 rfl rfl)<|q_q fr<|q_p fr<|Au 1 rfl rfl<|dX 5 rfl<|q_p fr<|q_i (AX (i0_3,i0_4,v0_3,v0_4) 1 rfl rfl)<|q_q fr<|q_p fr<|Au 1 rfl rfl<|AB 0 rfl rfl rfl<|q_e (fun _=>fR rfl)<|Dx 6 [5,0,1,2,3,4] (by decide) (by decide)<|bI (y:=a1) (l:=k1) (fl':=true) rfl fun z1 hz1 v1 i1=>q_q fr<|q_p fr<|HV 2 rfl (fun S hS=>(HP.cellw hS 0 rfl)) rfl<|Dx 6 [1,2,3,4,5,0] (by decide) (by decide)<|AX (i0_3,i1,v0_3,v1) 1 rfl rfl
def m38 (a0:Aa) (a1:Ag):Option (Int×Aa):=(m39 a0 a1).bind fun y1=>some (y1.1,y1.2)
theorem w38 {d:Nat} (hd:10≤d) (L0:List En) (b0_:Nat) (i0_1 i0_2 i0_3 i0_4:List Nat) (v0_1 v0_2 v0_3 v0_4:AV) (a0:Aa) (k1:Bool) (a1:Ag):Okh (bx b0_ [iW a0.F,v0_1,v0_2,v0_3,v0_4]::tr i0_1 [v0_1] (a0.Bad:List Int)::tr i0_2 [v0_2] (a0.Replicas:List Af)::wls i0_3 v0_3 (a0.Ledger:List Ah)::wla i0_4 v0_4 (a0.Requests:List Ag)::L0) (fun S=>R NN d 38 [.bp b0_ 0 0 5 1,.rp k1 (Enc.cs k1 a1)] S) (m38 a0 a1) (P5 (fun (x:List Nat×List Nat×AV×AV) (t:Int×Aa)=>AV.int .i64 t.1) (fun (x:List Nat×List Nat×AV×AV) (t:Int×Aa)=>bx b0_ [iW t.2.F,v0_1,v0_2,x.2.2.1,x.2.2.2]::tr i0_1 [v0_1] (t.2.Bad:List Int)::tr i0_2 [v0_2] (t.2.Replicas:List Af)::wls x.1 x.2.2.1 (t.2.Ledger:List Ah)::wla x.2.1 x.2.2.2 (t.2.Requests:List Ag)::L0)):=by
  obtain ⟨d,rfl,g⟩:=up hd
  refine D9 (t38 NN d _ _) ?_
  unfold b38 m38
  exact q_p fr<|DL (mg:=m39 a0 a1) (fun S=>rfl) (w39 (by omega) _ b0_ i0_1 i0_2 i0_3 i0_4 v0_1 v0_2 v0_3 v0_4 a0 k1 a1) fun y1 hy1 ⟨i1,i2,v1,v2⟩=>AX (i1,i2,v1,v2) 0 rfl rfl
def WA (a0:List Ah) (a1:Ah→Option (Bool)) (s1:Int×Int):Option (LO (Int×Int)):=bif decide (s1.2 < (a0.length:Int)) then (Aq a0 s1.2).bind fun x1=>(a1 x1).bind fun y1=>bif y1 then some (LO.ret (s1.2,s1.2)) else some (LO.norm (s1.1,wi .i64 (s1.2 + 1))) else some (LO.exit 0 (s1.1,s1.2))
def m64 (a0:List Ah) (a1:Ah→Option (Bool)):Option (Int):=(Ax (WA a0 a1) NN (0,0)).bind (Ai (fun _=>none) (fun i1 s2=>if i1 = 0 then some (-1) else none) (fun s2=>some s2.1))
theorem w64 {Dc:Nat} {d:Nat} (hd:Dc + 1≤d) (k0:Bool) (a0:List Ah) (c1:Bool→AV) (hc1:∀ l,CV 8 [] false (c1 l) c1) (a1:Ah→Option (Bool)) (tc1:∀ (d:Nat),Dc≤d→∀ (l:Bool) (q0:Bool) (x0:Ah) (S:St) (t:Bool),a1 x0 = some t→AK (cfg NN) (R NN d) 64 (c1 l) [.agg (Enc.cs q0 x0)] S = some ((fun (t:Bool)=>AV.bool t) t,S)) (k1:Bool):Fit (R NN d 64 [.rsl k0 false (a0.map (Enc.cs k0)),c1 k1] []) (m64 a0 a1) PI:=by
  obtain ⟨d,rfl,g⟩:=up hd
  refine A8 (t64 NN d _ _) ?_
  unfold b64 m64
  refine A7<|Cc (A:=fun (s:Int×Int)=>[iW s.1,iW s.2]) (B:=fun s=>[]) 0 rr ?_ ?_ ?_
  ·intro s1
   unfold aL WA
   exact q_p fr<|q_i (Bd rfl fun x1 hx1=>q_p fr<|TK (mg:=a1 x1) (E:=(fun (t:Bool)=>AV.bool t)) (fun S t ht=>tc1 d (by omega) k1 k0 x1 S t ht) fun y1 hy1=>q_i (Am 0 rr)<|q_p fr<|Ad 0 rr)<|Ap 0 rr
  ·exact fun i1 s2=>q_n (Ak (Ae rfl) rfl)<|As
  ·exact fun s2=>Ak (Ae rfl) rfl
def WC (a0:List Int) (a1:List Int) (s1:Bool×Int):Option (LO (Bool×Int)):=bif decide (s1.2 < (a0.length:Int)) then (Aq a0 s1.2).bind fun x1=>(Aq a1 s1.2).bind fun x2=>bif x1 != x2 then some (LO.ret (false,s1.2)) else some (LO.norm (s1.1,wi .i64 (s1.2 + 1))) else some (LO.exit 0 (s1.1,s1.2))
def m52 (a0:List Int) (a1:List Int):Option (Bool):=bif (a0.length:Int) != (a1.length:Int) then some false else (Ax (WC a0 a1) NN (false,0)).bind (Ai (fun _=>none) (fun i1 s2=>if i1 = 0 then some true else none) (fun s2=>some s2.1))
theorem w52 {d:Nat} (hd:1≤d) (k0:Bool) (a0:List Int) (k1:Bool) (a1:List Int):Fit (R NN d 52 [.rsl k0 false (a0.map (Enc.cs k0)),.rsl k1 false (a1.map (Enc.cs k1))] []) (m52 a0 a1) PB:=by
  obtain ⟨d,rfl,g⟩:=up hd
  refine A8 (t52 NN d _ _) ?_
  unfold b52 m52
  refine A7<|A7<|q_p fr<|q_i ?_ ?_
  ·exact Ak (Ae rfl) rfl
  ·refine A7<|Cc (A:=fun (s:Bool×Int)=>[.bool s.1,iW s.2]) (B:=fun s=>[]) 0 rr ?_ ?_ ?_
   ·intro s1
    unfold aP WC
    exact q_p fr<|q_i (Bd rfl fun x1 hx1=>q_p fr<|Bd rfl fun x2 hx2=>q_p fr<|q_p fr<|q_i (Am 0 rr)<|q_p fr<|Ad 0 rr)<|Ap 0 rr
   ·exact fun i1 s2=>q_n (Ak (Ae rfl) rfl)<|As
   ·exact fun s2=>Ak (Ae rfl) rfl
def Ss (a0:List AE) (a1:List AE) (s1:Bool×Int):Option (LO (Bool×Int)):=bif decide (s1.2 < (a0.length:Int)) then (Aq a0 s1.2).bind fun x1=>(Aq a1 s1.2).bind fun x2=>bif !(((x1.Slot == x2.Slot) && ((x1.View == x2.View) && ((x1.Value == x2.Value) && true)))) then some (LO.ret (false,s1.2)) else some (LO.norm (s1.1,wi .i64 (s1.2 + 1))) else some (LO.exit 0 (s1.1,s1.2))
def Ze (a0:List AE) (a1:List AE):Option (Bool):=bif (a0.length:Int) != (a1.length:Int) then some false else (Ax (Ss a0 a1) NN (false,0)).bind (Ai (fun _=>none) (fun i1 s2=>if i1 = 0 then some true else none) (fun s2=>some s2.1))
theorem w174 {d:Nat} (hd:1≤d) (k0:Bool) (a0:List AE) (k1:Bool) (a1:List AE):Fit (R NN d 174 [.rsl k0 false (a0.map (Enc.cs k0)),.rsl k1 false (a1.map (Enc.cs k1))] []) (Ze a0 a1) PB:=by
  obtain ⟨d,rfl,g⟩:=up hd
  refine A8 (t174 NN d _ _) ?_
  unfold mQ Ze
  refine A7<|A7<|q_p fr<|q_i ?_ ?_
  ·exact Ak (Ae rfl) rfl
  ·refine A7<|Cc (A:=fun (s:Bool×Int)=>[.bool s.1,iW s.2]) (B:=fun s=>[]) 0 rr ?_ ?_ ?_
   ·intro s1
    unfold V1 Ss
    exact q_p fr<|q_i (Bd rfl fun x1 hx1=>q_p fr<|Bd rfl fun x2 hx2=>q_p fr<|q_p (fun _=>RE _ _ _ _ _ _)<|q_i (Am 0 rr)<|q_p fr<|Ad 0 rr)<|Ap 0 rr
   ·exact fun i1 s2=>q_n (Ak (Ae rfl) rfl)<|As
   ·exact fun s2=>Ak (Ae rfl) rfl
def Xc (a0:Ah) (a1:Ah):Option (Bool):=( bif a0.Kind == a1.Kind then bif a0.View == a1.View then bif a0.From == a1.From then bif a0.Slot == a1.Slot then bif a0.Value == a1.Value then (Ze a0.Certs a1.Certs).bind fun y1=>bif y1 then (m52 a0.Refs a1.Refs).bind fun y2=>some (LO.norm y2) else some (LO.norm false) else some (LO.norm false) else some (LO.norm false) else some (LO.norm false) else some (LO.norm false) else some (LO.norm false)).bind (Ai (fun s2=>some s2) (fun i1 s2=>none) (fun s2=>some s2))
theorem w136 {d:Nat} (hd:2≤d) (k0:Bool) (a0:Ah) (k1:Bool) (a1:Ah):Fit (R NN d 136 [.agg (Enc.cs k0 a0),.agg (Enc.cs k1 a1)] []) (Xc a0 a1) PB:=by
  obtain ⟨d,rfl,g⟩:=up hd
  refine A8 (t136 NN d _ _) ?_
  unfold nP Xc
  refine AD (n:=7) rfl rfl (by decide) fun b1=>AD (n:=7) rfl rfl (by decide) fun b2=>AY (A:=fun (s:Bool)=>[.bool s]) (B:=fun s=>[bx b2 [iW a1.Kind,iW a1.View,iW a1.From,iW a1.Slot,iW a1.Value,.rsl k1 false (a1.Certs.map (Enc.cs k1)),.rsl k1 false (a1.Refs.map (Enc.cs k1))],bx b1 [iW a0.Kind,iW a0.View,iW a0.From,iW a0.Slot,iW a0.Value,.rsl k0 false (a0.Certs.map (Enc.cs k0)),.rsl k0 false (a0.Refs.map (Enc.cs k0))]]) ?_ ?_ ?_ ?_
  ·exact q_p fr<|Au 1 rfl rfl<|q_p fr<|Au 0 rfl rfl<|q_p fr<|q_k (q_p fr<|Au 1 rfl rfl<|q_p fr<|Au 0 rfl rfl<|q_p fr<|q_k (q_p fr<|Au 1 rfl rfl<|q_p fr<|Au 0 rfl rfl<|q_p fr<|q_k (q_p fr<|Au 1 rfl rfl<|q_p fr<|Au 0 rfl rfl<|q_p fr<|q_k (q_p fr<|Au 1 rfl rfl<|q_p fr<|Au 0 rfl rfl<|q_p fr<|q_k (q_p fr<|Au 1 rfl rfl<|q_p fr<|Au 0 rfl rfl<|A5 (aF2 A3 A3 fun l0_ l1_=>w174 (by omega) l0_ a0.Certs l1_ a1.Certs) fun y1 hy1=>q_k (q_p fr<|Au 1 rfl rfl<|q_p fr<|Au 0 rfl rfl<|A5 (aF2 A3 A3 fun l0_ l1_=>w52 (by omega) l0_ a0.Refs l1_ a1.Refs) fun y2 hy2=>Ad 0 rr)<|Ad 0 rr)<|Ad 0 rr)<|Ad 0 rr)<|Ad 0 rr)<|Ad 0 rr)<|Ad 0 rr
  ·exact fun s2=>Ak (Ae rfl) rfl
  ·exact fun i1 s2=>As
  ·exact fun s2=>Ak (Ae rfl) rfl
def QN (a0:Ah) (a1:Ah):Option (Bool):=(Xc a0 a1).bind fun y1=>some y1
theorem w135 {d:Nat} (hd:3≤d) (k0:Bool) (a0:Ah) (k1:Bool) (a1:Ah):Fit (R NN d 135 [.agg (Enc.cs k0 a0),.rp k1 (Enc.cs k1 a1)] []) (QN a0 a1) PB:=by
  obtain ⟨d,rfl,g⟩:=up hd
  refine A8 (t135 NN d _ _) ?_
  unfold nQ QN
  exact AD (n:=7) rfl rfl (by decide) fun b1=>AB 0 rfl rfl rfl<|q_p fr<|A5 (aF2 (AS (Ar (l0:=k0) (x:=a0))) (AS (Ar (l0:=k1) (x:=a1))) fun l0_ l1_=>w136 (by omega) l0_ a0 l1_ a1) fun y1 hy1=>Ak (Ae rfl) rfl
def m91 (a0:List Ah) (a1:Ah):Option (Int):=(m64 a0 (fun x0_=>QN x0_ a1)).bind fun y1=>some y1
theorem w91 {d:Nat} (hd:5≤d) (k0:Bool) (a0:List Ah) (k1:Bool) (a1:Ah):Fit (R NN d 91 [.rsl k0 false (a0.map (Enc.cs k0)),.agg (Enc.cs k1 a1)] []) (m91 a0 a1) PI:=by
  obtain ⟨d,rfl,g⟩:=up hd
  refine A8 (t91 NN d _ _) ?_
  unfold b91 m91
  exact AD (n:=7) rfl rfl (by decide) fun b1=>A5 (aF2 A3 (BJ (Ab (Bv 0 rfl (Ar (l0:=k1) (x:=a1))) Ao)) fun l0_ l1_=>w64 (Dc:=3) (by omega) l0_ a0 (fun l=>.fn 135 [.rp l (Enc.cs l a1)]) (fun l=>BJ (Ab (Bc (Ar (l0:=l) (x:=a1)) (fun _ _ _ h=>Enc.frz _ a1 _ _ _ h)) Ao)) (fun x0_=>QN x0_ a1) (fun d hd l q0_ x0_ S t ht=>(XL _ _ _ _).trans (Dk (E:=(fun (t:Bool)=>AV.bool t)) (mg:=QN x0_ a1) (N8 (M:=fun a=>Fit (R NN d 135 a []) _ _) (AS (Ar (l0:=q0_) (x:=x0_))) (Bc (Ar (l0:=l) (x:=a1)) (fun _ _ _ h=>Enc.frz _ a1 _ _ _ h)) HP.nil fun u0_ v0_=>w135 hd u0_ x0_ v0_ a1) ht)) l1_) fun y1 hy1=>Ak (Ae rfl) rfl
def m25 (a0:Int):Bool:=(m63 a0 1 3)
theorem w25 {d:Nat} (hd:2≤d) (a0:Int):Fit (R NN d 25 [iW a0] []) (some (m25 a0)) PB:=by
  obtain ⟨d,rfl,g⟩:=up hd
  refine A8 (t25 NN d _) ?_
  unfold b25 m25
  exact AA (aF3 (Ae rfl) (Ae rfl) (Ae rfl) fun l0_ l1_ l2_=>w63 (by omega) a0 1 3)<|Ak (Ae rfl) rfl
def SC (a0:List AE) (a1:AE→Option (Bool)) (s1:Int×Int):Option (LO (Int×Int)):=bif decide (s1.2 < (a0.length:Int)) then (Aq a0 s1.2).bind fun x1=>(a1 x1).bind fun y1=>bif y1 then some (LO.ret (s1.2,s1.2)) else some (LO.norm (s1.1,wi .i64 (s1.2 + 1))) else some (LO.exit 0 (s1.1,s1.2))
def eQ (a0:List AE) (a1:AE→Option (Bool)):Option (Int):=(Ax (SC a0 a1) NN (0,0)).bind (Ai (fun _=>none) (fun i1 s2=>if i1 = 0 then some (-1) else none) (fun s2=>some s2.1))
theorem w105 {Dc:Nat} {d:Nat} (hd:Dc + 1≤d) (k0:Bool) (a0:List AE) (c1:Bool→AV) (hc1:∀ l,CV 8 [] false (c1 l) c1) (a1:AE→Option (Bool)) (tc1:∀ (d:Nat),Dc≤d→∀ (l:Bool) (q0:Bool) (x0:AE) (S:St) (t:Bool),a1 x0 = some t→AK (cfg NN) (R NN d) 105 (c1 l) [.agg (Enc.cs q0 x0)] S = some ((fun (t:Bool)=>AV.bool t) t,S)) (k1:Bool):Fit (R NN d 105 [.rsl k0 false (a0.map (Enc.cs k0)),c1 k1] []) (eQ a0 a1) PI:=by
  obtain ⟨d,rfl,g⟩:=up hd
  refine A8 (t105 NN d _ _) ?_
  unfold oS eQ
  refine A7<|Cc (A:=fun (s:Int×Int)=>[iW s.1,iW s.2]) (B:=fun s=>[]) 0 rr ?_ ?_ ?_
  ·intro s1
   unfold VK SC
   exact q_p fr<|q_i (Bd rfl fun x1 hx1=>q_p fr<|TK (mg:=a1 x1) (E:=(fun (t:Bool)=>AV.bool t)) (fun S t ht=>tc1 d (by omega) k1 k0 x1 S t ht) fun y1 hy1=>q_i (Am 0 rr)<|q_p fr<|Ad 0 rr)<|Ap 0 rr
  ·exact fun i1 s2=>q_n (Ak (Ae rfl) rfl)<|As
  ·exact fun s2=>Ak (Ae rfl) rfl
def m60 (a0:List AE) (a1:AE→Option (Bool)):Option (Bool):=(eQ a0 a1).bind fun y1=>some (decide (y1 ≥ 0))
theorem w60 {Dc:Nat} {d:Nat} (hd:Dc + 2≤d) (k0:Bool) (a0:List AE) (c1:Bool→AV) (hc1:∀ l,CV 8 [] false (c1 l) c1) (a1:AE→Option (Bool)) (tc1:∀ (d:Nat),Dc≤d→∀ (l:Bool) (q0:Bool) (x0:AE) (S:St) (t:Bool),a1 x0 = some t→AK (cfg NN) (R NN d) 105 (c1 l) [.agg (Enc.cs q0 x0)] S = some ((fun (t:Bool)=>AV.bool t) t,S)) (k1:Bool):Fit (R NN d 60 [.rsl k0 false (a0.map (Enc.cs k0)),c1 k1] []) (m60 a0 a1) PB:=by
  obtain ⟨d,rfl,g⟩:=up hd
  refine A8 (t60 NN d _ _) ?_
  unfold b60 m60
  exact A5 (aF2 A3 (CV.any (hc1 k1)) fun l0_ l1_=>w105 (by omega) l0_ a0 c1 hc1 a1 tc1 l1_) fun y1 hy1=>q_p fr<|Ak (Ae rfl) rfl
def m97 (a0:Int):Bool:=(m63 a0 0 20)
theorem w97 {d:Nat} (hd:2≤d) (a0:Int):Fit (R NN d 97 [iW a0] []) (some (m97 a0)) PB:=by
  obtain ⟨d,rfl,g⟩:=up hd
  refine A8 (t97 NN d _) ?_
  unfold b97 m97
  exact AA (aF3 (Ae rfl) (Ae rfl) (Ae rfl) fun l0_ l1_ l2_=>w63 (by omega) a0 0 20)<|Ak (Ae rfl) rfl
def Po (a0:Int):Bool:=(m63 a0 1 30)
theorem UO {d:Nat} (hd:2≤d) (a0:Int):Fit (R NN d 106 [iW a0] []) (some (Po a0)) PB:=by
  obtain ⟨d,rfl,g⟩:=up hd
  refine A8 (t106 NN d _) ?_
  unfold oR Po
  exact AA (aF3 (Ae rfl) (Ae rfl) (Ae rfl) fun l0_ l1_ l2_=>w63 (by omega) a0 1 30)<|Ak (Ae rfl) rfl
def Pn (a0:Int):Bool:=(m63 a0 0 12)
theorem UN {d:Nat} (hd:2≤d) (a0:Int):Fit (R NN d 107 [iW a0] []) (some (Pn a0)) PB:=by
  obtain ⟨d,rfl,g⟩:=up hd
  refine A8 (t107 NN d _) ?_
  unfold oQ Pn
  exact AA (aF3 (Ae rfl) (Ae rfl) (Ae rfl) fun l0_ l1_ l2_=>w63 (by omega) a0 0 12)<|Ak (Ae rfl) rfl
def Pi (a0:AE) (a1:Ah):Option (Bool):=( bif !(Po a0.Slot) then some (LO.norm true) else bif !(m63 a0.View 0 (wi .i64 (a1.View - 1))) then some (LO.norm true) else some (LO.norm (!(Pn a0.Value)))).bind (Ai (fun s2=>some s2) (fun i1 s2=>none) (fun s2=>some s2))
theorem w137 {d:Nat} (hd:3≤d) (k0:Bool) (a0:AE) (k1:Bool) (a1:Ah):Fit (R NN d 137 [.agg (Enc.cs k0 a0),.rp k1 (Enc.cs k1 a1)] []) (Pi a0 a1) PB:=by
  obtain ⟨d,rfl,g⟩:=up hd
  refine A8 (t137 NN d _ _) ?_
  unfold nN Pi
  refine AD (n:=3) rfl rfl (by decide) fun b1=>AY (A:=fun (s:Bool)=>[.bool s]) (B:=fun s=>[bx b1 [iW a0.Slot,iW a0.View,iW a0.Value]]) ?_ ?_ ?_ ?_
  ·exact q_p fr<|Au 0 rfl rfl<|AA (aF1 (Ae rfl) fun l0_=>UO (by omega) a0.Slot)<|q_p fr<|q_j (Ad 0 rr)<|q_p fr<|Au 0 rfl rfl<|q_p fr<|q_p fr<|q_p fr<|AA (aF3 (Ae rfl) (Ae rfl) (Ae rfl) fun l0_ l1_ l2_=>w63 (by omega) a0.View 0 (wi .i64 (a1.View - 1)))<|q_p fr<|q_j (Ad 0 rr)<|q_p fr<|Au 0 rfl rfl<|AA (aF1 (Ae rfl) fun l0_=>UN (by omega) a0.Value)<|q_p fr<|Ad 0 rr
  ·exact fun s2=>Ak (Ae rfl) rfl
  ·exact fun i1 s2=>As
  ·exact fun s2=>Ak (Ae rfl) rfl
def Sr (a0:List Int) (a1:Int→Option (Bool)) (s1:Int×Int):Option (LO (Int×Int)):=bif decide (s1.2 < (a0.length:Int)) then (Aq a0 s1.2).bind fun x1=>(a1 x1).bind fun y1=>bif y1 then some (LO.ret (s1.2,s1.2)) else some (LO.norm (s1.1,wi .i64 (s1.2 + 1))) else some (LO.exit 0 (s1.1,s1.2))
def eJ (a0:List Int) (a1:Int→Option (Bool)):Option (Int):=(Ax (Sr a0 a1) NN (0,0)).bind (Ai (fun _=>none) (fun i1 s2=>if i1 = 0 then some (-1) else none) (fun s2=>some s2.1))
theorem w175 {Dc:Nat} {d:Nat} (hd:Dc + 1≤d) (k0:Bool) (a0:List Int) (c1:Bool→AV) (hc1:∀ l,CV 8 [] false (c1 l) c1) (a1:Int→Option (Bool)) (tc1:∀ (d:Nat),Dc≤d→∀ (l:Bool) (x0:Int) (S:St) (t:Bool),a1 x0 = some t→AK (cfg NN) (R NN d) 175 (c1 l) [iW x0] S = some ((fun (t:Bool)=>AV.bool t) t,S)) (k1:Bool):Fit (R NN d 175 [.rsl k0 false (a0.map (Enc.cs k0)),c1 k1] []) (eJ a0 a1) PI:=by
  obtain ⟨d,rfl,g⟩:=up hd
  refine A8 (t175 NN d _ _) ?_
  unfold mP eJ
  refine A7<|Cc (A:=fun (s:Int×Int)=>[iW s.1,iW s.2]) (B:=fun s=>[]) 0 rr ?_ ?_ ?_
  ·intro s1
   unfold Vz Sr
   exact q_p fr<|q_i (Bd rfl fun x1 hx1=>q_p fr<|TK (mg:=a1 x1) (E:=(fun (t:Bool)=>AV.bool t)) (fun S t ht=>tc1 d (by omega) k1 x1 S t ht) fun y1 hy1=>q_i (Am 0 rr)<|q_p fr<|Ad 0 rr)<|Ap 0 rr
  ·exact fun i1 s2=>q_n (Ak (Ae rfl) rfl)<|As
  ·exact fun s2=>Ak (Ae rfl) rfl
def Ul (a0:List Int) (a1:Int→Option (Bool)):Option (Bool):=(eJ a0 a1).bind fun y1=>some (decide (y1 ≥ 0))
theorem iC {Dc:Nat} {d:Nat} (hd:Dc + 2≤d) (k0:Bool) (a0:List Int) (c1:Bool→AV) (hc1:∀ l,CV 8 [] false (c1 l) c1) (a1:Int→Option (Bool)) (tc1:∀ (d:Nat),Dc≤d→∀ (l:Bool) (x0:Int) (S:St) (t:Bool),a1 x0 = some t→AK (cfg NN) (R NN d) 175 (c1 l) [iW x0] S = some ((fun (t:Bool)=>AV.bool t) t,S)) (k1:Bool):Fit (R NN d 138 [.rsl k0 false (a0.map (Enc.cs k0)),c1 k1] []) (Ul a0 a1) PB:=by
  obtain ⟨d,rfl,g⟩:=up hd
  refine A8 (t138 NN d _ _) ?_
  unfold nM Ul
  exact A5 (aF2 A3 (CV.any (hc1 k1)) fun l0_ l1_=>w175 (by omega) l0_ a0 c1 hc1 a1 tc1 l1_) fun y1 hy1=>q_p fr<|Ak (Ae rfl) rfl
def QM (a0:Int):Bool:=!(m63 a0 0 239)
theorem w139 {d:Nat} (hd:2≤d) (a0:Int):Fit (R NN d 139 [iW a0] []) (some (QM a0)) PB:=by
  obtain ⟨d,rfl,g⟩:=up hd
  refine A8 (t139 NN d _) ?_
  unfold nL QM
  exact AA (aF3 (Ae rfl) (Ae rfl) (Ae rfl) fun l0_ l1_ l2_=>w63 (by omega) a0 0 239)<|q_p fr<|Ak (Ae rfl) rfl
def HZ (a1:Ah) (s7:Int×Int):Option (LO (Int×Int)):=bif decide (s7.2 < (a1.Certs.length:Int)) then ( (Aq a1.Certs s7.2).bind fun x1=>bif decide (s7.2 > 0) then (Aq a1.Certs (wi .i64 (s7.2 - 1))).bind fun x2=>bif decide (x1.Slot≤x2.Slot) then some (LO.ret 1) else some (LO.norm s7.1) else some (LO.norm s7.1)).bind (Ai (fun s9=>some (LO.norm (s9,wi .i64 (s7.2 + 1)))) (fun i4 s9=>some (LO.exit i4 (s9,s7.2))) (fun s9=>some (LO.ret (s9,s7.2)))) else some (LO.exit 1 (s7.1,s7.2))
def HY (a1:Ah) (s11:Int×Int):Option (LO (Int×Int)):=bif decide (s11.2 < (a1.Refs.length:Int)) then ( (Aq a1.Refs s11.2).bind fun x3=>bif decide (s11.2 > 0) then (Aq a1.Refs (wi .i64 (s11.2 - 1))).bind fun x4=>bif decide (x3≤x4) then some (LO.ret 1) else some (LO.norm s11.1) else some (LO.norm s11.1)).bind (Ai (fun s13=>some (LO.norm (s13,wi .i64 (s11.2 + 1)))) (fun i6 s13=>some (LO.exit i6 (s13,s11.2))) (fun s13=>some (LO.ret (s13,s11.2)))) else some (LO.exit 3 (s11.1,s11.2))
def m94 (a0:Int) (a1:Ah):Option (Int):=( ( bif !(m63 a1.Kind 1 5) then some (LO.norm true) else bif !(m25 a1.Kind) then bif a1.Slot != 0 then some (LO.norm true) else bif a1.Value != 0 then some (LO.norm true) else bif a1.Kind != 4 then bif decide ((a1.Certs.length:Int) > 0) then some (LO.norm true) else bif a1.Kind != 5 then some (LO.norm (decide ((a1.Refs.length:Int) > 0))) else some (LO.norm false) else bif a1.Kind != 5 then some (LO.norm (decide ((a1.Refs.length:Int) > 0))) else some (LO.norm false) else bif a1.Kind != 4 then bif decide ((a1.Certs.length:Int) > 0) then some (LO.norm true) else bif a1.Kind != 5 then some (LO.norm (decide ((a1.Refs.length:Int) > 0))) else some (LO.norm false) else bif a1.Kind != 5 then some (LO.norm (decide ((a1.Refs.length:Int) > 0))) else some (LO.norm false)).bind (Ai (fun s3=>bif s3 then some (LO.ret 1) else ( bif !(m97 a1.View) then some (LO.norm true) else bif !(m96 a0 a1.From) then some (LO.norm true) else bif (m25 a1.Kind) then bif !(Po a1.Slot) then some (LO.norm true) else some (LO.norm (!(Pn a1.Value))) else some (LO.norm false)).bind (Ai (fun s5=>bif s5 then some (LO.ret 3) else bif decide ((a1.Certs.length:Int) > 30) then some (LO.ret 2) else bif decide ((a1.Refs.length:Int) > (m75 a0)) then some (LO.ret 2) else some (LO.norm 0)) (fun i2 s5=>if i2 = 0 then some (LO.norm 0) else some (LO.exit i2 0)) (fun s5=>some (LO.ret 0)))) (fun i1 s3=>if i1 = 0 then some (LO.norm 0) else some (LO.exit i1 0)) (fun s3=>some (LO.ret 0)))).bind (Ai (fun s6=>(Ax (HZ a1) NN (s6,0)).bind (Ai (fun _=>none) (fun i5 s10=>if i5 = 1 then (Ax (HY a1) NN (s10.1,0)).bind (Ai (fun _=>none) (fun i7 s14=>if i7 = 3 then (m60 a1.Certs (fun x0_=>Pi x0_ a1)).bind fun y1=>bif y1 then some 3 else (Ul a1.Refs (fun x0_=>some (QM x0_))).bind fun y2=>bif y2 then some 3 else some 0 else none) (fun s14=>some s14.1)) else none) (fun s10=>some s10.1))) (fun i3 s6=>none) (fun s6=>some s6))
theorem w94 {d:Nat} (hd:6≤d) (a0:Int) (k1:Bool) (a1:Ah):Fit (R NN d 94 [iW a0,.agg (Enc.cs k1 a1)] []) (m94 a0 a1) PI:=by
  obtain ⟨d,rfl,g⟩:=up hd
  refine A8 (t94 NN d _ _) ?_
  unfold b94 m94
  refine AD (n:=7) rfl rfl (by decide) fun b1=>q_p fr<|Au 0 rfl rfl<|AA (aF1 (Ae rfl) fun l0_=>w25 (by omega) a1.Kind)<|AY (A:=fun (s:Int)=>[iW s]) (B:=fun s=>[bx b1 [iW a1.Kind,iW a1.View,iW a1.From,iW a1.Slot,iW a1.Value,.rsl k1 false (a1.Certs.map (Enc.cs k1)),.rsl k1 false (a1.Refs.map (Enc.cs k1))]]) ?_ ?_ ?_ ?_
  ·refine AY (A:=fun (s:Bool)=>[.bool s]) (B:=fun s=>[bx b1 [iW a1.Kind,iW a1.View,iW a1.From,iW a1.Slot,iW a1.Value,.rsl k1 false (a1.Certs.map (Enc.cs k1)),.rsl k1 false (a1.Refs.map (Enc.cs k1))]]) ?_ ?_ ?_ ?_
   ·exact q_p fr<|Au 0 rfl rfl<|AA (aF3 (Ae rfl) (Ae rfl) (Ae rfl) fun l0_ l1_ l2_=>w63 (by omega) a1.Kind 1 5)<|q_p fr<|q_j (Ad 0 rr)<|q_p fr<|q_k (q_p fr<|Au 0 rfl rfl<|q_p fr<|q_j (Ad 0 rr)<|q_p fr<|Au 0 rfl rfl<|q_p fr<|q_j (Ad 0 rr)<|q_p fr<|Au 0 rfl rfl<|q_p fr<|q_k (q_p fr<|Au 0 rfl rfl<|A7<|q_p fr<|q_j (Ad 0 rr)<|q_p fr<|Au 0 rfl rfl<|q_p fr<|q_k (q_p fr<|Au 0 rfl rfl<|A7<|q_p fr<|Ad 0 rr)<|Ad 0 rr)<|q_p fr<|Au 0 rfl rfl<|q_p fr<|q_k (q_p fr<|Au 0 rfl rfl<|A7<|q_p fr<|Ad 0 rr)<|Ad 0 rr)<|q_p fr<|Au 0 rfl rfl<|q_p fr<|q_k (q_p fr<|Au 0 rfl rfl<|A7<|q_p fr<|q_j (Ad 0 rr)<|q_p fr<|Au 0 rfl rfl<|q_p fr<|q_k (q_p fr<|Au 0 rfl rfl<|A7<|q_p fr<|Ad 0 rr)<|Ad 0 rr)<|q_p fr<|Au 0 rfl rfl<|q_p fr<|q_k (q_p fr<|Au 0 rfl rfl<|A7<|q_p fr<|Ad 0 rr)<|Ad 0 rr
   ·intro s3
    refine q_i ?_ ?_
    ·exact Am 0 rr
    ·refine AY (A:=fun (s:Bool)=>[.bool s]) (B:=fun s=>[bx b1 [iW a1.Kind,iW a1.View,iW a1.From,iW a1.Slot,iW a1.Value,.rsl k1 false (a1.Certs.map (Enc.cs k1)),.rsl k1 false (a1.Refs.map (Enc.cs k1))]]) ?_ ?_ ?_ ?_
     ·exact q_p fr<|Au 0 rfl rfl<|AA (aF1 (Ae rfl) fun l0_=>w97 (by omega) a1.View)<|q_p fr<|q_j (Ad 0 rr)<|q_p fr<|Au 0 rfl rfl<|AA (aF2 (Ae rfl) (Ae rfl) fun l0_ l1_=>w96 (by omega) a0 a1.From)<|q_p fr<|q_j (Ad 0 rr)<|q_k (q_p fr<|Au 0 rfl rfl<|AA (aF1 (Ae rfl) fun l0_=>UO (by omega) a1.Slot)<|q_p fr<|q_j (Ad 0 rr)<|q_p fr<|Au 0 rfl rfl<|AA (aF1 (Ae rfl) fun l0_=>UN (by omega) a1.Value)<|q_p fr<|Ad 0 rr)<|Ad 0 rr
     ·intro s5
      refine q_i ?_ ?_
      ·exact Am 0 rr
      ·refine q_p fr<|Au 0 rfl rfl<|A7<|q_p fr<|q_j ?_ ?_
       ·first | refine BL ?_ | skip
        exact Am 0 rr
       ·exact q_p fr<|Au 0 rfl rfl<|A7<|AA (aF1 (Ae rfl) fun l0_=>w75 (by omega) a0)<|q_p fr<|q_i (Am 0 rr)<|Ad 0 rr
     ·exact fun i2 s5=>q_n (Ad 0 rr)<|Ap 0 rr
     ·exact fun s5=>Am 0 rr
   ·exact fun i1 s3=>q_n (Ad 0 rr)<|Ap 0 rr
   ·exact fun s3=>Am 0 rr
  ·intro s6
   refine q_p fr<|Au 0 rfl rfl<|A7<|Cc (A:=fun (s:Int×Int)=>[iW s.1,iW s.2]) (B:=fun s=>[bx b1 [iW a1.Kind,iW a1.View,iW a1.From,iW a1.Slot,iW a1.Value,.rsl k1 false (a1.Certs.map (Enc.cs k1)),.rsl k1 false (a1.Refs.map (Enc.cs k1))]]) 0 rr ?_ ?_ ?_
   ·intro s7
    unfold aB HZ
    refine q_p fr<|q_i ?_ ?_
    ·refine AY (A:=fun (s:Int)=>[iW s]) (B:=fun s=>[bx b1 [iW a1.Kind,iW a1.View,iW a1.From,iW a1.Slot,iW a1.Value,.rsl k1 false (a1.Certs.map (Enc.cs k1)),.rsl k1 false (a1.Refs.map (Enc.cs k1))]]) ?_ ?_ ?_ ?_
     ·refine Bd rfl fun x1 hx1=>q_p fr<|AT rfl fun b2=>AN 0 rfl rfl rfl (by decide) rfl<|q_p fr<|q_k ?_ ?_
      ·exact q_p fr<|Au 0 rfl rfl<|q_p fr<|Au 1 rfl rfl<|q_p fr<|Bd rfl fun x2 hx2=>q_p fr<|q_p fr<|q_p fr<|q_i (Am 1 rr)<|Ad 1 rr
      ·first | refine Dy ?_ | skip
       exact Ad 1 rr
     ·exact fun s9=>q_p fr<|Ad 0 rr
     ·exact fun i4 s9=>Ap 0 rr
     ·exact fun s9=>Am 0 rr
    ·exact Ap 0 rr
   ·intro i5 s10
    refine q_n ?_ ?_
    ·refine q_p fr<|Au 0 rfl rfl<|A7<|Cc (A:=fun (s:Int×Int)=>[iW s.1,iW s.2]) (B:=fun s=>[bx b1 [iW a1.Kind,iW a1.View,iW a1.From,iW a1.Slot,iW a1.Value,.rsl k1 false (a1.Certs.map (Enc.cs k1)),.rsl k1 false (a1.Refs.map (Enc.cs k1))]]) 0 rr ?_ ?_ ?_
     ·intro s11
      unfold aA HY
      refine q_p fr<|q_i ?_ ?_
      ·refine AY (A:=fun (s:Int)=>[iW s]) (B:=fun s=>[bx b1 [iW a1.Kind,iW a1.View,iW a1.From,iW a1.Slot,iW a1.Value,.rsl k1 false (a1.Certs.map (Enc.cs k1)),.rsl k1 false (a1.Refs.map (Enc.cs k1))]]) ?_ ?_ ?_ ?_
       ·refine Bd rfl fun x3 hx3=>q_p fr<|q_p fr<|q_k ?_ ?_
        ·exact q_p fr<|Au 0 rfl rfl<|q_p fr<|Bd rfl fun x4 hx4=>q_p fr<|q_p fr<|q_i (Am 0 rr)<|Ad 0 rr
        ·first | refine Dy ?_ | skip
         exact Ad 0 rr
       ·exact fun s13=>q_p fr<|Ad 0 rr
       ·exact fun i6 s13=>Ap 0 rr
       ·exact fun s13=>Am 0 rr
      ·exact Ap 0 rr
     ·exact fun i7 s14=>q_n (q_p fr<|Au 0 rfl rfl<|A5 (aF2 A3 (BJ (Ab (Bv 0 rfl (Ar (l0:=k1) (x:=a1))) Ao)) fun l0_ l1_=>w60 (Dc:=3) (by omega) l0_ a1.Certs (fun l=>.fn 137 [.rp l (Enc.cs l a1)]) (fun l=>BJ (Ab (Bc (Ar (l0:=l) (x:=a1)) (fun _ _ _ h=>Enc.frz _ a1 _ _ _ h)) Ao)) (fun x0_=>Pi x0_ a1) (fun d hd l q0_ x0_ S t ht=>(U4 _ _ _ _).trans (Dk (E:=(fun (t:Bool)=>AV.bool t)) (mg:=Pi x0_ a1) (N8 (M:=fun a=>Fit (R NN d 137 a []) _ _) (AS (Ar (l0:=q0_) (x:=x0_))) (Bc (Ar (l0:=l) (x:=a1)) (fun _ _ _ h=>Enc.frz _ a1 _ _ _ h)) HP.nil fun u0_ v0_=>w137 hd u0_ x0_ v0_ a1) ht)) l1_) fun y1 hy1=>q_i (Ak (Ae rfl) rfl)<|q_p fr<|Au 0 rfl rfl<|A5 (aF2 A3 (BJ Ao) fun l0_ l1_=>iC (Dc:=2) (by omega) l0_ a1.Refs (fun l=>.fn 139 []) (fun l=>BJ Ao) (fun x0_=>some (QM x0_)) (fun d hd l x0_ S t ht=>(U1 _ _ _ _).trans (Dk (E:=(fun (t:Bool)=>AV.bool t)) (mg:=some (QM x0_)) (Yh (M:=fun a=>Fit (R NN d 139 a []) _ _) (Ae rfl) HP.nil fun u0_=>w139 hd x0_) ht)) l1_) fun y2 hy2=>q_i (Ak (Ae rfl) rfl)<|Ak (Ae rfl) rfl)<|As
     ·exact fun s14=>Ak (Ae rfl) rfl
    ·exact As
   ·exact fun s10=>Ak (Ae rfl) rfl
  ·exact fun i3 s6=>As
  ·exact fun s6=>Ak (Ae rfl) rfl
def Uk (a0:Int) (a1:Int):Bool:=decide (a0 ≥ a1)
theorem w140 {d:Nat} (hd:1≤d) (a0:Int) (k1:Bool) (a1:Int):Fit (R NN d 140 [iW a0,.rp k1 (Enc.cs k1 a1)] []) (some (Uk a0 a1)) PB:=by
  obtain ⟨d,rfl,g⟩:=up hd
  refine A8 (t140 NN d _ _) ?_
  unfold nK Uk
  exact q_p fr<|q_p fr<|Ak (Ae rfl) rfl
def m95 (a0:Ah) (a1:Int):Option (Bool):=(Ul a0.Refs (fun x0_=>some (Uk x0_ a1))).bind fun y1=>some (!y1)
theorem w95 {d:Nat} (hd:4≤d) (k0:Bool) (a0:Ah) (a1:Int):Fit (R NN d 95 [.agg (Enc.cs k0 a0),iW a1] []) (m95 a0 a1) PB:=by
  obtain ⟨d,rfl,g⟩:=up hd
  refine A8 (t95 NN d _ _) ?_
  unfold b95 m95
  exact AD (n:=7) rfl rfl (by decide) fun b1=>AD (n:=1) rfl rfl (by decide) fun b2=>q_p fr<|Au 1 rfl rfl<|A5 (aF2 A3 (BJ (Ab (Bv 0 rfl (Ar (l0:=false) (x:=a1))) Ao)) fun l0_ l1_=>iC (Dc:=1) (by omega) l0_ a0.Refs (fun l=>.fn 140 [.rp l (Enc.cs l a1)]) (fun l=>BJ (Ab (Bc (Ar (l0:=l) (x:=a1)) (fun _ _ _ h=>Enc.frz _ a1 _ _ _ h)) Ao)) (fun x0_=>some (Uk x0_ a1)) (fun d hd l x0_ S t ht=>(U0 _ _ _ _).trans (Dk (E:=(fun (t:Bool)=>AV.bool t)) (mg:=some (Uk x0_ a1)) (N8 (M:=fun a=>Fit (R NN d 140 a []) _ _) (Ae rfl) (Bc (Ar (l0:=l) (x:=a1)) (fun _ _ _ h=>Enc.frz _ a1 _ _ _ h)) HP.nil fun u0_ v0_=>w140 hd x0_ v0_ a1) ht)) l1_) fun y1 hy1=>q_p fr<|Ak (Ae rfl) rfl
def Jn (a0:Int) (a1:List Ah) (s1:Int×Int):Option (LO (Int×Int)):=bif decide (s1.2 < (a1.length:Int)) then (Aq a1 s1.2).bind fun x1=>(m94 a0 x1).bind fun y1=>bif y1 != 0 then some (LO.ret (y1,s1.2)) else (m95 x1 s1.2).bind fun y2=>bif !y2 then some (LO.ret (4,s1.2)) else (DV a1 0 s1.2).bind fun ys1=>(m91 ys1 x1).bind fun y3=>bif decide (y3 ≥ 0) then some (LO.ret (6,s1.2)) else some (LO.norm (s1.1,wi .i64 (s1.2 + 1))) else some (LO.exit 1 (s1.1,s1.2))
def m50 (a0:Int) (a1:List Ah):Option (Int):=bif !(m33 a0) then some 3 else bif decide ((a1.length:Int) > 240) then some 2 else (Ax (Jn a0 a1) NN (0,0)).bind (Ai (fun _=>none) (fun i1 s2=>if i1 = 1 then some 0 else none) (fun s2=>some s2.1))
theorem w50 {d:Nat} (hd:7≤d) (a0:Int) (k1:Bool) (a1:List Ah):Fit (R NN d 50 [iW a0,.rsl k1 false (a1.map (Enc.cs k1))] []) (m50 a0 a1) PI:=by
  obtain ⟨d,rfl,g⟩:=up hd
  refine A8 (t50 NN d _ _) ?_
  unfold b50 m50
  refine AA (aF1 (Ae rfl) fun l0_=>w33 (by omega) a0)<|q_p fr<|q_i ?_ ?_
  ·exact Ak (Ae rfl) rfl
  ·refine A7<|q_p fr<|q_i ?_ ?_
   ·exact Ak (Ae rfl) rfl
   ·refine A7<|Cc (A:=fun (s:Int×Int)=>[iW s.1,iW s.2]) (B:=fun s=>[]) 0 rr ?_ ?_ ?_
    ·intro s1
     unfold aR Jn
     exact q_p fr<|q_i (Bd rfl fun x1 hx1=>q_p fr<|AT rfl fun b1=>AN 0 rfl rfl rfl (by decide) rfl<|AB 0 rfl rfl rfl<|A5 (aF2 (Ae rfl) (AS (Ar (l0:=k1) (x:=x1))) fun l0_ l1_=>w94 (by omega) a0 l1_ x1) fun y1 hy1=>q_p fr<|q_i (Am 1 rr)<|AB 0 rfl rfl rfl<|A5 (aF2 (AS (Ar (l0:=k1) (x:=x1))) (Ae rfl) fun l0_ l1_=>w95 (by omega) l0_ x1 s1.2) fun y2 hy2=>q_p fr<|q_i (Am 1 rr)<|OO rfl (.inr ⟨rfl,rfl⟩) (.inl rfl) fun fl1 ys1 hys1=>AB 0 rfl rfl rfl<|A5 (aF2 A3 (AS (Ar (l0:=k1) (x:=x1))) fun l0_ l1_=>w91 (by omega) l0_ ys1 l1_ x1) fun y3 hy3=>q_p fr<|q_i (Am 1 rr)<|q_p fr<|Ad 1 rr)<|Ap 0 rr
    ·exact fun i1 s2=>q_n (Ak (Ae rfl) rfl)<|As
    ·exact fun s2=>Ak (Ae rfl) rfl
def WL (a0:Int):Bool:=a0 != a0
theorem gR {d:Nat} (hd:1≤d) (a0:Int):Fit (R NN d 191 [iW a0] []) (some (WL a0)) PB:=by
  obtain ⟨d,rfl,g⟩:=up hd
  refine A8 (t191 NN d _) ?_
  unfold mG WL
  exact q_p fr<|Ak (Ae rfl) rfl
def WX (a0:Int) (a1:Int):Option (Bool):=( bif (WL a0) then bif !(WL a1) then some (LO.norm true) else some (LO.norm (decide (a0 < a1))) else some (LO.norm (decide (a0 < a1)))).bind (Ai (fun s2=>some s2) (fun i1 s2=>none) (fun s2=>some s2))
theorem w164 {d:Nat} (hd:2≤d) (a0:Int) (a1:Int):Fit (R NN d 164 [iW a0,iW a1] []) (WX a0 a1) PB:=by
  obtain ⟨d,rfl,g⟩:=up hd
  refine A8 (t164 NN d _ _) ?_
  unfold mU WX
  refine AY (A:=fun (s:Bool)=>[.bool s]) (B:=fun s=>[]) ?_ ?_ ?_ ?_
  ·exact AA (aF1 (Ae rfl) fun l0_=>gR (by omega) a0)<|q_k (AA (aF1 (Ae rfl) fun l0_=>gR (by omega) a1)<|q_p fr<|q_j (Ad 0 rr)<|q_p fr<|Ad 0 rr)<|q_p fr<|Ad 0 rr
  ·exact fun s2=>Ak (Ae rfl) rfl
  ·exact fun i1 s2=>As
  ·exact fun s2=>Ak (Ae rfl) rfl
def IC (a1:Int) (s2:Int×(List Int)):Option (LO (Int×(List Int))):=( ( bif decide (s2.1 > a1) then (Aq s2.2 s2.1).bind fun x1=>(Aq s2.2 (wi .i64 (s2.1 - 1))).bind fun x2=>(WX x1 x2).bind fun y1=>some (LO.norm y1) else some (LO.norm false)).bind (Ai (fun s5=>bif s5 then some (LO.norm s5) else some (LO.exit 2 s5)) (fun i1 s5=>some (LO.exit i1 s5)) (fun s5=>some (LO.ret s5)))).bind (Ai (fun s6=>(Aq s2.2 (wi .i64 (s2.1 - 1))).bind fun x3=>(Aq s2.2 s2.1).bind fun x4=>(Aq s2.2 s2.1).bind fun x5=>(Aq (s2.2.set (Int.toNat s2.1) x3) (wi .i64 (s2.1 - 1))).bind fun x6=>some (LO.norm (wi .i64 (s2.1 - 1),(s2.2.set (Int.toNat s2.1) x3).set (Int.toNat (wi .i64 (s2.1 - 1))) x4))) (fun i2 s6=>some (LO.exit i2 (s2.1,s2.2))) (fun s6=>some (LO.ret (s2.1,s2.2))))
def IB (a1:Int) (a2:Int) (s1:Int×(List Int)):Option (LO (Int×(List Int))):=bif decide (s1.1 < a2) then (Ax (IC a1) NN (s1.1,s1.2)).bind (Ai (fun _=>none) (fun i3 s7=>if i3 = 2 then some (LO.norm (wi .i64 (s1.1 + 1),s7.2)) else if i3 = 1 then some (LO.norm (wi .i64 (s1.1 + 1),s7.2)) else some (LO.exit i3 (s1.1,s7.2))) (fun s7=>some (LO.ret (s1.1,s7.2)))) else some (LO.exit 0 (s1.1,s1.2))
def QL (a0:List Int) (a1:Int) (a2:Int):Option ((List Int)):=(Ax (IB a1 a2) NN (wi .i64 (a1 + 1),a0)).bind (Ai (fun _=>none) (fun i4 s8=>if i4 = 0 then some s8.2 else none) (fun s8=>some s8.2))
theorem w158 {d:Nat} (hd:3≤d) (L0:List En) (v0_:AV) (a0:List Int) (a1:Int) (a2:Int):Okh (sl false v0_ (a0:List Int)::L0) (fun S=>R NN d 158 [v0_,iW a1,iW a2] S) (QL a0 a1 a2) (P2 (fun (t:(List Int))=>und) (fun (t:(List Int))=>sl false v0_ t::L0)):=by
  obtain ⟨d,rfl,g⟩:=up hd
  refine D9 (t158 NN d _ _ _) ?_
  unfold mV QL
  refine q_p fr<|Cc (A:=fun (s:Int×(List Int))=>[iW s.1]) (B:=fun s=>sl false v0_ (s.2:List Int)::L0) 0 rr ?_ ?_ ?_
  ·intro s1
   unfold V2 IB
   refine q_p fr<|q_i ?_ ?_
   ·refine Cc (A:=fun (s:Int×(List Int))=>[iW s.1]) (B:=fun s=>sl false v0_ (s.2:List Int)::L0) 0 rr ?_ ?_ ?_
    ·intro s2
     unfold V3 IC
     refine AY (A:=fun (s:Bool)=>[.bool s]) (B:=fun s=>sl false v0_ (s2.2:List Int)::L0) ?_ ?_ ?_ ?_
     ·refine AY (A:=fun (s:Bool)=>[.bool s]) (B:=fun s=>sl false v0_ (s2.2:List Int)::L0) ?_ ?_ ?_ ?_
      ·exact q_p fr<|q_k (GT 0 rfl rfl fun x1 hx1=>I5 0 rfl hx1 rfl<|q_p fr<|GT 0 rfl rfl fun x2 hx2=>I5 0 rfl hx2 rfl<|A5 (aF2 (Ae rfl) (Ae rfl) fun l0_ l1_=>w164 (by omega) x1 x2) fun y1 hy1=>Ad 0 rr)<|Ad 0 rr
      ·exact fun s5=>q_i (Ad 0 rr)<|Ap 0 rr
      ·exact fun i1 s5=>Ap 0 rr
      ·exact fun s5=>Am 0 rr
     ·exact fun s6=>q_p fr<|q_p fr<|GT 0 rfl rfl fun x3 hx3=>I5 0 rfl hx3 rfl<|GT 0 rfl rfl fun x4 hx4=>I5 0 rfl hx4 rfl<|GT 0 rfl rfl fun x5 hx5=>KD (y:=x3) 0 rfl rfl hx5 rfl (by decide)<|GT 0 rfl rfl fun x6 hx6=>KD (y:=x4) 0 rfl rfl hx6 rfl (by decide)<|q_p fr<|Ad 0 rr
     ·exact fun i2 s6=>Ap 0 rr
     ·exact fun s6=>Am 0 rr
    ·exact fun i3 s7=>q_n (q_p fr<|Ad 0 rr)<|q_n (q_p fr<|Ad 0 rr)<|Ap 0 rr
    ·exact fun s7=>Am 0 rr
   ·exact Ap 0 rr
  ·exact fun i4 s8=>q_n (Jg 0 rfl rfl)<|As
  ·exact fun s8=>Jg 0 rfl rfl
def Ku (s1:Int×Int×Int×Bool×Bool×(List Int)):Option (LO (Int×Int×Int×Bool×Bool×(List Int))):=bif decide ((wi .i64 (s1.2.1 - s1.1))≤12) then (QL s1.2.2.2.2.2 s1.1 s1.2.1).bind fun y1=>some (LO.ret (s1.1,s1.2.1,s1.2.2.1,s1.2.2.2.1,s1.2.2.2.2.1,y1)) else bif s1.2.2.1 == 0 then none else ( bif !s1.2.2.2.1 then none else some (LO.norm s1.2.2.1)).bind (Ai (fun s3=>none) (fun i1 s3=>if i1 = 1 then some (LO.norm (s1.1,s1.2.1,s3,s1.2.2.2.1,s1.2.2.2.2.1,s1.2.2.2.2.2)) else some (LO.exit i1 (s1.1,s1.2.1,s3,s1.2.2.2.1,s1.2.2.2.2.1,s1.2.2.2.2.2))) (fun s3=>some (LO.ret (s1.1,s1.2.1,s3,s1.2.2.2.1,s1.2.2.2.2.1,s1.2.2.2.2.2))))
def Pm (rec_:(List Int)→Int→Int→Int→Option ((List Int))) (a0:List Int) (a1:Int) (a2:Int) (a3:Int):Option ((List Int)):=(Ax (Ku) NN (a1,a2,a3,true,true,a0)).bind (Ai (fun _=>none) (fun i2 s4=>if i2 = 0 then some s4.2.2.2.2.2 else none) (fun s4=>some s4.2.2.2.2.2))
def QO (n:Nat):(List Int)→Int→Int→Int→Option ((List Int)):=Nat.rec (fun _ _ _ _=>none) (fun _ ih=>Pm ih) n
theorem iG:∀ (n d:Nat) (hd:n + 68≤d) (L0:List En) (v0_:AV) (a0:List Int) (a1:Int) (a2:Int) (a3:Int),Okh (sl false v0_ (a0:List Int)::L0) (fun S=>R NN d 120 [v0_,iW a1,iW a2,iW a3] S) (QO n a0 a1 a2 a3) (P2 (fun (t:(List Int))=>und) (fun (t:(List Int))=>sl false v0_ t::L0))
  | 0,_,_,L0,v0_,a0,a1,a2,a3=>As
  | n + 1,d,hd,L0,v0_,a0,a1,a2,a3=>by
    have ih:=iG n
    obtain ⟨d,rfl,g⟩:=up (n:=n + 68) (d:=d) (by omega)
    refine D9 (t120 NN d _ _ _ _) ?_
    rw [show QO (n + 1) = Pm (QO n) from rfl]
    unfold n8 Pm
    refine Cc (A:=fun (s:Int×Int×Int×Bool×Bool×(List Int))=>[iW s.1,iW s.2.1,iW s.2.2.1,.bool s.2.2.2.1,.bool s.2.2.2.2.1]) (B:=fun s=>sl false v0_ (s.2.2.2.2.2:List Int)::L0) 0 rr ?_ ?_ ?_
    ·intro s1
     unfold VF Ku
     refine q_p fr<|q_p fr<|q_i ?_ ?_
     ·exact q_s (mg:=QL s1.2.2.2.2.2 s1.1 s1.2.1) (w158 (by omega) _ _ s1.2.2.2.2.2 s1.1 s1.2.1) fun y1 hy1=>Am 0 rr
     ·refine q_p fr<|q_i ?_ ?_
      ·exact As
      ·refine AY (A:=fun (s:Int)=>[iW s]) (B:=fun s=>sl false v0_ (s1.2.2.2.2.2:List Int)::L0) ?_ ?_ ?_ ?_
       ·refine q_p fr<|q_i ?_ ?_
        ·exact As
        ·exact Ad 0 rr
       ·intro s3
        exact As
       ·intro i1 s3
        refine q_n ?_ ?_
        ·exact Ad 0 rr
        ·exact Ap 0 rr
       ·intro s3
        exact Am 0 rr
    ·intro i2 s4
     refine q_n ?_ ?_
     ·exact Jg 0 rfl rfl
     ·exact As
    ·intro s4
     exact Jg 0 rfl rfl
def m167 (a0:Int):Option (Int):=( bif decide (a0 ≥ 65536) then some (LO.norm (TA .u32 a0 16,16)) else some (LO.norm (a0,0))).bind (Ai (fun s2=>( bif decide (s2.1 ≥ 256) then some (LO.norm (TA .u32 s2.1 8,wi .i64 (s2.2 + 8))) else some (LO.norm (s2.1,s2.2))).bind (Ai (fun s4=>(Aq ([0,1,2,2,3,3,3,3,4,4,4,4,4,4,4,4,5,5,5,5,5,5,5,5,5,5,5,5,5,5,5,5,6,6,6,6,6,6,6,6,6,6,6,6,6,6,6,6,6,6,6,6,6,6,6,6,6,6,6,6,6,6,6,6,7,7,7,7,7,7,7,7,7,7,7,7,7,7,7,7,7,7,7,7,7,7,7,7,7,7,7,7,7,7,7,7,7,7,7,7,7,7,7,7,7,7,7,7,7,7,7,7,7,7,7,7,7,7,7,7,7,7,7,7,7,7,7,7,8,8,8,8,8,8,8,8,8,8,8,8,8,8,8,8,8,8,8,8,8,8,8,8,8,8,8,8,8,8,8,8,8,8,8,8,8,8,8,8,8,8,8,8,8,8,8,8,8,8,8,8,8,8,8,8,8,8,8,8,8,8,8,8,8,8,8,8,8,8,8,8,8,8,8,8,8,8,8,8,8,8,8,8,8,8,8,8,8,8,8,8,8,8,8,8,8,8,8,8,8,8,8,8,8,8,8,8,8,8,8,8,8,8,8,8,8,8,8,8,8,8,8,8,8,8,8,8]:Str) (wi .u8 s4.1)).bind fun c1=>some (wi .i64 (s4.2 + (wi .i64 (c1.toNat:Int))))) (fun i2 s4=>none) (fun s4=>some s4.2))) (fun i1 s2=>none) (fun s2=>some s2.2))
def eL (a0:Int):Option (Int):=( bif decide (a0 ≥ 4294967296) then some (LO.norm (TA .u64 a0 32,32)) else some (LO.norm (a0,0))).bind (Ai (fun s2=>( bif decide (s2.1 ≥ 65536) then some (LO.norm (TA .u64 s2.1 16,wi .i64 (s2.2 + 16))) else some (LO.norm (s2.1,s2.2))).bind (Ai (fun s4=>( bif decide (s4.1 ≥ 256) then some (LO.norm (TA .u64 s4.1 8,wi .i64 (s4.2 + 8))) else some (LO.norm (s4.1,s4.2))).bind (Ai (fun s6=>(Aq ([0,1,2,2,3,3,3,3,4,4,4,4,4,4,4,4,5,5,5,5,5,5,5,5,5,5,5,5,5,5,5,5,6,6,6,6,6,6,6,6,6,6,6,6,6,6,6,6,6,6,6,6,6,6,6,6,6,6,6,6,6,6,6,6,7,7,7,7,7,7,7,7,7,7,7,7,7,7,7,7,7,7,7,7,7,7,7,7,7,7,7,7,7,7,7,7,7,7,7,7,7,7,7,7,7,7,7,7,7,7,7,7,7,7,7,7,7,7,7,7,7,7,7,7,7,7,7,7,8,8,8,8,8,8,8,8,8,8,8,8,8,8,8,8,8,8,8,8,8,8,8,8,8,8,8,8,8,8,8,8,8,8,8,8,8,8,8,8,8,8,8,8,8,8,8,8,8,8,8,8,8,8,8,8,8,8,8,8,8,8,8,8,8,8,8,8,8,8,8,8,8,8,8,8,8,8,8,8,8,8,8,8,8,8,8,8,8,8,8,8,8,8,8,8,8,8,8,8,8,8,8,8,8,8,8,8,8,8,8,8,8,8,8,8,8,8,8,8,8,8,8,8,8,8,8,8]:Str) (wi .u8 s6.1)).bind fun c1=>some (wi .i64 (s6.2 + (wi .i64 (c1.toNat:Int))))) (fun i3 s6=>none) (fun s6=>some s6.2))) (fun i2 s4=>none) (fun s4=>some s4.2))) (fun i1 s2=>none) (fun s2=>some s2.2))
theorem w168 {d:Nat} (hd:1≤d) (a0:Int):Fit (R NN d 168 [.int .u64 a0] []) (eL a0) PI:=by
  obtain ⟨d,rfl,g⟩:=up hd
  refine A8 (t168 NN d _) ?_
  unfold mT eL
  refine AY (A:=fun (s:Int×Int)=>[.int .u64 s.1,iW s.2]) (B:=fun s=>[]) ?_ ?_ ?_ ?_
  ·exact q_p fr<|q_i (q_p fr<|Ad 0 rr)<|Ad 0 rr
  ·intro s2
   refine AY (A:=fun (s:Int×Int)=>[.int .u64 s.1,iW s.2]) (B:=fun s=>[]) ?_ ?_ ?_ ?_
   ·exact q_p fr<|q_i (q_p fr<|q_p fr<|Ad 0 rr)<|Ad 0 rr
   ·intro s4
    refine AY (A:=fun (s:Int×Int)=>[.int .u64 s.1,iW s.2]) (B:=fun s=>[]) ?_ ?_ ?_ ?_
    ·exact q_p fr<|q_i (q_p fr<|q_p fr<|Ad 0 rr)<|Ad 0 rr
    ·exact fun s6=>q_p (fun _=>XI _ _)<|I4 fun c1 hc1=>q_p (fun _=>fG _ _)<|q_p fr<|Ak (Ae rfl) rfl
    ·exact fun i3 s6=>As
    ·exact fun s6=>Ak (Ae rfl) rfl
   ·exact fun i2 s4=>As
   ·exact fun s4=>Ak (Ae rfl) rfl
  ·exact fun i1 s2=>As
  ·exact fun s2=>Ak (Ae rfl) rfl
def Zh (a0:Int):Option (Int):=(eL a0).bind fun y1=>some y1
theorem w121 {d:Nat} (hd:2≤d) (a0:Int):Fit (R NN d 121 [.int .u64 a0] []) (Zh a0) PI:=by
  obtain ⟨d,rfl,g⟩:=up hd
  refine A8 (t121 NN d _) ?_
  unfold n7 Zh
  first | refine Dy ?_ | skip
  exact A5 (aF1 (Ae rfl) fun l0_=>w168 (by omega) a0) fun y1 hy1=>Ak (Ae rfl) rfl
def m74 (a0:List Int):Option ((List Int)):=(Zh (wi .u64 (a0.length:Int))).bind fun y1=>(QO 64 a0 0 (a0.length:Int) y1).bind fun y2=>some y2
theorem w74 {d:Nat} (hd:133≤d) (L0:List En) (v0_:AV) (a0:List Int):Okh (sl false v0_ (a0:List Int)::L0) (fun S=>R NN d 74 [v0_] S) (m74 a0) (P2 (fun (t:(List Int))=>und) (fun (t:(List Int))=>sl false v0_ t::L0)):=by
  obtain ⟨d,rfl,g⟩:=up hd
  refine D9 (t74 NN d _) ?_
  unfold b74 m74
  exact KF 0 rfl<|q_p (fun _=>XH _ _)<|A5 (aF1 (Ae rfl) fun l0_=>w121 (by omega) (wi .u64 (a0.length:Int))) fun y1 hy1=>q_s (mg:=QO 64 a0 0 (a0.length:Int) y1) (iG 64 _ (by omega) _ _ a0 0 (a0.length:Int) y1) fun y2 hy2=>Jg 0 rfl rfl
def ID (lo n:Int) (s:Int×Int×List Int):Option (LO (Int×Int×List Int)):=bif decide (s.2.1 < n - lo) then ((Oh s.2.2 lo n s.2.1).bind fun x1=>(Oh s.2.2 lo n (wi .i64 (s.2.1 - 1))).bind fun x2=>bif x1 != x2 then (Oh s.2.2 lo n s.2.1).bind fun x3=>(Aq s.2.2 s.1).bind fun _=>some (LO.norm (wi .i64 (s.1 + 1),s.2.2.set s.1.toNat x3)) else some (LO.norm (s.1,s.2.2))).bind (Ai (fun s'=>some (LO.norm (s'.1,wi .i64 (s.2.1 + 1),s'.2))) (fun i s'=>some (LO.exit i (s'.1,s.2.1,s'.2))) (fun s'=>some (LO.ret (s'.1,s.2.1,s'.2)))) else some (LO.exit 2 s)
def Kr (xs:List Int) (s:Option (List Int)×Int):Option (LO (Option (List Int)×Int)):=
  match s.1 with
  | some _=>none
  | none=>
    bif decide (s.2 < (xs.length:Int)) then
      (Aq xs s.2).bind fun x1=>(Aq xs (wi .i64 (s.2 - 1))).bind fun x2=>
      bif x1 == x2 then
        (viO xs.length s.2 xs.length).bind fun _=>(Ax (ID s.2 xs.length) NN (s.2,1,xs)).bind (Ai (fun _=>none) (fun i t=>if i = 2 then (viO t.2.2.length t.1 t.2.2.length).bind fun _=>(viO (clr t.2.2 t.1).length 0 t.1).bind fun _=>some (LO.ret (some ((clr t.2.2 t.1).take t.1.toNat),t.1)) else none) (fun _=>none))
      else some (LO.norm (none,wi .i64 (s.2 + 1)))
    else some (LO.exit 0 (none,s.2))
def Uf (xs:List Int):Option (List Int):=
  bif decide ((xs.length:Int) < 2) then some xs
  else (Ax (Kr xs) NN (none,1)).bind (Ai (fun _=>none) (fun i s=>if i = 0 then (match s.1 with | none=>some xs | some _=>none) else none) (fun s=>s.1))
theorem dF:Tryz.prog.underlying 24 = some (.slice 2):=by kernel_rfl
theorem cB:EY Tryz.prog 2 = some (Enc.cs false (0:Int)):=by kernel_rfl
theorem w157 {d:Nat} (hd:1≤d) (L0:List En) (v0_:AV) (a0:List Int):Okh (sl false v0_ a0::L0) (fun S=>R NN d 157 [v0_] S) (Uf a0) (P2 (fun (t:List Int)=>cpv v0_ t.length) (fun (t:List Int)=>cl v0_ t::L0)):=by
  obtain ⟨d,rfl,g⟩:=up hd
  rw [show (fun S=>R NN (d + 1) 157 [v0_] S) = fun S=>f8 (cfg NN) (R NN d) (v0_) S from funext fun S=>t157 NN d v0_ S]
  have hwhole:Okh (sl false v0_ a0::L0) (fun S=>some (v0_,S)) (some a0) (P2 (fun (t:List Int)=>cpv v0_ t.length) (fun (t:List Int)=>cl v0_ t::L0)):=fun S hS t ht=>by
    injection ht with ht; subst ht
    refine ⟨_,rfl,?_,?_⟩
    · rcases hS.get (k:=0) rfl with ⟨rfl,rfl⟩ | ⟨b,fl,pl,rfl,_,_⟩
      · rfl
      · simp [cpv]
    · have h:=q_cl (L0:=L0) (v:=v0_) (xs:=a0) (k:=fun S=>some S) (m:=some ()) (P:=fun _ S'=>HP S' (cl v0_ a0::L0)) (fun S hS t ht=>⟨S,rfl,hS⟩) S hS () rfl
      obtain ⟨S',h1,h2⟩:=h
      injection h1 with h1; subst h1; exact h2
  unfold f8 Uf
  refine KF 0 rfl ?_
  refine q_p (fun _=>rfl) ?_
  refine d4 (fun h1=>?_) (fun h1=>?_)
  · exact hwhole
  · refine BW (I:=(fun (s:Option (List Int)×Int) l L=>match s.1 with | none=>l = [.rsl false true [],iW s.2]∧L = sl false v0_ a0::L0 | some ys=>l = [cpv v0_ ys.length,iW s.2]∧L = cl v0_ ys::L0)) 0 rr ?_ ?_ ?_
    · rintro ⟨s1,k⟩ l L' hI
      cases s1 with
      | some ys=>exact As
      | none=>
        obtain ⟨rfl,rfl⟩:=hI
        unfold V4 Kr
        refine KF 0 rfl ?_
        refine q_p (fun _=>rfl) ?_
        refine d4 (fun h2=>?_) (fun h2=>?_)
        · refine GT 0 rfl rfl fun x1 hx1=>?_
          refine I5 0 rfl hx1 rfl ?_
          refine q_p (fun _=>rfl) ?_
          refine GT 0 rfl rfl fun x2 hx2=>?_
          refine I5 0 rfl hx2 rfl ?_
          refine q_p (fun _=>rfl) ?_
          refine q_i ?_ ?_
          · refine YN 0 rfl rfl (.inl rfl) (.inr ⟨rfl,rfl⟩) fun g1 g2 g3=>?_
            refine BW (I:=(fun (s:Int×Int×List Int) l L=>l = [iW s.1,iW s.2.1]∧L = sl false v0_ s.2.2::L0∧s.2.2.length = a0.length)) 0 ⟨rfl,rfl,rfl⟩ ?_ ?_ ?_
            · rintro ⟨i,k2,ys⟩ _ _ ⟨rfl,rfl,hl⟩
              unfold V5 ID
              refine dT 0 rfl g1 g2 (by dsimp only at hl ⊢; omega) ?_
              refine q_p (fun _=>rfl) ?_
              refine q_i ?_ ?_
              · refine DN (I:=(fun (s:Int×List Int) l L=>l = [iW s.1]∧L = sl false v0_ s.2::L0∧s.2.length = a0.length)) ?_ ?_ ?_ ?_
                · refine VV 0 rfl rfl g1 g2 (by dsimp only at hl ⊢; omega) fun x3 hx3=>?_
                  refine I5 0 rfl hx3 rfl ?_
                  refine q_p (fun _=>rfl) ?_
                  refine VV 0 rfl rfl g1 g2 (by dsimp only at hl ⊢; omega) fun x4 hx4=>?_
                  refine I5 0 rfl hx4 rfl ?_
                  refine q_p (fun _=>rfl) ?_
                  refine q_i ?_ ?_
                  · refine VV 0 rfl rfl g1 g2 (by dsimp only at hl ⊢; omega) fun x5 hx5=>?_
                    refine I5 0 rfl hx5 rfl ?_
                    refine GT 0 rfl rfl fun x6 hx6=>?_
                    refine KD 0 rfl rfl hx6 rfl (by decide) ?_
                    refine q_p (fun _=>rfl) ?_
                    exact Ad 0 ⟨rfl,rfl,by simpa using hl⟩
                  · exact Ad 0 ⟨rfl,rfl,hl⟩
                · rintro ⟨i',ys'⟩ _ _ ⟨rfl,rfl,hl'⟩
                  refine q_p (fun _=>rfl) ?_
                  exact Ad 0 ⟨rfl,rfl,hl'⟩
                · rintro j ⟨i',ys'⟩ _ _ ⟨rfl,rfl,hl'⟩
                  exact Ap 0 ⟨rfl,rfl,hl'⟩
                · rintro ⟨i',ys'⟩ _ _ ⟨rfl,rfl,hl'⟩
                  exact Am 0 ⟨rfl,rfl,hl'⟩
              · exact Ap 0 ⟨rfl,rfl,hl⟩
            · rintro j ⟨i,k2,ys⟩ _ _ ⟨rfl,rfl,hl⟩
              refine q_n ?_ ?_
              · refine YN 0 rfl rfl (.inl rfl) (.inr ⟨rfl,rfl⟩) fun g4 g5 g6=>?_
                refine dU (te:=2) (z:=(0:Int)) 0 rfl dF cB g4 g5 g6 ?_
                refine YN (xs:=clr ys i) (i:=0) 0 rfl rfl (.inr ⟨rfl,rfl⟩) (.inl rfl) fun g7 g8 g9=>?_
                have e1:((clr ys i).take i.toNat).length = i.toNat:=by rw [List.length_take]; omega
                refine Wb (ys:=(clr ys i).take i.toNat) (by rw [e1]; rfl) ?_
                refine Am 0 ⟨?_,rfl⟩
                rw [e1]
                show [viA v0_ 0 i.toNat,_] = _
                rw [iI]; rfl
              · exact As
            · rintro ⟨i,k2,ys⟩ _ _ ⟨rfl,rfl,hl⟩
              exact As
          · refine q_p (fun _=>rfl) ?_
            exact Ad 0 rr
        · exact Ap 0 rr
    · rintro i ⟨s1,k⟩ l L' hI
      refine q_n ?_ ?_
      · cases s1 with
        | some ys=>exact As
        | none=>obtain ⟨rfl,rfl⟩:=hI; exact hwhole
      · exact As
    · rintro ⟨s1,k⟩ l L' hI
      cases s1 with
      | none=>exact As
      | some ys=>
        obtain ⟨rfl,rfl⟩:=hI
        exact Jg 0 rfl rfl
def IH (a0:List Ah) (a1:Int) (a2:Int) (a3:Int) (a4:Int) (s1:Int×(List Int)):Option (LO (Int×(List Int))):=bif decide (s1.1 < (a0.length:Int)) then ( (Aq a0 s1.1).bind fun x1=>( bif x1.Kind == a1 then bif x1.View == a2 then bif x1.Slot == a3 then some (LO.norm (x1.Value == a4)) else some (LO.norm false) else some (LO.norm false) else some (LO.norm false)).bind (Ai (fun s4=>bif s4 then (B7 8 s1.2 [x1.From]).bind fun z1=>some (LO.norm z1) else some (LO.norm s1.2)) (fun i1 s4=>if i1 = 1 then some (LO.norm s1.2) else some (LO.exit i1 s1.2)) (fun s4=>some (LO.ret s1.2)))).bind (Ai (fun s5=>some (LO.norm (wi .i64 (s1.1 + 1),s5))) (fun i2 s5=>some (LO.exit i2 (s1.1,s5))) (fun s5=>some (LO.ret (s1.1,s5)))) else some (LO.exit 0 (s1.1,s1.2))
def Xi (a0:List Ah) (a1:Int) (a2:Int) (a3:Int) (a4:Int):Option ((List Int)):=(Ax (IH a0 a1 a2 a3 a4) NN (0,[])).bind (Ai (fun _=>none) (fun i3 s6=>if i3 = 0 then (m74 s6.2).bind fun y1=>(Uf y1).bind fun y2=>some y2 else none) (fun s6=>some []))
theorem w119 {d:Nat} (hd:134≤d) (k0:Bool) (a0:List Ah) (a1:Int) (a2:Int) (a3:Int) (a4:Int):Fit (R NN d 119 [.rsl k0 false (a0.map (Enc.cs k0)),iW a1,iW a2,iW a3,iW a4] []) (Xi a0 a1 a2 a3 a4) (P0 (fun (t:List Int)=>AV.rsl false false (t.map (Enc.cs false)))):=by
  obtain ⟨d,rfl,g⟩:=up hd
  refine A8 (t119 NN d _ _ _ _ _) ?_
  unfold n9 Xi
  refine q_q (fun _=>Em)<|A7<|Eo (α:=Int) false<|BW (I:=(fun (s:Int×(List Int)) l L=>∃ (v1:AV),l = [v1,iW s.1]∧L = [sl false v1 (s.2:List Int)])) 0 ⟨(.rsl false true []),rfl,rfl⟩ ?_ ?_ ?_
  ·rintro s1 _ _ ⟨v1,rfl,rfl⟩
   unfold VG IH
   refine q_p fr<|q_i ?_ ?_
   ·refine DN (I:=(fun (s:(List Int)) l L=>∃ (v2:AV),l = [v2]∧L = [sl false v2 (s:List Int)])) ?_ ?_ ?_ ?_
    ·refine Bd rfl fun x1 hx1=>q_p fr<|AT rfl fun b1=>AN 0 rfl rfl rfl (by decide) rfl<|AY (A:=fun (s:Bool)=>[.bool s]) (B:=fun s=>[bx b1 [iW x1.Kind,iW x1.View,iW x1.From,iW x1.Slot,iW x1.Value,.rsl k0 false (x1.Certs.map (Enc.cs k0)),.rsl k0 false (x1.Refs.map (Enc.cs k0))],sl false v1 (s1.2:List Int)]) ?_ ?_ ?_ ?_
     ·exact q_p fr<|Au 0 rfl rfl<|q_p fr<|q_k (q_p fr<|Au 0 rfl rfl<|q_p fr<|q_k (q_p fr<|Au 0 rfl rfl<|q_p fr<|q_k (q_p fr<|Au 0 rfl rfl<|q_p fr<|Ad 0 rr)<|Ad 0 rr)<|Ad 0 rr)<|Ad 0 rr
     ·exact fun s4=>q_i (q_p fr<|Au 0 rfl rfl<|q_q (fun _=>EM)<|Ed (ys:=[x1.From]) 1 rfl rfl (fun _ _=>rfl) fun v2 z1 hz1=>Ad 1 ⟨v2,rfl,rfl⟩)<|Ad 1 ⟨v1,rfl,rfl⟩
     ·exact fun i1 s4=>q_n (Ad 1 ⟨v1,rfl,rfl⟩)<|Ap 1 ⟨v1,rfl,rfl⟩
     ·exact fun s4=>Am 1 ⟨v1,rfl,rfl⟩
    ·rintro s5 _ _ ⟨v3,rfl,rfl⟩
     exact q_p fr<|Ad 0 ⟨v3,rfl,rfl⟩
    ·rintro i2 s5 _ _ ⟨v4,rfl,rfl⟩
     exact Ap 0 ⟨v4,rfl,rfl⟩
    ·rintro s5 _ _ ⟨v5,rfl,rfl⟩
     exact Am 0 ⟨v5,rfl,rfl⟩
   ·exact Ap 0 ⟨v1,rfl,rfl⟩
  ·rintro i3 s6 _ _ ⟨v6,rfl,rfl⟩
   exact q_n (q_s (mg:=m74 s6.2) (w74 (by omega) _ _ s6.2) fun y1 hy1=>q_s (mg:=Uf y1) (w157 (by omega) _ _ y1) fun y2 hy2=>Ak (bV 0 rfl) rfl)<|As
  ·rintro s6 _ _ ⟨v7,rfl,rfl⟩
   exact Ak (A3 (α:=Int) (l0:=false) (fl:=true) (xs:=[])) rfl
def m73 (a0:Int) (a1:List Ah) (a2:Int) (a3:Int) (a4:Int) (a5:Int):Option (Bool):=(Xi a1 a2 a3 a4 a5).bind fun y1=>some (decide ((y1.length:Int) ≥ (wi .i64 ((wi .i64 (2 * a0)) + 1))))
theorem w73 {d:Nat} (hd:135≤d) (a0:Int) (k1:Bool) (a1:List Ah) (a2:Int) (a3:Int) (a4:Int) (a5:Int):Fit (R NN d 73 [iW a0,.rsl k1 false (a1.map (Enc.cs k1)),iW a2,iW a3,iW a4,iW a5] []) (m73 a0 a1 a2 a3 a4 a5) PB:=by
  obtain ⟨d,rfl,g⟩:=up hd
  refine A8 (t73 NN d _ _ _ _ _ _) ?_
  unfold b73 m73
  exact A5 (fun S hS=>Yi A3 (Ae rfl) (Ae rfl) (Ae rfl) (Ae rfl) hS fun l0_ l1_ l2_ l3_ l4_=>w119 (by omega) l0_ a1 a2 a3 a4 a5) fun y1 hy1=>A7<|q_p fr<|q_p fr<|q_p fr<|Ak (Ae rfl) rfl
def KY (a0:Int) (a1:List Ah) (a2:Int) (s1:Int×(List Int)):Option (LO (Int×(List Int))):=bif decide (s1.1 < (a1.length:Int)) then ( (Aq a1 s1.1).bind fun x1=>( bif x1.Kind == 3 then bif x1.Slot == a2 then (m72 s1.2 x1.Value).bind fun y1=>bif !y1 then (m73 a0 a1 3 x1.View a2 x1.Value).bind fun y2=>some (LO.norm y2) else some (LO.norm false) else some (LO.norm false) else some (LO.norm false)).bind (Ai (fun s4=>bif s4 then (B7 8 s1.2 [x1.Value]).bind fun z1=>some (LO.norm z1) else some (LO.norm s1.2)) (fun i1 s4=>if i1 = 1 then some (LO.norm s1.2) else some (LO.exit i1 s1.2)) (fun s4=>some (LO.ret s1.2)))).bind (Ai (fun s5=>some (LO.norm (wi .i64 (s1.1 + 1),s5))) (fun i2 s5=>some (LO.exit i2 (s1.1,s5))) (fun s5=>some (LO.ret (s1.1,s5)))) else some (LO.exit 0 (s1.1,s1.2))
def m31 (a0:Int) (a1:List Ah) (a2:Int):Option ((List Int)):=(Ax (KY a0 a1 a2) NN (0,[])).bind (Ai (fun _=>none) (fun i3 s6=>if i3 = 0 then (m74 s6.2).bind fun y3=>some y3 else none) (fun s6=>some []))
theorem w31 {d:Nat} (hd:136≤d) (a0:Int) (k1:Bool) (a1:List Ah) (a2:Int):Fit (R NN d 31 [iW a0,.rsl k1 false (a1.map (Enc.cs k1)),iW a2] []) (m31 a0 a1 a2) (P0 (fun (t:List Int)=>AV.rsl false false (t.map (Enc.cs false)))):=by
  obtain ⟨d,rfl,g⟩:=up hd
  refine A8 (t31 NN d _ _ _) ?_
  unfold b31 m31
  refine q_q (fun _=>Em)<|A7<|Eo (α:=Int) false<|BW (I:=(fun (s:Int×(List Int)) l L=>∃ (v1:AV),l = [v1,iW s.1]∧L = [sl false v1 (s.2:List Int)])) 0 ⟨(.rsl false true []),rfl,rfl⟩ ?_ ?_ ?_
  ·rintro s1 _ _ ⟨v1,rfl,rfl⟩
   unfold aV KY
   refine q_p fr<|q_i ?_ ?_
   ·refine DN (I:=(fun (s:(List Int)) l L=>∃ (v2:AV),l = [v2]∧L = [sl false v2 (s:List Int)])) ?_ ?_ ?_ ?_
    ·refine Bd rfl fun x1 hx1=>q_p fr<|AT rfl fun b1=>AN 0 rfl rfl rfl (by decide) rfl<|AY (A:=fun (s:Bool)=>[.bool s]) (B:=fun s=>[bx b1 [iW x1.Kind,iW x1.View,iW x1.From,iW x1.Slot,iW x1.Value,.rsl k1 false (x1.Certs.map (Enc.cs k1)),.rsl k1 false (x1.Refs.map (Enc.cs k1))],sl false v1 (s1.2:List Int)]) ?_ ?_ ?_ ?_
     ·exact q_p fr<|Au 0 rfl rfl<|q_p fr<|q_k (q_p fr<|Au 0 rfl rfl<|q_p fr<|q_k (q_p fr<|Au 0 rfl rfl<|A5 (aF2 (Io 1 rfl) (Ae rfl) fun l0_ l1_=>w72 (by omega) l0_ s1.2 x1.Value) fun y1 hy1=>q_p fr<|q_k (q_p fr<|Au 0 rfl rfl<|q_p fr<|Au 0 rfl rfl<|A5 (fun S hS=>bY (Ae rfl) A3 (Ae rfl) (Ae rfl) (Ae rfl) (Ae rfl) hS fun l0_ l1_ l2_ l3_ l4_ l5_=>w73 (by omega) a0 l1_ a1 3 x1.View a2 x1.Value) fun y2 hy2=>Ad 0 rr)<|Ad 0 rr)<|Ad 0 rr)<|Ad 0 rr
     ·exact fun s4=>q_i (q_p fr<|Au 0 rfl rfl<|q_q (fun _=>EM)<|Ed (ys:=[x1.Value]) 1 rfl rfl (fun _ _=>rfl) fun v2 z1 hz1=>Ad 1 ⟨v2,rfl,rfl⟩)<|Ad 1 ⟨v1,rfl,rfl⟩
     ·exact fun i1 s4=>q_n (Ad 1 ⟨v1,rfl,rfl⟩)<|Ap 1 ⟨v1,rfl,rfl⟩
     ·exact fun s4=>Am 1 ⟨v1,rfl,rfl⟩
    ·rintro s5 _ _ ⟨v3,rfl,rfl⟩
     exact q_p fr<|Ad 0 ⟨v3,rfl,rfl⟩
    ·rintro i2 s5 _ _ ⟨v4,rfl,rfl⟩
     exact Ap 0 ⟨v4,rfl,rfl⟩
    ·rintro s5 _ _ ⟨v5,rfl,rfl⟩
     exact Am 0 ⟨v5,rfl,rfl⟩
   ·exact Ap 0 ⟨v1,rfl,rfl⟩
  ·rintro i3 s6 _ _ ⟨v6,rfl,rfl⟩
   exact q_n (q_s (mg:=m74 s6.2) (w74 (by omega) _ _ s6.2) fun y3 hy3=>Ak (Io 0 rfl) rfl)<|As
  ·rintro s6 _ _ ⟨v7,rfl,rfl⟩
   exact Ak (A3 (α:=Int) (l0:=false) (fl:=true) (xs:=[])) rfl
def KU (a0:Int) (a1:List Ah) (s1:Int×(List Int)):Option (LO (Int×(List Int))):=bif decide (s1.1≤30) then (m31 a0 a1 s1.1).bind fun y1=>bif (y1.length:Int) == 0 then some (LO.exit 0 (s1.1,s1.2)) else (Aq y1 0).bind fun x1=>(B7 8 s1.2 [x1]).bind fun z1=>some (LO.norm (wi .i64 (s1.1 + 1),z1)) else some (LO.exit 0 (s1.1,s1.2))
def m53 (a0:Int) (a1:List Ah):Option ((List Int)):=(Ax (KU a0 a1) NN (1,[])).bind (Ai (fun _=>none) (fun i1 s2=>if i1 = 0 then some s2.2 else none) (fun s2=>some []))
theorem w53 {d:Nat} (hd:137≤d) (a0:Int) (k1:Bool) (a1:List Ah):Fit (R NN d 53 [iW a0,.rsl k1 false (a1.map (Enc.cs k1))] []) (m53 a0 a1) (P0 (fun (t:List Int)=>AV.rsl false false (t.map (Enc.cs false)))):=by
  obtain ⟨d,rfl,g⟩:=up hd
  refine A8 (t53 NN d _ _) ?_
  unfold b53 m53
  refine q_q (fun _=>Em)<|Eo (α:=Int) false<|BW (I:=(fun (s:Int×(List Int)) l L=>∃ (v1:AV),l = [v1,iW s.1]∧L = [sl false v1 (s.2:List Int)])) 0 ⟨(.rsl false true []),rfl,rfl⟩ ?_ ?_ ?_
  ·rintro s1 _ _ ⟨v1,rfl,rfl⟩
   unfold aO KU
   exact q_p fr<|q_i (A5 (aF3 (Ae rfl) A3 (Ae rfl) fun l0_ l1_ l2_=>w31 (by omega) a0 l1_ a1 s1.1) fun y1 hy1=>A7<|q_p fr<|q_i (Ap 0 ⟨v1,rfl,rfl⟩)<|Bd rfl fun x1 hx1=>q_p fr<|q_q (fun _=>EM)<|Ed (ys:=[x1]) 0 rfl rfl (fun _ _=>rfl) fun v2 z1 hz1=>q_p fr<|Ad 0 ⟨v2,rfl,rfl⟩)<|Ap 0 ⟨v1,rfl,rfl⟩
  ·rintro i1 s2 _ _ ⟨v3,rfl,rfl⟩
   exact q_n (Ak (Io 0 rfl) rfl)<|As
  ·rintro s2 _ _ ⟨v4,rfl,rfl⟩
   exact Ak (A3 (α:=Int) (l0:=false) (fl:=true) (xs:=[])) rfl
def m59 (a0:List Ah) (a1:Int) (a2:Int):Option (Ah×Bool):=bif !(m63 a1 0 (wi .i64 ((a0.length:Int) - 1))) then some ((⟨0,0,0,0,0,[],[]⟩:Ah),false) else (Aq a0 a1).bind fun x1=>bif x1.Kind == a2 then some (x1,decide (x1.View > 0)) else some (x1,false)
theorem w59 {d:Nat} (hd:2≤d) (L0:List En) (k0:Bool) (f0_:Bool) (a0:List Ah) (a1:Int) (a2:Int):Okh (L0) (fun S=>R NN d 59 [.rsl k0 f0_ (a0.map (Enc.cs k0)),iW a1,iW a2] S) (m59 a0 a1 a2) (P3 (fun (x:Bool×Bool×Bool×Bool) (t:Ah×Bool)=>AV.tup [AV.agg [iW t.1.Kind,iW t.1.View,iW t.1.From,iW t.1.Slot,iW t.1.Value,.rsl x.1 x.2.1 (t.1.Certs.map (Enc.cs x.1)),.rsl x.2.2.1 x.2.2.2 (t.1.Refs.map (Enc.cs x.2.2.1))],AV.bool t.2]) (fun (_:Ah×Bool)=>L0)):=by
  obtain ⟨d,rfl,g⟩:=up hd
  refine D9 (t59 NN d _ _ _) ?_
  unfold b59 m59
  exact AT rfl fun b1=>A7<|q_p fr<|AA (aF3 (Ae rfl) (Ae rfl) (Ae rfl) fun l0_ l1_ l2_=>w63 (by omega) a1 0 (wi .i64 ((a0.length:Int) - 1)))<|q_p fr<|q_i (q_p (fun _=>bd46 rfl)<|AN 0 rfl rfl rfl (by decide) rfl<|NQ (false,true,false,true) 1 (fun S hS=>Gm (hS.lda 0 rfl rfl) rfl) rfl rfl)<|Bd rfl fun x1 hx1=>q_p fr<|AT rfl fun b2=>AN 0 rfl rfl rfl (by decide) rfl<|AB 0 rfl rfl rfl<|q_p fr<|Au 0 rfl rfl<|q_p fr<|q_k (q_p fr<|Au 0 rfl rfl<|q_p fr<|AN 1 rfl rfl rfl (by decide) rfl<|eB (fun S hS=>(Yn (hS.ap 0 1 rfl rfl (by decide)) rfl))<|NQ (k0,false,k0,false) 2 (fun S hS=>Gm (hS.lda 1 rfl rfl) rfl) rfl rfl)<|AN 1 rfl rfl rfl (by decide) rfl<|eB (fun S hS=>(Yn rfl rfl))<|NQ (k0,false,k0,false) 2 (fun S hS=>Gm (hS.lda 1 rfl rfl) rfl) rfl rfl
def m62 (a0:Int) (a1:List Ah) (a2:AE):Option (Bool):=( bif (Po a2.Slot) then bif (m97 a2.View) then bif (Pn a2.Value) then (m73 a0 a1 2 a2.View a2.Slot a2.Value).bind fun y1=>some (LO.norm y1) else some (LO.norm false) else some (LO.norm false) else some (LO.norm false)).bind (Ai (fun s2=>some s2) (fun i1 s2=>none) (fun s2=>some s2))
theorem w62 {d:Nat} (hd:136≤d) (a0:Int) (k1:Bool) (a1:List Ah) (k2:Bool) (a2:AE):Fit (R NN d 62 [iW a0,.rsl k1 false (a1.map (Enc.cs k1)),.agg (Enc.cs k2 a2)] []) (m62 a0 a1 a2) PB:=by
  obtain ⟨d,rfl,g⟩:=up hd
  refine A8 (t62 NN d _ _ _) ?_
  unfold b62 m62
  refine AD (n:=3) rfl rfl (by decide) fun b1=>AY (A:=fun (s:Bool)=>[.bool s]) (B:=fun s=>[bx b1 [iW a2.Slot,iW a2.View,iW a2.Value]]) ?_ ?_ ?_ ?_
  ·exact q_p fr<|Au 0 rfl rfl<|AA (aF1 (Ae rfl) fun l0_=>UO (by omega) a2.Slot)<|q_k (q_p fr<|Au 0 rfl rfl<|AA (aF1 (Ae rfl) fun l0_=>w97 (by omega) a2.View)<|q_k (q_p fr<|Au 0 rfl rfl<|AA (aF1 (Ae rfl) fun l0_=>UN (by omega) a2.Value)<|q_k (q_p fr<|Au 0 rfl rfl<|q_p fr<|Au 0 rfl rfl<|q_p fr<|Au 0 rfl rfl<|A5 (fun S hS=>bY (Ae rfl) A3 (Ae rfl) (Ae rfl) (Ae rfl) (Ae rfl) hS fun l0_ l1_ l2_ l3_ l4_ l5_=>w73 (by omega) a0 l1_ a1 2 a2.View a2.Slot a2.Value) fun y1 hy1=>Ad 0 rr)<|Ad 0 rr)<|Ad 0 rr)<|Ad 0 rr
  ·exact fun s2=>Ak (Ae rfl) rfl
  ·exact fun i1 s2=>As
  ·exact fun s2=>Ak (Ae rfl) rfl
def m61 (a0:AE) (a1:Int) (a2:List Ah):Option (Bool):=(m62 a1 a2 a0).bind fun y1=>some (!y1)
theorem w61 {d:Nat} (hd:137≤d) (k0:Bool) (a0:AE) (k1:Bool) (a1:Int) (k2:Bool) (a2:List Ah):Fit (R NN d 61 [.agg (Enc.cs k0 a0),.rp k1 (Enc.cs k1 a1),.rp k2 (Enc.cs k2 a2)] []) (m61 a0 a1 a2) PB:=by
  obtain ⟨d,rfl,g⟩:=up hd
  refine A8 (t61 NN d _ _ _) ?_
  unfold b61 m61
  exact AD (n:=3) rfl rfl (by decide) fun b1=>q_p fr<|q_p fr<|AB 0 rfl rfl rfl<|A5 (aF3 (Ae rfl) A3 (AS (Ar (l0:=false) (x:=a0))) fun l0_ l1_ l2_=>w62 (by omega) a1 l1_ a2 l2_ a0) fun y1 hy1=>q_p fr<|Ak (Ae rfl) rfl
def m24 (a0:Int) (a1:List Ah) (a2:Int):Option (Bool):=(m59 a1 a2 4).bind fun y1=>bif y1.2 then (m60 y1.1.Certs (fun x0_=>m61 x0_ a0 a1)).bind fun y2=>some (!y2) else some false
theorem w24 {d:Nat} (hd:140≤d) (a0:Int) (k1:Bool) (a1:List Ah) (a2:Int):Fit (R NN d 24 [iW a0,.rsl k1 false (a1.map (Enc.cs k1)),iW a2] []) (m24 a0 a1 a2) PB:=by
  obtain ⟨d,rfl,g⟩:=up hd
  refine A8 (t24 NN d _ _ _) ?_
  unfold b24 m24
  exact AD (n:=1) rfl rfl (by decide) fun b1=>AD (n:=1) rfl rfl (by decide) fun b2=>Au 0 rfl rfl<|dV (mg:=m59 a1 a2 4) (w59 (by omega) _ k1 _ a1 a2 4) fun y1 hy1 x1=>q_q fr<|q_q fr<|AT rfl fun b3=>AN 0 rfl rfl rfl (by decide) rfl<|q_k (q_p fr<|Au 0 rfl rfl<|A5 (aF2 A3 (BJ (Ab (Bv 2 rfl (Ar (l0:=false) (x:=a0))) (Ab (Bv 1 rfl (Ar (l0:=k1) (x:=a1))) Ao))) fun l0_ l1_=>w60 (Dc:=137) (by omega) l0_ y1.1.Certs (fun l=>.fn 61 [.rp l (Enc.cs l a0),.rp l (Enc.cs l a1)]) (fun l=>BJ (Ab (Bc (Ar (l0:=l) (x:=a0)) (fun _ _ _ h=>Enc.frz _ a0 _ _ _ h)) (Ab (Bc (Ar (l0:=l) (x:=a1)) (fun _ _ _ h=>Enc.frz _ a1 _ _ _ h)) Ao))) (fun x0_=>m61 x0_ a0 a1) (fun d hd l q0_ x0_ S t ht=>(XM _ _ _ _).trans (Dk (E:=(fun (t:Bool)=>AV.bool t)) (mg:=m61 x0_ a0 a1) (bX (M:=fun a=>Fit (R NN d 61 a []) _ _) (AS (Ar (l0:=q0_) (x:=x0_))) (Bc (Ar (l0:=l) (x:=a0)) (fun _ _ _ h=>Enc.frz _ a0 _ _ _ h)) (Bc (Ar (l0:=l) (x:=a1)) (fun _ _ _ h=>Enc.frz _ a1 _ _ _ h)) HP.nil fun u0_ v0_ v1_=>w61 hd u0_ x0_ v0_ a0 v1_ a1) ht)) l1_) fun y2 hy2=>q_p fr<|Ak (Ae rfl) rfl)<|Ak (Ae rfl) rfl
def NY (a0:Int) (a1:Int):Option (Int):=(I0 a1 (m75 a0)).bind fun q1=>some (wi .i64 (1 + q1))
theorem YD {d:Nat} (hd:2≤d) (a0:Int) (a1:Int):Fit (R NN d 126 [iW a0,iW a1] []) (NY a0 a1) PI:=by
  obtain ⟨d,rfl,g⟩:=up hd
  refine A8 (t126 NN d _ _) ?_
  unfold nX NY
  exact AA (aF1 (Ae rfl) fun l0_=>w75 (by omega) a0)<|Jh fun q1 hq1=>q_p fr<|Ak (Ae rfl) rfl
def Jl (a0:Int) (a1:List Ah) (y1:Ah×Bool) (s5:Bool×Int×(List Int)):Option (LO (Bool×Int×(List Int))):=bif decide (s5.2.1 < (y1.1.Refs.length:Int)) then ( (Aq y1.1.Refs s5.2.1).bind fun x2=>( ( (m24 a0 a1 x2).bind fun y3=>bif !y3 then some (LO.norm true) else (Aq a1 x2).bind fun x3=>bif x3.View != y1.1.View then some (LO.norm true) else (Aq a1 x2).bind fun x4=>(m72 s5.2.2 x4.From).bind fun y4=>some (LO.norm y4)).bind (Ai (fun s9=>bif s9 then some (LO.ret false) else some (LO.norm s5.1)) (fun i3 s9=>some (LO.exit i3 s5.1)) (fun s9=>some (LO.ret s5.1)))).bind (Ai (fun s10=>(Aq a1 x2).bind fun x5=>(B7 8 s5.2.2 [x5.From]).bind fun z1=>some (LO.norm (s10,z1))) (fun i4 s10=>if i4 = 1 then some (LO.norm (s10,s5.2.2)) else some (LO.exit i4 (s10,s5.2.2))) (fun s10=>some (LO.ret (s10,s5.2.2))))).bind (Ai (fun s11=>some (LO.norm (s11.1,wi .i64 (s5.2.1 + 1),s11.2))) (fun i5 s11=>some (LO.exit i5 (s11.1,s5.2.1,s11.2))) (fun s11=>some (LO.ret (s11.1,s5.2.1,s11.2)))) else some (LO.exit 0 (s5.1,s5.2.1,s5.2.2))
def m93 (a0:Int) (a1:List Ah) (a2:Int):Option (Bool):=(m59 a1 a2 5).bind fun y1=>( ( bif !y1.2 then some (LO.norm true) else (NY a0 y1.1.View).bind fun y2=>bif y1.1.From != y2 then some (LO.norm true) else some (LO.norm (decide ((y1.1.Refs.length:Int) < (wi .i64 ((wi .i64 (2 * a0)) + 1)))))).bind (Ai (fun s3=>bif s3 then some (LO.ret false) else some (LO.norm false)) (fun i1 s3=>some (LO.exit i1 false)) (fun s3=>some (LO.ret false)))).bind (Ai (fun s4=>(Ax (Jl a0 a1 y1) NN (s4,0,[])).bind (Ai (fun _=>none) (fun i6 s12=>if i6 = 0 then some true else none) (fun s12=>some s12.1))) (fun i2 s4=>none) (fun s4=>some s4))
theorem w93 {d:Nat} (hd:141≤d) (a0:Int) (k1:Bool) (a1:List Ah) (a2:Int):Fit (R NN d 93 [iW a0,.rsl k1 false (a1.map (Enc.cs k1)),iW a2] []) (m93 a0 a1 a2) PB:=by
  obtain ⟨d,rfl,g⟩:=up hd
  refine A8 (t93 NN d _ _ _) ?_
  unfold b93 m93
  refine dV (mg:=m59 a1 a2 5) (w59 (by omega) _ k1 _ a1 a2 5) fun y1 hy1 x1=>q_q fr<|q_q fr<|AT rfl fun b1=>AN 0 rfl rfl rfl (by decide) rfl<|AY (A:=fun (s:Bool)=>[.bool s]) (B:=fun s=>[bx b1 [iW y1.1.Kind,iW y1.1.View,iW y1.1.From,iW y1.1.Slot,iW y1.1.Value,.rsl x1.1 x1.2.1 (y1.1.Certs.map (Enc.cs x1.1)),.rsl x1.2.2.1 x1.2.2.2 (y1.1.Refs.map (Enc.cs x1.2.2.1))]]) ?_ ?_ ?_ ?_
  ·refine AY (A:=fun (s:Bool)=>[.bool s]) (B:=fun s=>[bx b1 [iW y1.1.Kind,iW y1.1.View,iW y1.1.From,iW y1.1.Slot,iW y1.1.Value,.rsl x1.1 x1.2.1 (y1.1.Certs.map (Enc.cs x1.1)),.rsl x1.2.2.1 x1.2.2.2 (y1.1.Refs.map (Enc.cs x1.2.2.1))]]) ?_ ?_ ?_ ?_
   ·exact q_p fr<|q_j (Ad 0 rr)<|q_p fr<|Au 0 rfl rfl<|q_p fr<|Au 0 rfl rfl<|A5 (aF2 (Ae rfl) (Ae rfl) fun l0_ l1_=>YD (by omega) a0 y1.1.View) fun y2 hy2=>q_p fr<|q_j (Ad 0 rr)<|q_p fr<|Au 0 rfl rfl<|A7<|q_p fr<|q_p fr<|q_p fr<|Ad 0 rr
   ·exact fun s3=>q_i (Am 0 rr)<|Ad 0 rr
   ·exact fun i1 s3=>Ap 0 rr
   ·exact fun s3=>Am 0 rr
  ·intro s4
   refine q_q (fun _=>Em)<|q_p fr<|Au 0 rfl rfl<|A7<|Eo (α:=Int) false<|BW (I:=(fun (s:Bool×Int×(List Int)) l L=>∃ (v1:AV),l = [.bool s.1,v1,iW s.2.1]∧L = [sl false v1 (s.2.2:List Int),bx b1 [iW y1.1.Kind,iW y1.1.View,iW y1.1.From,iW y1.1.Slot,iW y1.1.Value,.rsl x1.1 x1.2.1 (y1.1.Certs.map (Enc.cs x1.1)),.rsl x1.2.2.1 x1.2.2.2 (y1.1.Refs.map (Enc.cs x1.2.2.1))]])) 0 ⟨(.rsl false true []),rfl,rfl⟩ ?_ ?_ ?_
   ·rintro s5 _ _ ⟨v1,rfl,rfl⟩
    unfold aD Jl
    refine q_p fr<|q_i ?_ ?_
    ·refine DN (I:=(fun (s:Bool×(List Int)) l L=>∃ (v2:AV),l = [.bool s.1,v2]∧L = [sl false v2 (s.2:List Int),bx b1 [iW y1.1.Kind,iW y1.1.View,iW y1.1.From,iW y1.1.Slot,iW y1.1.Value,.rsl x1.1 x1.2.1 (y1.1.Certs.map (Enc.cs x1.1)),.rsl x1.2.2.1 x1.2.2.2 (y1.1.Refs.map (Enc.cs x1.2.2.1))]])) ?_ ?_ ?_ ?_
     ·refine Bd rfl fun x2 hx2=>q_p fr<|AY (A:=fun (s:Bool)=>[.bool s]) (B:=fun s=>[sl false v1 (s5.2.2:List Int),bx b1 [iW y1.1.Kind,iW y1.1.View,iW y1.1.From,iW y1.1.Slot,iW y1.1.Value,.rsl x1.1 x1.2.1 (y1.1.Certs.map (Enc.cs x1.1)),.rsl x1.2.2.1 x1.2.2.2 (y1.1.Refs.map (Enc.cs x1.2.2.1))]]) ?_ ?_ ?_ ?_
      ·refine AY (A:=fun (s:Bool)=>[.bool s]) (B:=fun s=>[sl false v1 (s5.2.2:List Int),bx b1 [iW y1.1.Kind,iW y1.1.View,iW y1.1.From,iW y1.1.Slot,iW y1.1.Value,.rsl x1.1 x1.2.1 (y1.1.Certs.map (Enc.cs x1.1)),.rsl x1.2.2.1 x1.2.2.2 (y1.1.Refs.map (Enc.cs x1.2.2.1))]]) ?_ ?_ ?_ ?_
       ·exact A5 (aF3 (Ae rfl) A3 (Ae rfl) fun l0_ l1_ l2_=>w24 (by omega) a0 l1_ a1 x2) fun y3 hy3=>q_p fr<|q_j (Ad 0 rr)<|Bd rfl fun x3 hx3=>q_p fr<|q_p fr<|q_p fr<|Au 1 rfl rfl<|q_p fr<|q_j (Ad 0 rr)<|Bd rfl fun x4 hx4=>q_p fr<|q_p fr<|A5 (aF2 (Io 0 rfl) (Ae rfl) fun l0_ l1_=>w72 (by omega) l0_ s5.2.2 x4.From) fun y4 hy4=>Ad 0 rr
       ·exact fun s9=>q_i (Am 0 rr)<|Ad 0 rr
       ·exact fun i3 s9=>Ap 0 rr
       ·exact fun s9=>Am 0 rr
      ·exact fun s10=>Bd rfl fun x5 hx5=>q_p fr<|q_p fr<|q_q (fun _=>EM)<|Ed (ys:=[x5.From]) 0 rfl rfl (fun _ _=>rfl) fun v2 z1 hz1=>Ad 0 ⟨v2,rfl,rfl⟩
      ·exact fun i4 s10=>q_n (Ad 0 ⟨v1,rfl,rfl⟩)<|Ap 0 ⟨v1,rfl,rfl⟩
      ·exact fun s10=>Am 0 ⟨v1,rfl,rfl⟩
     ·rintro s11 _ _ ⟨v3,rfl,rfl⟩
      exact q_p fr<|Ad 0 ⟨v3,rfl,rfl⟩
     ·rintro i5 s11 _ _ ⟨v4,rfl,rfl⟩
      exact Ap 0 ⟨v4,rfl,rfl⟩
     ·rintro s11 _ _ ⟨v5,rfl,rfl⟩
      exact Am 0 ⟨v5,rfl,rfl⟩
    ·exact Ap 0 ⟨v1,rfl,rfl⟩
   ·rintro i6 s12 _ _ ⟨v6,rfl,rfl⟩
    exact q_n (Ak (Ae rfl) rfl)<|As
   ·rintro s12 _ _ ⟨v7,rfl,rfl⟩
    exact Ak (Ae rfl) rfl
  ·exact fun i2 s4=>As
  ·exact fun s4=>Ak (Ae rfl) rfl
def m54 (a0:Int) (a1:List Ah) (a2:Af) (a3:Int):Option (Int):=( ( bif !(m96 a0 a2.Id) then some (LO.norm true) else bif !(m97 a2.View) then some (LO.norm true) else some (LO.norm (!(m63 a2.Done 0 30)))).bind (Ai (fun s3=>bif s3 then some (LO.ret 3) else ( bif a2.Start != (-1) then bif a2.View == 0 then some (LO.norm true) else (m93 a0 a1 a2.Start).bind fun y1=>bif !y1 then some (LO.norm true) else (Aq a1 a2.Start).bind fun x1=>some (LO.norm (x1.View != a2.View)) else some (LO.norm false)).bind (Ai (fun s5=>bif s5 then some (LO.ret 1) else bif decide (a2.Done > a3) then some (LO.ret 8) else some (LO.norm 0)) (fun i2 s5=>if i2 = 0 then some (LO.norm 0) else some (LO.exit i2 0)) (fun s5=>some (LO.ret 0)))) (fun i1 s3=>if i1 = 0 then some (LO.norm 0) else some (LO.exit i1 0)) (fun s3=>some (LO.ret 0)))).bind (Ai (fun s6=>some 0) (fun i3 s6=>none) (fun s6=>some s6))
theorem w54 {d:Nat} (hd:142≤d) (a0:Int) (k1:Bool) (a1:List Ah) (k2:Bool) (a2:Af) (a3:Int):Fit (R NN d 54 [iW a0,.rsl k1 false (a1.map (Enc.cs k1)),.agg (Enc.cs k2 a2),iW a3] []) (m54 a0 a1 a2 a3) PI:=by
  obtain ⟨d,rfl,g⟩:=up hd
  refine A8 (t54 NN d _ _ _ _) ?_
  unfold b54 m54
  refine AD (n:=4) rfl rfl (by decide) fun b1=>AY (A:=fun (s:Int)=>[iW s]) (B:=fun s=>[bx b1 [iW a2.Id,iW a2.View,iW a2.Start,iW a2.Done]]) ?_ ?_ ?_ ?_
  ·refine AY (A:=fun (s:Bool)=>[.bool s]) (B:=fun s=>[bx b1 [iW a2.Id,iW a2.View,iW a2.Start,iW a2.Done]]) ?_ ?_ ?_ ?_
   ·exact q_p fr<|Au 0 rfl rfl<|AA (aF2 (Ae rfl) (Ae rfl) fun l0_ l1_=>w96 (by omega) a0 a2.Id)<|q_p fr<|q_j (Ad 0 rr)<|q_p fr<|Au 0 rfl rfl<|AA (aF1 (Ae rfl) fun l0_=>w97 (by omega) a2.View)<|q_p fr<|q_j (Ad 0 rr)<|q_p fr<|Au 0 rfl rfl<|AA (aF3 (Ae rfl) (Ae rfl) (Ae rfl) fun l0_ l1_ l2_=>w63 (by omega) a2.Done 0 30)<|q_p fr<|Ad 0 rr
   ·intro s3
    refine q_i ?_ ?_
    ·exact Am 0 rr
    ·refine AY (A:=fun (s:Bool)=>[.bool s]) (B:=fun s=>[bx b1 [iW a2.Id,iW a2.View,iW a2.Start,iW a2.Done]]) ?_ ?_ ?_ ?_
     ·exact q_p fr<|Au 0 rfl rfl<|q_p fr<|q_k (q_p fr<|Au 0 rfl rfl<|q_p fr<|q_j (Ad 0 rr)<|q_p fr<|Au 0 rfl rfl<|A5 (aF3 (Ae rfl) A3 (Ae rfl) fun l0_ l1_ l2_=>w93 (by omega) a0 l1_ a1 a2.Start) fun y1 hy1=>q_p fr<|q_j (Ad 0 rr)<|q_p fr<|Au 0 rfl rfl<|Bd rfl fun x1 hx1=>q_p fr<|q_p fr<|q_p fr<|Au 0 rfl rfl<|q_p fr<|Ad 0 rr)<|Ad 0 rr
     ·exact fun s5=>q_i (Am 0 rr)<|q_p fr<|Au 0 rfl rfl<|q_p fr<|q_i (Am 0 rr)<|Ad 0 rr
     ·exact fun i2 s5=>q_n (Ad 0 rr)<|Ap 0 rr
     ·exact fun s5=>Am 0 rr
   ·exact fun i1 s3=>q_n (Ad 0 rr)<|Ap 0 rr
   ·exact fun s3=>Am 0 rr
  ·exact fun s6=>Ak (Ae rfl) rfl
  ·exact fun i3 s6=>As
  ·exact fun s6=>Ak (Ae rfl) rfl
def Jq (a0:Aa) (s3:Int×(List Int)):Option (LO (Int×(List Int))):=bif decide (s3.1 < (a0.Replicas.length:Int)) then (Aq a0.Replicas s3.1).bind fun x1=>(B7 8 s3.2 [x1.Id]).bind fun z1=>some (LO.norm (wi .i64 (s3.1 + 1),z1)) else some (LO.exit 0 (s3.1,s3.2))
def Ie (a0:Aa) (y5:(List Int)) (s5:Int×Int):Option (LO (Int×Int)):=bif decide (s5.2 < (a0.Replicas.length:Int)) then (Aq a0.Replicas s5.2).bind fun x2=>(m54 a0.F a0.Ledger x2 (y5.length:Int)).bind fun y6=>bif y6 != 0 then some (LO.ret (y6,s5.2)) else some (LO.norm (s5.1,wi .i64 (s5.2 + 1))) else some (LO.exit 2 (s5.1,s5.2))
def Ic (a0:Aa) (s7:Int×Int):Option (LO (Int×Int)):=bif decide (s7.2 < (a0.Requests.length:Int)) then (Aq a0.Requests s7.2).bind fun x3=>(m55 x3).bind fun y7=>bif y7 != 0 then some (LO.ret (y7,s7.2)) else (DV a0.Requests 0 s7.2).bind fun ys1=>(m56 ys1 x3).bind fun y8=>bif decide (y8 ≥ 0) then some (LO.ret (6,s7.2)) else some (LO.norm (s7.1,wi .i64 (s7.2 + 1))) else some (LO.exit 4 (s7.1,s7.2))
def m22 (a0:Aa):Option (Int):=(m50 a0.F a0.Ledger).bind fun y1=>bif y1 != 0 then some y1 else ( bif decide ((a0.Bad.length:Int) > a0.F) then some (LO.ret 2) else bif decide ((a0.Requests.length:Int) > 12) then some (LO.ret 2) else some (LO.norm 0)).bind (Ai (fun s2=>(m51 a0.F a0.Bad).bind fun y2=>bif y2 != 0 then some y2 else (Ax (Jq a0) NN (0,[])).bind (Ai (fun _=>none) (fun i2 s4=>if i2 = 0 then (m36 a0.F a0.Bad).bind fun y3=>(m52 s4.2 y3).bind fun y4=>bif !y4 then some 1 else (m53 a0.F a0.Ledger).bind fun y5=>(Ax (Ie a0 y5) NN (s2,0)).bind (Ai (fun _=>none) (fun i3 s6=>if i3 = 2 then (Ax (Ic a0) NN (s6.1,0)).bind (Ai (fun _=>none) (fun i4 s8=>if i4 = 4 then some 0 else none) (fun s8=>some s8.1)) else none) (fun s6=>some s6.1)) else none) (fun s4=>some s2))) (fun i1 s2=>none) (fun s2=>some s2))
theorem w22 {d:Nat} (hd:143≤d) (k0:Bool) (a0:Aa):Fit (R NN d 22 [.agg (Enc.cs k0 a0)] []) (m22 a0) PI:=by
  obtain ⟨d,rfl,g⟩:=up hd
  refine A8 (t22 NN d _) ?_
  unfold b22 m22
  refine AD (n:=5) rfl rfl (by decide) fun b1=>q_p fr<|Au 0 rfl rfl<|q_p fr<|Au 0 rfl rfl<|A5 (aF2 (Ae rfl) A3 fun l0_ l1_=>w50 (by omega) a0.F l1_ a0.Ledger) fun y1 hy1=>q_p fr<|q_i ?_ ?_
  ·exact Ak (Ae rfl) rfl
  ·refine AY (A:=fun (s:Int)=>[iW s]) (B:=fun s=>[bx b1 [iW a0.F,.rsl k0 false (a0.Bad.map (Enc.cs k0)),.rsl k0 false (a0.Replicas.map (Enc.cs k0)),.rsl k0 false (a0.Ledger.map (Enc.cs k0)),.rsl k0 false (a0.Requests.map (Enc.cs k0))]]) ?_ ?_ ?_ ?_
   ·refine q_p fr<|Au 0 rfl rfl<|A7<|q_p fr<|Au 0 rfl rfl<|q_p fr<|q_j ?_ ?_
    ·first | refine BL ?_ | skip
     exact Am 0 rr
    ·exact q_p fr<|Au 0 rfl rfl<|A7<|q_p fr<|q_i (Am 0 rr)<|Ad 0 rr
   ·intro s2
    refine q_p fr<|Au 0 rfl rfl<|q_p fr<|Au 0 rfl rfl<|A5 (aF2 (Ae rfl) A3 fun l0_ l1_=>w51 (by omega) a0.F l1_ a0.Bad) fun y2 hy2=>q_p fr<|q_i ?_ ?_
    ·exact Ak (Ae rfl) rfl
    ·refine q_q (fun _=>Em)<|q_p fr<|Au 0 rfl rfl<|A7<|Eo (α:=Int) false<|BW (I:=(fun (s:Int×(List Int)) l L=>∃ (v1:AV),l = [v1,iW s.1]∧L = [sl false v1 (s.2:List Int),bx b1 [iW a0.F,.rsl k0 false (a0.Bad.map (Enc.cs k0)),.rsl k0 false (a0.Replicas.map (Enc.cs k0)),.rsl k0 false (a0.Ledger.map (Enc.cs k0)),.rsl k0 false (a0.Requests.map (Enc.cs k0))]])) 0 ⟨(.rsl false true []),rfl,rfl⟩ ?_ ?_ ?_
     ·rintro s3 _ _ ⟨v1,rfl,rfl⟩
      unfold bB Jq
      exact q_p fr<|q_i (Bd rfl fun x1 hx1=>q_p fr<|AT rfl fun b2=>AN 0 rfl rfl rfl (by decide) rfl<|q_p fr<|Au 0 rfl rfl<|q_q (fun _=>EM)<|Ed (ys:=[x1.Id]) 1 rfl rfl (fun _ _=>rfl) fun v2 z1 hz1=>q_p fr<|Ad 1 ⟨v2,rfl,rfl⟩)<|Ap 0 ⟨v1,rfl,rfl⟩
     ·rintro i2 s4 _ _ ⟨v3,rfl,rfl⟩
      refine q_n ?_ ?_
      ·refine q_p fr<|Au 1 rfl rfl<|q_p fr<|Au 1 rfl rfl<|A5 (aF2 (Ae rfl) A3 fun l0_ l1_=>w36 (by omega) a0.F l1_ a0.Bad) fun y3 hy3=>A5 (aF2 (Io 0 rfl) A3 fun l0_ l1_=>w52 (by omega) l0_ s4.2 l1_ y3) fun y4 hy4=>q_p fr<|q_i ?_ ?_
       ·exact Ak (Ae rfl) rfl
       ·refine q_p fr<|Au 1 rfl rfl<|q_p fr<|Au 1 rfl rfl<|A5 (aF2 (Ae rfl) A3 fun l0_ l1_=>w53 (by omega) a0.F l1_ a0.Ledger) fun y5 hy5=>A7<|q_p fr<|Au 1 rfl rfl<|A7<|Cc (A:=fun (s:Int×Int)=>[iW s.1,iW s.2]) (B:=fun s=>[sl false v3 (s4.2:List Int),bx b1 [iW a0.F,.rsl k0 false (a0.Bad.map (Enc.cs k0)),.rsl k0 false (a0.Replicas.map (Enc.cs k0)),.rsl k0 false (a0.Ledger.map (Enc.cs k0)),.rsl k0 false (a0.Requests.map (Enc.cs k0))]]) 0 rr ?_ ?_ ?_
        ·intro s5
         unfold a9 Ie
         exact q_p fr<|q_i (Bd rfl fun x2 hx2=>q_p fr<|AT rfl fun b3=>AN 0 rfl rfl rfl (by decide) rfl<|q_p fr<|Au 2 rfl rfl<|q_p fr<|Au 2 rfl rfl<|AB 0 rfl rfl rfl<|A5 (fun S hS=>ET (Ae rfl) A3 (AS (Ar (l0:=false) (x:=x2))) (Ae rfl) hS fun l0_ l1_ l2_ l3_=>w54 (by omega) a0.F l1_ a0.Ledger l2_ x2 (y5.length:Int)) fun y6 hy6=>q_p fr<|q_i (Am 1 rr)<|q_p fr<|Ad 1 rr)<|Ap 0 rr
        ·intro i3 s6
         refine q_n ?_ ?_
         ·refine q_p fr<|Au 1 rfl rfl<|A7<|Cc (A:=fun (s:Int×Int)=>[iW s.1,iW s.2]) (B:=fun s=>[sl false v3 (s4.2:List Int),bx b1 [iW a0.F,.rsl k0 false (a0.Bad.map (Enc.cs k0)),.rsl k0 false (a0.Replicas.map (Enc.cs k0)),.rsl k0 false (a0.Ledger.map (Enc.cs k0)),.rsl k0 false (a0.Requests.map (Enc.cs k0))]]) 0 rr ?_ ?_ ?_
          ·intro s7
           unfold aZ Ic
           exact q_p fr<|q_i (Bd rfl fun x3 hx3=>q_p fr<|AT rfl fun b4=>AN 0 rfl rfl rfl (by decide) rfl<|AB 0 rfl rfl rfl<|A5 (aF1 (AS (Ar (l0:=k0) (x:=x3))) fun l0_=>w55 (by omega) l0_ x3) fun y7 hy7=>q_p fr<|q_i (Am 1 rr)<|q_p fr<|Au 2 rfl rfl<|OO rfl (.inr ⟨rfl,rfl⟩) (.inl rfl) fun fl1 ys1 hys1=>AB 0 rfl rfl rfl<|A5 (aF2 A3 (AS (Ar (l0:=k0) (x:=x3))) fun l0_ l1_=>w56 (by omega) l0_ ys1 l1_ x3) fun y8 hy8=>q_p fr<|q_i (Am 1 rr)<|q_p fr<|Ad 1 rr)<|Ap 0 rr
          ·exact fun i4 s8=>q_n (Ak (Ae rfl) rfl)<|As
          ·exact fun s8=>Ak (Ae rfl) rfl
         ·exact As
        ·exact fun s6=>Ak (Ae rfl) rfl
      ·exact As
     ·rintro s4 _ _ ⟨v4,rfl,rfl⟩
      exact Ak (Ae rfl) rfl
   ·exact fun i1 s2=>As
   ·exact fun s2=>Ak (Ae rfl) rfl
def Xh (a0:List Af):Option (List Af):=B7 32 [] a0
theorem w122 {d:Nat} (hd:1≤d) (k0:Bool) (a0:List Af):Fit (R NN d 122 [.rsl k0 false (a0.map (Enc.cs k0))] []) (Xh a0) (P1 (T:=List Af) QE):=by
  obtain ⟨d,rfl,g⟩:=up hd
  rw [t122]
  refine (?_:Okh [] (fun S=>gB (cfg NN) (R NN d) (.rsl k0 false (a0.map (Enc.cs k0))) S) _ _) [] HP.nil
  unfold gB Xh
  refine NR (e:=68) iM (fun h S=>?_) ?_
  · subst h
    refine Eq.symm (show pq (AL (Aw _ _ _ _ S) S) _ = _ from ?_)
    rw [VU]; rfl
  refine q_q (fun _=>VU) ?_
  refine Eo (α:=Af) false ?_
  rw [show B7 32 ([]:List Af) a0 = (B7 32 [] a0).bind some from by cases B7 32 ([]:List Af) a0 <;> rfl]
  refine Ed (ys:=a0) 0 rfl rfl (fun _ _=>rfl) fun v1 z1 hz1=>?_
  exact MU (OD 0 rfl bK) rfl
def WJ (a0:List AE):Option (List AE):=B7 24 [] a0
theorem w192 {d:Nat} (hd:1≤d) (k0:Bool) (a0:List AE):Fit (R NN d 192 [.rsl k0 false (a0.map (Enc.cs k0))] []) (WJ a0) (P1 (T:=List AE) QE):=by
  obtain ⟨d,rfl,g⟩:=up hd
  rw [t192]
  refine (?_:Okh [] (fun S=>fY (cfg NN) (R NN d) (.rsl k0 false (a0.map (Enc.cs k0))) S) _ _) [] HP.nil
  unfold fY WJ
  refine NR (e:=50) iJ (fun h S=>?_) ?_
  · subst h
    refine Eq.symm (show pq (AL (Aw _ _ _ _ S) S) _ = _ from ?_)
    rw [Q9]; rfl
  refine q_q (fun _=>Q9) ?_
  refine Eo (α:=AE) false ?_
  rw [show B7 24 ([]:List AE) a0 = (B7 24 [] a0).bind some from by cases B7 24 ([]:List AE) a0 <;> rfl]
  refine Ed (ys:=a0) 0 rfl rfl (fun _ _=>rfl) fun v1 z1 hz1=>?_
  exact MU (OD 0 rfl jR) rfl
def Ph (a0:Ah):Option (Ah):=(WJ a0.Certs).bind fun y1=>(m35 a0.Refs).bind fun y2=>some (⟨a0.Kind,a0.View,a0.From,a0.Slot,a0.Value,y1,y2⟩:Ah)
theorem gZ {d:Nat} (hd:2≤d) (k0:Bool) (a0:Ah):Fit (R NN d 169 [.agg (Enc.cs k0 a0)] []) (Ph a0) (P1 (T:=Ah) AV.agg):=by
  obtain ⟨d,rfl,g⟩:=up hd
  refine A8 (t169 NN d _) ?_
  unfold mS Ph
  exact AD (n:=7) rfl rfl (by decide) fun b1=>AT rfl fun b2=>q_p fr<|Au 1 rfl rfl<|KH (mg:=WJ a0.Certs) (aF1 A3 fun l0_=>w192 (by omega) l0_ a0.Certs) fun y1 hy1 i1 v1=>q_p fr<|HV 2 rfl (fun S hS=>(HP.cell1t hS 0 rfl)) rfl<|q_p fr<|Au 2 rfl rfl<|KH (mg:=m35 a0.Refs) (aF1 A3 fun l0_=>w35 (by omega) l0_ a0.Refs) fun y2 hy2 i2 v2=>q_p fr<|HV 3 rfl (fun S hS=>(HP.cell1t hS 0 rfl)) rfl<|AB 3 rfl rfl rfl<|AN 2 rfl rfl rfl (by decide) rfl<|Bi (fun S hS=>hS.lda 2 rfl rfl) (Bf (α:=Ah) (β:=Int×Int×Int×Int×Int×(List AE)×(List Int)) (f:=fun x=>(x.Kind,x.View,x.From,x.Slot,x.Value,x.Certs,x.Refs)) (x:=(⟨a0.Kind,a0.View,a0.From,a0.Slot,a0.Value,y1,y2⟩:Ah)) rfl (An (AH (n:=a0.Kind)) (An (AH (n:=a0.View)) (An (AH (n:=a0.From)) (An (AH (n:=a0.Slot)) (An (AH (n:=a0.Value)) (An (Do 1 rfl) (Do 0 rfl)))))))) rfl
theorem gY {d:Nat} (hd:2≤d) (k0:Bool) (a0:Ah):Fit (R NN d 169 [.agg (Enc.cs k0 a0)] []) (Ph a0) (P0 (fun (t:Ah)=>AV.agg (Enc.cs false t))):=Ff (gZ hd k0 a0)
def Kt (a0:List Ah) (s1:Int×(List Ah)):Option (LO (Int×(List Ah))):=bif decide (s1.1 < (a0.length:Int)) then (Aq a0 s1.1).bind fun x1=>(Ph x1).bind fun y1=>(B7 88 s1.2 [y1]).bind fun z1=>some (LO.norm (wi .i64 (s1.1 + 1),z1)) else some (LO.exit 0 (s1.1,s1.2))
def Ur (a0:List Ah):Option ((List Ah)):=(Ax (Kt a0) NN (0,[])).bind (Ai (fun _=>none) (fun i4 s2=>if i4 = 0 then some s2.2 else none) (fun s2=>some []))
theorem w123 {d:Nat} (hd:3≤d) (k0:Bool) (a0:List Ah):Fit (R NN d 123 [.rsl k0 false (a0.map (Enc.cs k0))] []) (Ur a0) (P1 (T:=List Ah) QE):=by
  obtain ⟨d,rfl,g⟩:=up hd
  refine A8 (t123 NN d _) ?_
  unfold n0 Ur
  refine q_q (fun _=>VT)<|A7<|VX (α:=Ah)<|BW (I:=(fun (s:Int×(List Ah)) l L=>∃ (i1:List Nat) (v1:AV),l = [v1,iW s.1]∧L = [tra i1 v1 (s.2:List Ah)])) 0 ⟨[],(.rsl false true []),rfl,rfl⟩ ?_ ?_ ?_
  ·rintro s1 _ _ ⟨i1,v1,rfl,rfl⟩
   unfold VE Kt
   refine q_p fr<|q_i ?_ ?_
   ·refine Bd rfl fun x1 hx1=>q_p fr<|AT rfl fun b1=>AN 0 rfl rfl rfl (by decide) rfl<|AB 0 rfl rfl rfl<|Gq (W:=AV.agg) (mg:=Ph x1) CY (aF1 (AS (Ar (l0:=k0) (x:=x1))) fun l0_=>gZ (by omega) l0_ x1) fun y1 hy1 i2 cs1=>EE (fun S hS=>iQ (hS.get (k:=0) rfl)) fun hcs_=>?_
    obtain ⟨v2,v3,rfl⟩:=hcs_
    exact Dx 3 [0,2,1] (by decide) (by decide)<|bJ rfl (fun _=>bt26) rfl fun z1 hz1 v4 i3=>q_p fr<|Dx 2 [1,0] (by decide) (by decide)<|Ad 1 ⟨i3,v4,rfl,rfl⟩
   ·exact Ap 0 ⟨i1,v1,rfl,rfl⟩
  ·rintro i4 s2 _ _ ⟨i5,v5,rfl,rfl⟩
   exact q_n (q_wk<|MU (Do 0 rfl) rfl)<|As
  ·rintro s2 _ _ ⟨i6,v6,rfl,rfl⟩
   exact MU (A4 (α:=Ah) (fl:=true)) rfl
def WW (a0:List TOp):Option (List TOp):=B7 48 [] a0
theorem w170 {d:Nat} (hd:1≤d) (k0:Bool) (a0:List TOp):Fit (R NN d 170 [.rsl k0 false (a0.map (Enc.cs k0))] []) (WW a0) (P1 (T:=List TOp) QE):=by
  obtain ⟨d,rfl,g⟩:=up hd
  rw [t170]
  refine (?_:Okh [] (fun S=>f7 (cfg NN) (R NN d) (.rsl k0 false (a0.map (Enc.cs k0))) S) _ _) [] HP.nil
  unfold f7 WW
  refine NR (e:=38) iK (fun h S=>?_) ?_
  · subst h
    refine Eq.symm (show pq (AL (Aw _ _ _ _ S) S) _ = _ from ?_)
    rw [VS]; rfl
  refine q_q (fun _=>VS) ?_
  refine Eo (α:=TOp) false ?_
  rw [show B7 48 ([]:List TOp) a0 = (B7 48 [] a0).bind some from by cases B7 48 ([]:List TOp) a0 <;> rfl]
  refine Ed (ys:=a0) 0 rfl rfl (fun _ _=>rfl) fun v1 z1 hz1=>?_
  exact MU (OD 0 rfl jS) rfl
def Uo (a0:Ag):Option (Ag):=(WW a0.Ops).bind fun y1=>some (⟨a0.Client,a0.Number,a0.Time,y1⟩:Ag)
theorem w124 {d:Nat} (hd:2≤d) (k0:Bool) (a0:Ag):Fit (R NN d 124 [.agg (Enc.cs k0 a0)] []) (Uo a0) (P1 (T:=Ag) AV.agg):=by
  obtain ⟨d,rfl,g⟩:=up hd
  refine A8 (t124 NN d _) ?_
  unfold nZ Uo
  exact AD (n:=4) rfl rfl (by decide) fun b1=>AT rfl fun b2=>q_p fr<|Au 1 rfl rfl<|KH (mg:=WW a0.Ops) (aF1 A3 fun l0_=>w170 (by omega) l0_ a0.Ops) fun y1 hy1 i1 v1=>q_p fr<|HV 2 rfl (fun S hS=>(HP.cell1t hS 0 rfl)) rfl<|AB 2 rfl rfl rfl<|AN 1 rfl rfl rfl (by decide) rfl<|Bi (fun S hS=>hS.lda 1 rfl rfl) (Bf (α:=Ag) (β:=Int×Int×Int×(List TOp)) (f:=fun x=>(x.Client,x.Number,x.Time,x.Ops)) (x:=(⟨a0.Client,a0.Number,a0.Time,y1⟩:Ag)) rfl (An (AH (n:=a0.Client)) (An (AH (n:=a0.Number)) (An (AH (n:=a0.Time)) (Do 0 rfl))))) rfl
def NW (a0:Aa) (s1:Int×(List Ag)):Option (LO (Int×(List Ag))):=bif decide (s1.1 < (a0.Requests.length:Int)) then (Aq a0.Requests s1.1).bind fun x1=>(Uo x1).bind fun y4=>(B7 48 s1.2 [y4]).bind fun z1=>some (LO.norm (wi .i64 (s1.1 + 1),z1)) else some (LO.exit 0 (s1.1,s1.2))
def m76 (a0:Aa):Option (Aa):=(m35 a0.Bad).bind fun y1=>(Xh a0.Replicas).bind fun y2=>(Ur a0.Ledger).bind fun y3=>(Ax (NW a0) NN (0,[])).bind (Ai (fun _=>none) (fun i7 s2=>if i7 = 0 then some (⟨a0.F,y1,y2,y3,s2.2⟩:Aa) else none) (fun s2=>some (⟨0,[],[],[],[]⟩:Aa)))
theorem w76 {d:Nat} (hd:4≤d) (k0:Bool) (a0:Aa):Fit (R NN d 76 [.agg (Enc.cs k0 a0)] []) (m76 a0) (P1q (T:=Aa) AV.agg):=by
  obtain ⟨d,rfl,g⟩:=up hd
  refine A8 (t76 NN d _) ?_
  unfold b76 m76
  refine AD (n:=5) rfl rfl (by decide) fun b1=>AT rfl fun b2=>AT rfl fun b3=>q_p fr<|Au 2 rfl rfl<|q_p fr<|Au 2 rfl rfl<|q_p fr<|Au 2 rfl rfl<|q_p fr<|Au 2 rfl rfl<|KH (mg:=m35 a0.Bad) (aF1 A3 fun l0_=>w35 (by omega) l0_ a0.Bad) fun y1 hy1 i1 v1=>KH (mg:=Xh a0.Replicas) (aF1 A3 fun l0_=>w122 (by omega) l0_ a0.Replicas) fun y2 hy2 i2 v2=>?_
  refine KH (mg:=Ur a0.Ledger) (aF1 A3 fun l0_=>w123 (by omega) l0_ a0.Ledger) fun y3 hy3 i3 v3=>JM (fun S hS=>O1 (by simp only [CJ,plc,gd,List.getD_cons_zero,List.getD_cons_succ,List.getElem?_cons_zero,List.getElem?_cons_succ,hS.cell1t 2 rfl,hS.cell1t 1 rfl,hS.cell1t 0 rfl]; rfl)) ?_
  refine AN 3 rfl rfl rfl (by decide) rfl<|q_p fr<|Au 5 rfl rfl<|A7<|VX (α:=Ag)<|BW (I:=(fun (s:Int×(List Ag)) l L=>∃ (i4:List Nat) (v4:AV),l = [iW s.1]∧L = [tra i4 v4 (s.2:List Ag),tr i3 [v3] (y3:List Ah),tr i2 [v2] (y2:List Af),tr i1 [v1] (y1:List Int),bx b3 [iW a0.F,v1,v2,v3,v4],bx b2 [iW 0,.rsl false true [],.rsl false true [],.rsl false true [],.rsl false true []],bx b1 [iW a0.F,.rsl k0 false (a0.Bad.map (Enc.cs k0)),.rsl k0 false (a0.Replicas.map (Enc.cs k0)),.rsl k0 false (a0.Ledger.map (Enc.cs k0)),.rsl k0 false (a0.Requests.map (Enc.cs k0))]])) 0 ⟨[],(.rsl false true []),rfl,rfl⟩ ?_ ?_ ?_
  ·rintro s1 _ _ ⟨i4,v4,rfl,rfl⟩
   unfold aE NW
   refine q_p fr<|q_i ?_ ?_
   ·refine Bd rfl fun x1 hx1=>q_p fr<|AT rfl fun b4=>AN 0 rfl rfl rfl (by decide) rfl<|q_p fr<|Au 5 rfl rfl<|AB 0 rfl rfl rfl<|Gq (W:=AV.agg) (mg:=Uo x1) CY (aF1 (AS (Ar (l0:=k0) (x:=x1))) fun l0_=>w124 (by omega) l0_ x1) fun y4 hy4 i5 cs4=>EE (fun S hS=>iR (hS.get (k:=0) rfl)) fun hcs_=>?_
    obtain ⟨v5,rfl⟩:=hcs_
    exact Dx 9 [0,2,1,3,4,5,6,7,8] (by decide) (by decide)<|bJ rfl (fun _=>bt27) rfl fun z1 hz1 v6 i6=>q_p fr<|HV 5 rfl (fun S hS=>(HP.cella hS 0 rfl)) rfl<|q_p fr<|Dx 8 [1,0,2,3,4,5,6,7] (by decide) (by decide)<|Ad 1 ⟨i6,v6,rfl,rfl⟩
   ·exact Ap 0 ⟨i4,v4,rfl,rfl⟩
  ·rintro i7 s2 _ _ ⟨i8,v7,rfl,rfl⟩
   exact q_n (AB 4 rfl rfl rfl<|AN 5 rfl rfl rfl (by decide) rfl<|RQ (fun S hS=>eC 0 rfl S hS) (fun S hS=>hS.lda 5 rfl rfl) (Bf (α:=Aa) (β:=Int×(List Int)×(List Af)×(List Ah)×(List Ag)) (f:=fun x=>(x.F,x.Bad,x.Replicas,x.Ledger,x.Requests)) (x:=(⟨a0.F,y1,y2,y3,s2.2⟩:Aa)) rfl (An (AH (n:=a0.F)) (An (Do (cs:=[v1]) 3 rfl) (An (Do (cs:=[v2]) 2 rfl) (An (Do (cs:=[v3]) 1 rfl) (dJ 0 rfl)))))) rfl)<|As
  ·rintro s2 _ _ ⟨i9,v8,rfl,rfl⟩
   exact RQ (fun _ _=>eD) (fun S hS=>hS.lda 5 rfl rfl) (Bf (α:=Aa) (β:=Int×(List Int)×(List Af)×(List Ah)×(List Ag)) (f:=fun x=>(x.F,x.Bad,x.Replicas,x.Ledger,x.Requests)) (x:=(⟨0,[],[],[],[]⟩:Aa)) rfl (An (AH (n:=0)) (An (A4 (α:=Int) (fl:=true)) (An (A4 (α:=Af) (fl:=true)) (An (A4 (α:=Ah) (fl:=true)) (A4 (α:=Ag) (fl:=true))))))) rfl
theorem NH {d:Nat} (hd:4≤d) (k0:Bool) (a0:Aa):Fit (R NN d 76 [.agg (Enc.cs k0 a0)] []) (m76 a0) (P1 AV.agg):=p1q (w76 hd k0 a0)
def La (a0:Aa) (a1_0:Ag):Option (Ac):=(m22 a0).bind fun y1=>bif y1 != 0 then some (⟨y1,(⟨0,[],[],[],[]⟩:Aa)⟩:Ac) else (m76 a0).bind fun y2=>(m38 y2 a1_0).bind fun y3=>bif y3.1 != 0 then some (⟨y3.1,(⟨0,[],[],[],[]⟩:Aa)⟩:Ac) else (m76 y3.2).bind fun y4=>some (⟨0,y4⟩:Ac)
theorem cE {d:Nat} (hd:144≤d) (k0:Bool) (a0:Aa) (k1_0:Bool) (a1_0:Ag):Fit (R NN d 37 [.agg (Enc.cs k0 a0),.fn 38 [.rp k1_0 (Enc.cs k1_0 a1_0)]] []) (La a0 a1_0) (P1 (T:=Ac) AV.agg):=by
  obtain ⟨d,rfl,g⟩:=up hd
  refine A8 (t37 NN d _ _) ?_
  unfold b37 La
  refine AD (n:=5) rfl rfl (by decide) fun b1=>AT rfl fun b2=>AB 1 rfl rfl rfl<|A5 (aF1 (AS (Ar (l0:=k0) (x:=a0))) fun l0_=>w22 (by omega) l0_ a0) fun y1 hy1=>q_p fr<|q_i ?_ ?_
  ·exact q_p (fun _=>CQ rfl)<|AN 0 rfl rfl rfl (by decide) rfl<|Bi (fun S hS=>hS.lda 0 rfl rfl) (Bf (α:=Ac) (β:=Int×Aa) (f:=fun x=>(x.Code,x.Cluster)) (x:=(⟨y1,(⟨0,[],[],[],[]⟩:Aa)⟩:Ac)) rfl (An (AH (n:=y1)) (Bf (α:=Aa) (β:=Int×(List Int)×(List Af)×(List Ah)×(List Ag)) (f:=fun x=>(x.F,x.Bad,x.Replicas,x.Ledger,x.Requests)) (x:=(⟨0,[],[],[],[]⟩:Aa)) rfl (An (AH (n:=0)) (An (A4 (α:=Int) (fl:=true)) (An (A4 (α:=Af) (fl:=true)) (An (A4 (α:=Ah) (fl:=true)) (A4 (α:=Ag) (fl:=true))))))))) rfl
  ·refine AB 1 rfl rfl rfl<|I6 (mg:=m76 a0) (aF1 (AS (Ar (l0:=k0) (x:=a0))) fun l0_=>w76 (by omega) l0_ a0) fun y2 hy2 i1 cs1 hq_=>EE (fun S hS=>E8 (hS.get (k:=0) rfl)) fun hcs_=>?_
   obtain ⟨v1,v2,v3,v4,rfl⟩:=hcs_
   refine I3 (x:=(y2.F,y2.Bad,y2.Replicas,y2.Ledger,y2.Requests)) hq_ rfl (fun _ h=>h) fun i2 i3 i4 i5=>AT rfl fun b3=>AN 0 rfl rfl rfl (by decide) rfl<|DL (mg:=m38 y2 a1_0) (fun S=>Re _ _ _ _) (w38 (by omega) _ b3 i2 i3 i4 i5 v1 v2 v3 v4 y2 k1_0 a1_0) fun y3 hy3 ⟨i6,i7,v5,v6⟩=>q_p fr<|q_i ?_ ?_
   ·exact q_p (fun _=>CQ rfl)<|AN 5 rfl rfl rfl (by decide) rfl<|Bi (fun S hS=>hS.lda 5 rfl rfl) (Bf (α:=Ac) (β:=Int×Aa) (f:=fun x=>(x.Code,x.Cluster)) (x:=(⟨y3.1,(⟨0,[],[],[],[]⟩:Aa)⟩:Ac)) rfl (An (AH (n:=y3.1)) (Bf (α:=Aa) (β:=Int×(List Int)×(List Af)×(List Ah)×(List Ag)) (f:=fun x=>(x.F,x.Bad,x.Replicas,x.Ledger,x.Requests)) (x:=(⟨0,[],[],[],[]⟩:Aa)) rfl (An (AH (n:=0)) (An (A4 (α:=Int) (fl:=true)) (An (A4 (α:=Af) (fl:=true)) (An (A4 (α:=Ah) (fl:=true)) (A4 (α:=Ag) (fl:=true))))))))) rfl
   ·refine AB 0 rfl rfl rfl<|Gq (W:=AV.agg) (mg:=m76 y3.2) CY (aF1 (AS (Ab (Ae rfl) (Ab (CU 1 rfl) (Ab (CU 2 rfl) (Ab (CG (α:=Ah) 3 rfl) (Ab (EG (α:=Ag) 4 rfl) Ao)))))) fun l0_=>NH (by omega) l0_ y3.2) fun y4 hy4 i8 cs2=>EE (fun S hS=>E8 (hS.get (k:=0) rfl)) fun hcs_=>?_
    obtain ⟨v7,v8,v9,v10,rfl⟩:=hcs_
    exact q_p (fun _=>FL rfl)<|AN 6 rfl rfl rfl (by decide) rfl<|Bi (fun S hS=>hS.lda 6 rfl rfl) (Bf (α:=Ac) (β:=Int×Aa) (f:=fun x=>(x.Code,x.Cluster)) (x:=(⟨0,y4⟩:Ac)) rfl (An (AH (n:=0)) (Do 0 rfl))) rfl
theorem Y4 {d:Nat} (hd:144≤d) (k0:Bool) (a0:Aa) (k1_0:Bool) (a1_0:Ag):Fit (R NN d 37 [.agg (Enc.cs k0 a0),.fn 38 [.rp k1_0 (Enc.cs k1_0 a1_0)]] []) (La a0 a1_0) (P0 (fun (t:Ac)=>AV.agg (Enc.cs false t))):=Ff (cE hd k0 a0 k1_0 a1_0)
def m13 (a0:Aa) (a1:Ag):Option (Ac):=(La a0 a1).bind fun y1=>some y1
theorem w13 {d:Nat} (hd:155≤d) (k0:Bool) (a0:Aa) (k1:Bool) (a1:Ag):Fit (R NN d 13 [.agg (Enc.cs k0 a0),.agg (Enc.cs k1 a1)] []) (m13 a0 a1) (P0 (fun (t:Ac)=>AV.agg (Enc.cs false t))):=by
  obtain ⟨d,rfl,g⟩:=up hd
  refine A8 (t13 NN d _ _) ?_
  unfold b13 m13
  exact AD (n:=5) rfl rfl (by decide) fun b1=>AD (n:=4) rfl rfl (by decide) fun b2=>AT rfl fun b3=>AB 2 rfl rfl rfl<|A5 (aF2 (AS (Ar (l0:=k0) (x:=a0))) (BJ (Ab (Bv 1 rfl (Ar (l0:=k1) (x:=a1))) Ao)) fun l0_ l1_=>Y4 (by omega) l0_ a0 l1_ a1) fun y1 hy1=>AN 0 rfl rfl rfl (by decide) rfl<|CZ (fun S hS=>hS.lda 0 rfl rfl) (AS (Ar (l0:=false) (x:=y1))) rfl
def WB (a0:List Af) (a1:Af→Option (Bool)) (s1:Int×Int):Option (LO (Int×Int)):=bif decide (s1.2 < (a0.length:Int)) then (Aq a0 s1.2).bind fun x1=>(a1 x1).bind fun y1=>bif y1 then some (LO.ret (s1.2,s1.2)) else some (LO.norm (s1.1,wi .i64 (s1.2 + 1))) else some (LO.exit 0 (s1.1,s1.2))
def m57 (a0:List Af) (a1:Af→Option (Bool)):Option (Int):=(Ax (WB a0 a1) NN (0,0)).bind (Ai (fun _=>none) (fun i1 s2=>if i1 = 0 then some (-1) else none) (fun s2=>some s2.1))
theorem w57 {Dc:Nat} {d:Nat} (hd:Dc + 1≤d) (k0:Bool) (a0:List Af) (c1:Bool→AV) (hc1:∀ l,CV 8 [] false (c1 l) c1) (a1:Af→Option (Bool)) (tc1:∀ (d:Nat),Dc≤d→∀ (l:Bool) (q0:Bool) (x0:Af) (S:St) (t:Bool),a1 x0 = some t→AK (cfg NN) (R NN d) 57 (c1 l) [.agg (Enc.cs q0 x0)] S = some ((fun (t:Bool)=>AV.bool t) t,S)) (k1:Bool):Fit (R NN d 57 [.rsl k0 false (a0.map (Enc.cs k0)),c1 k1] []) (m57 a0 a1) PI:=by
  obtain ⟨d,rfl,g⟩:=up hd
  refine A8 (t57 NN d _ _) ?_
  unfold b57 m57
  refine A7<|Cc (A:=fun (s:Int×Int)=>[iW s.1,iW s.2]) (B:=fun s=>[]) 0 rr ?_ ?_ ?_
  ·intro s1
   unfold aM WB
   exact q_p fr<|q_i (Bd rfl fun x1 hx1=>q_p fr<|TK (mg:=a1 x1) (E:=(fun (t:Bool)=>AV.bool t)) (fun S t ht=>tc1 d (by omega) k1 k0 x1 S t ht) fun y1 hy1=>q_i (Am 0 rr)<|q_p fr<|Ad 0 rr)<|Ap 0 rr
  ·exact fun i1 s2=>q_n (Ak (Ae rfl) rfl)<|As
  ·exact fun s2=>Ak (Ae rfl) rfl
def m58 (a0:Af) (a1:Int):Bool:=a0.Id == a1
theorem w58 {d:Nat} (hd:1≤d) (k0:Bool) (a0:Af) (k1:Bool) (a1:Int):Fit (R NN d 58 [.agg (Enc.cs k0 a0),.rp k1 (Enc.cs k1 a1)] []) (some (m58 a0 a1)) PB:=by
  obtain ⟨d,rfl,g⟩:=up hd
  refine A8 (t58 NN d _ _) ?_
  unfold b58 m58
  exact AD (n:=4) rfl rfl (by decide) fun b1=>q_p fr<|Au 0 rfl rfl<|q_p fr<|q_p fr<|Ak (Ae rfl) rfl
def m23 (a0:Aa) (a1:Int):Option ((Option Af)):=(m57 a0.Replicas (fun x0_=>some (m58 x0_ a1))).bind fun y1=>bif decide (y1 < 0) then some none else (Aq a0.Replicas y1).bind fun x1=>some (some x1)
def G4 (a0:Aa) (a1:Int):Option (Option Int):=(m57 a0.Replicas (fun x0_=>some (m58 x0_ a1))).bind fun y1=>bif decide (y1 < 0) then some none else (Aq a0.Replicas y1).bind fun x1=>some (some y1)
theorem Qo {d:Nat} (hd:3≤d) (L0:List En) (b0_:Nat) (i0_1 i0_2 i0_3 i0_4:List Nat) (v0_1 v0_2 v0_3 v0_4:AV) (a0:Aa) (a1:Int):Okh (bx b0_ [iW a0.F,v0_1,v0_2,v0_3,v0_4]::tr i0_1 [v0_1] (a0.Bad:List Int)::tr i0_2 [v0_2] (a0.Replicas:List Af)::wls i0_3 v0_3 (a0.Ledger:List Ah)::wla i0_4 v0_4 (a0.Requests:List Ag)::L0) (fun S=>R NN d 23 [.bp b0_ 0 0 5 1,iW a1] S) (G4 a0 a1) (P3 (fun (x:Bool) (t:Option Int)=>t.elim AV.nilp fun r=>elP 4 v0_2 (Int.toNat r)) (fun (_:Option Int)=>bx b0_ [iW a0.F,v0_1,v0_2,v0_3,v0_4]::tr i0_1 [v0_1] (a0.Bad:List Int)::tr i0_2 [v0_2] (a0.Replicas:List Af)::wls i0_3 v0_3 (a0.Ledger:List Ah)::wla i0_4 v0_4 (a0.Requests:List Ag)::L0)):=by
  obtain ⟨d,rfl,g⟩:=up hd
  refine D9 (t23 NN d _ _) ?_
  unfold b23 G4
  exact AD (n:=1) rfl rfl (by decide) fun b1=>q_q fr<|q_p fr<|Au 1 rfl rfl<|A5 (aF2 (CU 3 rfl) (BJ (Ab (Bv 0 rfl (Ar (l0:=false) (x:=a1))) Ao)) fun l0_ l1_=>w57 (Dc:=1) (by omega) l0_ a0.Replicas (fun l=>.fn 58 [.rp l (Enc.cs l a1)]) (fun l=>BJ (Ab (Bc (Ar (l0:=l) (x:=a1)) (fun _ _ _ h=>Enc.frz _ a1 _ _ _ h)) Ao)) (fun x0_=>some (m58 x0_ a1)) (fun d hd l q0_ x0_ S t ht=>(ZB _ _ _ _).trans (Dk (E:=(fun (t:Bool)=>AV.bool t)) (mg:=some (m58 x0_ a1)) (N8 (M:=fun a=>Fit (R NN d 58 a []) _ _) (AS (Ar (l0:=q0_) (x:=x0_))) (Bc (Ar (l0:=l) (x:=a1)) (fun _ _ _ h=>Enc.frz _ a1 _ _ _ h)) HP.nil fun u0_ v0_=>w58 hd u0_ x0_ v0_ a1) ht)) l1_) fun y1 hy1=>q_p fr<|q_i (VW false 1 rfl rfl)<|q_q fr<|q_p fr<|Au 1 rfl rfl<|jN 3 rfl rfl fun x1 hx1=>VW false 1 rfl rfl
def M7 (a0:Af):Bool:=bif a0.View == 0 then true else a0.Start != (-1)
theorem iF {d:Nat} (hd:1≤d) (k0:Bool) (a0:Af):Fit (R NN d 125 [.rp k0 (Enc.cs k0 a0)] []) (some (M7 a0)) PB:=by
  obtain ⟨d,rfl,g⟩:=up hd
  refine A8 (t125 NN d _) ?_
  unfold nY M7
  exact q_q fr<|q_p fr<|q_p fr<|q_p fr<|Wa (fun h1=>Ak (Ae rfl) rfl) fun h1=>q_q fr<|q_p fr<|q_p fr<|q_p fr<|Ak (Ae rfl) rfl
def m26 (a0:List Ah) (a1:Ah→Option (Bool)):Option (Bool):=(m64 a0 a1).bind fun y1=>some (decide (y1 ≥ 0))
theorem w26 {Dc:Nat} {d:Nat} (hd:Dc + 2≤d) (k0:Bool) (a0:List Ah) (c1:Bool→AV) (hc1:∀ l,CV 8 [] false (c1 l) c1) (a1:Ah→Option (Bool)) (tc1:∀ (d:Nat),Dc≤d→∀ (l:Bool) (q0:Bool) (x0:Ah) (S:St) (t:Bool),a1 x0 = some t→AK (cfg NN) (R NN d) 64 (c1 l) [.agg (Enc.cs q0 x0)] S = some ((fun (t:Bool)=>AV.bool t) t,S)) (k1:Bool):Fit (R NN d 26 [.rsl k0 false (a0.map (Enc.cs k0)),c1 k1] []) (m26 a0 a1) PB:=by
  obtain ⟨d,rfl,g⟩:=up hd
  refine A8 (t26 NN d _ _) ?_
  unfold b26 m26
  exact A5 (aF2 A3 (CV.any (hc1 k1)) fun l0_ l1_=>w64 (by omega) l0_ a0 c1 hc1 a1 tc1 l1_) fun y1 hy1=>q_p fr<|Ak (Ae rfl) rfl
def WV (a0:Ah) (a1:Int):Bool:=a0.Slot == a1
theorem w171 {d:Nat} (hd:1≤d) (k0:Bool) (a0:Ah) (k1:Bool) (a1:Int):Fit (R NN d 171 [.agg (Enc.cs k0 a0),.rp k1 (Enc.cs k1 a1)] []) (some (WV a0 a1)) PB:=by
  obtain ⟨d,rfl,g⟩:=up hd
  refine A8 (t171 NN d _ _) ?_
  unfold mR WV
  exact AD (n:=7) rfl rfl (by decide) fun b1=>q_p fr<|Au 0 rfl rfl<|q_p fr<|q_p fr<|Ak (Ae rfl) rfl
def QK (a0:Ah) (a1:Af) (a2:Int) (a3_0:Int):Option (Bool):=( bif a0.From == a1.Id then bif a0.Kind == a2 then bif a0.View == a1.View then some (LO.norm (WV a0 a3_0)) else some (LO.norm false) else some (LO.norm false) else some (LO.norm false)).bind (Ai (fun s2=>some s2) (fun i1 s2=>none) (fun s2=>some s2))
theorem w172 {d:Nat} (hd:2≤d) (k0:Bool) (a0:Ah) (k1:Bool) (a1:Af) (k2:Bool) (a2:Int) (k3:Bool) (k3_0:Bool) (a3_0:Int):Fit (R NN d 172 [.agg (Enc.cs k0 a0),.rp k1 [.rp k1 (Enc.cs k1 a1)],.rp k2 (Enc.cs k2 a2),.rp k3 [.fn 171 [.rp k3_0 (Enc.cs k3_0 a3_0)]]] []) (QK a0 a1 a2 a3_0) PB:=by
  obtain ⟨d,rfl,g⟩:=up hd
  refine A8 (iT NN d _ _ _ _) ?_
  unfold fZ QK
  refine AD (n:=7) rfl rfl (by decide) fun b1=>AY (A:=fun (s:Bool)=>[.bool s]) (B:=fun s=>[bx b1 [iW a0.Kind,iW a0.View,iW a0.From,iW a0.Slot,iW a0.Value,.rsl k0 false (a0.Certs.map (Enc.cs k0)),.rsl k0 false (a0.Refs.map (Enc.cs k0))]]) ?_ ?_ ?_ ?_
  ·exact q_p fr<|Au 0 rfl rfl<|q_p fr<|q_q fr<|q_p fr<|q_p fr<|q_p fr<|q_k (q_p fr<|Au 0 rfl rfl<|q_p fr<|q_p fr<|q_k (q_p fr<|Au 0 rfl rfl<|q_p fr<|q_q fr<|q_p fr<|q_p fr<|q_p fr<|q_k (q_p fr<|AB 0 rfl rfl rfl<|bE (y:=WV a0 a3_0) (E:=(fun (t:Bool)=>AV.bool t)) (fun S=>U2 _ _ _ _) (aF2 (AS (Ar (l0:=k0) (x:=a0))) (Bc (Ar (l0:=k3_0) (x:=a3_0)) (fun _ _ _ h=>Enc.frz k3_0 a3_0 _ _ _ h)) fun l0_ l1_=>w171 (by omega) l0_ a0 l1_ a3_0)<|Ad 0 rr)<|Ad 0 rr)<|Ad 0 rr)<|Ad 0 rr
  ·exact fun s2=>Ak (Ae rfl) rfl
  ·exact fun i1 s2=>As
  ·exact fun s2=>Ak (Ae rfl) rfl
def Zg (a0:Af) (a1:List Ah) (a2:Int) (a3_0:Int):Option (Bool):=(m26 a1 (fun x0_=>QK x0_ a0 a2 a3_0)).bind fun y1=>some y1
theorem w129 {d:Nat} (hd:5≤d) (k0:Bool) (a0:Af) (k1:Bool) (a1:List Ah) (a2:Int) (k3_0:Bool) (a3_0:Int):Fit (R NN d 129 [.rp k0 (Enc.cs k0 a0),.rsl k1 false (a1.map (Enc.cs k1)),iW a2,.fn 171 [.rp k3_0 (Enc.cs k3_0 a3_0)]] []) (Zg a0 a1 a2 a3_0) PB:=by
  obtain ⟨d,rfl,g⟩:=up hd
  refine A8 (iU NN d _ _ _ _) ?_
  unfold f9 Zg
  exact AD (n:=1) rfl rfl (by decide) fun b1=>AD (n:=1) rfl rfl (by decide) fun b2=>AD (n:=1) rfl rfl (by decide) fun b3=>A5 (aF2 A3 (BJ (Ab (Bv 2 rfl (Ab (Bc (Ar (l0:=k0) (x:=a0)) (fun _ _ _ h=>Enc.frz k0 a0 _ _ _ h)) Ao)) (Ab (Bv 1 rfl (Ar (l0:=false) (x:=a2))) (Ab (Bv 0 rfl (Ab (BJ (Ab (Bc (Ar (l0:=k3_0) (x:=a3_0)) (fun _ _ _ h=>Enc.frz k3_0 a3_0 _ _ _ h)) Ao)) Ao)) Ao)))) fun l0_ l1_=>w26 (Dc:=2) (by omega) l0_ a1 (fun l=>.fn 172 [.rp l [.rp l (Enc.cs l a0)],.rp l (Enc.cs l a2),.rp l [.fn 171 [.rp l (Enc.cs l a3_0)]]]) (fun l=>BJ (Ab (Hi (l0:=l) (Ab (Bc (Ar (l0:=l) (x:=a0)) (fun _ _ _ h=>Enc.frz _ a0 _ _ _ h)) Ao) 1 (fun _ _ _ h=>Ol h)) (Ab (Bc (Ar (l0:=l) (x:=a2)) (fun _ _ _ h=>Enc.frz _ a2 _ _ _ h)) (Ab (Hi (l0:=l) (Ab (BJ (Ab (Bc (Ar (l0:=l) (x:=a3_0)) (fun _ _ _ h=>Enc.frz _ a3_0 _ _ _ h)) Ao)) Ao) 3 (fun _ _ _ h=>Om h (by simp))) Ao)))) (fun x0_=>QK x0_ a0 a2 a3_0) (fun d hd l q0_ x0_ S t ht=>(XK _ _ _ _).trans (Dk (E:=(fun (t:Bool)=>AV.bool t)) (mg:=QK x0_ a0 a2 a3_0) (Yg (M:=fun a=>Fit (R NN d 172 a []) _ _) (AS (Ar (l0:=q0_) (x:=x0_))) (Hi (l0:=l) (Ab (Bc (Ar (l0:=l) (x:=a0)) (fun _ _ _ h=>Enc.frz _ a0 _ _ _ h)) Ao) 1 (fun _ _ _ h=>Ol h)) (Bc (Ar (l0:=l) (x:=a2)) (fun _ _ _ h=>Enc.frz _ a2 _ _ _ h)) (Hi (l0:=l) (Ab (BJ (Ab (Bc (Ar (l0:=l) (x:=a3_0)) (fun _ _ _ h=>Enc.frz _ a3_0 _ _ _ h)) Ao)) Ao) 3 (fun _ _ _ h=>Om h (by simp))) HP.nil fun u0_ v0_ v1_ v2_=>w172 hd u0_ x0_ v0_ a0 v1_ a2 v2_ v2_ a3_0) ht)) l1_) fun y1 hy1=>Ak (Ae rfl) rfl
def Pj (a0:Af) (a1:List Ah) (a2:Int) (a3:Int):Option (Bool):=(Zg a0 a1 a2 a3).bind fun y1=>some y1
theorem YC {d:Nat} (hd:7≤d) (k0:Bool) (a0:Af) (k1:Bool) (a1:List Ah) (a2:Int) (a3:Int):Fit (R NN d 127 [.rp k0 (Enc.cs k0 a0),.rsl k1 false (a1.map (Enc.cs k1)),iW a2,iW a3] []) (Pj a0 a1 a2 a3) PB:=by
  obtain ⟨d,rfl,g⟩:=up hd
  refine A8 (t127 NN d _ _ _ _) ?_
  unfold nW Pj
  exact AD (n:=1) rfl rfl (by decide) fun b1=>A5 (fun S hS=>ET (Bc (Ar (l0:=k0) (x:=a0)) (fun _ _ _ h=>Enc.frz k0 a0 _ _ _ h)) A3 (Ae rfl) (BJ (Ab (Bv 0 rfl (Ar (l0:=false) (x:=a3))) Ao)) hS fun l0_ l1_ l2_ l3_=>w129 (by omega) l0_ a0 l1_ a1 a2 l3_ a3) fun y1 hy1=>Ak (Ae rfl) rfl
def Un (a0:List Ah) (a1:List Int):Option (List Int):=MY a1 (G6 (fun r=>(Aq a0 r).map fun x=>x.Certs.map fun c=>(c.Slot,c.View,c.Value)) a1)
theorem iE {d:Nat} (hd:1≤d) (k0:Bool) (a0:List Ah) (k1:Bool) (a1:List Int):Fit (R NN d 128 [.rsl k0 false (a0.map (Enc.cs k0)),.rsl k1 false (a1.map (Enc.cs k1))] []) (Un a0 a1) (P0 (fun (t:List Int)=>AV.rsl false false (t.map (Enc.cs false)))):=by
  obtain ⟨d,rfl,g⟩:=up hd
  exact fE (R:=R NN (d + 1)) (fun _ _ _=>t128 _ _ _ _ _) (Enc.cs k0) (fun x=>x.Certs.map fun c=>(c.Slot,c.View,c.Value)) (fun x=>⟨rfl,_,_,_,rfl,LV (f:=XF) (g:=(Enc.cs k0:AE→List AV)) (k:=fun c=>(c.Slot,c.View,c.Value)) (fun _=>rfl) x.Certs⟩) a0 a1 _ _ _ _
def Xg (a0:Ah) (a1:Int):Bool:=a0.Value == a1
theorem w130 {d:Nat} (hd:1≤d) (k0:Bool) (a0:Ah) (k1:Bool) (a1:Int):Fit (R NN d 130 [.agg (Enc.cs k0 a0),.rp k1 (Enc.cs k1 a1)] []) (some (Xg a0 a1)) PB:=by
  obtain ⟨d,rfl,g⟩:=up hd
  refine A8 (t130 NN d _ _) ?_
  unfold nV Xg
  exact AD (n:=7) rfl rfl (by decide) fun b1=>q_p fr<|Au 0 rfl rfl<|q_p fr<|q_p fr<|Ak (Ae rfl) rfl
def Ig (a0:Ah) (a1:Af) (a2:Int) (a3_0:Int):Option (Bool):=( bif a0.From == a1.Id then bif a0.Kind == a2 then bif a0.View == a1.View then some (LO.norm (Xg a0 a3_0)) else some (LO.norm false) else some (LO.norm false) else some (LO.norm false)).bind (Ai (fun s2=>some s2) (fun i1 s2=>none) (fun s2=>some s2))
theorem dD {d:Nat} (hd:2≤d) (k0:Bool) (a0:Ah) (k1:Bool) (a1:Af) (k2:Bool) (a2:Int) (k3:Bool) (k3_0:Bool) (a3_0:Int):Fit (R NN d 172 [.agg (Enc.cs k0 a0),.rp k1 [.rp k1 (Enc.cs k1 a1)],.rp k2 (Enc.cs k2 a2),.rp k3 [.fn 130 [.rp k3_0 (Enc.cs k3_0 a3_0)]]] []) (Ig a0 a1 a2 a3_0) PB:=by
  obtain ⟨d,rfl,g⟩:=up hd
  refine A8 (iT NN d _ _ _ _) ?_
  unfold fZ Ig
  refine AD (n:=7) rfl rfl (by decide) fun b1=>AY (A:=fun (s:Bool)=>[.bool s]) (B:=fun s=>[bx b1 [iW a0.Kind,iW a0.View,iW a0.From,iW a0.Slot,iW a0.Value,.rsl k0 false (a0.Certs.map (Enc.cs k0)),.rsl k0 false (a0.Refs.map (Enc.cs k0))]]) ?_ ?_ ?_ ?_
  ·exact q_p fr<|Au 0 rfl rfl<|q_p fr<|q_q fr<|q_p fr<|q_p fr<|q_p fr<|q_k (q_p fr<|Au 0 rfl rfl<|q_p fr<|q_p fr<|q_k (q_p fr<|Au 0 rfl rfl<|q_p fr<|q_q fr<|q_p fr<|q_p fr<|q_p fr<|q_k (q_p fr<|AB 0 rfl rfl rfl<|bE (y:=Xg a0 a3_0) (E:=(fun (t:Bool)=>AV.bool t)) (fun S=>PU _ _ _ _) (aF2 (AS (Ar (l0:=k0) (x:=a0))) (Bc (Ar (l0:=k3_0) (x:=a3_0)) (fun _ _ _ h=>Enc.frz k3_0 a3_0 _ _ _ h)) fun l0_ l1_=>w130 (by omega) l0_ a0 l1_ a3_0)<|Ad 0 rr)<|Ad 0 rr)<|Ad 0 rr)<|Ad 0 rr
  ·exact fun s2=>Ak (Ae rfl) rfl
  ·exact fun i1 s2=>As
  ·exact fun s2=>Ak (Ae rfl) rfl
def LE (a0:Af) (a1:List Ah) (a2:Int) (a3_0:Int):Option (Bool):=(m26 a1 (fun x0_=>Ig x0_ a0 a2 a3_0)).bind fun y1=>some y1
theorem dE {d:Nat} (hd:5≤d) (k0:Bool) (a0:Af) (k1:Bool) (a1:List Ah) (a2:Int) (k3_0:Bool) (a3_0:Int):Fit (R NN d 129 [.rp k0 (Enc.cs k0 a0),.rsl k1 false (a1.map (Enc.cs k1)),iW a2,.fn 130 [.rp k3_0 (Enc.cs k3_0 a3_0)]] []) (LE a0 a1 a2 a3_0) PB:=by
  obtain ⟨d,rfl,g⟩:=up hd
  refine A8 (iU NN d _ _ _ _) ?_
  unfold f9 LE
  exact AD (n:=1) rfl rfl (by decide) fun b1=>AD (n:=1) rfl rfl (by decide) fun b2=>AD (n:=1) rfl rfl (by decide) fun b3=>A5 (aF2 A3 (BJ (Ab (Bv 2 rfl (Ab (Bc (Ar (l0:=k0) (x:=a0)) (fun _ _ _ h=>Enc.frz k0 a0 _ _ _ h)) Ao)) (Ab (Bv 1 rfl (Ar (l0:=false) (x:=a2))) (Ab (Bv 0 rfl (Ab (BJ (Ab (Bc (Ar (l0:=k3_0) (x:=a3_0)) (fun _ _ _ h=>Enc.frz k3_0 a3_0 _ _ _ h)) Ao)) Ao)) Ao)))) fun l0_ l1_=>w26 (Dc:=2) (by omega) l0_ a1 (fun l=>.fn 172 [.rp l [.rp l (Enc.cs l a0)],.rp l (Enc.cs l a2),.rp l [.fn 130 [.rp l (Enc.cs l a3_0)]]]) (fun l=>BJ (Ab (Hi (l0:=l) (Ab (Bc (Ar (l0:=l) (x:=a0)) (fun _ _ _ h=>Enc.frz _ a0 _ _ _ h)) Ao) 1 (fun _ _ _ h=>Ol h)) (Ab (Bc (Ar (l0:=l) (x:=a2)) (fun _ _ _ h=>Enc.frz _ a2 _ _ _ h)) (Ab (Hi (l0:=l) (Ab (BJ (Ab (Bc (Ar (l0:=l) (x:=a3_0)) (fun _ _ _ h=>Enc.frz _ a3_0 _ _ _ h)) Ao)) Ao) 3 (fun _ _ _ h=>Om h (by simp))) Ao)))) (fun x0_=>Ig x0_ a0 a2 a3_0) (fun d hd l q0_ x0_ S t ht=>(Rn _ _ _ _).trans (Dk (E:=(fun (t:Bool)=>AV.bool t)) (mg:=Ig x0_ a0 a2 a3_0) (Yg (M:=fun a=>Fit (R NN d 172 a []) _ _) (AS (Ar (l0:=q0_) (x:=x0_))) (Hi (l0:=l) (Ab (Bc (Ar (l0:=l) (x:=a0)) (fun _ _ _ h=>Enc.frz _ a0 _ _ _ h)) Ao) 1 (fun _ _ _ h=>Ol h)) (Bc (Ar (l0:=l) (x:=a2)) (fun _ _ _ h=>Enc.frz _ a2 _ _ _ h)) (Hi (l0:=l) (Ab (BJ (Ab (Bc (Ar (l0:=l) (x:=a3_0)) (fun _ _ _ h=>Enc.frz _ a3_0 _ _ _ h)) Ao)) Ao) 3 (fun _ _ _ h=>Om h (by simp))) HP.nil fun u0_ v0_ v1_ v2_=>dD hd u0_ x0_ v0_ a0 v1_ a2 v2_ v2_ a3_0) ht)) l1_) fun y1 hy1=>Ak (Ae rfl) rfl
def m80 (a0:Af) (a1:Int) (a2:List Ah) (a3:Int) (a4:Int):Option (Int):=( bif !(Po a3) then some (LO.ret 3) else bif !(Pn a4) then some (LO.ret 3) else bif !(M7 a0) then some (LO.ret 8) else (NY a1 a0.View).bind fun y1=>bif a0.Id != y1 then some (LO.ret 8) else (Pj a0 a2 1 a3).bind fun y2=>bif y2 then some (LO.ret 6) else bif decide (a3 > 1) then (Pj a0 a2 1 (wi .i64 (a3 - 1))).bind fun y3=>bif !y3 then some (LO.ret 4) else some (LO.norm 0) else some (LO.norm 0)).bind (Ai (fun s2=>( bif a0.Start != (-1) then (Aq a2 a0.Start).bind fun x1=>(Un a2 x1.Refs).bind fun y4=>some (LO.norm y4) else some (LO.norm [])).bind (Ai (fun s4=>bif decide (a3≤(s4.length:Int)) then (Aq s4 (wi .i64 (a3 - 1))).bind fun x2=>bif a4 != x2 then some 1 else some 0 else ( bif a4 == 0 then some (LO.ret 1) else (LE a0 a2 1 a4).bind fun y5=>bif y5 then some (LO.ret 1) else some (LO.norm s2)).bind (Ai (fun s6=>some 0) (fun i3 s6=>none) (fun s6=>some s6))) (fun i2 s4=>none) (fun s4=>some s2))) (fun i1 s2=>none) (fun s2=>some s2))
theorem w80 {d:Nat} (hd:8≤d) (k0:Bool) (a0:Af) (a1:Int) (k2:Bool) (a2:List Ah) (a3:Int) (a4:Int):Fit (R NN d 80 [.rp k0 (Enc.cs k0 a0),iW a1,.rsl k2 false (a2.map (Enc.cs k2)),iW a3,iW a4] []) (m80 a0 a1 a2 a3 a4) PI:=by
  obtain ⟨d,rfl,g⟩:=up hd
  refine A8 (t80 NN d _ _ _ _ _) ?_
  unfold b80 m80
  refine AD (n:=1) rfl rfl (by decide) fun b1=>AY (A:=fun (s:Int)=>[iW s]) (B:=fun s=>[bx b1 [iW a4]]) ?_ ?_ ?_ ?_
  ·refine AA (aF1 (Ae rfl) fun l0_=>UO (by omega) a3)<|q_p fr<|q_j ?_ ?_
   ·first | refine BL ?_ | skip
    exact Am 0 rr
   ·refine Au 0 rfl rfl<|AA (aF1 (Ae rfl) fun l0_=>UN (by omega) a4)<|q_p fr<|q_i ?_ ?_
    ·exact Am 0 rr
    ·refine AA (aF1 (Bc (Ar (l0:=k0) (x:=a0)) (fun _ _ _ h=>Enc.frz k0 a0 _ _ _ h)) fun l0_=>iF (by omega) l0_ a0)<|q_p fr<|q_j ?_ ?_
     ·first | refine BL ?_ | skip
      exact Am 0 rr
     ·refine q_q fr<|q_p fr<|q_p fr<|q_q fr<|q_p fr<|q_p fr<|A5 (aF2 (Ae rfl) (Ae rfl) fun l0_ l1_=>YD (by omega) a1 a0.View) fun y1 hy1=>q_p fr<|q_i ?_ ?_
      ·exact Am 0 rr
      ·refine A5 (fun S hS=>ET (Bc (Ar (l0:=k0) (x:=a0)) (fun _ _ _ h=>Enc.frz k0 a0 _ _ _ h)) A3 (Ae rfl) (Ae rfl) hS fun l0_ l1_ l2_ l3_=>YC (by omega) l0_ a0 l1_ a2 1 a3) fun y2 hy2=>q_i ?_ ?_
       ·exact Am 0 rr
       ·refine q_p fr<|q_k ?_ ?_
        ·exact q_p fr<|A5 (fun S hS=>ET (Bc (Ar (l0:=k0) (x:=a0)) (fun _ _ _ h=>Enc.frz k0 a0 _ _ _ h)) A3 (Ae rfl) (Ae rfl) hS fun l0_ l1_ l2_ l3_=>YC (by omega) l0_ a0 l1_ a2 1 (wi .i64 (a3 - 1))) fun y3 hy3=>q_p fr<|q_i (Am 0 rr)<|Ad 0 rr
        ·first | refine Dy ?_ | skip
         exact Ad 0 rr
  ·intro s2
   refine DN (I:=(fun (s:(List Int)) l L=>∃ (fl1:Bool),l = [.rsl false fl1 (s.map (Enc.cs false))]∧L = [bx b1 [iW a4]])) ?_ ?_ ?_ ?_
   ·exact q_q fr<|q_p fr<|q_p fr<|q_p fr<|q_i (q_q fr<|q_p fr<|q_p fr<|Bd rfl fun x1 hx1=>q_p fr<|q_p fr<|A5 (aF2 A3 A3 fun l0_ l1_=>iE (by omega) l0_ a2 l1_ x1.Refs) fun y4 hy4=>Ad 0 ⟨false,rfl,rfl⟩)<|Ad 0 ⟨true,rfl,rfl⟩
   ·rintro s4 _ _ ⟨fl1,rfl,rfl⟩
    refine A7<|q_p fr<|q_i ?_ ?_
    ·exact Au 0 rfl rfl<|q_p fr<|Bd rfl fun x2 hx2=>q_p fr<|q_p fr<|q_i (Ak (Ae rfl) rfl)<|Ak (Ae rfl) rfl
    ·refine AY (A:=fun (s:Int)=>[iW s]) (B:=fun s=>[bx b1 [iW a4]]) ?_ ?_ ?_ ?_
     ·refine Au 0 rfl rfl<|q_p fr<|q_j ?_ ?_
      ·first | refine BL ?_ | skip
       exact Am 0 rr
      ·exact A5 (fun S hS=>ET (Bc (Ar (l0:=k0) (x:=a0)) (fun _ _ _ h=>Enc.frz k0 a0 _ _ _ h)) A3 (Ae rfl) (BJ (Ab (Bv 0 rfl (Ar (l0:=false) (x:=a4))) Ao)) hS fun l0_ l1_ l2_ l3_=>dE (by omega) l0_ a0 l1_ a2 1 l3_ a4) fun y5 hy5=>q_i (Am 0 rr)<|Ad 0 rr
     ·exact fun s6=>Ak (Ae rfl) rfl
     ·exact fun i3 s6=>As
     ·exact fun s6=>Ak (Ae rfl) rfl
   ·rintro i2 s4 _ _ ⟨fl2,rfl,rfl⟩
    exact As
   ·rintro s4 _ _ ⟨fl3,rfl,rfl⟩
    exact Ak (Ae rfl) rfl
  ·exact fun i1 s2=>As
  ·exact fun s2=>Ak (Ae rfl) rfl
def m81 (a0:Aa) (a1:Int):Bool:=decide (a1≤(a0.Requests.length:Int))
theorem w81 {d:Nat} (hd:1≤d) (k0:Bool) (a0:Aa) (a1:Int):Fit (R NN d 81 [.rp k0 (Enc.cs k0 a0),iW a1] []) (some (m81 a0 a1)) PB:=by
  obtain ⟨d,rfl,g⟩:=up hd
  refine A8 (t81 NN d _ _) ?_
  unfold b81 m81
  exact q_q fr<|q_p fr<|q_p fr<|A7<|q_p fr<|Ak (Ae rfl) rfl
def eK (a0:List Ah):Option (List Ah):=B7 88 [] a0
theorem gX {d:Nat} (hd:1≤d) (v:AV) (S:St):R NN d 173 [v] S = pk (EQ Tryz.prog 26 v) S fun r1=>ifA r1 (some (AV.rsl false true [],S)) (pq (AL (Aw Tryz.prog 26 0 [] S) S) fun r2=>pe (BN 7 88 r2 v S) fun r3 S3=>some (r3,S3)):=by
  obtain ⟨d,rfl,g⟩:=up hd
  exact t173 NN d v S
def Um (a0:List Ah) (a1:Ah):Option ((List Ah)×Int):=(m95 a1 (a0.length:Int)).bind fun y1=>bif !y1 then some ([],4) else (m91 a0 a1).bind fun y2=>bif decide (y2 ≥ 0) then some (a0,0) else bif (a0.length:Int) == 240 then some ([],2) else (eK a0).bind fun z1=>(Ph a1).bind fun y3=>(B7 88 z1 [y3]).bind fun z2=>some (z2,0)
theorem w133 {d:Nat} (hd:6≤d) (L0:List En) (i0_:List Nat) (v0_:AV) (a0:List Ah) (c1_0 c1_1 c1_2 c1_3 c1_4 c1_5 c1_6:AV) (a1:Ah) (hc1:CVs 7 [] false [c1_0,c1_1,c1_2,c1_3,c1_4,c1_5,c1_6] (fun l=>Enc.cs l a1)):Okh (wls i0_ v0_ (a0:List Ah)::L0) (fun S=>R NN d 133 [v0_,.agg [c1_0,c1_1,c1_2,c1_3,c1_4,c1_5,c1_6]] S) (Um a0 a1) (P8 i0_ v0_ a0 L0):=by
  obtain ⟨d,rfl,g⟩:=up hd
  refine D9 (t133 NN d _ _) ?_
  unfold nS Um
  exact AD (n:=7) rfl rfl (by decide) fun b1=>AB 0 rfl rfl rfl<|VY 1 rfl<|A5 (aF2 (AS (CVs.any hc1)) (Ae rfl) fun l0_ l1_=>w95 (by omega) l0_ a1 (a0.length:Int)) fun y1 hy1=>q_p fr<|q_i (bG 1 (by decide) rfl rfl)<|AB 0 rfl rfl rfl<|A5 (aF2 (CG (α:=Ah) 1 rfl) (AS (CVs.any hc1)) fun l0_ l1_=>w91 (by omega) l0_ a0 l1_ a1) fun y2 hy2=>q_p fr<|q_i (Dx 2 [1,0] (by decide) (by decide)<|Dx 2 [1,0] (by decide) (by decide)<|bF 1 (by decide) rfl rfl)<|VY 1 rfl<|q_p fr<|q_i (bG 1 (by decide) rfl rfl)<|AB 0 rfl rfl rfl<|Dx 2 [1,0] (by decide) (by decide)<|jQ (mg:=eK a0) (fun S=>gX (by omega) _ S) iL VT rfl rfl fun z1 hz1 i1 v1=>A5 (aF1 (AS (CVs.any hc1)) fun l0_=>gY (by omega) l0_ a1) fun y3 hy3=>q_e (fun _=>fS rfl)<|bI (y:=y3) (l:=false) (fl':=true) rfl fun z2 hz2 v2 i2=>jI<|Dx 2 [1,0] (by decide) (by decide)<|bF 1 (by decide) rfl rfl
def m89 (a0:Aa) (a1:Ah):Option (Int×Aa):=(Um a0.Ledger a1).bind fun y1=>bif y1.2 == 0 then some (y1.2,(⟨a0.F,a0.Bad,a0.Replicas,y1.1,a0.Requests⟩:Aa)) else some (y1.2,a0)
theorem w89 {d:Nat} (hd:7≤d) (L0:List En) (b0_:Nat) (i0_1 i0_2 i0_3 i0_4:List Nat) (v0_1 v0_2 v0_3 v0_4:AV) (a0:Aa) (c1_0 c1_1 c1_2 c1_3 c1_4 c1_5 c1_6:AV) (a1:Ah) (hc1:CVs 7 [] false [c1_0,c1_1,c1_2,c1_3,c1_4,c1_5,c1_6] (fun l=>Enc.cs l a1)):Okh (bx b0_ [iW a0.F,v0_1,v0_2,v0_3,v0_4]::tr i0_1 [v0_1] (a0.Bad:List Int)::tr i0_2 [v0_2] (a0.Replicas:List Af)::wls i0_3 v0_3 (a0.Ledger:List Ah)::wla i0_4 v0_4 (a0.Requests:List Ag)::L0) (fun S=>R NN d 89 [.bp b0_ 0 0 5 1,.agg [c1_0,c1_1,c1_2,c1_3,c1_4,c1_5,c1_6]] S) (m89 a0 a1) (P5 (fun (x:List Nat×List Nat×AV×AV) (t:Int×Aa)=>AV.int .i64 t.1) (fun (x:List Nat×List Nat×AV×AV) (t:Int×Aa)=>bx b0_ [iW t.2.F,v0_1,v0_2,x.2.2.1,x.2.2.2]::tr i0_1 [v0_1] (t.2.Bad:List Int)::tr i0_2 [v0_2] (t.2.Replicas:List Af)::wls x.1 x.2.2.1 (t.2.Ledger:List Ah)::wla x.2.1 x.2.2.2 (t.2.Requests:List Ag)::L0)):=by
  obtain ⟨d,rfl,g⟩:=up hd
  refine D9 (t89 NN d _ _) ?_
  unfold b89 m89
  exact AD (n:=7) rfl rfl (by decide) fun b1=>q_q fr<|q_p fr<|Au 1 rfl rfl<|AB 0 rfl rfl rfl<|Dx 6 [4,0,1,2,3,5] (by decide) (by decide)<|q_s8 (mg:=Um a0.Ledger a1) (w133 (by omega) _ i0_3 v0_3 a0.Ledger c1_0 c1_1 c1_2 c1_3 c1_4 c1_5 c1_6 a1 hc1) (fun y1 hy1 hky1 i1 w1=>q_q fr<|q_q fr<|q_p fr<|dZ hky1<|q_q fr<|q_p fr<|HV 2 rfl (fun S hS=>(HP.cells_ hS 0 rfl)) rfl<|Dx 6 [1,2,3,4,0,5] (by decide) (by decide)<|AX (i1,i0_4,w1,v0_4) 1 rfl rfl) fun y1 hy1 hky1=>q_q fr<|q_q fr<|q_p fr<|d3 hky1<|Dx 6 [1,2,3,4,0,5] (by decide) (by decide)<|AX (i0_3,i0_4,v0_3,v0_4) 1 rfl rfl
def m82 (a0:Aa) (a1:Int) (a2:Int) (a3:Int) (a4:Int):Option (Int×Aa):=(Aq a0.Replicas a1).bind fun x1=>(Aq a0.Replicas a1).bind fun x2=>(Aq a0.Replicas a1).bind fun x3=>(Aq a0.Replicas a1).bind fun x4=>(Aq a0.Replicas a1).bind fun x5=>(Aq a0.Replicas a1).bind fun x6=>(m89 a0 (⟨a2,x3.View,x6.Id,a3,a4,[],[]⟩:Ah)).bind fun y1=>some (y1.1,y1.2)
theorem w82 {d:Nat} (hd:8≤d) (L0:List En) (b0_:Nat) (i0_1 i0_2 i0_3 i0_4:List Nat) (v0_1 v0_2 v0_3 v0_4:AV) (a0:Aa) (a1:Int) (a2:Int) (a3:Int) (a4:Int):Okh (bx b0_ [iW a0.F,v0_1,v0_2,v0_3,v0_4]::tr i0_1 [v0_1] (a0.Bad:List Int)::tr i0_2 [v0_2] (a0.Replicas:List Af)::wls i0_3 v0_3 (a0.Ledger:List Ah)::wla i0_4 v0_4 (a0.Requests:List Ag)::L0) (fun S=>R NN d 82 [.bp b0_ 0 0 5 1,elP 4 v0_2 (Int.toNat a1),iW a2,iW a3,iW a4] S) (m82 a0 a1 a2 a3 a4) (P5 (fun (x:List Nat×List Nat×AV×AV) (t:Int×Aa)=>AV.int .i64 t.1) (fun (x:List Nat×List Nat×AV×AV) (t:Int×Aa)=>bx b0_ [iW t.2.F,v0_1,v0_2,x.2.2.1,x.2.2.2]::tr i0_1 [v0_1] (t.2.Bad:List Int)::tr i0_2 [v0_2] (t.2.Replicas:List Af)::wls x.1 x.2.2.1 (t.2.Ledger:List Ah)::wla x.2.1 x.2.2.2 (t.2.Requests:List Ag)::L0)):=by
  obtain ⟨d,rfl,g⟩:=up hd
  refine D9 (t82 NN d _ _ _ _ _) ?_
  unfold b82 m82
  exact BZ fun x1 hx1=>EN 2 rfl hx1<|BZ fun x2 hx2=>GE 2 rfl hx2 (by decide)<|BZ fun x3 hx3=>KG 2 rfl rfl hx3 MR<|BZ fun x4 hx4=>EN 2 rfl hx4<|BZ fun x5 hx5=>GE 2 rfl hx5 (by decide)<|BZ fun x6 hx6=>KG 2 rfl rfl hx6 YM<|q_p (fun _=>Fz rfl)<|DL (mg:=m89 a0 (⟨a2,x3.View,x6.Id,a3,a4,[],[]⟩:Ah)) (fun S=>rfl) (w89 (by omega) _ b0_ i0_1 i0_2 i0_3 i0_4 v0_1 v0_2 v0_3 v0_4 a0 (AV.int .i64 a2) (AV.int .i64 x3.View) (AV.int .i64 x6.Id) (AV.int .i64 a3) (AV.int .i64 a4) (AV.rsl false true []) (AV.rsl false true []) (⟨a2,x3.View,x6.Id,a3,a4,[],[]⟩:Ah) (Ab (Ae rfl) (Ab (Ae rfl) (Ab (Ae rfl) (Ab (Ae rfl) (Ab (Ae rfl) (Ab (A3 (α:=AE) (l0:=false) (fl:=true) (xs:=[])) (Ab (A3 (α:=Int) (l0:=false) (fl:=true) (xs:=[])) Ao)))))))) fun y1 hy1 ⟨i1,i2,v1,v2⟩=>AX (i1,i2,v1,v2) 0 rfl rfl
def m79 (a0:Aa) (a1:Int) (a2:Int) (a3:Int):Option (Int×Aa):=(Aq a0.Replicas a1).bind fun x1=>(m80 x1 a0.F a0.Ledger a2 a3).bind fun y1=>bif y1 != 0 then some (y1,a0) else bif !(m81 a0 a3) then some (4,a0) else (m82 a0 a1 1 a2 a3).bind fun y2=>some (y2.1,y2.2)
theorem w79 {d:Nat} (hd:9≤d) (L0:List En) (b0_:Nat) (i0_1 i0_2 i0_3 i0_4:List Nat) (v0_1 v0_2 v0_3 v0_4:AV) (a0:Aa) (a1:Int) (k2:Bool) (a2:Int) (k3:Bool) (a3:Int):Okh (bx b0_ [iW a0.F,v0_1,v0_2,v0_3,v0_4]::tr i0_1 [v0_1] (a0.Bad:List Int)::tr i0_2 [v0_2] (a0.Replicas:List Af)::wls i0_3 v0_3 (a0.Ledger:List Ah)::wla i0_4 v0_4 (a0.Requests:List Ag)::L0) (fun S=>R NN d 79 [.bp b0_ 0 0 5 1,elP 4 v0_2 (Int.toNat a1),.rp k2 (Enc.cs k2 a2),.rp k3 (Enc.cs k3 a3)] S) (m79 a0 a1 a2 a3) (P5 (fun (x:List Nat×List Nat×AV×AV) (t:Int×Aa)=>AV.int .i64 t.1) (fun (x:List Nat×List Nat×AV×AV) (t:Int×Aa)=>bx b0_ [iW t.2.F,v0_1,v0_2,x.2.2.1,x.2.2.2]::tr i0_1 [v0_1] (t.2.Bad:List Int)::tr i0_2 [v0_2] (t.2.Replicas:List Af)::wls x.1 x.2.2.1 (t.2.Ledger:List Ah)::wla x.2.1 x.2.2.2 (t.2.Requests:List Ag)::L0)):=by
  obtain ⟨d,rfl,g⟩:=up hd
  refine D9 (t79 NN d _ _ _ _) ?_
  unfold b79 m79
  exact q_q fr<|q_p fr<|Au 0 rfl rfl<|q_q fr<|q_p fr<|Au 0 rfl rfl<|q_p fr<|q_p fr<|BZ fun x1 hx1=>A5 (fun S hS=>Yi (PT 2 rfl rfl hx1) (Ae rfl) (CG (α:=Ah) 3 rfl) (Ae rfl) (Ae rfl) hS fun l0_ l1_ l2_ l3_ l4_=>w80 (by omega) l0_ x1 a0.F l2_ a0.Ledger a2 a3) fun y1 hy1=>q_p fr<|q_i (AX (i0_3,i0_4,v0_3,v0_4) 0 rfl rfl)<|q_p fr<|AA (aF2 (Bv 0 rfl (Ab (Ae rfl) (Ab (CU 1 rfl) (Ab (CU 2 rfl) (Ab (CG (α:=Ah) 3 rfl) (Ab (EG (α:=Ag) 4 rfl) Ao)))))) (Ae rfl) fun l0_ l1_=>w81 (by omega) l0_ a0 a3)<|q_p fr<|q_i (AX (i0_3,i0_4,v0_3,v0_4) 0 rfl rfl)<|q_p fr<|q_p fr<|DL (mg:=m82 a0 a1 1 a2 a3) (fun S=>rfl) (w82 (by omega) _ b0_ i0_1 i0_2 i0_3 i0_4 v0_1 v0_2 v0_3 v0_4 a0 a1 1 a2 a3) fun y2 hy2 ⟨i1,i2,v1,v2⟩=>AX (i1,i2,v1,v2) 0 rfl rfl
def m78 (a0:Aa) (a1:Int) (a2_0:Int) (a2_1:Int):Option (Int×Aa):=(G4 a0 a1).bind fun y1=>HW y1 ( some (4,a0)) fun r1=>(Aq a0.Replicas r1).bind fun x2=>(m79 a0 r1 a2_0 a2_1).bind fun y2=>some (y2.1,y2.2)
theorem w78 {d:Nat} (hd:10≤d) (L0:List En) (b0_:Nat) (i0_1 i0_2 i0_3 i0_4:List Nat) (v0_1 v0_2 v0_3 v0_4:AV) (a0:Aa) (a1:Int) (k2_0:Bool) (a2_0:Int) (k2_1:Bool) (a2_1:Int):Okh (bx b0_ [iW a0.F,v0_1,v0_2,v0_3,v0_4]::tr i0_1 [v0_1] (a0.Bad:List Int)::tr i0_2 [v0_2] (a0.Replicas:List Af)::wls i0_3 v0_3 (a0.Ledger:List Ah)::wla i0_4 v0_4 (a0.Requests:List Ag)::L0) (fun S=>R NN d 78 [.bp b0_ 0 0 5 1,iW a1,.fn 79 [.rp k2_0 (Enc.cs k2_0 a2_0),.rp k2_1 (Enc.cs k2_1 a2_1)]] S) (m78 a0 a1 a2_0 a2_1) (P5 (fun (x:List Nat×List Nat×AV×AV) (t:Int×Aa)=>AV.int .i64 t.1) (fun (x:List Nat×List Nat×AV×AV) (t:Int×Aa)=>bx b0_ [iW t.2.F,v0_1,v0_2,x.2.2.1,x.2.2.2]::tr i0_1 [v0_1] (t.2.Bad:List Int)::tr i0_2 [v0_2] (t.2.Replicas:List Af)::wls x.1 x.2.2.1 (t.2.Ledger:List Ah)::wla x.2.1 x.2.2.2 (t.2.Requests:List Ag)::L0)):=by
  obtain ⟨d,rfl,g⟩:=up hd
  refine D9 (t78 NN d _ _ _) ?_
  unfold b78 m78
  refine KE (mg:=G4 a0 a1) (v0:=fun _=>AV.nilp) (v1:=fun x r=>elP 4 v0_2 (Int.toNat r)) (fun _=>rfl) (fun _ _=>rfl) (Qo (by omega) _ b0_ i0_1 i0_2 i0_3 i0_4 v0_1 v0_2 v0_3 v0_4 a0 a1) (fun x1=>?_) (fun r1 x1 hy1=>?_)
  ·refine q_p (fun _=>Gu) ?_
   first | refine BL ?_ | skip
   exact AX (i0_3,i0_4,v0_3,v0_4) 0 rfl rfl
  ·refine BZ fun x2 hx2=>QA (f:=fun a=>Ec Tryz.prog .eql 53 a .nilp) 2 rfl hx2 (fun _ _ _ _ _=>Gv _ _ _ _ _) ?_
   first | refine Dy ?_ | skip
   exact DL (mg:=m79 a0 r1 a2_0 a2_1) (fun S=>Z9 _ _ _ _) (w79 (by omega) _ b0_ i0_1 i0_2 i0_3 i0_4 v0_1 v0_2 v0_3 v0_4 a0 r1 k2_0 a2_0 k2_1 a2_1) fun y2 hy2 ⟨i1,i2,v1,v2⟩=>AX (i1,i2,v1,v2) 0 rfl rfl
def m77 (a0:Aa) (a1:Int) (a2_0:Int) (a2_1:Int):Option (Int×Aa):=(m78 a0 a1 a2_0 a2_1).bind fun y1=>some (y1.1,y1.2)
theorem w77 {d:Nat} (hd:11≤d) (L0:List En) (b0_:Nat) (i0_1 i0_2 i0_3 i0_4:List Nat) (v0_1 v0_2 v0_3 v0_4:AV) (a0:Aa) (k1:Bool) (a1:Int) (k2:Bool) (k2_0:Bool) (a2_0:Int) (k2_1:Bool) (a2_1:Int):Okh (bx b0_ [iW a0.F,v0_1,v0_2,v0_3,v0_4]::tr i0_1 [v0_1] (a0.Bad:List Int)::tr i0_2 [v0_2] (a0.Replicas:List Af)::wls i0_3 v0_3 (a0.Ledger:List Ah)::wla i0_4 v0_4 (a0.Requests:List Ag)::L0) (fun S=>R NN d 77 [.bp b0_ 0 0 5 1,.rp k1 (Enc.cs k1 a1),.rp k2 [.fn 79 [.rp k2_0 (Enc.cs k2_0 a2_0),.rp k2_1 (Enc.cs k2_1 a2_1)]]] S) (m77 a0 a1 a2_0 a2_1) (P5 (fun (x:List Nat×List Nat×AV×AV) (t:Int×Aa)=>AV.int .i64 t.1) (fun (x:List Nat×List Nat×AV×AV) (t:Int×Aa)=>bx b0_ [iW t.2.F,v0_1,v0_2,x.2.2.1,x.2.2.2]::tr i0_1 [v0_1] (t.2.Bad:List Int)::tr i0_2 [v0_2] (t.2.Replicas:List Af)::wls x.1 x.2.2.1 (t.2.Ledger:List Ah)::wla x.2.1 x.2.2.2 (t.2.Requests:List Ag)::L0)):=by
  obtain ⟨d,rfl,g⟩:=up hd
  refine D9 (t77 NN d _ _ _) ?_
  unfold b77 m77
  exact q_p fr<|q_p fr<|DL (mg:=m78 a0 a1 a2_0 a2_1) (fun S=>rfl) (w78 (by omega) _ b0_ i0_1 i0_2 i0_3 i0_4 v0_1 v0_2 v0_3 v0_4 a0 a1 k2_0 a2_0 k2_1 a2_1) fun y1 hy1 ⟨i1,i2,v1,v2⟩=>AX (i1,i2,v1,v2) 0 rfl rfl
end
end Go.Proofs.YtjlecnhninhmnaaGreatDoor
