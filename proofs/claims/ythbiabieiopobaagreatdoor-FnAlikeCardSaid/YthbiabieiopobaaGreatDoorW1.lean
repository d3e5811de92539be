/- Plain functions, and that the evaluator computes them. -/
import Derived.Test.YthbiabieiopobaaGreatDoorT
import Derived.Test.YthbiabieiopobaaGreatDoorRh6
import Derived.Test.YthbiabieiopobaaGreatDoorRh10
import Derived.Test.YthbiabieiopobaaGreatDoorRh12
import Derived.Test.YthbiabieiopobaaGreatDoorRh13
import Derived.Test.YthbiabieiopobaaGreatDoorRh14
import Derived.Test.YthbiabieiopobaaGreatDoorRh16
import Derived.Test.YthbiabieiopobaaGreatDoorRh22
namespace Go.Proofs.YthbiabieiopobaaGreatDoor
open Go Go.Rf
set_option linter.unusedVariables false
set_option linter.unusedSimpArgs false
noncomputable section
structure Af where
  Id:Int
  View:Int
  Start:Int
  Done:Int
  deriving DecidableEq
instance:Enc Af:=(Enc.of fun x:Af=>(x.Id,x.View,x.Start,x.Done)).copy (fun l x=>[iW x.Id,iW x.View,iW x.Start,iW x.Done]) (fun _ _=>rfl) 4 0 rfl rfl
instance:Tr Af:=Tr.of (fun x:Af=>(x.Id,x.View,x.Start,x.Done)) (fun _ _=>rfl) rfl rfl
structure AP where
  Slot:Int
  View:Int
  Value:Int
  deriving DecidableEq
instance:Enc AP:=(Enc.of fun x:AP=>(x.Slot,x.View,x.Value)).copy (fun l x=>[iW x.Slot,iW x.View,iW x.Value]) (fun _ _=>rfl) 3 0 rfl rfl
instance:Tr AP:=Tr.of (fun x:AP=>(x.Slot,x.View,x.Value)) (fun _ _=>rfl) rfl rfl
structure Ai where
  Kind:Int
  View:Int
  From:Int
  Slot:Int
  Value:Int
  Certs:List AP
  Refs:List Int
  deriving DecidableEq
instance:Enc Ai:=(Enc.of fun x:Ai=>(x.Kind,x.View,x.From,x.Slot,x.Value,x.Certs,x.Refs)).copy (fun l x=>[iW x.Kind,iW x.View,iW x.From,iW x.Slot,iW x.Value,.rsl l false (x.Certs.map (Enc.cs l)),.rsl l false (x.Refs.map (Enc.cs l))]) (fun _ _=>rfl) 7 1 rfl rfl
instance:Tr Ai:=Tr.of (fun x:Ai=>(x.Kind,x.View,x.From,x.Slot,x.Value,x.Certs,x.Refs)) (fun _ _=>rfl) rfl rfl
structure TOp where
  Kind:Int
  Path:Str
  Data:Int
  Version:Int
  Seq:Bool
  Own:Bool
  deriving DecidableEq
instance:Enc TOp:=(Enc.of fun x:TOp=>(x.Kind,x.Path,x.Data,x.Version,x.Seq,x.Own)).copy (fun l x=>[iW x.Kind,AY x.Path,iW x.Data,iW x.Version,.bool x.Seq,.bool x.Own]) (fun _ _=>rfl) 6 0 rfl rfl
instance:Tr TOp:=Tr.of (fun x:TOp=>(x.Kind,x.Path,x.Data,x.Version,x.Seq,x.Own)) (fun _ _=>rfl) rfl rfl
structure Ag where
  Client:Int
  Number:Int
  Time:Int
  Ops:List TOp
  deriving DecidableEq
instance:Enc Ag:=(Enc.of fun x:Ag=>(x.Client,x.Number,x.Time,x.Ops)).copy (fun l x=>[iW x.Client,iW x.Number,iW x.Time,.rsl l false (x.Ops.map (Enc.cs l))]) (fun _ _=>rfl) 4 1 rfl rfl
instance:Tr Ag:=Tr.of (fun x:Ag=>(x.Client,x.Number,x.Time,x.Ops)) (fun _ _=>rfl) rfl rfl
structure Ab where
  F:Int
  Bad:List Int
  Replicas:List Af
  Ledger:List Ai
  Requests:List Ag
  deriving DecidableEq
instance:Enc Ab:=(Enc.of fun x:Ab=>(x.F,x.Bad,x.Replicas,x.Ledger,x.Requests)).copy (fun l x=>[iW x.F,.rsl l false (x.Bad.map (Enc.cs l)),.rsl l false (x.Replicas.map (Enc.cs l)),.rsl l false (x.Ledger.map (Enc.cs l)),.rsl l false (x.Requests.map (Enc.cs l))]) (fun _ _=>rfl) 5 2 rfl rfl
instance:Tr Ab:=Tr.of (fun x:Ab=>(x.F,x.Bad,x.Replicas,x.Ledger,x.Requests)) (fun _ _=>rfl) rfl rfl
structure Ac where
  Code:Int
  Cluster:Ab
  deriving DecidableEq
instance:Enc Ac:=(Enc.of fun x:Ac=>(x.Code,x.Cluster)).copy (fun l x=>[iW x.Code,iW x.Cluster.F,.rsl l false (x.Cluster.Bad.map (Enc.cs l)),.rsl l false (x.Cluster.Replicas.map (Enc.cs l)),.rsl l false (x.Cluster.Ledger.map (Enc.cs l)),.rsl l false (x.Cluster.Requests.map (Enc.cs l))]) (fun _ _=>rfl) 6 2 rfl rfl
instance:Tr Ac:=Tr.of (fun x:Ac=>(x.Code,x.Cluster)) (fun _ _=>rfl) rfl rfl
structure BD where
  Code:Int
  Msg:Ai
  deriving DecidableEq
instance:Enc BD:=(Enc.of fun x:BD=>(x.Code,x.Msg)).copy (fun l x=>[iW x.Code,iW x.Msg.Kind,iW x.Msg.View,iW x.Msg.From,iW x.Msg.Slot,iW x.Msg.Value,.rsl l false (x.Msg.Certs.map (Enc.cs l)),.rsl l false (x.Msg.Refs.map (Enc.cs l))]) (fun _ _=>rfl) 8 1 rfl rfl
instance:Tr BD:=Tr.of (fun x:BD=>(x.Code,x.Msg)) (fun _ _=>rfl) rfl rfl
structure Az where
  Path:Str
  Data:Int
  Version:Int
  Owner:Int
  Next:Int
  deriving DecidableEq
instance:Enc Az:=(Enc.of fun x:Az=>(x.Path,x.Data,x.Version,x.Owner,x.Next)).copy (fun l x=>[AY x.Path,iW x.Data,iW x.Version,iW x.Owner,iW x.Next]) (fun _ _=>rfl) 5 0 rfl rfl
instance:Tr Az:=Tr.of (fun x:Az=>(x.Path,x.Data,x.Version,x.Owner,x.Next)) (fun _ _=>rfl) rfl rfl
structure Au where
  Id:Int
  Until:Int
  deriving DecidableEq
instance:Enc Au:=(Enc.of fun x:Au=>(x.Id,x.Until)).copy (fun l x=>[iW x.Id,iW x.Until]) (fun _ _=>rfl) 2 0 rfl rfl
instance:Tr Au:=Tr.of (fun x:Au=>(x.Id,x.Until)) (fun _ _=>rfl) rfl rfl
structure BK where
  Code:Int
  Value:Int
  Path:Str
  deriving DecidableEq
instance:Enc BK:=(Enc.of fun x:BK=>(x.Code,x.Value,x.Path)).copy (fun l x=>[iW x.Code,iW x.Value,AY x.Path]) (fun _ _=>rfl) 3 0 rfl rfl
instance:Tr BK:=Tr.of (fun x:BK=>(x.Code,x.Value,x.Path)) (fun _ _=>rfl) rfl rfl
structure B7 where
  Client:Int
  Number:Int
  Reply:BK
  deriving DecidableEq
instance:Enc B7:=(Enc.of fun x:B7=>(x.Client,x.Number,x.Reply)).copy (fun l x=>[iW x.Client,iW x.Number,iW x.Reply.Code,iW x.Reply.Value,AY x.Reply.Path]) (fun _ _=>rfl) 5 0 rfl rfl
instance:Tr B7:=Tr.of (fun x:B7=>(x.Client,x.Number,x.Reply)) (fun _ _=>rfl) rfl rfl
structure AQ where
  Nodes:List Az
  Sessions:List Au
  Now:Int
  Marks:List B7
  deriving DecidableEq
instance:Enc AQ:=(Enc.of fun x:AQ=>(x.Nodes,x.Sessions,x.Now,x.Marks)).copy (fun l x=>[.rsl l false (x.Nodes.map (Enc.cs l)),.rsl l false (x.Sessions.map (Enc.cs l)),iW x.Now,.rsl l false (x.Marks.map (Enc.cs l))]) (fun _ _=>rfl) 4 1 rfl rfl
instance:Tr AQ:=Tr.of (fun x:AQ=>(x.Nodes,x.Sessions,x.Now,x.Marks)) (fun _ _=>rfl) rfl rfl
structure BZ where
  Code:Int
  Live:List Au
  Over:List Int
  deriving DecidableEq
instance:Enc BZ:=(Enc.of fun x:BZ=>(x.Code,x.Live,x.Over)).copy (fun l x=>[iW x.Code,.rsl l false (x.Live.map (Enc.cs l)),.rsl l false (x.Over.map (Enc.cs l))]) (fun _ _=>rfl) 3 1 rfl rfl
instance:Tr BZ:=Tr.of (fun x:BZ=>(x.Code,x.Live,x.Over)) (fun _ _=>rfl) rfl rfl
structure AX where
  Code:Int
  Sessions:List Au
  deriving DecidableEq
instance:Enc AX:=(Enc.of fun x:AX=>(x.Code,x.Sessions)).copy (fun l x=>[iW x.Code,.rsl l false (x.Sessions.map (Enc.cs l))]) (fun _ _=>rfl) 2 1 rfl rfl
instance:Tr AX:=Tr.of (fun x:AX=>(x.Code,x.Sessions)) (fun _ _=>rfl) rfl rfl
structure Bl where
  Code:Int
  Path:Str
  Nodes:List Az
  deriving DecidableEq
instance:Enc Bl:=(Enc.of fun x:Bl=>(x.Code,x.Path,x.Nodes)).copy (fun l x=>[iW x.Code,AY x.Path,.rsl l false (x.Nodes.map (Enc.cs l))]) (fun _ _=>rfl) 3 1 rfl rfl
instance:Tr Bl:=Tr.of (fun x:Bl=>(x.Code,x.Path,x.Nodes)) (fun _ _=>rfl) rfl rfl
structure Bg where
  Code:Int
  Reply:BK
  State:AQ
  deriving DecidableEq
instance:Enc Bg:=(Enc.of fun x:Bg=>(x.Code,x.Reply,x.State)).copy (fun l x=>[iW x.Code,iW x.Reply.Code,iW x.Reply.Value,AY x.Reply.Path,.rsl l false (x.State.Nodes.map (Enc.cs l)),.rsl l false (x.State.Sessions.map (Enc.cs l)),iW x.State.Now,.rsl l false (x.State.Marks.map (Enc.cs l))]) (fun _ _=>rfl) 8 1 rfl rfl
instance:Tr Bg:=Tr.of (fun x:Bg=>(x.Code,x.Reply,x.State)) (fun _ _=>rfl) rfl rfl
theorem J3 {x0 r:AV} (hr:(Bq (plc [(0,1),(1,7)]) [iW 0,iW 0,iW 0,iW 0,iW 0,iW 0,.rsl false true [],.rsl false true []] [(0,x0)]).map AV.agg = some r):Aw Tryz.prog 111 [(0,x0)] = some r:=Eq.trans (by kernel_rfl) hr
theorem RY {x1 r:AV} (hr:(Bq (plc [(0,1),(1,7)]) [iW 0,iW 0,iW 0,iW 0,iW 0,iW 0,.rsl false true [],.rsl false true []] [(1,x1)]).map AV.agg = some r):Aw Tryz.prog 111 [(1,x1)] = some r:=Eq.trans (by kernel_rfl) hr
theorem kM { r:AV} (hr:(Bq (plc [(0,1),(1,1),(2,1)]) [iW 0,.rsl false true [],.rsl false true []] []).map AV.agg = some r):Aw Tryz.prog 178 [] = some r:=Eq.trans (by kernel_rfl) hr
theorem Zf {x0 r:AV} (hr:(Bq (plc [(0,1),(1,1),(2,1)]) [iW 0,.rsl false true [],.rsl false true []] [(0,x0)]).map AV.agg = some r):Aw Tryz.prog 178 [(0,x0)] = some r:=Eq.trans (by kernel_rfl) hr
theorem Ir {x0 r:AV} (hr:(Bq (plc [(0,1),(1,1)]) [iW 0,.rsl false true []] [(0,x0)]).map AV.agg = some r):Aw Tryz.prog 182 [(0,x0)] = some r:=Eq.trans (by kernel_rfl) hr
theorem RX {x1 r:AV} (hr:(Bq (plc [(0,1),(1,1)]) [iW 0,.rsl false true []] [(1,x1)]).map AV.agg = some r):Aw Tryz.prog 182 [(1,x1)] = some r:=Eq.trans (by kernel_rfl) hr
theorem kL { r:AV} (hr:(Bq (plc [(0,1),(1,1),(2,1)]) [iW 0,.str ⟨#[]⟩,.rsl false true []] []).map AV.agg = some r):Aw Tryz.prog 213 [] = some r:=Eq.trans (by kernel_rfl) hr
theorem Ue {x0 x2 r:AV} (hr:(Bq (plc [(0,1),(1,1),(2,1)]) [iW 0,.str ⟨#[]⟩,.rsl false true []] [(0,x0),(2,x2)]).map AV.agg = some r):Aw Tryz.prog 213 [(0,x0),(2,x2)] = some r:=Eq.trans (by kernel_rfl) hr
theorem Df {x0 r:AV} (hr:(Bq (plc [(0,1),(1,1),(2,1)]) [iW 0,.str ⟨#[]⟩,.rsl false true []] [(0,x0)]).map AV.agg = some r):Aw Tryz.prog 213 [(0,x0)] = some r:=Eq.trans (by kernel_rfl) hr
theorem Ud {x1 x2 r:AV} (hr:(Bq (plc [(0,1),(1,1),(2,1)]) [iW 0,.str ⟨#[]⟩,.rsl false true []] [(1,x1),(2,x2)]).map AV.agg = some r):Aw Tryz.prog 213 [(1,x1),(2,x2)] = some r:=Eq.trans (by kernel_rfl) hr
theorem RV {x2 r:AV} (hr:(Bq (plc [(0,1),(1,1),(2,1)]) [iW 0,.str ⟨#[]⟩,.rsl false true []] [(2,x2)]).map AV.agg = some r):Aw Tryz.prog 213 [(2,x2)] = some r:=Eq.trans (by kernel_rfl) hr
theorem Xr {x0 x1 r:AV} (hr:(Bq (plc [(0,1),(1,1),(2,1),(3,1),(4,1)]) [iW 0,.rsl false true [],.rsl false true [],.rsl false true [],.rsl false true []] [(0,x0),(1,x1)]).map AV.agg = some r):Aw Tryz.prog 29 [(0,x0),(1,x1)] = some r:=Eq.trans (by kernel_rfl) hr
theorem NE {x0 x1 x2 x3 r:AV} (hr:(Bq (plc [(0,1),(1,1),(2,1),(3,1),(4,1)]) [iW 0,.rsl false true [],.rsl false true [],.rsl false true [],.rsl false true []] [(0,x0),(1,x1),(2,x2),(3,x3)]).map AV.agg = some r):Aw Tryz.prog 29 [(0,x0),(1,x1),(2,x2),(3,x3)] = some r:=Eq.trans (by kernel_rfl) hr
theorem fF { r:AV} (hr:(Bq (plc [(0,1),(1,1),(2,1)]) [iW 0,iW 0,.str ⟨#[]⟩] []).map AV.agg = some r):Aw Tryz.prog 33 [] = some r:=Eq.trans (by kernel_rfl) hr
theorem Xq {x0 x1 r:AV} (hr:(Bq (plc [(0,1),(1,1),(2,1)]) [iW 0,iW 0,.str ⟨#[]⟩] [(0,x0),(1,x1)]).map AV.agg = some r):Aw Tryz.prog 33 [(0,x0),(1,x1)] = some r:=Eq.trans (by kernel_rfl) hr
theorem Q6 {x0 r:AV} (hr:(Bq (plc [(0,1),(1,1),(2,1)]) [iW 0,iW 0,.str ⟨#[]⟩] [(0,x0)]).map AV.agg = some r):Aw Tryz.prog 33 [(0,x0)] = some r:=Eq.trans (by kernel_rfl) hr
theorem ND {x0 x1 x2 x3 r:AV} (hr:(Bq (plc [(0,1),(1,1),(2,1),(3,1)]) [.rsl false true [],.rsl false true [],iW 0,.rsl false true []] [(0,x0),(1,x1),(2,x2),(3,x3)]).map AV.agg = some r):Aw Tryz.prog 38 [(0,x0),(1,x1),(2,x2),(3,x3)] = some r:=Eq.trans (by kernel_rfl) hr
theorem Xp {x0 x2 r:AV} (hr:(Bq (plc [(0,1),(1,1),(2,1),(3,1)]) [.rsl false true [],.rsl false true [],iW 0,.rsl false true []] [(0,x0),(2,x2)]).map AV.agg = some r):Aw Tryz.prog 38 [(0,x0),(2,x2)] = some r:=Eq.trans (by kernel_rfl) hr
theorem Lo {x0 r:AV} (hr:(Bq (plc [(0,1),(1,3),(4,4)]) [iW 0,iW 0,iW 0,.str ⟨#[]⟩,.rsl false true [],.rsl false true [],iW 0,.rsl false true []] [(0,x0)]).map AV.agg = some r):Aw Tryz.prog 40 [(0,x0)] = some r:=Eq.trans (by kernel_rfl) hr
theorem Xo {x1 x2 r:AV} (hr:(Bq (plc [(0,1),(1,3),(4,4)]) [iW 0,iW 0,iW 0,.str ⟨#[]⟩,.rsl false true [],.rsl false true [],iW 0,.rsl false true []] [(1,x1),(2,x2)]).map AV.agg = some r):Aw Tryz.prog 40 [(1,x1),(2,x2)] = some r:=Eq.trans (by kernel_rfl) hr
theorem fE {x2 r:AV} (hr:(Bq (plc [(0,1),(1,3),(4,4)]) [iW 0,iW 0,iW 0,.str ⟨#[]⟩,.rsl false true [],.rsl false true [],iW 0,.rsl false true []] [(2,x2)]).map AV.agg = some r):Aw Tryz.prog 40 [(2,x2)] = some r:=Eq.trans (by kernel_rfl) hr
theorem Xn {x0 x2 r:AV} (hr:(Bq (plc [(0,1),(1,1),(2,1),(3,1)]) [iW 0,iW 0,iW 0,iW 0] [(0,x0),(2,x2)]).map AV.agg = some r):Aw Tryz.prog 43 [(0,x0),(2,x2)] = some r:=Eq.trans (by kernel_rfl) hr
theorem bd48 { r:AV} (hr:(Bq (plc [(0,1),(1,5)]) [iW 0,iW 0,.rsl false true [],.rsl false true [],.rsl false true [],.rsl false true []] []).map AV.agg = some r):Aw Tryz.prog 48 [] = some r:=Eq.trans (by kernel_rfl) hr
theorem CQ {x0 r:AV} (hr:(Bq (plc [(0,1),(1,5)]) [iW 0,iW 0,.rsl false true [],.rsl false true [],.rsl false true [],.rsl false true []] [(0,x0)]).map AV.agg = some r):Aw Tryz.prog 48 [(0,x0)] = some r:=Eq.trans (by kernel_rfl) hr
theorem FB {x1 r:AV} (hr:(Bq (plc [(0,1),(1,5)]) [iW 0,iW 0,.rsl false true [],.rsl false true [],.rsl false true [],.rsl false true []] [(1,x1)]).map AV.agg = some r):Aw Tryz.prog 48 [(1,x1)] = some r:=Eq.trans (by kernel_rfl) hr
theorem Xm {x0 x1 r:AV} (hr:(Bq (plc [(0,1),(1,1),(2,1),(3,1),(4,1),(5,1)]) [iW 0,.str ⟨#[]⟩,iW 0,iW 0,.bool false,.bool false] [(0,x0),(1,x1)]).map AV.agg = some r):Aw Tryz.prog 51 [(0,x0),(1,x1)] = some r:=Eq.trans (by kernel_rfl) hr
theorem Q5 {x0 x1 x2 r:AV} (hr:(Bq (plc [(0,1),(1,1),(2,1),(3,1),(4,1),(5,1)]) [iW 0,.str ⟨#[]⟩,iW 0,iW 0,.bool false,.bool false] [(0,x0),(1,x1),(2,x2)]).map AV.agg = some r):Aw Tryz.prog 51 [(0,x0),(1,x1),(2,x2)] = some r:=Eq.trans (by kernel_rfl) hr
theorem NC {x0 x1 x2 x3 r:AV} (hr:(Bq (plc [(0,1),(1,1),(2,1),(3,1),(4,1),(5,1)]) [iW 0,.str ⟨#[]⟩,iW 0,iW 0,.bool false,.bool false] [(0,x0),(1,x1),(2,x2),(3,x3)]).map AV.agg = some r):Aw Tryz.prog 51 [(0,x0),(1,x1),(2,x2),(3,x3)] = some r:=Eq.trans (by kernel_rfl) hr
theorem Ln {x0 x1 x2 x4 x5 r:AV} (hr:(Bq (plc [(0,1),(1,1),(2,1),(3,1),(4,1),(5,1)]) [iW 0,.str ⟨#[]⟩,iW 0,iW 0,.bool false,.bool false] [(0,x0),(1,x1),(2,x2),(4,x4),(5,x5)]).map AV.agg = some r):Aw Tryz.prog 51 [(0,x0),(1,x1),(2,x2),(4,x4),(5,x5)] = some r:=Eq.trans (by kernel_rfl) hr
theorem fD {x0 r:AV} (hr:(Bq (plc [(0,1),(1,1),(2,1),(3,1),(4,1),(5,1)]) [iW 0,.str ⟨#[]⟩,iW 0,iW 0,.bool false,.bool false] [(0,x0)]).map AV.agg = some r):Aw Tryz.prog 51 [(0,x0)] = some r:=Eq.trans (by kernel_rfl) hr
theorem NB {x0 x1 x2 x3 r:AV} (hr:(Bq (plc [(0,1),(1,1),(2,1),(3,1)]) [iW 0,iW 0,iW 0,.rsl false true []] [(0,x0),(1,x1),(2,x2),(3,x3)]).map AV.agg = some r):Aw Tryz.prog 55 [(0,x0),(1,x1),(2,x2),(3,x3)] = some r:=Eq.trans (by kernel_rfl) hr
theorem bd59 { r:AV} (hr:(Bq (plc [(0,1),(1,1),(2,1),(3,1),(4,1),(5,1),(6,1)]) [iW 0,iW 0,iW 0,iW 0,iW 0,.rsl false true [],.rsl false true []] []).map AV.agg = some r):Aw Tryz.prog 59 [] = some r:=Eq.trans (by kernel_rfl) hr
theorem Q3 {x0 x1 x2 r:AV} (hr:(Bq (plc [(0,1),(1,1),(2,1),(3,1),(4,1),(5,1),(6,1)]) [iW 0,iW 0,iW 0,iW 0,iW 0,.rsl false true [],.rsl false true []] [(0,x0),(1,x1),(2,x2)]).map AV.agg = some r):Aw Tryz.prog 59 [(0,x0),(1,x1),(2,x2)] = some r:=Eq.trans (by kernel_rfl) hr
theorem G8 {x0 x1 x2 x3 x4 r:AV} (hr:(Bq (plc [(0,1),(1,1),(2,1),(3,1),(4,1),(5,1),(6,1)]) [iW 0,iW 0,iW 0,iW 0,iW 0,.rsl false true [],.rsl false true []] [(0,x0),(1,x1),(2,x2),(3,x3),(4,x4)]).map AV.agg = some r):Aw Tryz.prog 59 [(0,x0),(1,x1),(2,x2),(3,x3),(4,x4)] = some r:=Eq.trans (by kernel_rfl) hr
theorem NA {x0 x1 x2 x5 r:AV} (hr:(Bq (plc [(0,1),(1,1),(2,1),(3,1),(4,1),(5,1),(6,1)]) [iW 0,iW 0,iW 0,iW 0,iW 0,.rsl false true [],.rsl false true []] [(0,x0),(1,x1),(2,x2),(5,x5)]).map AV.agg = some r):Aw Tryz.prog 59 [(0,x0),(1,x1),(2,x2),(5,x5)] = some r:=Eq.trans (by kernel_rfl) hr
theorem N9 {x0 x1 x2 x6 r:AV} (hr:(Bq (plc [(0,1),(1,1),(2,1),(3,1),(4,1),(5,1),(6,1)]) [iW 0,iW 0,iW 0,iW 0,iW 0,.rsl false true [],.rsl false true []] [(0,x0),(1,x1),(2,x2),(6,x6)]).map AV.agg = some r):Aw Tryz.prog 59 [(0,x0),(1,x1),(2,x2),(6,x6)] = some r:=Eq.trans (by kernel_rfl) hr
theorem bd63 { r:AV} (hr:(Bq (plc [(0,1),(1,1),(2,1)]) [iW 0,iW 0,iW 0] []).map AV.agg = some r):Aw Tryz.prog 63 [] = some r:=Eq.trans (by kernel_rfl) hr
theorem HB {x0 x1 x2 r:AV} (hr:(Bq (plc [(0,1),(1,1),(2,1)]) [iW 0,iW 0,iW 0] [(0,x0),(1,x1),(2,x2)]).map AV.agg = some r):Aw Tryz.prog 63 [(0,x0),(1,x1),(2,x2)] = some r:=Eq.trans (by kernel_rfl) hr
theorem Q2 {x0 x1 x3 r:AV} (hr:(Bq (plc [(0,1),(1,1),(2,1),(3,1),(4,1)]) [.str ⟨#[]⟩,iW 0,iW 0,iW 0,iW 0] [(0,x0),(1,x1),(3,x3)]).map AV.agg = some r):Aw Tryz.prog 72 [(0,x0),(1,x1),(3,x3)] = some r:=Eq.trans (by kernel_rfl) hr
theorem fC {x0 r:AV} (hr:(Bq (plc [(0,1),(1,1),(2,1),(3,1),(4,1)]) [.str ⟨#[]⟩,iW 0,iW 0,iW 0,iW 0] [(0,x0)]).map AV.agg = some r):Aw Tryz.prog 72 [(0,x0)] = some r:=Eq.trans (by kernel_rfl) hr
theorem Xl {x0 x1 r:AV} (hr:(Bq (plc [(0,1),(1,1)]) [iW 0,iW 0] [(0,x0),(1,x1)]).map AV.agg = some r):Aw Tryz.prog 75 [(0,x0),(1,x1)] = some r:=Eq.trans (by kernel_rfl) hr
theorem Q1 {x0 x1 x2 r:AV} (hr:(Bq (plc [(0,1),(1,1),(2,3)]) [iW 0,iW 0,iW 0,iW 0,.str ⟨#[]⟩] [(0,x0),(1,x1),(2,x2)]).map AV.agg = some r):Aw Tryz.prog 78 [(0,x0),(1,x1),(2,x2)] = some r:=Eq.trans (by kernel_rfl) hr
theorem F8 {x0:Int} {S:St}:AN (A3 Tryz.prog 24 1 [(0,iW x0)] S) S = some (.rsl false true [[iW x0]],S):=by kernel_rfl
theorem EU {S:St}:AN (A3 Tryz.prog 24 0 [] S) S = some (.rsl false true [],S):=by kernel_rfl
theorem Vn {S:St}:AN (A3 Tryz.prog 25 0 [] S) S = some (.rsl false true [],S):=by kernel_rfl
theorem Vm {S:St}:AN (A3 Tryz.prog 26 0 [] S) S = some (.rsl false true [],S):=by kernel_rfl
theorem cK {S:St}:AN (A3 Tryz.prog 27 0 [] S) S = some (.rsl false true [],S):=by kernel_rfl
theorem PK {S:St}:AN (A3 Tryz.prog 34 0 [] S) S = some (.rsl false true [],S):=by kernel_rfl
theorem PH {S:St}:AN (A3 Tryz.prog 35 0 [] S) S = some (.rsl false true [],S):=by kernel_rfl
theorem PG {S:St}:AN (A3 Tryz.prog 36 0 [] S) S = some (.rsl false true [],S):=by kernel_rfl
theorem Vl {S:St}:AN (A3 Tryz.prog 52 0 [] S) S = some (.rsl false true [],S):=by kernel_rfl
theorem PE {S:St}:AN (A3 Tryz.prog 57 0 [] S) S = some (.rsl false true [],S):=by kernel_rfl
theorem e8 {x0 r:AV} {S:St} (hr:(Dh 4 0 [(0,x0)]).map (fun es=>mkS 4 es S) = some (r,S)):A3 Tryz.prog 25 1 [(0,x0)] S = some (r,S):=Eq.trans (by kernel_rfl) hr
theorem eZ {x0 r:AV} {S:St} (hr:(Dh 7 0 [(0,x0)]).map (fun es=>mkS 7 es S) = some (r,S)):A3 Tryz.prog 26 1 [(0,x0)] S = some (r,S):=Eq.trans (by kernel_rfl) hr
theorem Xk {x0 r:AV} {S:St} (hr:(Dh 4 0 [(0,x0)]).map (fun es=>mkS 4 es S) = some (r,S)):A3 Tryz.prog 27 1 [(0,x0)] S = some (r,S):=Eq.trans (by kernel_rfl) hr
theorem Qy {x0 r:AV} {S:St} (hr:(Dh 5 0 [(0,x0)]).map (fun es=>mkS 5 es S) = some (r,S)):A3 Tryz.prog 34 1 [(0,x0)] S = some (r,S):=Eq.trans (by kernel_rfl) hr
theorem Xj {x0 r:AV} {S:St} (hr:(Dh 2 0 [(0,x0)]).map (fun es=>mkS 2 es S) = some (r,S)):A3 Tryz.prog 35 1 [(0,x0)] S = some (r,S):=Eq.trans (by kernel_rfl) hr
theorem eY {x0 r:AV} {S:St} (hr:(Dh 5 0 [(0,x0)]).map (fun es=>mkS 5 es S) = some (r,S)):A3 Tryz.prog 36 1 [(0,x0)] S = some (r,S):=Eq.trans (by kernel_rfl) hr
theorem eX {x0 r:AV} {S:St} (hr:(Dh 6 0 [(0,x0)]).map (fun es=>mkS 6 es S) = some (r,S)):A3 Tryz.prog 52 1 [(0,x0)] S = some (r,S):=Eq.trans (by kernel_rfl) hr
theorem eW {x0 x1 x2 x3 x4 r:AV} {S:St} (hr:(Dh 6 0 [(0,x0),(1,x1),(2,x2),(3,x3),(4,x4)]).map (fun es=>mkS 6 es S) = some (r,S)):A3 Tryz.prog 52 5 [(0,x0),(1,x1),(2,x2),(3,x3),(4,x4)] S = some (r,S):=Eq.trans (by kernel_rfl) hr
theorem Xi {x0 r:AV} {S:St} (hr:(Dh 3 0 [(0,x0)]).map (fun es=>mkS 3 es S) = some (r,S)):A3 Tryz.prog 57 1 [(0,x0)] S = some (r,S):=Eq.trans (by kernel_rfl) hr
theorem bt26 {a:AV} {S:St}:A3 Tryz.prog 26 1 [(0,a)] S = (Dh 7 0 [(0,a)]).map fun es=>mkS 7 es S:=by kernel_rfl
theorem bt27 {a:AV} {S:St}:A3 Tryz.prog 27 1 [(0,a)] S = (Dh 4 0 [(0,a)]).map fun es=>mkS 4 es S:=by kernel_rfl
theorem OI (run:FuncId→List AV→St→Option (AV×St)) (cap args:List AV) (S:St):AH (cfg NN) run 133 (.fn 101 cap) args S = Bt run 101 (args++cap) S:=by kernel_rfl
theorem OH (run:FuncId→List AV→St→Option (AV×St)) (cap args:List AV) (S:St):AH (cfg NN) run 107 (.fn 133 cap) args S = Bt run 133 (args++cap) S:=by kernel_rfl
theorem TW (run:FuncId→List AV→St→Option (AV×St)) (cap args:List AV) (S:St):AH (cfg NN) run 107 (.fn 108 cap) args S = Bt run 108 (args++cap) S:=by kernel_rfl
theorem TV (run:FuncId→List AV→St→Option (AV×St)) (cap args:List AV) (S:St):AH (cfg NN) run 107 (.fn 133 cap) args S = Bt run 133 (args++cap) S:=by kernel_rfl
theorem WW (run:FuncId→List AV→St→Option (AV×St)) (cap args:List AV) (S:St):AH (cfg NN) run 125 (.fn 85 cap) args S = Bt run 85 (args++cap) S:=by kernel_rfl
theorem TU (run:FuncId→List AV→St→Option (AV×St)) (cap args:List AV) (S:St):AH (cfg NN) run 133 (.fn 131 cap) args S = Bt run 131 (args++cap) S:=by kernel_rfl
theorem TT (run:FuncId→List AV→St→Option (AV×St)) (cap args:List AV) (S:St):AH (cfg NN) run 137 (.fn 114 cap) args S = Bt run 114 (args++cap) S:=by kernel_rfl
theorem TS (run:FuncId→List AV→St→Option (AV×St)) (cap args:List AV) (S:St):AH (cfg NN) run 137 (.fn 136 cap) args S = Bt run 136 (args++cap) S:=by kernel_rfl
theorem TR (run:FuncId→List AV→St→Option (AV×St)) (cap args:List AV) (S:St):AH (cfg NN) run 138 (.fn 116 cap) args S = Bt run 116 (args++cap) S:=by kernel_rfl
theorem TQ (run:FuncId→List AV→St→Option (AV×St)) (cap args:List AV) (S:St):AH (cfg NN) run 138 (.fn 117 cap) args S = Bt run 117 (args++cap) S:=by kernel_rfl
theorem TP (run:FuncId→List AV→St→Option (AV×St)) (cap args:List AV) (S:St):AH (cfg NN) run 171 (.fn 172 cap) args S = Bt run 172 (args++cap) S:=by kernel_rfl
theorem TO (run:FuncId→List AV→St→Option (AV×St)) (cap args:List AV) (S:St):AH (cfg NN) run 200 (.fn 175 cap) args S = Bt run 175 (args++cap) S:=by kernel_rfl
theorem TN (run:FuncId→List AV→St→Option (AV×St)) (cap args:List AV) (S:St):AH (cfg NN) run 201 (.fn 202 cap) args S = Bt run 202 (args++cap) S:=by kernel_rfl
theorem TM (run:FuncId→List AV→St→Option (AV×St)) (cap args:List AV) (S:St):AH (cfg NN) run 213 (.fn 214 cap) args S = Bt run 214 (args++cap) S:=by kernel_rfl
theorem RQ (run:FuncId→List AV→St→Option (AV×St)) (cap args:List AV) (S:St):AH (cfg NN) run 54 (.fn 55 cap) args S = Bt run 55 (args++cap) S:=by kernel_rfl
theorem Ba (run:FuncId→List AV→St→Option (AV×St)) (cap args:List AV) (S:St):AH (cfg NN) run 83 (.fn 121 cap) args S = Bt run 121 (args++cap) S:=by kernel_rfl
theorem YU (run:FuncId→List AV→St→Option (AV×St)) (cap args:List AV) (S:St):AH (cfg NN) run 86 (.fn 87 cap) args S = Bt run 87 (args++cap) S:=by kernel_rfl
theorem YT (run:FuncId→List AV→St→Option (AV×St)) (cap args:List AV) (S:St):AH (cfg NN) run 88 (.fn 89 cap) args S = Bt run 89 (args++cap) S:=by kernel_rfl
theorem LA (run:FuncId→List AV→St→Option (AV×St)) (cap args:List AV) (S:St):AH (cfg NN) run 31 (.fn 60 cap) args S = Bc run 60 (args++cap) S:=by kernel_rfl
theorem Qr (run:FuncId→List AV→St→Option (AV×St)) (cap args:List AV) (S:St):AH (cfg NN) run 61 (.fn 65 cap) args S = Bc run 65 (args++cap) S:=by kernel_rfl
theorem L9 (run:FuncId→List AV→St→Option (AV×St)) (cap args:List AV) (S:St):AH (cfg NN) run 31 (.fn 60 cap) args S = Bc run 60 (args++cap) S:=by kernel_rfl
theorem Qq (run:FuncId→List AV→St→Option (AV×St)) (cap args:List AV) (S:St):AH (cfg NN) run 61 (.fn 67 cap) args S = Bc run 67 (args++cap) S:=by kernel_rfl
theorem YS (run:FuncId→List AV→St→Option (AV×St)) (cap args:List AV) (S:St):AH (cfg NN) run 31 (.fn 60 cap) args S = Bc run 60 (args++cap) S:=by kernel_rfl
theorem L8 (run:FuncId→List AV→St→Option (AV×St)) (cap args:List AV) (S:St):AH (cfg NN) run 31 (.fn 60 cap) args S = Bc run 60 (args++cap) S:=by kernel_rfl
theorem Qp (run:FuncId→List AV→St→Option (AV×St)) (cap args:List AV) (S:St):AH (cfg NN) run 61 (.fn 69 cap) args S = Bc run 69 (args++cap) S:=by kernel_rfl
theorem L6 (run:FuncId→List AV→St→Option (AV×St)) (cap args:List AV) (S:St):AH (cfg NN) run 31 (.fn 60 cap) args S = Bc run 60 (args++cap) S:=by kernel_rfl
theorem Qo (run:FuncId→List AV→St→Option (AV×St)) (cap args:List AV) (S:St):AH (cfg NN) run 61 (.fn 39 cap) args S = Bc run 39 (args++cap) S:=by kernel_rfl
theorem L1 (run:FuncId→List AV→St→Option (AV×St)) (cap args:List AV) (S:St):AH (cfg NN) run 31 (.fn 60 cap) args S = Bc run 60 (args++cap) S:=by kernel_rfl
theorem Qn (run:FuncId→List AV→St→Option (AV×St)) (cap args:List AV) (S:St):AH (cfg NN) run 61 (.fn 74 cap) args S = Bc run 74 (args++cap) S:=by kernel_rfl
theorem YR (run:FuncId→List AV→St→Option (AV×St)) (cap args:List AV) (S:St):AH (cfg NN) run 61 (.fn 62 cap) args S = Bc run 62 (args++cap) S:=by kernel_rfl
theorem Ly (run:FuncId→List AV→St→Option (AV×St)) (cap args:List AV) (S:St):AH (cfg NN) run 31 (.fn 60 cap) args S = Bc run 60 (args++cap) S:=by kernel_rfl
theorem Qm (run:FuncId→List AV→St→Option (AV×St)) (cap args:List AV) (S:St):AH (cfg NN) run 61 (.fn 41 cap) args S = Bc run 41 (args++cap) S:=by kernel_rfl
theorem Ql (run:FuncId→List AV→St→Option (AV×St)) (cap args:List AV) (S:St):AH (cfg NN) run 31 (.fn 32 cap) args S = Bc run 32 (args++cap) S:=by kernel_rfl
theorem Qk (run:FuncId→List AV→St→Option (AV×St)) (cap args:List AV) (S:St):AH (cfg NN) run 31 (.fn 42 cap) args S = Bc run 42 (args++cap) S:=by kernel_rfl
theorem OF (n:Int) (S:St):Dw Tryz.prog 172 3 (.int .u64 n) S = some (iW (wi .i64 n)):=by kernel_rfl
theorem WU (n:Int) (S:St):Dw Tryz.prog 201 5 (.int .u64 n) S = some (.int .u8 (wi .u8 n)):=by kernel_rfl
theorem KY (n:Int) (S:St):Dw Tryz.prog 3 172 (iW n) S = some (.int .u64 (wi .u64 n)):=by kernel_rfl
theorem Ik (n:Int) (S:St):Dw Tryz.prog 5 199 (.int .u8 n) S = some (.int .u32 (wi .u32 n)):=by kernel_rfl
theorem WS (n:Int) (S:St):Dw Tryz.prog 5 2 (.int .u8 n) S = some (iW (wi .i64 n)):=by kernel_rfl
theorem eS (n:Int) (S:St):Dw Tryz.prog 5 3 (.int .u8 n) S = some (iW (wi .i64 n)):=by kernel_rfl
theorem jZ {x:Ai} {cs:List AV} (h:cs.length = 7) (h2:∀ (o:Nat) (z:Int),(Enc.cs false x)[o]? = some (AV.int .i64 z)→cs[o]? = some (AV.int .i64 z)):∃ v0 v1:AV,cs = [iW x.Kind,iW x.View,iW x.From,iW x.Slot,iW x.Value,v0,v1]:=by
  match cs,h with
  | [c0,c1,c2,c3,c4,c5,c6],_=>
    have e0:=h2 0 _ rfl
    simp only [List.getElem?_cons_zero,List.getElem?_cons_succ,Option.some.injEq] at e0
    subst e0
    have e1:=h2 1 _ rfl
    simp only [List.getElem?_cons_zero,List.getElem?_cons_succ,Option.some.injEq] at e1
    subst e1
    have e2:=h2 2 _ rfl
    simp only [List.getElem?_cons_zero,List.getElem?_cons_succ,Option.some.injEq] at e2
    subst e2
    have e3:=h2 3 _ rfl
    simp only [List.getElem?_cons_zero,List.getElem?_cons_succ,Option.some.injEq] at e3
    subst e3
    have e4:=h2 4 _ rfl
    simp only [List.getElem?_cons_zero,List.getElem?_cons_succ,Option.some.injEq] at e4
    subst e4
    exact ⟨_,_,rfl⟩
theorem jV (S:St) (n:Nat) (h:(n + 1) * (16 + 1)≤70368744177664):Hh Tryz.prog 174 (iW n) (iW n) S = some (.bsl S.length 0 n n true,S++[⟨1,List.replicate n [.str ⟨#[]⟩],true⟩]):=
  X0 (e:=9) (sz:=1) (by_:=16) (z:=[.str ⟨#[]⟩]) (z0:=[.str ⟨#[]⟩]) (by kernel_rfl) (by kernel_rfl) (by kernel_rfl) rfl rfl (by omega) rfl rfl h
theorem FY (b i o n L:Nat):D1 Tryz.prog .eql 68 (.bp b i o n L) .nilp = some (.bool false):=by kernel_rfl
theorem Fj:D1 Tryz.prog .eql 68 (.nilp) .nilp = some (.bool true):=by kernel_rfl
theorem c7 (l:Bool) (cs:List AV):D1 Tryz.prog .eql 68 (.rp l cs) .nilp = some (.bool false):=by kernel_rfl
theorem plt2 {l:Bool} (S:St) (x:Int):Tr.ow S [] (Enc.cs l x) x:=D6 x
theorem Oe {S:St} {l:Bool} (x:Af):Tr.ow S [] (Enc.cs l x) x:=(Da D6 (Da D6 (Da D6 D6)) _:Tr.ow (α:=Int×Int×Int×Int) S [] (Enc.cs l _) (x.Id,x.View,x.Start,x.Done))
theorem ZT {l:Bool} (S:St) (x:Af):Tr.ow S [] (Enc.cs l x) x:=Oe x
theorem cY {S:St} {l:Bool} (x:TOp):Tr.ow S [] (Enc.cs l x) x:=(Da D6 (Da LU (Da D6 (Da D6 (Da QV QV)))) _:Tr.ow (α:=Int×Str×Int×Int×Bool×Bool) S [] (Enc.cs l _) (x.Kind,x.Path,x.Data,x.Version,x.Seq,x.Own))
theorem jR {l:Bool} (S:St) (x:TOp):Tr.ow S [] (Enc.cs l x) x:=cY x
theorem V4 {S:St} {l:Bool} (x:AP):Tr.ow S [] (Enc.cs l x) x:=(Da D6 (Da D6 D6) _:Tr.ow (α:=Int×Int×Int) S [] (Enc.cs l _) (x.Slot,x.View,x.Value))
theorem jQ {l:Bool} (S:St) (x:AP):Tr.ow S [] (Enc.cs l x) x:=V4 x
theorem SV {S:St} {l:Bool} (x:Az):Tr.ow S [] (Enc.cs l x) x:=(Da LU (Da D6 (Da D6 (Da D6 D6))) _:Tr.ow (α:=Str×Int×Int×Int×Int) S [] (Enc.cs l _) (x.Path,x.Data,x.Version,x.Owner,x.Next))
theorem jP {l:Bool} (S:St) (x:Az):Tr.ow S [] (Enc.cs l x) x:=SV x
theorem Oc {S:St} {l:Bool} (x:Au):Tr.ow S [] (Enc.cs l x) x:=(Da D6 D6 _:Tr.ow (α:=Int×Int) S [] (Enc.cs l _) (x.Id,x.Until))
theorem jO {l:Bool} (S:St) (x:Au):Tr.ow S [] (Enc.cs l x) x:=Oc x
theorem I5:Rd (α:=Af) 3 (fun x=>AV.int .i64 x.Done):=(NW (α:=Af) (β:=Int×Int×Int×Int) (f:=fun x=>(x.Id,x.View,x.Start,x.Done)) (Gz (Gz (Gz JI))) rfl)
theorem Yd:Rd (α:=Af) 0 (fun x=>AV.int .i64 x.Id):=(NW (α:=Af) (β:=Int×Int×Int×Int) (f:=fun x=>(x.Id,x.View,x.Start,x.Done)) (MZ JI) rfl)
theorem PC:Rd (α:=Af) 2 (fun x=>AV.int .i64 x.Start):=(NW (α:=Af) (β:=Int×Int×Int×Int) (f:=fun x=>(x.Id,x.View,x.Start,x.Done)) (Gz (Gz (MZ JI))) rfl)
theorem LM:Rd (α:=Af) 1 (fun x=>AV.int .i64 x.View):=(NW (α:=Af) (β:=Int×Int×Int×Int) (f:=fun x=>(x.Id,x.View,x.Start,x.Done)) (Gz (MZ JI)) rfl)
theorem Na:Rd (α:=Az) 2 (fun x=>AV.int .i64 x.Version):=(NW (α:=Az) (β:=Str×Int×Int×Int×Int) (f:=fun x=>(x.Path,x.Data,x.Version,x.Owner,x.Next)) (Gz (Gz (MZ JI))) rfl)
theorem XZ (x0:Int) (x1:Int) (x2:Int) (y0:Int) (y1:Int) (y2:Int):HA Tryz.prog .neq 63 (.agg [iW x0,iW x1,iW x2]) (.agg [iW y0,iW y1,iW y2]) = some (.bool (!((x0 == y0) && ((x1 == y1) && ((x2 == y2) && true))))):=by kernel_rfl
theorem XY (x0:Str) (x1:Int) (x2:Int) (x3:Int) (x4:Int) (y0:Str) (y1:Int) (y2:Int) (y3:Int) (y4:Int):HA Tryz.prog .neq 72 (.agg [AY x0,iW x1,iW x2,iW x3,iW x4]) (.agg [AY y0,iW y1,iW y2,iW y3,iW y4]) = some (.bool (!((x0 == y0) && ((x1 == y1) && ((x2 == y2) && ((x3 == y3) && ((x4 == y4) && true))))))):=
  Eq.trans (b:=some (.bool (!(((ByteArray.mk x0.toArray).toList == (ByteArray.mk y0.toArray).toList) && ((x1 == y1) && ((x2 == y2) && ((x3 == y3) && ((x4 == y4) && true)))))))) (by kernel_rfl) (by simp only [LF])
theorem XX (x0:Int) (x1:Int) (y0:Int) (y1:Int):HA Tryz.prog .neq 75 (.agg [iW x0,iW x1]) (.agg [iW y0,iW y1]) = some (.bool (!((x0 == y0) && ((x1 == y1) && true)))):=by kernel_rfl
theorem XW (x0:Int) (x1:Int) (x2:Int) (x3:Int) (x4:Str) (y0:Int) (y1:Int) (y2:Int) (y3:Int) (y4:Str):HA Tryz.prog .neq 78 (.agg [iW x0,iW x1,iW x2,iW x3,AY x4]) (.agg [iW y0,iW y1,iW y2,iW y3,AY y4]) = some (.bool (!((x0 == y0) && ((x1 == y1) && (((x2 == y2) && ((x3 == y3) && ((x4 == y4) && true))) && true))))):=
  Eq.trans (b:=some (.bool (!((x0 == y0) && ((x1 == y1) && (((x2 == y2) && ((x3 == y3) && (((ByteArray.mk x4.toArray).toList == (ByteArray.mk y4.toArray).toList) && true))) && true)))))) (by kernel_rfl) (by simp only [LF])
theorem Eu {S:St} {ids:List Nat} {cs:List AV} {x:Ab} (h:Tr.ow S ids cs x):∃ v0 v1 v2 v3:AV,cs = [iW x.F,v0,v1,v2,v3]:=by
  obtain ⟨_,_,_,_,rfl,_,rfl,⟨rfl,rfl⟩,⟨_,_,_,_,rfl,_,rfl,⟨v0,rfl,_⟩,⟨_,_,_,_,rfl,_,rfl,⟨v1,rfl,_⟩,⟨_,_,_,_,rfl,_,rfl,⟨v2,rfl,_⟩,⟨v3,rfl,_⟩⟩⟩⟩⟩:=h
  exact ⟨_,_,_,_,rfl⟩
theorem J8 {S:St} {ids:List Nat} {cs:List AV} {x:Ac} (h:Tr.ow S ids cs x):∃ v0 v1 v2 v3:AV,cs = [iW x.Code,iW x.Cluster.F,v0,v1,v2,v3]:=by
  obtain ⟨_,_,_,_,rfl,_,rfl,⟨rfl,rfl⟩,⟨_,_,_,_,rfl,_,rfl,⟨rfl,rfl⟩,⟨_,_,_,_,rfl,_,rfl,⟨v0,rfl,_⟩,⟨_,_,_,_,rfl,_,rfl,⟨v1,rfl,_⟩,⟨_,_,_,_,rfl,_,rfl,⟨v2,rfl,_⟩,⟨v3,rfl,_⟩⟩⟩⟩⟩⟩:=h
  exact ⟨_,_,_,_,rfl⟩
theorem iM {S:St} {ids:List Nat} {cs:List AV} {x:Ag} (h:Tr.ow S ids cs x):∃ v0:AV,cs = [iW x.Client,iW x.Number,iW x.Time,v0]:=by
  obtain ⟨_,_,_,_,rfl,_,rfl,⟨rfl,rfl⟩,⟨_,_,_,_,rfl,_,rfl,⟨rfl,rfl⟩,⟨_,_,_,_,rfl,_,rfl,⟨rfl,rfl⟩,⟨v0,rfl,_⟩⟩⟩⟩:=h
  exact ⟨_,rfl⟩
theorem iL {S:St} {ids:List Nat} {cs:List AV} {x:Ai} (h:Tr.ow S ids cs x):∃ v0 v1:AV,cs = [iW x.Kind,iW x.View,iW x.From,iW x.Slot,iW x.Value,v0,v1]:=by
  obtain ⟨_,_,_,_,rfl,_,rfl,⟨rfl,rfl⟩,⟨_,_,_,_,rfl,_,rfl,⟨rfl,rfl⟩,⟨_,_,_,_,rfl,_,rfl,⟨rfl,rfl⟩,⟨_,_,_,_,rfl,_,rfl,⟨rfl,rfl⟩,⟨_,_,_,_,rfl,_,rfl,⟨rfl,rfl⟩,⟨_,_,_,_,rfl,_,rfl,⟨v0,rfl,_⟩,⟨v1,rfl,_⟩⟩⟩⟩⟩⟩⟩:=h
  exact ⟨_,_,rfl⟩
theorem iK:Tryz.prog.underlying 24 = some (.slice 2):=by kernel_rfl
theorem iJ:Tryz.prog.underlying 25 = some (.slice 43):=by kernel_rfl
theorem iI:Tryz.prog.underlying 26 = some (.slice 59):=by kernel_rfl
theorem Zv:Tryz.prog.underlying 34 = some (.slice 72):=by kernel_rfl
theorem Zu:Tryz.prog.underlying 35 = some (.slice 75):=by kernel_rfl
theorem Zt:Tryz.prog.underlying 36 = some (.slice 78):=by kernel_rfl
theorem iH:Tryz.prog.underlying 52 = some (.slice 51):=by kernel_rfl
theorem iG:Tryz.prog.underlying 57 = some (.slice 63):=by kernel_rfl
theorem SE (n:Int):Up (α:=Af) 3 (iW n) (fun x=>{ x with Done:=n }):=(LE_ (α:=Af) (β:=Int×Int×Int×Int) (f:=fun x=>(x.Id,x.View,x.Start,x.Done)) (v:=fun x=>{ x with Done:=n }) (F6 (F6 (F6 (Ix (n:=n))))) rfl (fun _=>rfl))
theorem Hi (n:Int):Up (α:=Af) 2 (iW n) (fun x=>{ x with Start:=n }):=(LE_ (α:=Af) (β:=Int×Int×Int×Int) (f:=fun x=>(x.Id,x.View,x.Start,x.Done)) (v:=fun x=>{ x with Start:=n }) (F6 (F6 (MR (Ix (n:=n))))) rfl (fun _=>rfl))
theorem SD (n:Int):Up (α:=Af) 1 (iW n) (fun x=>{ x with View:=n }):=(LE_ (α:=Af) (β:=Int×Int×Int×Int) (f:=fun x=>(x.Id,x.View,x.Start,x.Done)) (v:=fun x=>{ x with View:=n }) (F6 (MR (Ix (n:=n)))) rfl (fun _=>rfl))
theorem SC (n:Int):Up (α:=Az) 1 (iW n) (fun x=>{ x with Data:=n }):=(LE_ (α:=Az) (β:=Str×Int×Int×Int×Int) (f:=fun x=>(x.Path,x.Data,x.Version,x.Owner,x.Next)) (v:=fun x=>{ x with Data:=n }) (F6 (MR (Ix (n:=n)))) rfl (fun _=>rfl))
theorem MS (n:Int):Up (α:=Az) 2 (iW n) (fun x=>{ x with Version:=n }):=(LE_ (α:=Az) (β:=Str×Int×Int×Int×Int) (f:=fun x=>(x.Path,x.Data,x.Version,x.Owner,x.Next)) (v:=fun x=>{ x with Version:=n }) (F6 (F6 (MR (Ix (n:=n))))) rfl (fun _=>rfl))
theorem Pm (n:Int):Up (α:=Au) 1 (iW n) (fun x=>{ x with Until:=n }):=(LE_ (α:=Au) (β:=Int×Int) (f:=fun x=>(x.Id,x.Until)) (v:=fun x=>{ x with Until:=n }) (F6 (Ix (n:=n))) rfl (fun _=>rfl))
def m4 (a0:List U8):Bool:=decide ((a0.length:Int) > 1048576)
theorem w4 {d:Nat} (hd:1≤d) (k0:Bool) (a0:List U8):Fit (R NN d 4 [.rsl k0 false (a0.map (Enc.cs k0))] []) (some (m4 a0)) PB:=by
  obtain ⟨d,rfl,g⟩:=up hd
  refine AD (t4 NN d _) ?_
  unfold b4 m4
  exact AL<|q_p fr<|Am (Ad rfl) rfl
def m9 (a0:List U8) (a1:Int) (a2:Int):Option (Int):=bif decide (a2≤1) then some 0 else bif (a0.length:Int) == 0 then (I3 (wi .i64 (a1 * 7)) a2).bind fun q1=>some q1 else (I3 a1 (a0.length:Int)).bind fun q2=>(Av a0 q2).bind fun x1=>(PD .i64 a1 (a0.length:Int)).bind fun q3=>( bif decide (a2 > 200) then (I3 (wi .i64 (a1 + 1)) (a0.length:Int)).bind fun q4=>(Av a0 q4).bind fun x2=>some (LO.norm (wi .i64 ((wi .i64 ((wi .i64 ((wi .i64 x1.v) + (wi .i64 (q3 * 3)))) * 251)) + (wi .i64 x2.v)))) else some (LO.norm (wi .i64 ((wi .i64 x1.v) + (wi .i64 (q3 * 3)))))).bind (Ak (fun s2=>(I3 s2 a2).bind fun q5=>some q5) (fun i1 s2=>none) (fun s2=>some 0))
theorem w9 {d:Nat} (hd:1≤d) (k0:Bool) (a0:List U8) (a1:Int) (a2:Int):Fit (R NN d 9 [.rsl k0 false (a0.map (Enc.cs k0)),iW a1,iW a2] []) (m9 a0 a1 a2) PI:=by
  obtain ⟨d,rfl,g⟩:=up hd
  refine AD (t9 NN d _ _ _) ?_
  unfold b9 m9
  refine AL<|q_p fr<|q_i ?_ ?_
  ·exact Am (Ad rfl) rfl
  ·refine q_p fr<|q_i ?_ ?_
   ·exact q_p fr<|JK fun q1 hq1=>Am (Ad rfl) rfl
   ·refine JK fun q2 hq2=>Bf rfl fun x1 hx1=>q_p fr<|q_p (fun _=>WS _ _)<|cO fun q3 hq3=>q_p fr<|q_p fr<|Bo (A:=fun (s:Int)=>[iW s]) (B:=fun s=>[]) ?_ ?_ ?_ ?_
    ·exact q_p fr<|q_i (q_p fr<|q_p fr<|JK fun q4 hq4=>Bf rfl fun x2 hx2=>q_p fr<|q_p (fun _=>WS _ _)<|q_p fr<|Ae 0 rr)<|Ae 0 rr
    ·exact fun s2=>JK fun q5 hq5=>Am (Ad rfl) rfl
    ·exact fun i1 s2=>A4
    ·exact fun s2=>Am (Ad rfl) rfl
def m56 (a0:Int) (a1:Int) (a2:Int):Bool:=bif decide (a1≤a0) then decide (a0≤a2) else false
theorem w56 {d:Nat} (hd:1≤d) (a0:Int) (a1:Int) (a2:Int):Fit (R NN d 56 [iW a0,iW a1,iW a2] []) (some (m56 a0 a1 a2)) PB:=by
  obtain ⟨d,rfl,g⟩:=up hd
  refine AD (t56 NN d _ _ _) ?_
  unfold b56 m56
  exact q_p fr<|Vu (fun h1=>q_p fr<|Am (Ad rfl) rfl) fun h1=>Am (Ad rfl) rfl
def m27 (a0:Int):Bool:=(m56 a0 1 2)
theorem w27 {d:Nat} (hd:2≤d) (a0:Int):Fit (R NN d 27 [iW a0] []) (some (m27 a0)) PB:=by
  obtain ⟨d,rfl,g⟩:=up hd
  refine AD (t27 NN d _) ?_
  unfold b27 m27
  exact AS (aF3 (Ad rfl) (Ad rfl) (Ad rfl) fun l0_ l1_ l2_=>w56 (by omega) a0 1 2)<|Am (Ad rfl) rfl
def m57 (a0:Int):Int:=wi .i64 ((wi .i64 (3 * a0)) + 1)
theorem w57 {d:Nat} (hd:1≤d) (a0:Int):Fit (R NN d 57 [iW a0] []) (some (m57 a0)) PI:=by
  obtain ⟨d,rfl,g⟩:=up hd
  refine AD (t57 NN d _) ?_
  unfold b57 m57
  exact q_p fr<|q_p fr<|Am (Ad rfl) rfl
def m78 (a0:Int) (a1:Int):Bool:=(m56 a1 1 (m57 a0))
theorem w78 {d:Nat} (hd:2≤d) (a0:Int) (a1:Int):Fit (R NN d 78 [iW a0,iW a1] []) (some (m78 a0 a1)) PB:=by
  obtain ⟨d,rfl,g⟩:=up hd
  refine AD (t78 NN d _ _) ?_
  unfold b78 m78
  exact AS (aF1 (Ad rfl) fun l0_=>w57 (by omega) a0)<|AS (aF3 (Ad rfl) (Ad rfl) (Ad rfl) fun l0_ l1_ l2_=>w56 (by omega) a1 1 (m57 a0))<|Am (Ad rfl) rfl
def ID (a0:Int) (a1:List Int) (s1:Int×Int):Option (LO (Int×Int)):=bif decide (s1.2 < (a1.length:Int)) then ( (Av a1 s1.2).bind fun x1=>bif !(m78 a0 x1) then some (LO.ret 3) else bif decide (s1.2 > 0) then (Av a1 (wi .i64 (s1.2 - 1))).bind fun x2=>bif decide (x1≤x2) then some (LO.ret 1) else some (LO.norm s1.1) else some (LO.norm s1.1)).bind (Ak (fun s3=>some (LO.norm (s3,wi .i64 (s1.2 + 1)))) (fun i1 s3=>some (LO.exit i1 (s3,s1.2))) (fun s3=>some (LO.ret (s3,s1.2)))) else some (LO.exit 0 (s1.1,s1.2))
def m45 (a0:Int) (a1:List Int):Option (Int):=(AB (ID a0 a1) NN (0,0)).bind (Ak (fun _=>none) (fun i2 s4=>if i2 = 0 then some 0 else none) (fun s4=>some s4.1))
theorem w45 {d:Nat} (hd:3≤d) (a0:Int) (k1:Bool) (a1:List Int):Fit (R NN d 45 [iW a0,.rsl k1 false (a1.map (Enc.cs k1))] []) (m45 a0 a1) PI:=by
  obtain ⟨d,rfl,g⟩:=up hd
  refine AD (t45 NN d _ _) ?_
  unfold b45 m45
  refine AL<|CU (A:=fun (s:Int×Int)=>[iW s.1,iW s.2]) (B:=fun s=>[]) 0 rr ?_ ?_ ?_
  ·intro s1
   unfold ZD ID
   refine q_p fr<|q_i ?_ ?_
   ·refine Bo (A:=fun (s:Int)=>[iW s]) (B:=fun s=>[]) ?_ ?_ ?_ ?_
    ·refine Bf rfl fun x1 hx1=>q_p fr<|AS (aF2 (Ad rfl) (Ad rfl) fun l0_ l1_=>w78 (by omega) a0 x1)<|q_p fr<|q_i ?_ ?_
     ·exact Ar 0 rr
     ·refine q_p fr<|q_k ?_ ?_
      ·exact q_p fr<|Bf rfl fun x2 hx2=>q_p fr<|q_p fr<|q_i (Ar 0 rr)<|Ae 0 rr
      ·first | refine CZ ?_ | skip
       exact Ae 0 rr
    ·exact fun s3=>q_p fr<|Ae 0 rr
    ·exact fun i1 s3=>Ax 0 rr
    ·exact fun s3=>Ar 0 rr
   ·exact Ax 0 rr
  ·exact fun i2 s4=>q_n (Am (Ad rfl) rfl)<|A4
  ·exact fun s4=>Am (Ad rfl) rfl
def m28 (a0:Int) (a1:List Int):Option (Int):=bif decide ((a1.length:Int) > a0) then some 2 else (m45 a0 a1).bind fun y1=>some y1
theorem w28 {d:Nat} (hd:4≤d) (a0:Int) (k1:Bool) (a1:List Int):Fit (R NN d 28 [iW a0,.rsl k1 false (a1.map (Enc.cs k1))] []) (m28 a0 a1) PI:=by
  obtain ⟨d,rfl,g⟩:=up hd
  refine AD (t28 NN d _ _) ?_
  unfold b28 m28
  exact AL<|q_p fr<|q_i (Am (Ad rfl) rfl)<|A7 (aF2 (Ad rfl) As fun l0_ l1_=>w45 (by omega) a0 l1_ a1) fun y1 hy1=>Am (Ad rfl) rfl
def m29 (a0:List Int):Option (List Int):=Bw 8 [] a0
theorem w29 {d:Nat} (hd:1≤d) (k0:Bool) (a0:List Int):Fit (R NN d 29 [.rsl k0 false (a0.map (Enc.cs k0))] []) (m29 a0) (P1 (T:=List Int) Lr):=by
  obtain ⟨d,rfl,g⟩:=up hd
  rw [t29]
  refine (?_:Okh [] (fun S=>b29 (cfg NN) (R NN d) (.rsl k0 false (a0.map (Enc.cs k0))) S) _ _) [] HP.nil
  unfold b29 m29
  refine Hq (e:=2) iK (fun h S=>?_) ?_
  · subst h
    refine Eq.symm (show pq (AN (A3 _ _ _ _ S) S) _ = _ from ?_)
    rw [EU]; rfl
  refine q_q (fun _=>EU) ?_
  refine DN (α:=Int) false ?_
  rw [show Bw 8 ([]:List Int) a0 = (Bw 8 [] a0).bind some from by cases Bw 8 ([]:List Int) a0 <;> rfl]
  refine DO (ys:=a0) 0 rfl rfl (fun _ _=>rfl) fun v1 z1 hz1=>?_
  exact IZ (JA 0 rfl plt2) rfl
def VK (a0:List Int) (a1:Int) (s1:Int×Int):Option (LO (Int×Int)):=bif decide (s1.2 < (a0.length:Int)) then (Av a0 s1.2).bind fun x1=>bif a1 == x1 then some (LO.ret (s1.2,s1.2)) else some (LO.norm (s1.1,wi .i64 (s1.2 + 1))) else some (LO.exit 0 (s1.1,s1.2))
def m90 (a0:List Int) (a1:Int):Option (Int):=(AB (VK a0 a1) NN (0,0)).bind (Ak (fun _=>none) (fun i1 s2=>if i1 = 0 then some (-1) else none) (fun s2=>some s2.1))
theorem w90 {d:Nat} (hd:1≤d) (k0:Bool) (a0:List Int) (a1:Int):Fit (R NN d 90 [.rsl k0 false (a0.map (Enc.cs k0)),iW a1] []) (m90 a0 a1) PI:=by
  obtain ⟨d,rfl,g⟩:=up hd
  refine AD (t90 NN d _ _) ?_
  unfold b90 m90
  refine AL<|CU (A:=fun (s:Int×Int)=>[iW s.1,iW s.2]) (B:=fun s=>[]) 0 rr ?_ ?_ ?_
  ·intro s1
   unfold Zz VK
   exact q_p fr<|q_i (Bf rfl fun x1 hx1=>q_p fr<|q_p fr<|q_i (Ar 0 rr)<|q_p fr<|Ae 0 rr)<|Ax 0 rr
  ·exact fun i1 s2=>q_n (Am (Ad rfl) rfl)<|A4
  ·exact fun s2=>Am (Ad rfl) rfl
def m58 (a0:List Int) (a1:Int):Option (Bool):=(m90 a0 a1).bind fun y1=>some (decide (y1 ≥ 0))
theorem w58 {d:Nat} (hd:2≤d) (k0:Bool) (a0:List Int) (a1:Int):Fit (R NN d 58 [.rsl k0 false (a0.map (Enc.cs k0)),iW a1] []) (m58 a0 a1) PB:=by
  obtain ⟨d,rfl,g⟩:=up hd
  refine AD (t58 NN d _ _) ?_
  unfold b58 m58
  exact A7 (aF2 As (Ad rfl) fun l0_ l1_=>w90 (by omega) l0_ a0 a1) fun y1 hy1=>q_p fr<|Am (Ad rfl) rfl
def JY (a0:Int) (a1:List Int) (s1:Int×(List Int)):Option (LO (Int×(List Int))):=bif decide (s1.1≤(m57 a0)) then ( (m58 a1 s1.1).bind fun y1=>bif !y1 then (Bw 8 s1.2 [s1.1]).bind fun z1=>some (LO.norm z1) else some (LO.norm s1.2)).bind (Ak (fun s3=>some (LO.norm (wi .i64 (s1.1 + 1),s3))) (fun i1 s3=>some (LO.exit i1 (s1.1,s3))) (fun s3=>some (LO.ret (s1.1,s3)))) else some (LO.exit 0 (s1.1,s1.2))
def m30 (a0:Int) (a1:List Int):Option ((List Int)):=(AB (JY a0 a1) NN (1,[])).bind (Ak (fun _=>none) (fun i2 s4=>if i2 = 0 then some s4.2 else none) (fun s4=>some []))
theorem w30 {d:Nat} (hd:3≤d) (a0:Int) (k1:Bool) (a1:List Int):Fit (R NN d 30 [iW a0,.rsl k1 false (a1.map (Enc.cs k1))] []) (m30 a0 a1) (P0 (fun (t:List Int)=>AV.rsl false false (t.map (Enc.cs false)))):=by
  obtain ⟨d,rfl,g⟩:=up hd
  refine AD (t30 NN d _ _) ?_
  unfold b30 m30
  refine q_q (fun _=>EU)<|DN (α:=Int) false<|Cm (I:=(fun (s:Int×(List Int)) l L=>∃ (v1:AV),l = [v1,iW s.1]∧L = [sl false v1 (s.2:List Int)])) 0 ⟨(.rsl false true []),rfl,rfl⟩ ?_ ?_ ?_
  ·rintro s1 _ _ ⟨v1,rfl,rfl⟩
   unfold ZF JY
   refine AS (aF1 (Ad rfl) fun l0_=>w57 (by omega) a0)<|q_p fr<|q_i ?_ ?_
   ·refine DD (I:=(fun (s:(List Int)) l L=>∃ (v2:AV),l = [v2]∧L = [sl false v2 (s:List Int)])) ?_ ?_ ?_ ?_
    ·exact A7 (aF2 As (Ad rfl) fun l0_ l1_=>w58 (by omega) l0_ a1 s1.1) fun y1 hy1=>q_p fr<|q_i (q_q (fun _=>F8)<|DO (ys:=[s1.1]) 0 rfl rfl (fun _ _=>rfl) fun v2 z1 hz1=>Ae 0 ⟨v2,rfl,rfl⟩)<|Ae 0 ⟨v1,rfl,rfl⟩
    ·rintro s3 _ _ ⟨v3,rfl,rfl⟩
     exact q_p fr<|Ae 0 ⟨v3,rfl,rfl⟩
    ·rintro i1 s3 _ _ ⟨v4,rfl,rfl⟩
     exact Ax 0 ⟨v4,rfl,rfl⟩
    ·rintro s3 _ _ ⟨v5,rfl,rfl⟩
     exact Ar 0 ⟨v5,rfl,rfl⟩
   ·exact Ax 0 ⟨v1,rfl,rfl⟩
  ·rintro i2 s4 _ _ ⟨v6,rfl,rfl⟩
   exact q_n (Am (Il 0 rfl) rfl)<|A4
  ·rintro s4 _ _ ⟨v7,rfl,rfl⟩
   exact Am (As (α:=Int) (l0:=false) (fl:=true) (xs:=[])) rfl
def IH (y3:(List Int)) (s1:Int×(List Af)):Option (LO (Int×(List Af))):=bif decide (s1.1 < (y3.length:Int)) then (Av y3 s1.1).bind fun x1=>(Bw 32 s1.2 [(⟨x1,0,(-1),0⟩:Af)]).bind fun z1=>some (LO.norm (wi .i64 (s1.1 + 1),z1)) else some (LO.exit 0 (s1.1,s1.2))
def m10 (a0:Int) (a1:List Int):Option (Ac):=bif !(m27 a0) then some (⟨3,(⟨0,[],[],[],[]⟩:Ab)⟩:Ac) else (m28 a0 a1).bind fun y1=>bif y1 != 0 then some (⟨y1,(⟨0,[],[],[],[]⟩:Ab)⟩:Ac) else (m29 a1).bind fun y2=>(m30 a0 a1).bind fun y3=>(AB (IH y3) NN (0,[])).bind (Ak (fun _=>none) (fun i2 s2=>if i2 = 0 then some (⟨0,(⟨a0,y2,s2.2,[],[]⟩:Ab)⟩:Ac) else none) (fun s2=>some (⟨0,(⟨0,[],[],[],[]⟩:Ab)⟩:Ac)))
theorem w10 {d:Nat} (hd:5≤d) (a0:Int) (k1:Bool) (a1:List Int):Fit (R NN d 10 [iW a0,.rsl k1 false (a1.map (Enc.cs k1))] []) (m10 a0 a1) (P1 (T:=Ac) AV.agg):=by
  obtain ⟨d,rfl,g⟩:=up hd
  refine AD (t10 NN d _ _) ?_
  unfold b10 m10
  refine AE rfl fun b1=>AS (aF1 (Ad rfl) fun l0_=>w27 (by omega) a0)<|q_p fr<|q_i ?_ ?_
  ·exact q_p (fun _=>CQ rfl)<|A6 0 rfl rfl rfl (by decide) rfl<|Bn (fun S hS=>hS.lda 0 rfl rfl) (Bh (α:=Ac) (β:=Int×Ab) (f:=fun x=>(x.Code,x.Cluster)) (x:=(⟨3,(⟨0,[],[],[],[]⟩:Ab)⟩:Ac)) rfl (Ap (AO (n:=3)) (Bh (α:=Ab) (β:=Int×(List Int)×(List Af)×(List Ai)×(List Ag)) (f:=fun x=>(x.F,x.Bad,x.Replicas,x.Ledger,x.Requests)) (x:=(⟨0,[],[],[],[]⟩:Ab)) rfl (Ap (AO (n:=0)) (Ap (AA (α:=Int) (fl:=true)) (Ap (AA (α:=Af) (fl:=true)) (Ap (AA (α:=Ai) (fl:=true)) (AA (α:=Ag) (fl:=true))))))))) rfl
  ·refine A7 (aF2 (Ad rfl) As fun l0_ l1_=>w28 (by omega) a0 l1_ a1) fun y1 hy1=>q_p fr<|q_i ?_ ?_
   ·exact q_p (fun _=>CQ rfl)<|A6 0 rfl rfl rfl (by decide) rfl<|Bn (fun S hS=>hS.lda 0 rfl rfl) (Bh (α:=Ac) (β:=Int×Ab) (f:=fun x=>(x.Code,x.Cluster)) (x:=(⟨y1,(⟨0,[],[],[],[]⟩:Ab)⟩:Ac)) rfl (Ap (AO (n:=y1)) (Bh (α:=Ab) (β:=Int×(List Int)×(List Af)×(List Ai)×(List Ag)) (f:=fun x=>(x.F,x.Bad,x.Replicas,x.Ledger,x.Requests)) (x:=(⟨0,[],[],[],[]⟩:Ab)) rfl (Ap (AO (n:=0)) (Ap (AA (α:=Int) (fl:=true)) (Ap (AA (α:=Af) (fl:=true)) (Ap (AA (α:=Ai) (fl:=true)) (AA (α:=Ag) (fl:=true))))))))) rfl
   ·refine Ha (mg:=m29 a1) (aF1 As fun l0_=>w29 (by omega) l0_ a1) fun y2 hy2 i1 v1=>GU (fun S hS=>Xr (by simp only [Bq,plc,gd,List.getD_cons_zero,List.getD_cons_succ,List.getElem?_cons_zero,List.getElem?_cons_succ,hS.cell1t 0 rfl]; rfl)) ?_
    refine AE rfl fun b2=>A6 0 rfl rfl rfl (by decide) rfl<|A7 (aF2 (Ad rfl) As fun l0_ l1_=>w30 (by omega) a0 l1_ a1) fun y3 hy3=>AL<|DN (α:=Af) false<|Cm (I:=(fun (s:Int×(List Af)) l L=>∃ (v2:AV),l = [iW s.1]∧L = [sl false v2 (s.2:List Af),bx b2 [iW a0,v1,v2,.rsl false true [],.rsl false true []],tr i1 [v1] (y2:List Int),bx b1 [iW 0,iW 0,.rsl false true [],.rsl false true [],.rsl false true [],.rsl false true []]])) 0 ⟨(.rsl false true []),rfl,rfl⟩ ?_ ?_ ?_
    ·rintro s1 _ _ ⟨v2,rfl,rfl⟩
     unfold ZN IH
     exact q_p fr<|q_i (Bf rfl fun x1 hx1=>q_p fr<|q_p fr<|Ao 1 rfl rfl<|q_p (fun _=>Xn rfl)<|q_e (fun _=>e8 rfl)<|DO (ys:=[(⟨x1,0,(-1),0⟩:Af)]) 0 rfl rfl (fun _ _=>rfl) fun v3 z1 hz1=>q_p fr<|F9 1 rfl (fun S hS=>(HP.cell1 hS 0 rfl)) rfl<|q_p fr<|Ae 0 ⟨v3,rfl,rfl⟩)<|Ax 0 ⟨v2,rfl,rfl⟩
    ·rintro i2 s2 _ _ ⟨v4,rfl,rfl⟩
     exact q_n (A9 1 rfl rfl rfl<|q_p (fun _=>FB rfl)<|A6 3 rfl rfl rfl (by decide) rfl<|Bn (fun S hS=>hS.lda 3 rfl rfl) (Bh (α:=Ac) (β:=Int×Ab) (f:=fun x=>(x.Code,x.Cluster)) (x:=(⟨0,(⟨a0,y2,s2.2,[],[]⟩:Ab)⟩:Ac)) rfl (Ap (AO (n:=0)) (Bh (α:=Ab) (β:=Int×(List Int)×(List Af)×(List Ai)×(List Ag)) (f:=fun x=>(x.F,x.Bad,x.Replicas,x.Ledger,x.Requests)) (x:=(⟨a0,y2,s2.2,[],[]⟩:Ab)) rfl (Ap (AO (n:=a0)) (Ap (Dp 2 rfl) (Ap (JA 0 rfl ZT) (Ap (AA (α:=Ai) (fl:=true)) (AA (α:=Ag) (fl:=true))))))))) rfl)<|A4
    ·rintro s2 _ _ ⟨v5,rfl,rfl⟩
     exact Bn (fun S hS=>hS.lda 3 rfl rfl) (Bh (α:=Ac) (β:=Int×Ab) (f:=fun x=>(x.Code,x.Cluster)) (x:=(⟨0,(⟨0,[],[],[],[]⟩:Ab)⟩:Ac)) rfl (Ap (AO (n:=0)) (Bh (α:=Ab) (β:=Int×(List Int)×(List Af)×(List Ai)×(List Ag)) (f:=fun x=>(x.F,x.Bad,x.Replicas,x.Ledger,x.Requests)) (x:=(⟨0,[],[],[],[]⟩:Ab)) rfl (Ap (AO (n:=0)) (Ap (AA (α:=Int) (fl:=true)) (Ap (AA (α:=Af) (fl:=true)) (Ap (AA (α:=Ai) (fl:=true)) (AA (α:=Ag) (fl:=true))))))))) rfl
theorem w10f {d:Nat} (hd:5≤d) (a0:Int) (k1:Bool) (a1:List Int):Fit (R NN d 10 [iW a0,.rsl k1 false (a1.map (Enc.cs k1))] []) (m10 a0 a1) (P0 (fun (t:Ac)=>AV.agg (Enc.cs false t))):=EV (w10 hd a0 k1 a1)
def m81 (a0:Int):Bool:=(m56 a0 1 9)
theorem w81 {d:Nat} (hd:2≤d) (a0:Int):Fit (R NN d 81 [iW a0] []) (some (m81 a0)) PB:=by
  obtain ⟨d,rfl,g⟩:=up hd
  refine AD (t81 NN d _) ?_
  unfold b81 m81
  exact AS (aF3 (Ad rfl) (Ad rfl) (Ad rfl) fun l0_ l1_ l2_=>w56 (by omega) a0 1 9)<|Am (Ad rfl) rfl
def m82 (a0:Int):Bool:=(m56 a0 0 9000)
theorem w82 {d:Nat} (hd:2≤d) (a0:Int):Fit (R NN d 82 [iW a0] []) (some (m82 a0)) PB:=by
  obtain ⟨d,rfl,g⟩:=up hd
  refine AD (t82 NN d _) ?_
  unfold b82 m82
  exact AS (aF3 (Ad rfl) (Ad rfl) (Ad rfl) fun l0_ l1_ l2_=>w56 (by omega) a0 0 9000)<|Am (Ad rfl) rfl
def AM (a0:Int):Str×Str:=bif a0 == 1 then (([111,112,101,110]:Str),([]:Str)) else bif a0 == 2 then (([99,108,111,115,101]:Str),([]:Str)) else bif a0 == 3 then (([99,114,101,97,116,101]:Str),([112,100,115,111]:Str)) else bif a0 == 4 then (([100,101,108,101,116,101]:Str),([112,118]:Str)) else bif a0 == 5 then (([115,101,116]:Str),([112,100,118]:Str)) else bif a0 == 6 then (([103,101,116]:Str),([112]:Str)) else bif a0 == 7 then (([107,105,100,115]:Str),([112]:Str)) else bif a0 == 8 then (([99,104,101,99,107]:Str),([112,118]:Str)) else (([]:Str),([]:Str))
theorem w120 {d:Nat} (hd:1≤d) (a0:Int):Fit (R NN d 120 [iW a0] []) (some (AM a0)) (P0 (fun (t:Str×Str)=>AV.tup [AY t.1,AY t.2])):=by
  obtain ⟨d,rfl,g⟩:=up hd
  refine AD (t120 NN d _) ?_
  unfold mV AM
  exact q_p fr<|Jb (fun h8=>Am (Dl (Aa (Ad rfl) (Aa (Ad rfl) Ah))) rfl) fun h8=>q_p fr<|Jb (fun h7=>Am (Dl (Aa (Ad rfl) (Aa (Ad rfl) Ah))) rfl) fun h7=>q_p fr<|Jb (fun h6=>Am (Dl (Aa (Ad rfl) (Aa (Ad rfl) Ah))) rfl) fun h6=>q_p fr<|Jb (fun h5=>Am (Dl (Aa (Ad rfl) (Aa (Ad rfl) Ah))) rfl) fun h5=>q_p fr<|Jb (fun h4=>Am (Dl (Aa (Ad rfl) (Aa (Ad rfl) Ah))) rfl) fun h4=>q_p fr<|Jb (fun h3=>Am (Dl (Aa (Ad rfl) (Aa (Ad rfl) Ah))) rfl) fun h3=>q_p fr<|Jb (fun h2=>Am (Dl (Aa (Ad rfl) (Aa (Ad rfl) Ah))) rfl) fun h2=>q_p fr<|Jb (fun h1=>Am (Dl (Aa (Ad rfl) (Aa (Ad rfl) Ah))) rfl) fun h1=>Am (Dl (Aa (Ad rfl) (Aa (Ad rfl) Ah))) rfl
def Y1 (a0 a1:Str):Option Int:=match a1 with
  | [c]=>some (Lib.indexByte a0 c:Int)
  | _=>none
theorem gO {d:Nat} (hd:1≤d) (a0 a1:Str):Fit (R NN d 142 [AY a0,AY a1] []) (Y1 a0 a1) PI:=by
  obtain ⟨d,rfl,g⟩:=up hd
  rw [t142]
  intro t ht
  unfold Y1 at ht
  split at ht
  · injection ht with ht
    subst ht
    exact ⟨_,rfl,rfl⟩
  · cases ht
def eC (a0:Str) (a1:Str):Option (Bool):=(Y1 a0 a1).bind fun y1=>some (decide (y1 ≥ 0))
theorem w122 {d:Nat} (hd:2≤d) (a0:Str) (a1:Str):Fit (R NN d 122 [AY a0,AY a1] []) (eC a0 a1) PB:=by
  obtain ⟨d,rfl,g⟩:=up hd
  refine AD (t122 NN d _ _) ?_
  unfold mT eC
  exact A7 (aF2 (Ad rfl) (Ad rfl) fun l0_ l1_=>gO (by omega) a0 a1) fun y1 hy1=>q_p fr<|Am (Ad rfl) rfl
def BF (a0:Str) (a1:Str):Option (Bool):=(eC a1 a0).bind fun y1=>some (!y1)
theorem DJ {d:Nat} (hd:3≤d) (a0:Str) (k1:Bool) (a1:Str):Fit (R NN d 121 [AY a0,.rp k1 (Enc.cs k1 a1)] []) (BF a0 a1) PB:=by
  obtain ⟨d,rfl,g⟩:=up hd
  refine AD (t121 NN d _ _) ?_
  unfold mU BF
  exact q_p fr<|A7 (aF2 (Ad rfl) (Ad rfl) fun l0_ l1_=>w122 (by omega) a1 a0) fun y1 hy1=>q_p fr<|Am (Ad rfl) rfl
def Y0 (a0 a1:Str):Option Int:=match a1 with
  | [c]=>some (Lib.countByte a0 c:Int)
  | _=>none
theorem gN {d:Nat} (hd:1≤d) (a0 a1:Str):Fit (R NN d 143 [AY a0,AY a1] []) (Y0 a0 a1) PI:=by
  obtain ⟨d,rfl,g⟩:=up hd
  rw [t143]
  intro t ht
  unfold Y0 at ht
  split at ht
  · injection ht with ht
    subst ht
    exact ⟨_,rfl,rfl⟩
  · cases ht
def Rt (a0:Str) (a1:Str) (a2:Int) (s2:Int) (s3:Str×Int×(List Str)):Option (LO (Str×Int×(List Str))):=bif decide (s3.2.1 < (wi .i64 ((Yr s2 (wi .i64 ((a0.length:Int) + 1))) - 1))) then (Y1 s3.1 a1).bind fun y2=>bif decide (y2 < 0) then some (LO.exit 0 (s3.1,s3.2.1,s3.2.2)) else (EL s3.1 0 (wi .i64 (y2 + a2))).bind fun t1=>(Av s3.2.2 s3.2.1).bind fun x1=>(EL s3.1 (wi .i64 (y2 + (a1.length:Int))) (s3.1.length:Int)).bind fun t2=>some (LO.norm (t2,wi .i64 (s3.2.1 + 1),s3.2.2.set (Int.toNat s3.2.1) t1)) else some (LO.exit 0 (s3.1,s3.2.1,s3.2.2))
def dT (a0:Str) (a1:Str) (a2:Int) (a3:Int):Option ((List Str)):=bif a3 == 0 then some [] else bif a1 == ([]:Str) then none else ( bif decide (a3 < 0) then (Y0 a0 a1).bind fun y1=>some (LO.norm (wi .i64 (y1 + 1))) else some (LO.norm a3)).bind (Ak (fun s2=>(mkO 16 (Yr s2 (wi .i64 ((a0.length:Int) + 1))) []).bind fun z1=>(AB (Rt a0 a1 a2 s2) NN (a0,0,z1)).bind (Ak (fun _=>none) (fun i2 s4=>if i2 = 0 then (Av s4.2.2 s4.2.1).bind fun x2=>(EL (s4.2.2.set (Int.toNat s4.2.1) s4.1) 0 (wi .i64 (s4.2.1 + 1))).bind fun ys1=>some ys1 else none) (fun s4=>some []))) (fun i1 s2=>none) (fun s2=>some []))
theorem w170 {d:Nat} (hd:2≤d) (a0:Str) (a1:Str) (a2:Int) (a3:Int):Fit (R NN d 170 [AY a0,AY a1,iW a2,iW a3] []) (dT a0 a1 a2 a3) (P0 (fun (t:List Str)=>AV.rsl false false (t.map (Enc.cs false)))):=by
  obtain ⟨d,rfl,g⟩:=up hd
  refine AD (t170 NN d _ _ _ _) ?_
  unfold lQ dT
  refine q_p fr<|q_i ?_ ?_
  ·exact Am (As (α:=Str) (l0:=false) (fl:=true) (xs:=[])) rfl
  ·refine q_p (fun _=>Js)<|q_i ?_ ?_
   ·exact A4
   ·refine Bo (A:=fun (s:Int)=>[iW s]) (B:=fun s=>[]) ?_ ?_ ?_ ?_
    ·exact q_p fr<|q_i (A7 (aF2 (Ad rfl) (Ad rfl) fun l0_ l1_=>gN (by omega) a0 a1) fun y1 hy1=>q_p fr<|Ae 0 rr)<|Ae 0 rr
    ·intro s2
     refine DX<|q_p fr<|q_p (fun _=>n7)<|q_mk (z:=[]) jV fun v1 z1 hz1=>q_p fr<|CU (A:=fun (s:Str×Int×(List Str))=>[AY s.1,iW s.2.1]) (B:=fun s=>[sl false v1 (s.2.2:List Str)]) 0 rr ?_ ?_ ?_
     ·intro s3
      unfold UJ Rt
      exact q_p fr<|q_i (A7 (aF2 (Ad rfl) (Ad rfl) fun l0_ l1_=>gO (by omega) s3.1 a1) fun y2 hy2=>q_p fr<|q_i (Ax 0 rr)<|q_p fr<|I7 (.inr ⟨rfl,rfl⟩) (.inl rfl) fun t1 ht1=>G0 0 rfl rfl fun x1 hx1=>JJ (y:=t1) 0 rfl rfl hx1 rfl (by decide)<|DX<|q_p fr<|I7 (.inl rfl) (.inr ⟨rfl,rfl⟩) fun t2 ht2=>q_p fr<|Ae 0 rr)<|Ax 0 rr
     ·exact fun i2 s4=>q_n (G0 0 rfl rfl fun x2 hx2=>JJ (y:=s4.1) 0 rfl rfl hx2 rfl (by decide)<|q_p fr<|cU rfl (.inr ⟨rfl,rfl⟩) (.inl rfl) fun ys1 hys1=>Am (aG 0 rfl) rfl)<|A4
     ·exact fun s4=>Am (As (α:=Str) (l0:=false) (fl:=true) (xs:=[])) rfl
    ·exact fun i1 s2=>A4
    ·exact fun s2=>Am (As (α:=Str) (l0:=false) (fl:=true) (xs:=[])) rfl
def d4 (a0:Str) (a1:Str):Option ((List Str)):=(dT a0 a1 0 (-1)).bind fun y1=>some y1
theorem w144 {d:Nat} (hd:3≤d) (a0:Str) (a1:Str):Fit (R NN d 144 [AY a0,AY a1] []) (d4 a0 a1) (P0 (fun (t:List Str)=>AV.rsl false false (t.map (Enc.cs false)))):=by
  obtain ⟨d,rfl,g⟩:=up hd
  refine AD (t144 NN d _ _) ?_
  unfold mC d4
  exact A7 (fun S hS=>FM (Ad rfl) (Ad rfl) (Ad rfl) (Ad rfl) hS fun l0_ l1_ l2_ l3_=>w170 (by omega) a0 a1 0 (-1)) fun y1 hy1=>Am As rfl
def Rw (a0:Str) (s1:Bool×Int):Option (LO (Bool×Int)):=bif decide (s1.2 < (a0.length:Int)) then ( ( (Av a0 s1.2).bind fun c1=>bif decide ((c1.toNat:Int) < 97) then (Av a0 s1.2).bind fun c5=>bif decide ((c5.toNat:Int) < 48) then some (LO.norm true) else (Av a0 s1.2).bind fun c6=>some (LO.norm (decide ((c6.toNat:Int) > 57))) else (Av a0 s1.2).bind fun c2=>bif decide ((c2.toNat:Int) > 122) then (Av a0 s1.2).bind fun c3=>bif decide ((c3.toNat:Int) < 48) then some (LO.norm true) else (Av a0 s1.2).bind fun c4=>some (LO.norm (decide ((c4.toNat:Int) > 57))) else some (LO.norm false)).bind (Ak (fun s4=>bif s4 then some (LO.ret false) else some (LO.norm s1.1)) (fun i1 s4=>if i1 = 1 then some (LO.norm s1.1) else some (LO.exit i1 s1.1)) (fun s4=>some (LO.ret s1.1)))).bind (Ak (fun s5=>some (LO.norm (s5,wi .i64 (s1.2 + 1)))) (fun i2 s5=>some (LO.exit i2 (s5,s1.2))) (fun s5=>some (LO.ret (s5,s1.2)))) else some (LO.exit 0 (s1.1,s1.2))
def d3 (a0:Str):Option (Bool):=(AB (Rw a0) NN (false,0)).bind (Ak (fun _=>none) (fun i3 s6=>if i3 = 0 then some (m56 (a0.length:Int) 1 8) else none) (fun s6=>some s6.1))
theorem w145 {d:Nat} (hd:2≤d) (a0:Str):Fit (R NN d 145 [AY a0] []) (d3 a0) PB:=by
  obtain ⟨d,rfl,g⟩:=up hd
  refine AD (t145 NN d _) ?_
  unfold lZ d3
  refine DX<|CU (A:=fun (s:Bool×Int)=>[.bool s.1,iW s.2]) (B:=fun s=>[]) 0 rr ?_ ?_ ?_
  ·intro s1
   unfold UP Rw
   refine q_p fr<|q_i ?_ ?_
   ·refine Bo (A:=fun (s:Bool)=>[.bool s]) (B:=fun s=>[]) ?_ ?_ ?_ ?_
    ·refine Bo (A:=fun (s:Bool)=>[.bool s]) (B:=fun s=>[]) ?_ ?_ ?_ ?_
     ·exact I6 fun c1 hc1=>q_p fr<|q_j (I6 fun c5 hc5=>q_p fr<|q_j (Ae 0 rr)<|I6 fun c6 hc6=>q_p fr<|Ae 0 rr)<|I6 fun c2 hc2=>q_p fr<|q_k (I6 fun c3 hc3=>q_p fr<|q_j (Ae 0 rr)<|I6 fun c4 hc4=>q_p fr<|Ae 0 rr)<|Ae 0 rr
     ·exact fun s4=>q_i (Ar 0 rr)<|Ae 0 rr
     ·exact fun i1 s4=>q_n (Ae 0 rr)<|Ax 0 rr
     ·exact fun s4=>Ar 0 rr
    ·exact fun s5=>q_p fr<|Ae 0 rr
    ·exact fun i2 s5=>Ax 0 rr
    ·exact fun s5=>Ar 0 rr
   ·exact Ax 0 rr
  ·exact fun i3 s6=>q_n (DX<|AS (aF3 (Ad rfl) (Ad rfl) (Ad rfl) fun l0_ l1_ l2_=>w56 (by omega) (a0.length:Int) 1 8)<|Am (Ad rfl) rfl)<|A4
  ·exact fun s6=>Am (Ad rfl) rfl
def R7 (ys1:List Str) (s5:Int×Int):Option (LO (Int×Int)):=bif decide (s5.2 < (ys1.length:Int)) then (Av ys1 s5.2).bind fun x2=>(d3 x2).bind fun y3=>bif !y3 then some (LO.ret (5,s5.2)) else some (LO.norm (s5.1,wi .i64 (s5.2 + 1))) else some (LO.exit 0 (s5.1,s5.2))
def Wn (a0:Str):Option (Int):=( bif decide ((a0.length:Int) > 24) then some (LO.ret 2) else (Y0 a0 ([47]:Str)).bind fun y1=>bif decide (y1 > 4) then some (LO.ret 2) else some (LO.norm 0)).bind (Ak (fun s2=>bif a0 == ([47]:Str) then some 0 else (d4 a0 ([47]:Str)).bind fun y2=>( bif decide ((y2.length:Int) < 2) then some (LO.ret 5) else (Av y2 0).bind fun x1=>bif !(x1 == ([]:Str)) then some (LO.ret 5) else some (LO.norm s2)).bind (Ak (fun s4=>(EL y2 1 (y2.length:Int)).bind fun ys1=>(AB (R7 ys1) NN (s4,0)).bind (Ak (fun _=>none) (fun i3 s6=>if i3 = 0 then some 0 else none) (fun s6=>some s6.1))) (fun i2 s4=>none) (fun s4=>some s4))) (fun i1 s2=>none) (fun s2=>some s2))
theorem bT {d:Nat} (hd:4≤d) (a0:Str):Fit (R NN d 123 [AY a0] []) (Wn a0) PI:=by
  obtain ⟨d,rfl,g⟩:=up hd
  refine AD (t123 NN d _) ?_
  unfold mS Wn
  refine Bo (A:=fun (s:Int)=>[iW s]) (B:=fun s=>[]) ?_ ?_ ?_ ?_
  ·refine DX<|q_p fr<|q_j ?_ ?_
   ·first | refine BW ?_ | skip
    exact Ar 0 rr
   ·exact A7 (aF2 (Ad rfl) (Ad rfl) fun l0_ l1_=>gN (by omega) a0 ([47]:Str)) fun y1 hy1=>q_p fr<|q_i (Ar 0 rr)<|Ae 0 rr
  ·intro s2
   refine q_p (fun _=>Js)<|q_i ?_ ?_
   ·exact Am (Ad rfl) rfl
   ·refine A7 (aF2 (Ad rfl) (Ad rfl) fun l0_ l1_=>w144 (by omega) a0 ([47]:Str)) fun y2 hy2=>Bo (A:=fun (s:Int)=>[iW s]) (B:=fun s=>[]) ?_ ?_ ?_ ?_
    ·refine AL<|q_p fr<|q_j ?_ ?_
     ·first | refine BW ?_ | skip
      exact Ar 0 rr
     ·exact Bf rfl fun x1 hx1=>q_p fr<|q_p (fun _=>QI)<|q_i (Ar 0 rr)<|Ae 0 rr
    ·intro s4
     refine NX rfl (.inl rfl) (.inr ⟨rfl,rfl⟩) fun fl1 ys1 hys1=>AL<|CU (A:=fun (s:Int×Int)=>[iW s.1,iW s.2]) (B:=fun s=>[]) 0 rr ?_ ?_ ?_
     ·intro s5
      unfold UX R7
      exact q_p fr<|q_i (Bf rfl fun x2 hx2=>q_p fr<|A7 (aF1 (Ad rfl) fun l0_=>w145 (by omega) x2) fun y3 hy3=>q_p fr<|q_i (Ar 0 rr)<|q_p fr<|Ae 0 rr)<|Ax 0 rr
     ·exact fun i3 s6=>q_n (Am (Ad rfl) rfl)<|A4
     ·exact fun s6=>Am (Ad rfl) rfl
    ·exact fun i2 s4=>A4
    ·exact fun s4=>Am (Ad rfl) rfl
  ·exact fun i1 s2=>A4
  ·exact fun s2=>Am (Ad rfl) rfl
def Tu (a0:Int):Bool:=(m56 a0 0 9999)
theorem XP {d:Nat} (hd:2≤d) (a0:Int):Fit (R NN d 124 [iW a0] []) (some (Tu a0)) PB:=by
  obtain ⟨d,rfl,g⟩:=up hd
  refine AD (t124 NN d _) ?_
  unfold mR Tu
  exact AS (aF3 (Ad rfl) (Ad rfl) (Ad rfl) fun l0_ l1_ l2_=>w56 (by omega) a0 0 9999)<|Am (Ad rfl) rfl
def m83 (a0:TOp):Option (Int):=( ( bif !(m56 a0.Kind 1 8) then some (LO.norm true) else (BF ([112]:Str) ((AM a0.Kind).2)).bind fun y1=>bif y1 then bif !(a0.Path == ([]:Str)) then some (LO.norm true) else (BF ([100]:Str) ((AM a0.Kind).2)).bind fun y2=>bif y2 then bif a0.Data != 0 then some (LO.norm true) else (BF ([118]:Str) ((AM a0.Kind).2)).bind fun y3=>bif y3 then bif a0.Version != 0 then some (LO.norm true) else (BF ([115]:Str) ((AM a0.Kind).2)).bind fun y4=>bif y4 then bif a0.Seq then some (LO.norm true) else (BF ([111]:Str) ((AM a0.Kind).2)).bind fun y5=>bif y5 then some (LO.norm a0.Own) else some (LO.norm false) else (BF ([111]:Str) ((AM a0.Kind).2)).bind fun y6=>bif y6 then some (LO.norm a0.Own) else some (LO.norm false) else (BF ([115]:Str) ((AM a0.Kind).2)).bind fun y7=>bif y7 then bif a0.Seq then some (LO.norm true) else (BF ([111]:Str) ((AM a0.Kind).2)).bind fun y8=>bif y8 then some (LO.norm a0.Own) else some (LO.norm false) else (BF ([111]:Str) ((AM a0.Kind).2)).bind fun y9=>bif y9 then some (LO.norm a0.Own) else some (LO.norm false) else (BF ([118]:Str) ((AM a0.Kind).2)).bind fun y10=>bif y10 then bif a0.Version != 0 then some (LO.norm true) else (BF ([115]:Str) ((AM a0.Kind).2)).bind fun y11=>bif y11 then bif a0.Seq then some (LO.norm true) else (BF ([111]:Str) ((AM a0.Kind).2)).bind fun y12=>bif y12 then some (LO.norm a0.Own) else some (LO.norm false) else (BF ([111]:Str) ((AM a0.Kind).2)).bind fun y13=>bif y13 then some (LO.norm a0.Own) else some (LO.norm false) else (BF ([115]:Str) ((AM a0.Kind).2)).bind fun y14=>bif y14 then bif a0.Seq then some (LO.norm true) else (BF ([111]:Str) ((AM a0.Kind).2)).bind fun y15=>bif y15 then some (LO.norm a0.Own) else some (LO.norm false) else (BF ([111]:Str) ((AM a0.Kind).2)).bind fun y16=>bif y16 then some (LO.norm a0.Own) else some (LO.norm false) else (BF ([100]:Str) ((AM a0.Kind).2)).bind fun y17=>bif y17 then bif a0.Data != 0 then some (LO.norm true) else (BF ([118]:Str) ((AM a0.Kind).2)).bind fun y18=>bif y18 then bif a0.Version != 0 then some (LO.norm true) else (BF ([115]:Str) ((AM a0.Kind).2)).bind fun y19=>bif y19 then bif a0.Seq then some (LO.norm true) else (BF ([111]:Str) ((AM a0.Kind).2)).bind fun y20=>bif y20 then some (LO.norm a0.Own) else some (LO.norm false) else (BF ([111]:Str) ((AM a0.Kind).2)).bind fun y21=>bif y21 then some (LO.norm a0.Own) else some (LO.norm false) else (BF ([115]:Str) ((AM a0.Kind).2)).bind fun y22=>bif y22 then bif a0.Seq then some (LO.norm true) else (BF ([111]:Str) ((AM a0.Kind).2)).bind fun y23=>bif y23 then some (LO.norm a0.Own) else some (LO.norm false) else (BF ([111]:Str) ((AM a0.Kind).2)).bind fun y24=>bif y24 then some (LO.norm a0.Own) else some (LO.norm false) else (BF ([118]:Str) ((AM a0.Kind).2)).bind fun y25=>bif y25 then bif a0.Version != 0 then some (LO.norm true) else (BF ([115]:Str) ((AM a0.Kind).2)).bind fun y26=>bif y26 then bif a0.Seq then some (LO.norm true) else (BF ([111]:Str) ((AM a0.Kind).2)).bind fun y27=>bif y27 then some (LO.norm a0.Own) else some (LO.norm false) else (BF ([111]:Str) ((AM a0.Kind).2)).bind fun y28=>bif y28 then some (LO.norm a0.Own) else some (LO.norm false) else (BF ([115]:Str) ((AM a0.Kind).2)).bind fun y29=>bif y29 then bif a0.Seq then some (LO.norm true) else (BF ([111]:Str) ((AM a0.Kind).2)).bind fun y30=>bif y30 then some (LO.norm a0.Own) else some (LO.norm false) else (BF ([111]:Str) ((AM a0.Kind).2)).bind fun y31=>bif y31 then some (LO.norm a0.Own) else some (LO.norm false)).bind (Ak (fun s3=>bif s3 then some (LO.ret 1) else (BF ([112]:Str) ((AM a0.Kind).2)).bind fun y32=>bif y32 then some (LO.ret 0) else some (LO.norm 0)) (fun i1 s3=>if i1 = 0 then some (LO.norm 0) else some (LO.exit i1 0)) (fun s3=>some (LO.ret 0)))).bind (Ak (fun s4=>(Wn a0.Path).bind fun y33=>bif y33 != 0 then some y33 else ( bif !(Tu a0.Data) then some (LO.ret 3) else bif !(m56 a0.Version (-1) 999) then some (LO.ret 3) else some (LO.norm s4)).bind (Ak (fun s6=>some 0) (fun i3 s6=>none) (fun s6=>some s6))) (fun i2 s4=>none) (fun s4=>some s4))
theorem w83 {d:Nat} (hd:5≤d) (k0:Bool) (a0:TOp):Fit (R NN d 83 [.agg (Enc.cs k0 a0)] []) (m83 a0) PI:=by
  obtain ⟨d,rfl,g⟩:=up hd
  refine AD (t83 NN d _) ?_
  unfold b83 m83
  refine AG (n:=6) rfl rfl (by decide) fun b1=>q_p fr<|Ao 0 rfl rfl<|AS (aF1 (Ad rfl) fun l0_=>w120 (by omega) a0.Kind)<|q_q fr<|q_q fr<|AE rfl fun b2=>A6 0 rfl rfl rfl (by decide) rfl<|Bo (A:=fun (s:Int)=>[iW s]) (B:=fun s=>[bx b2 [AY ((AM a0.Kind).2)],bx b1 [iW a0.Kind,AY a0.Path,iW a0.Data,iW a0.Version,.bool a0.Seq,.bool a0.Own]]) ?_ ?_ ?_ ?_
  ·refine Bo (A:=fun (s:Bool)=>[.bool s]) (B:=fun s=>[bx b2 [AY ((AM a0.Kind).2)],bx b1 [iW a0.Kind,AY a0.Path,iW a0.Data,iW a0.Version,.bool a0.Seq,.bool a0.Own]]) ?_ ?_ ?_ ?_
   ·exact q_p fr<|Ao 1 rfl rfl<|AS (aF3 (Ad rfl) (Ad rfl) (Ad rfl) fun l0_ l1_ l2_=>w56 (by omega) a0.Kind 1 8)<|q_p fr<|q_j (Ae 0 rr)<|DL (mg:=BF ([112]:Str) ((AM a0.Kind).2)) (E:=(fun (t:Bool)=>AV.bool t)) (fun S=>Ba _ _ _ _) (aF2 (Ad rfl) (B9 0 rfl (Aq (l0:=false) (x:=(AM a0.Kind).2))) fun l0_ l1_=>DJ (by omega) ([112]:Str) l1_ ((AM a0.Kind).2)) fun y1 hy1=>q_k (q_p fr<|Ao 1 rfl rfl<|q_p (fun _=>QI)<|q_j (Ae 0 rr)<|DL (mg:=BF ([100]:Str) ((AM a0.Kind).2)) (E:=(fun (t:Bool)=>AV.bool t)) (fun S=>Ba _ _ _ _) (aF2 (Ad rfl) (B9 0 rfl (Aq (l0:=false) (x:=(AM a0.Kind).2))) fun l0_ l1_=>DJ (by omega) ([100]:Str) l1_ ((AM a0.Kind).2)) fun y2 hy2=>q_k (q_p fr<|Ao 1 rfl rfl<|q_p fr<|q_j (Ae 0 rr)<|DL (mg:=BF ([118]:Str) ((AM a0.Kind).2)) (E:=(fun (t:Bool)=>AV.bool t)) (fun S=>Ba _ _ _ _) (aF2 (Ad rfl) (B9 0 rfl (Aq (l0:=false) (x:=(AM a0.Kind).2))) fun l0_ l1_=>DJ (by omega) ([118]:Str) l1_ ((AM a0.Kind).2)) fun y3 hy3=>q_k (q_p fr<|Ao 1 rfl rfl<|q_p fr<|q_j (Ae 0 rr)<|DL (mg:=BF ([115]:Str) ((AM a0.Kind).2)) (E:=(fun (t:Bool)=>AV.bool t)) (fun S=>Ba _ _ _ _) (aF2 (Ad rfl) (B9 0 rfl (Aq (l0:=false) (x:=(AM a0.Kind).2))) fun l0_ l1_=>DJ (by omega) ([115]:Str) l1_ ((AM a0.Kind).2)) fun y4 hy4=>q_k (q_p fr<|Ao 1 rfl rfl<|q_j (Ae 0 rr)<|DL (mg:=BF ([111]:Str) ((AM a0.Kind).2)) (E:=(fun (t:Bool)=>AV.bool t)) (fun S=>Ba _ _ _ _) (aF2 (Ad rfl) (B9 0 rfl (Aq (l0:=false) (x:=(AM a0.Kind).2))) fun l0_ l1_=>DJ (by omega) ([111]:Str) l1_ ((AM a0.Kind).2)) fun y5 hy5=>q_k (q_p fr<|Ao 1 rfl rfl<|Ae 0 rr)<|Ae 0 rr)<|DL (mg:=BF ([111]:Str) ((AM a0.Kind).2)) (E:=(fun (t:Bool)=>AV.bool t)) (fun S=>Ba _ _ _ _) (aF2 (Ad rfl) (B9 0 rfl (Aq (l0:=false) (x:=(AM a0.Kind).2))) fun l0_ l1_=>DJ (by omega) ([111]:Str) l1_ ((AM a0.Kind).2)) fun y6 hy6=>q_k (q_p fr<|Ao 1 rfl rfl<|Ae 0 rr)<|Ae 0 rr)<|DL (mg:=BF ([115]:Str) ((AM a0.Kind).2)) (E:=(fun (t:Bool)=>AV.bool t)) (fun S=>Ba _ _ _ _) (aF2 (Ad rfl) (B9 0 rfl (Aq (l0:=false) (x:=(AM a0.Kind).2))) fun l0_ l1_=>DJ (by omega) ([115]:Str) l1_ ((AM a0.Kind).2)) fun y7 hy7=>q_k (q_p fr<|Ao 1 rfl rfl<|q_j (Ae 0 rr)<|DL (mg:=BF ([111]:Str) ((AM a0.Kind).2)) (E:=(fun (t:Bool)=>AV.bool t)) (fun S=>Ba _ _ _ _) (aF2 (Ad rfl) (B9 0 rfl (Aq (l0:=false) (x:=(AM a0.Kind).2))) fun l0_ l1_=>DJ (by omega) ([111]:Str) l1_ ((AM a0.Kind).2)) fun y8 hy8=>q_k (q_p fr<|Ao 1 rfl rfl<|Ae 0 rr)<|Ae 0 rr)<|DL (mg:=BF ([111]:Str) ((AM a0.Kind).2)) (E:=(fun (t:Bool)=>AV.bool t)) (fun S=>Ba _ _ _ _) (aF2 (Ad rfl) (B9 0 rfl (Aq (l0:=false) (x:=(AM a0.Kind).2))) fun l0_ l1_=>DJ (by omega) ([111]:Str) l1_ ((AM a0.Kind).2)) fun y9 hy9=>q_k (q_p fr<|Ao 1 rfl rfl<|Ae 0 rr)<|Ae 0 rr)<|DL (mg:=BF ([118]:Str) ((AM a0.Kind).2)) (E:=(fun (t:Bool)=>AV.bool t)) (fun S=>Ba _ _ _ _) (aF2 (Ad rfl) (B9 0 rfl (Aq (l0:=false) (x:=(AM a0.Kind).2))) fun l0_ l1_=>DJ (by omega) ([118]:Str) l1_ ((AM a0.Kind).2)) fun y10 hy10=>q_k (q_p fr<|Ao 1 rfl rfl<|q_p fr<|q_j (Ae 0 rr)<|DL (mg:=BF ([115]:Str) ((AM a0.Kind).2)) (E:=(fun (t:Bool)=>AV.bool t)) (fun S=>Ba _ _ _ _) (aF2 (Ad rfl) (B9 0 rfl (Aq (l0:=false) (x:=(AM a0.Kind).2))) fun l0_ l1_=>DJ (by omega) ([115]:Str) l1_ ((AM a0.Kind).2)) fun y11 hy11=>q_k (q_p fr<|Ao 1 rfl rfl<|q_j (Ae 0 rr)<|DL (mg:=BF ([111]:Str) ((AM a0.Kind).2)) (E:=(fun (t:Bool)=>AV.bool t)) (fun S=>Ba _ _ _ _) (aF2 (Ad rfl) (B9 0 rfl (Aq (l0:=false) (x:=(AM a0.Kind).2))) fun l0_ l1_=>DJ (by omega) ([111]:Str) l1_ ((AM a0.Kind).2)) fun y12 hy12=>q_k (q_p fr<|Ao 1 rfl rfl<|Ae 0 rr)<|Ae 0 rr)<|DL (mg:=BF ([111]:Str) ((AM a0.Kind).2)) (E:=(fun (t:Bool)=>AV.bool t)) (fun S=>Ba _ _ _ _) (aF2 (Ad rfl) (B9 0 rfl (Aq (l0:=false) (x:=(AM a0.Kind).2))) fun l0_ l1_=>DJ (by omega) ([111]:Str) l1_ ((AM a0.Kind).2)) fun y13 hy13=>q_k (q_p fr<|Ao 1 rfl rfl<|Ae 0 rr)<|Ae 0 rr)<|DL (mg:=BF ([115]:Str) ((AM a0.Kind).2)) (E:=(fun (t:Bool)=>AV.bool t)) (fun S=>Ba _ _ _ _) (aF2 (Ad rfl) (B9 0 rfl (Aq (l0:=false) (x:=(AM a0.Kind).2))) fun l0_ l1_=>DJ (by omega) ([115]:Str) l1_ ((AM a0.Kind).2)) fun y14 hy14=>q_k (q_p fr<|Ao 1 rfl rfl<|q_j (Ae 0 rr)<|DL (mg:=BF ([111]:Str) ((AM a0.Kind).2)) (E:=(fun (t:Bool)=>AV.bool t)) (fun S=>Ba _ _ _ _) (aF2 (Ad rfl) (B9 0 rfl (Aq (l0:=false) (x:=(AM a0.Kind).2))) fun l0_ l1_=>DJ (by omega) ([111]:Str) l1_ ((AM a0.Kind).2)) fun y15 hy15=>q_k (q_p fr<|Ao 1 rfl rfl<|Ae 0 rr)<|Ae 0 rr)<|DL (mg:=BF ([111]:Str) ((AM a0.Kind).2)) (E:=(fun (t:Bool)=>AV.bool t)) (fun S=>Ba _ _ _ _) (aF2 (Ad rfl) (B9 0 rfl (Aq (l0:=false) (x:=(AM a0.Kind).2))) fun l0_ l1_=>DJ (by omega) ([111]:Str) l1_ ((AM a0.Kind).2)) fun y16 hy16=>q_k (q_p fr<|Ao 1 rfl rfl<|Ae 0 rr)<|Ae 0 rr)<|DL (mg:=BF ([100]:Str) ((AM a0.Kind).2)) (E:=(fun (t:Bool)=>AV.bool t)) (fun S=>Ba _ _ _ _) (aF2 (Ad rfl) (B9 0 rfl (Aq (l0:=false) (x:=(AM a0.Kind).2))) fun l0_ l1_=>DJ (by omega) ([100]:Str) l1_ ((AM a0.Kind).2)) fun y17 hy17=>q_k (q_p fr<|Ao 1 rfl rfl<|q_p fr<|q_j (Ae 0 rr)<|DL (mg:=BF ([118]:Str) ((AM a0.Kind).2)) (E:=(fun (t:Bool)=>AV.bool t)) (fun S=>Ba _ _ _ _) (aF2 (Ad rfl) (B9 0 rfl (Aq (l0:=false) (x:=(AM a0.Kind).2))) fun l0_ l1_=>DJ (by omega) ([118]:Str) l1_ ((AM a0.Kind).2)) fun y18 hy18=>q_k (q_p fr<|Ao 1 rfl rfl<|q_p fr<|q_j (Ae 0 rr)<|DL (mg:=BF ([115]:Str) ((AM a0.Kind).2)) (E:=(fun (t:Bool)=>AV.bool t)) (fun S=>Ba _ _ _ _) (aF2 (Ad rfl) (B9 0 rfl (Aq (l0:=false) (x:=(AM a0.Kind).2))) fun l0_ l1_=>DJ (by omega) ([115]:Str) l1_ ((AM a0.Kind).2)) fun y19 hy19=>q_k (q_p fr<|Ao 1 rfl rfl<|q_j (Ae 0 rr)<|DL (mg:=BF ([111]:Str) ((AM a0.Kind).2)) (E:=(fun (t:Bool)=>AV.bool t)) (fun S=>Ba _ _ _ _) (aF2 (Ad rfl) (B9 0 rfl (Aq (l0:=false) (x:=(AM a0.Kind).2))) fun l0_ l1_=>DJ (by omega) ([111]:Str) l1_ ((AM a0.Kind).2)) fun y20 hy20=>q_k (q_p fr<|Ao 1 rfl rfl<|Ae 0 rr)<|Ae 0 rr)<|DL (mg:=BF ([111]:Str) ((AM a0.Kind).2)) (E:=(fun (t:Bool)=>AV.bool t)) (fun S=>Ba _ _ _ _) (aF2 (Ad rfl) (B9 0 rfl (Aq (l0:=false) (x:=(AM a0.Kind).2))) fun l0_ l1_=>DJ (by omega) ([111]:Str) l1_ ((AM a0.Kind).2)) fun y21 hy21=>q_k (q_p fr<|Ao 1 rfl rfl<|Ae 0 rr)<|Ae 0 rr)<|DL (mg:=BF ([115]:Str) ((AM a0.Kind).2)) (E:=(fun (t:Bool)=>AV.bool t)) (fun S=>Ba _ _ _ _) (aF2 (Ad rfl) (B9 0 rfl (Aq (l0:=false) (x:=(AM a0.Kind).2))) fun l0_ l1_=>DJ (by omega) ([115]:Str) l1_ ((AM a0.Kind).2)) fun y22 hy22=>q_k (q_p fr<|Ao 1 rfl rfl<|q_j (Ae 0 rr)<|DL (mg:=BF ([111]:Str) ((AM a0.Kind).2)) (E:=(fun (t:Bool)=>AV.bool t)) (fun S=>Ba _ _ _ _) (aF2 (Ad rfl) (B9 0 rfl (Aq (l0:=false) (x:=(AM a0.Kind).2))) fun l0_ l1_=>DJ (by omega) ([111]:Str) l1_ ((AM a0.Kind).2)) fun y23 hy23=>q_k (q_p fr<|Ao 1 rfl rfl<|Ae 0 rr)<|Ae 0 rr)<|DL (mg:=BF ([111]:Str) ((AM a0.Kind).2)) (E:=(fun (t:Bool)=>AV.bool t)) (fun S=>Ba _ _ _ _) (aF2 (Ad rfl) (B9 0 rfl (Aq (l0:=false) (x:=(AM a0.Kind).2))) fun l0_ l1_=>DJ (by omega) ([111]:Str) l1_ ((AM a0.Kind).2)) fun y24 hy24=>q_k (q_p fr<|Ao 1 rfl rfl<|Ae 0 rr)<|Ae 0 rr)<|DL (mg:=BF ([118]:Str) ((AM a0.Kind).2)) (E:=(fun (t:Bool)=>AV.bool t)) (fun S=>Ba _ _ _ _) (aF2 (Ad rfl) (B9 0 rfl (Aq (l0:=false) (x:=(AM a0.Kind).2))) fun l0_ l1_=>DJ (by omega) ([118]:Str) l1_ ((AM a0.Kind).2)) fun y25 hy25=>q_k (q_p fr<|Ao 1 rfl rfl<|q_p fr<|q_j (Ae 0 rr)<|DL (mg:=BF ([115]:Str) ((AM a0.Kind).2)) (E:=(fun (t:Bool)=>AV.bool t)) (fun S=>Ba _ _ _ _) (aF2 (Ad rfl) (B9 0 rfl (Aq (l0:=false) (x:=(AM a0.Kind).2))) fun l0_ l1_=>DJ (by omega) ([115]:Str) l1_ ((AM a0.Kind).2)) fun y26 hy26=>q_k (q_p fr<|Ao 1 rfl rfl<|q_j (Ae 0 rr)<|DL (mg:=BF ([111]:Str) ((AM a0.Kind).2)) (E:=(fun (t:Bool)=>AV.bool t)) (fun S=>Ba _ _ _ _) (aF2 (Ad rfl) (B9 0 rfl (Aq (l0:=false) (x:=(AM a0.Kind).2))) fun l0_ l1_=>DJ (by omega) ([111]:Str) l1_ ((AM a0.Kind).2)) fun y27 hy27=>q_k (q_p fr<|Ao 1 rfl rfl<|Ae 0 rr)<|Ae 0 rr)<|DL (mg:=BF ([111]:Str) ((AM a0.Kind).2)) (E:=(fun (t:Bool)=>AV.bool t)) (fun S=>Ba _ _ _ _) (aF2 (Ad rfl) (B9 0 rfl (Aq (l0:=false) (x:=(AM a0.Kind).2))) fun l0_ l1_=>DJ (by omega) ([111]:Str) l1_ ((AM a0.Kind).2)) fun y28 hy28=>q_k (q_p fr<|Ao 1 rfl rfl<|Ae 0 rr)<|Ae 0 rr)<|DL (mg:=BF ([115]:Str) ((AM a0.Kind).2)) (E:=(fun (t:Bool)=>AV.bool t)) (fun S=>Ba _ _ _ _) (aF2 (Ad rfl) (B9 0 rfl (Aq (l0:=false) (x:=(AM a0.Kind).2))) fun l0_ l1_=>DJ (by omega) ([115]:Str) l1_ ((AM a0.Kind).2)) fun y29 hy29=>q_k (q_p fr<|Ao 1 rfl rfl<|q_j (Ae 0 rr)<|DL (mg:=BF ([111]:Str) ((AM a0.Kind).2)) (E:=(fun (t:Bool)=>AV.bool t)) (fun S=>Ba _ _ _ _) (aF2 (Ad rfl) (B9 0 rfl (Aq (l0:=false) (x:=(AM a0.Kind).2))) fun l0_ l1_=>DJ (by omega) ([111]:Str) l1_ ((AM a0.Kind).2)) fun y30 hy30=>q_k (q_p fr<|Ao 1 rfl rfl<|Ae 0 rr)<|Ae 0 rr)<|DL (mg:=BF ([111]:Str) ((AM a0.Kind).2)) (E:=(fun (t:Bool)=>AV.bool t)) (fun S=>Ba _ _ _ _) (aF2 (Ad rfl) (B9 0 rfl (Aq (l0:=false) (x:=(AM a0.Kind).2))) fun l0_ l1_=>DJ (by omega) ([111]:Str) l1_ ((AM a0.Kind).2)) fun y31 hy31=>q_k (q_p fr<|Ao 1 rfl rfl<|Ae 0 rr)<|Ae 0 rr
   ·exact fun s3=>q_i (Ar 0 rr)<|DL (mg:=BF ([112]:Str) ((AM a0.Kind).2)) (E:=(fun (t:Bool)=>AV.bool t)) (fun S=>Ba _ _ _ _) (aF2 (Ad rfl) (B9 0 rfl (Aq (l0:=false) (x:=(AM a0.Kind).2))) fun l0_ l1_=>DJ (by omega) ([112]:Str) l1_ ((AM a0.Kind).2)) fun y32 hy32=>q_i (Ar 0 rr)<|Ae 0 rr
   ·exact fun i1 s3=>q_n (Ae 0 rr)<|Ax 0 rr
   ·exact fun s3=>Ar 0 rr
  ·intro s4
   refine q_p fr<|Ao 1 rfl rfl<|A7 (aF1 (Ad rfl) fun l0_=>bT (by omega) a0.Path) fun y33 hy33=>q_p fr<|q_i ?_ ?_
   ·exact Am (Ad rfl) rfl
   ·refine Bo (A:=fun (s:Int)=>[iW s]) (B:=fun s=>[bx b2 [AY ((AM a0.Kind).2)],bx b1 [iW a0.Kind,AY a0.Path,iW a0.Data,iW a0.Version,.bool a0.Seq,.bool a0.Own]]) ?_ ?_ ?_ ?_
    ·refine q_p fr<|Ao 1 rfl rfl<|AS (aF1 (Ad rfl) fun l0_=>XP (by omega) a0.Data)<|q_p fr<|q_j ?_ ?_
     ·first | refine BW ?_ | skip
      exact Ar 0 rr
     ·exact q_p fr<|Ao 1 rfl rfl<|AS (aF3 (Ad rfl) (Ad rfl) (Ad rfl) fun l0_ l1_ l2_=>w56 (by omega) a0.Version (-1) 999)<|q_p fr<|q_i (Ar 0 rr)<|Ae 0 rr
    ·exact fun s6=>Am (Ad rfl) rfl
    ·exact fun i3 s6=>A4
    ·exact fun s6=>Am (Ad rfl) rfl
  ·exact fun i2 s4=>A4
  ·exact fun s4=>Am (Ad rfl) rfl
def R2 (a0:List TOp) (a1:TOp→Option (Bool)) (s1:Int×Int):Option (LO (Int×Int)):=bif decide (s1.2 < (a0.length:Int)) then (Av a0 s1.2).bind fun x1=>(a1 x1).bind fun y1=>bif y1 then some (LO.ret (s1.2,s1.2)) else some (LO.norm (s1.1,wi .i64 (s1.2 + 1))) else some (LO.exit 0 (s1.1,s1.2))
def eB (a0:List TOp) (a1:TOp→Option (Bool)):Option (Int):=(AB (R2 a0 a1) NN (0,0)).bind (Ak (fun _=>none) (fun i1 s2=>if i1 = 0 then some (-1) else none) (fun s2=>some s2.1))
theorem w125 {Dc:Nat} {d:Nat} (hd:Dc + 1≤d) (k0:Bool) (a0:List TOp) (c1:Bool→AV) (hc1:∀ l,CV 8 [] false (c1 l) c1) (a1:TOp→Option (Bool)) (tc1:∀ (d:Nat),Dc≤d→∀ (l:Bool) (q0:Bool) (x0:TOp) (S:St) (t:Bool),a1 x0 = some t→AH (cfg NN) (R NN d) 125 (c1 l) [.agg (Enc.cs q0 x0)] S = some ((fun (t:Bool)=>AV.bool t) t,S)) (k1:Bool):Fit (R NN d 125 [.rsl k0 false (a0.map (Enc.cs k0)),c1 k1] []) (eB a0 a1) PI:=by
  obtain ⟨d,rfl,g⟩:=up hd
  refine AD (t125 NN d _ _) ?_
  unfold mQ eB
  refine AL<|CU (A:=fun (s:Int×Int)=>[iW s.1,iW s.2]) (B:=fun s=>[]) 0 rr ?_ ?_ ?_
  ·intro s1
   unfold UW R2
   exact q_p fr<|q_i (Bf rfl fun x1 hx1=>q_p fr<|Jn (mg:=a1 x1) (E:=(fun (t:Bool)=>AV.bool t)) (fun S t ht=>tc1 d (by omega) k1 k0 x1 S t ht) fun y1 hy1=>q_i (Ar 0 rr)<|q_p fr<|Ae 0 rr)<|Ax 0 rr
  ·exact fun i1 s2=>q_n (Am (Ad rfl) rfl)<|A4
  ·exact fun s2=>Am (Ad rfl) rfl
def m84 (a0:List TOp) (a1:TOp→Option (Bool)):Option (Bool):=(eB a0 a1).bind fun y1=>some (decide (y1 ≥ 0))
theorem w84 {Dc:Nat} {d:Nat} (hd:Dc + 2≤d) (k0:Bool) (a0:List TOp) (c1:Bool→AV) (hc1:∀ l,CV 8 [] false (c1 l) c1) (a1:TOp→Option (Bool)) (tc1:∀ (d:Nat),Dc≤d→∀ (l:Bool) (q0:Bool) (x0:TOp) (S:St) (t:Bool),a1 x0 = some t→AH (cfg NN) (R NN d) 125 (c1 l) [.agg (Enc.cs q0 x0)] S = some ((fun (t:Bool)=>AV.bool t) t,S)) (k1:Bool):Fit (R NN d 84 [.rsl k0 false (a0.map (Enc.cs k0)),c1 k1] []) (m84 a0 a1) PB:=by
  obtain ⟨d,rfl,g⟩:=up hd
  refine AD (t84 NN d _ _) ?_
  unfold b84 m84
  exact A7 (aF2 As (CV.any (hc1 k1)) fun l0_ l1_=>w125 (by omega) l0_ a0 c1 hc1 a1 tc1 l1_) fun y1 hy1=>q_p fr<|Am (Ad rfl) rfl
def m85 (a0:TOp):Bool:=bif a0.Kind == 1 then true else a0.Kind == 2
theorem w85 {d:Nat} (hd:1≤d) (k0:Bool) (a0:TOp):Fit (R NN d 85 [.agg (Enc.cs k0 a0)] []) (some (m85 a0)) PB:=by
  obtain ⟨d,rfl,g⟩:=up hd
  refine AD (t85 NN d _) ?_
  unfold b85 m85
  exact AG (n:=6) rfl rfl (by decide) fun b1=>q_p fr<|Ao 0 rfl rfl<|q_p fr<|Vv (fun h1=>Am (Ad rfl) rfl) fun h1=>q_p fr<|Ao 0 rfl rfl<|q_p fr<|Am (Ad rfl) rfl
def VN (a0:Ag) (s5:Int×Int):Option (LO (Int×Int)):=bif decide (s5.2 < (a0.Ops.length:Int)) then (Av a0.Ops s5.2).bind fun x1=>(m83 x1).bind fun y1=>bif y1 != 0 then some (LO.ret (y1,s5.2)) else some (LO.norm (s5.1,wi .i64 (s5.2 + 1))) else some (LO.exit 1 (s5.1,s5.2))
def m49 (a0:Ag):Option (Int):=( ( bif !(m81 a0.Client) then some (LO.norm true) else bif !(m56 a0.Number 1 99) then some (LO.norm true) else some (LO.norm (!(m82 a0.Time)))).bind (Ak (fun s3=>bif s3 then some (LO.ret 3) else bif !(m56 (a0.Ops.length:Int) 1 3) then some (LO.ret 2) else some (LO.norm 0)) (fun i1 s3=>if i1 = 0 then some (LO.norm 0) else some (LO.exit i1 0)) (fun s3=>some (LO.ret 0)))).bind (Ak (fun s4=>(AB (VN a0) NN (s4,0)).bind (Ak (fun _=>none) (fun i3 s6=>if i3 = 1 then ( bif decide ((a0.Ops.length:Int) > 1) then (m84 a0.Ops (fun x0_=>some (m85 x0_))).bind fun y2=>bif y2 then some (LO.ret 1) else some (LO.norm s6.1) else some (LO.norm s6.1)).bind (Ak (fun s8=>some 0) (fun i4 s8=>none) (fun s8=>some s8)) else none) (fun s6=>some s6.1))) (fun i2 s4=>none) (fun s4=>some s4))
theorem w49 {d:Nat} (hd:8≤d) (k0:Bool) (a0:Ag):Fit (R NN d 49 [.agg (Enc.cs k0 a0)] []) (m49 a0) PI:=by
  obtain ⟨d,rfl,g⟩:=up hd
  refine AD (t49 NN d _) ?_
  unfold b49 m49
  refine AG (n:=4) rfl rfl (by decide) fun b1=>Bo (A:=fun (s:Int)=>[iW s]) (B:=fun s=>[bx b1 [iW a0.Client,iW a0.Number,iW a0.Time,.rsl k0 false (a0.Ops.map (Enc.cs k0))]]) ?_ ?_ ?_ ?_
  ·refine Bo (A:=fun (s:Bool)=>[.bool s]) (B:=fun s=>[bx b1 [iW a0.Client,iW a0.Number,iW a0.Time,.rsl k0 false (a0.Ops.map (Enc.cs k0))]]) ?_ ?_ ?_ ?_
   ·exact q_p fr<|Ao 0 rfl rfl<|AS (aF1 (Ad rfl) fun l0_=>w81 (by omega) a0.Client)<|q_p fr<|q_j (Ae 0 rr)<|q_p fr<|Ao 0 rfl rfl<|AS (aF3 (Ad rfl) (Ad rfl) (Ad rfl) fun l0_ l1_ l2_=>w56 (by omega) a0.Number 1 99)<|q_p fr<|q_j (Ae 0 rr)<|q_p fr<|Ao 0 rfl rfl<|AS (aF1 (Ad rfl) fun l0_=>w82 (by omega) a0.Time)<|q_p fr<|Ae 0 rr
   ·exact fun s3=>q_i (Ar 0 rr)<|q_p fr<|Ao 0 rfl rfl<|AL<|AS (aF3 (Ad rfl) (Ad rfl) (Ad rfl) fun l0_ l1_ l2_=>w56 (by omega) (a0.Ops.length:Int) 1 3)<|q_p fr<|q_i (Ar 0 rr)<|Ae 0 rr
   ·exact fun i1 s3=>q_n (Ae 0 rr)<|Ax 0 rr
   ·exact fun s3=>Ar 0 rr
  ·intro s4
   refine q_p fr<|Ao 0 rfl rfl<|AL<|CU (A:=fun (s:Int×Int)=>[iW s.1,iW s.2]) (B:=fun s=>[bx b1 [iW a0.Client,iW a0.Number,iW a0.Time,.rsl k0 false (a0.Ops.map (Enc.cs k0))]]) 0 rr ?_ ?_ ?_
   ·intro s5
    unfold ZA VN
    exact q_p fr<|q_i (Bf rfl fun x1 hx1=>q_p fr<|AE rfl fun b2=>A6 0 rfl rfl rfl (by decide) rfl<|A9 0 rfl rfl rfl<|A7 (aF1 (A8 (Aq (l0:=false) (x:=x1))) fun l0_=>w83 (by omega) l0_ x1) fun y1 hy1=>q_p fr<|q_i (Ar 1 rr)<|q_p fr<|Ae 1 rr)<|Ax 0 rr
   ·intro i3 s6
    refine q_n ?_ ?_
    ·refine Bo (A:=fun (s:Int)=>[iW s]) (B:=fun s=>[bx b1 [iW a0.Client,iW a0.Number,iW a0.Time,.rsl k0 false (a0.Ops.map (Enc.cs k0))]]) ?_ ?_ ?_ ?_
     ·refine q_p fr<|Ao 0 rfl rfl<|AL<|q_p fr<|q_k ?_ ?_
      ·exact q_p fr<|Ao 0 rfl rfl<|A7 (aF2 As (BC Ah) fun l0_ l1_=>w84 (Dc:=1) (by omega) l0_ a0.Ops (fun l=>.fn 85 []) (fun l=>BC Ah) (fun x0_=>some (m85 x0_)) (fun d hd l q0_ x0_ S t ht=>(WW _ _ _ _).trans (BR (E:=(fun (t:Bool)=>AV.bool t)) (mg:=some (m85 x0_)) (Xv (M:=fun a=>Fit (R NN d 85 a []) _ _) (A8 (Aq (l0:=q0_) (x:=x0_))) HP.nil fun u0_=>w85 hd u0_ x0_) ht)) l1_) fun y2 hy2=>q_i (Ar 0 rr)<|Ae 0 rr
      ·first | refine CZ ?_ | skip
       exact Ae 0 rr
     ·exact fun s8=>Am (Ad rfl) rfl
     ·exact fun i4 s8=>A4
     ·exact fun s8=>Am (Ad rfl) rfl
    ·exact A4
   ·exact fun s6=>Am (Ad rfl) rfl
  ·exact fun i2 s4=>A4
  ·exact fun s4=>Am (Ad rfl) rfl
def VL (a0:List Ag) (a1:Ag→Option (Bool)) (s1:Int×Int):Option (LO (Int×Int)):=bif decide (s1.2 < (a0.length:Int)) then (Av a0 s1.2).bind fun x1=>(a1 x1).bind fun y1=>bif y1 then some (LO.ret (s1.2,s1.2)) else some (LO.norm (s1.1,wi .i64 (s1.2 + 1))) else some (LO.exit 0 (s1.1,s1.2))
def m86 (a0:List Ag) (a1:Ag→Option (Bool)):Option (Int):=(AB (VL a0 a1) NN (0,0)).bind (Ak (fun _=>none) (fun i1 s2=>if i1 = 0 then some (-1) else none) (fun s2=>some s2.1))
theorem w86 {Dc:Nat} {d:Nat} (hd:Dc + 1≤d) (k0:Bool) (a0:List Ag) (c1:Bool→AV) (hc1:∀ l,CV 8 [] false (c1 l) c1) (a1:Ag→Option (Bool)) (tc1:∀ (d:Nat),Dc≤d→∀ (l:Bool) (q0:Bool) (x0:Ag) (S:St) (t:Bool),a1 x0 = some t→AH (cfg NN) (R NN d) 86 (c1 l) [.agg (Enc.cs q0 x0)] S = some ((fun (t:Bool)=>AV.bool t) t,S)) (k1:Bool):Fit (R NN d 86 [.rsl k0 false (a0.map (Enc.cs k0)),c1 k1] []) (m86 a0 a1) PI:=by
  obtain ⟨d,rfl,g⟩:=up hd
  refine AD (t86 NN d _ _) ?_
  unfold b86 m86
  refine AL<|CU (A:=fun (s:Int×Int)=>[iW s.1,iW s.2]) (B:=fun s=>[]) 0 rr ?_ ?_ ?_
  ·intro s1
   unfold Z3 VL
   exact q_p fr<|q_i (Bf rfl fun x1 hx1=>q_p fr<|Jn (mg:=a1 x1) (E:=(fun (t:Bool)=>AV.bool t)) (fun S t ht=>tc1 d (by omega) k1 k0 x1 S t ht) fun y1 hy1=>q_i (Ar 0 rr)<|q_p fr<|Ae 0 rr)<|Ax 0 rr
  ·exact fun i1 s2=>q_n (Am (Ad rfl) rfl)<|A4
  ·exact fun s2=>Am (Ad rfl) rfl
def m87 (a0:Ag) (a1:Ag):Bool:=bif a0.Client == a1.Client then a0.Number == a1.Number else false
theorem w87 {d:Nat} (hd:1≤d) (k0:Bool) (a0:Ag) (k1:Bool) (a1:Ag):Fit (R NN d 87 [.agg (Enc.cs k0 a0),.rp k1 (Enc.cs k1 a1)] []) (some (m87 a0 a1)) PB:=by
  obtain ⟨d,rfl,g⟩:=up hd
  refine AD (t87 NN d _ _) ?_
  unfold b87 m87
  exact AG (n:=4) rfl rfl (by decide) fun b1=>q_p fr<|Ao 0 rfl rfl<|q_p fr<|q_p fr<|q_p fr<|Vu (fun h1=>q_p fr<|Ao 0 rfl rfl<|q_p fr<|q_p fr<|q_p fr<|Am (Ad rfl) rfl) fun h1=>Am (Ad rfl) rfl
def m50 (a0:List Ag) (a1:Ag):Option (Int):=(m86 a0 (fun x0_=>some (m87 x0_ a1))).bind fun y1=>some y1
theorem w50 {d:Nat} (hd:3≤d) (k0:Bool) (a0:List Ag) (k1:Bool) (a1:Ag):Fit (R NN d 50 [.rsl k0 false (a0.map (Enc.cs k0)),.agg (Enc.cs k1 a1)] []) (m50 a0 a1) PI:=by
  obtain ⟨d,rfl,g⟩:=up hd
  refine AD (t50 NN d _ _) ?_
  unfold b50 m50
  exact AG (n:=4) rfl rfl (by decide) fun b1=>A7 (aF2 As (BC (Aa (B9 0 rfl (Aq (l0:=k1) (x:=a1))) Ah)) fun l0_ l1_=>w86 (Dc:=1) (by omega) l0_ a0 (fun l=>.fn 87 [.rp l (Enc.cs l a1)]) (fun l=>BC (Aa (AZ (Aq (l0:=l) (x:=a1)) (fun _ _ _ h=>Enc.frz _ a1 _ _ _ h)) Ah)) (fun x0_=>some (m87 x0_ a1)) (fun d hd l q0_ x0_ S t ht=>(YU _ _ _ _).trans (BR (E:=(fun (t:Bool)=>AV.bool t)) (mg:=some (m87 x0_ a1)) (Hg (M:=fun a=>Fit (R NN d 87 a []) _ _) (A8 (Aq (l0:=q0_) (x:=x0_))) (AZ (Aq (l0:=l) (x:=a1)) (fun _ _ _ h=>Enc.frz _ a1 _ _ _ h)) HP.nil fun u0_ v0_=>w87 hd u0_ x0_ v0_ a1) ht)) l1_) fun y1 hy1=>Am (Ad rfl) rfl
def m33 (a0:Ab) (a1:Ag):Option (Int×Ab):=(m49 a1).bind fun y1=>bif y1 != 0 then some (y1,a0) else (m50 a0.Requests a1).bind fun y2=>bif decide (y2 ≥ 0) then some (6,a0) else bif (a0.Requests.length:Int) == 12 then some (2,a0) else (Bw 48 a0.Requests [a1]).bind fun z1=>some (0,(⟨a0.F,a0.Bad,a0.Replicas,a0.Ledger,z1⟩:Ab))
theorem w33 {d:Nat} (hd:9≤d) (L0:List En) (b0_:Nat) (i0_1 i0_2 i0_3 i0_4:List Nat) (v0_1 v0_2 v0_3 v0_4:AV) (a0:Ab) (k1:Bool) (a1:Ag):Okh (bx b0_ [iW a0.F,v0_1,v0_2,v0_3,v0_4]::tr i0_1 [v0_1] (a0.Bad:List Int)::tr i0_2 [v0_2] (a0.Replicas:List Af)::wls i0_3 v0_3 (a0.Ledger:List Ai)::wla i0_4 v0_4 (a0.Requests:List Ag)::L0) (fun S=>R NN d 33 [.bp b0_ 0 0 5 1,.agg (Enc.cs k1 a1)] S) (m33 a0 a1) (P5 (fun (x:List Nat×List Nat×AV×AV) (t:Int×Ab)=>AV.int .i64 t.1) (fun (x:List Nat×List Nat×AV×AV) (t:Int×Ab)=>bx b0_ [iW t.2.F,v0_1,v0_2,x.2.2.1,x.2.2.2]::tr i0_1 [v0_1] (t.2.Bad:List Int)::tr i0_2 [v0_2] (t.2.Replicas:List Af)::wls x.1 x.2.2.1 (t.2.Ledger:List Ai)::wla x.2.1 x.2.2.2 (t.2.Requests:List Ag)::L0)):=by
  obtain ⟨d,rfl,g⟩:=up hd
  refine Do (t33 NN d _ _) ?_
  unfold b33 m33
  exact AG (n:=4) rfl rfl (by decide) fun b1=>A9 0 rfl rfl rfl<|A7 (aF1 (A8 (Aq (l0:=k1) (x:=a1))) fun l0_=>w49 (by omega) l0_ a1) fun y1 hy1=>q_p fr<|q_i (AU (i0_3,i0_4,v0_3,v0_4) 1 rfl rfl)<|q_q fr<|q_p fr<|Ao 1 rfl rfl<|A9 0 rfl rfl rfl<|A7 (aF2 (DZ (α:=Ag) 5 rfl) (A8 (Aq (l0:=k1) (x:=a1))) fun l0_ l1_=>w50 (by omega) l0_ a0.Requests l1_ a1) fun y2 hy2=>q_p fr<|q_i (AU (i0_3,i0_4,v0_3,v0_4) 1 rfl rfl)<|q_q fr<|q_p fr<|Ao 1 rfl rfl<|Vs 5 rfl<|q_p fr<|q_i (AU (i0_3,i0_4,v0_3,v0_4) 1 rfl rfl)<|q_q fr<|q_p fr<|Ao 1 rfl rfl<|A9 0 rfl rfl rfl<|q_e (fun _=>Xk rfl)<|Dt 6 [5,0,1,2,3,4] (by decide) (by decide)<|QS (y:=a1) (l:=k1) (fl':=true) rfl fun z1 hz1 v1 i1=>q_q fr<|q_p fr<|F9 2 rfl (fun S hS=>(HP.cellw hS 0 rfl)) rfl<|Dt 6 [1,2,3,4,5,0] (by decide) (by decide)<|AU (i0_3,i1,v0_3,v1) 1 rfl rfl
def m32 (a0:Ab) (a1:Ag):Option (Int×Ab):=(m33 a0 a1).bind fun y1=>some (y1.1,y1.2)
theorem w32 {d:Nat} (hd:10≤d) (L0:List En) (b0_:Nat) (i0_1 i0_2 i0_3 i0_4:List Nat) (v0_1 v0_2 v0_3 v0_4:AV) (a0:Ab) (k1:Bool) (a1:Ag):Okh (bx b0_ [iW a0.F,v0_1,v0_2,v0_3,v0_4]::tr i0_1 [v0_1] (a0.Bad:List Int)::tr i0_2 [v0_2] (a0.Replicas:List Af)::wls i0_3 v0_3 (a0.Ledger:List Ai)::wla i0_4 v0_4 (a0.Requests:List Ag)::L0) (fun S=>R NN d 32 [.bp b0_ 0 0 5 1,.rp k1 (Enc.cs k1 a1)] S) (m32 a0 a1) (P5 (fun (x:List Nat×List Nat×AV×AV) (t:Int×Ab)=>AV.int .i64 t.1) (fun (x:List Nat×List Nat×AV×AV) (t:Int×Ab)=>bx b0_ [iW t.2.F,v0_1,v0_2,x.2.2.1,x.2.2.2]::tr i0_1 [v0_1] (t.2.Bad:List Int)::tr i0_2 [v0_2] (t.2.Replicas:List Af)::wls x.1 x.2.2.1 (t.2.Ledger:List Ai)::wla x.2.1 x.2.2.2 (t.2.Requests:List Ag)::L0)):=by
  obtain ⟨d,rfl,g⟩:=up hd
  refine Do (t32 NN d _ _) ?_
  unfold b32 m32
  exact q_p fr<|D5 (mg:=m33 a0 a1) (fun S=>rfl) (w33 (by omega) _ b0_ i0_1 i0_2 i0_3 i0_4 v0_1 v0_2 v0_3 v0_4 a0 k1 a1) fun y1 hy1 ⟨i1,i2,v1,v2⟩=>AU (i1,i2,v1,v2) 0 rfl rfl
def R9 (a0:List Ai) (a1:Ai→Option (Bool)) (s1:Int×Int):Option (LO (Int×Int)):=bif decide (s1.2 < (a0.length:Int)) then (Av a0 s1.2).bind fun x1=>(a1 x1).bind fun y1=>bif y1 then some (LO.ret (s1.2,s1.2)) else some (LO.norm (s1.1,wi .i64 (s1.2 + 1))) else some (LO.exit 0 (s1.1,s1.2))
def Wq (a0:List Ai) (a1:Ai→Option (Bool)):Option (Int):=(AB (R9 a0 a1) NN (0,0)).bind (Ak (fun _=>none) (fun i1 s2=>if i1 = 0 then some (-1) else none) (fun s2=>some s2.1))
theorem iC {Dc:Nat} {d:Nat} (hd:Dc + 1≤d) (k0:Bool) (a0:List Ai) (c1:Bool→AV) (hc1:∀ l,CV 8 [] false (c1 l) c1) (a1:Ai→Option (Bool)) (tc1:∀ (d:Nat),Dc≤d→∀ (l:Bool) (q0:Bool) (x0:Ai) (S:St) (t:Bool),a1 x0 = some t→AH (cfg NN) (R NN d) 107 (c1 l) [.agg (Enc.cs q0 x0)] S = some ((fun (t:Bool)=>AV.bool t) t,S)) (k1:Bool):Fit (R NN d 107 [.rsl k0 false (a0.map (Enc.cs k0)),c1 k1] []) (Wq a0 a1) PI:=by
  obtain ⟨d,rfl,g⟩:=up hd
  refine AD (t107 NN d _ _) ?_
  unfold nJ Wq
  refine AL<|CU (A:=fun (s:Int×Int)=>[iW s.1,iW s.2]) (B:=fun s=>[]) 0 rr ?_ ?_ ?_
  ·intro s1
   unfold UY R9
   exact q_p fr<|q_i (Bf rfl fun x1 hx1=>q_p fr<|Jn (mg:=a1 x1) (E:=(fun (t:Bool)=>AV.bool t)) (fun S t ht=>tc1 d (by omega) k1 k0 x1 S t ht) fun y1 hy1=>q_i (Ar 0 rr)<|q_p fr<|Ae 0 rr)<|Ax 0 rr
  ·exact fun i1 s2=>q_n (Am (Ad rfl) rfl)<|A4
  ·exact fun s2=>Am (Ad rfl) rfl
def VO (a0:List Int) (a1:List Int) (s1:Bool×Int):Option (LO (Bool×Int)):=bif decide (s1.2 < (a0.length:Int)) then (Av a0 s1.2).bind fun x1=>(Av a1 s1.2).bind fun x2=>bif x1 != x2 then some (LO.ret (false,s1.2)) else some (LO.norm (s1.1,wi .i64 (s1.2 + 1))) else some (LO.exit 0 (s1.1,s1.2))
def m46 (a0:List Int) (a1:List Int):Option (Bool):=bif (a0.length:Int) != (a1.length:Int) then some false else (AB (VO a0 a1) NN (false,0)).bind (Ak (fun _=>none) (fun i1 s2=>if i1 = 0 then some true else none) (fun s2=>some s2.1))
theorem w46 {d:Nat} (hd:1≤d) (k0:Bool) (a0:List Int) (k1:Bool) (a1:List Int):Fit (R NN d 46 [.rsl k0 false (a0.map (Enc.cs k0)),.rsl k1 false (a1.map (Enc.cs k1))] []) (m46 a0 a1) PB:=by
  obtain ⟨d,rfl,g⟩:=up hd
  refine AD (t46 NN d _ _) ?_
  unfold b46 m46
  refine AL<|AL<|q_p fr<|q_i ?_ ?_
  ·exact Am (Ad rfl) rfl
  ·refine AL<|CU (A:=fun (s:Bool×Int)=>[.bool s.1,iW s.2]) (B:=fun s=>[]) 0 rr ?_ ?_ ?_
   ·intro s1
    unfold ZC VO
    exact q_p fr<|q_i (Bf rfl fun x1 hx1=>q_p fr<|Bf rfl fun x2 hx2=>q_p fr<|q_p fr<|q_i (Ar 0 rr)<|q_p fr<|Ae 0 rr)<|Ax 0 rr
   ·exact fun i1 s2=>q_n (Am (Ad rfl) rfl)<|A4
   ·exact fun s2=>Am (Ad rfl) rfl
def Rz (a0:List AP) (a1:List AP) (s1:Bool×Int):Option (LO (Bool×Int)):=bif decide (s1.2 < (a0.length:Int)) then (Av a0 s1.2).bind fun x1=>(Av a1 s1.2).bind fun x2=>bif !(((x1.Slot == x2.Slot) && ((x1.View == x2.View) && ((x1.Value == x2.Value) && true)))) then some (LO.ret (false,s1.2)) else some (LO.norm (s1.1,wi .i64 (s1.2 + 1))) else some (LO.exit 0 (s1.1,s1.2))
def Y3 (a0:List AP) (a1:List AP):Option (Bool):=bif (a0.length:Int) != (a1.length:Int) then some false else (AB (Rz a0 a1) NN (false,0)).bind (Ak (fun _=>none) (fun i1 s2=>if i1 = 0 then some true else none) (fun s2=>some s2.1))
theorem w135 {d:Nat} (hd:1≤d) (k0:Bool) (a0:List AP) (k1:Bool) (a1:List AP):Fit (R NN d 135 [.rsl k0 false (a0.map (Enc.cs k0)),.rsl k1 false (a1.map (Enc.cs k1))] []) (Y3 a0 a1) PB:=by
  obtain ⟨d,rfl,g⟩:=up hd
  refine AD (t135 NN d _ _) ?_
  unfold mJ Y3
  refine AL<|AL<|q_p fr<|q_i ?_ ?_
  ·exact Am (Ad rfl) rfl
  ·refine AL<|CU (A:=fun (s:Bool×Int)=>[.bool s.1,iW s.2]) (B:=fun s=>[]) 0 rr ?_ ?_ ?_
   ·intro s1
    unfold UU Rz
    exact q_p fr<|q_i (Bf rfl fun x1 hx1=>q_p fr<|Bf rfl fun x2 hx2=>q_p fr<|q_p (fun _=>XZ _ _ _ _ _ _)<|q_i (Ar 0 rr)<|q_p fr<|Ae 0 rr)<|Ax 0 rr
   ·exact fun i1 s2=>q_n (Am (Ad rfl) rfl)<|A4
   ·exact fun s2=>Am (Ad rfl) rfl
def Wp (a0:Ai) (a1:Ai):Option (Bool):=( bif a0.Kind == a1.Kind then bif a0.View == a1.View then bif a0.From == a1.From then bif a0.Slot == a1.Slot then bif a0.Value == a1.Value then (Y3 a0.Certs a1.Certs).bind fun y1=>bif y1 then (m46 a0.Refs a1.Refs).bind fun y2=>some (LO.norm y2) else some (LO.norm false) else some (LO.norm false) else some (LO.norm false) else some (LO.norm false) else some (LO.norm false) else some (LO.norm false)).bind (Ak (fun s2=>some s2) (fun i1 s2=>none) (fun s2=>some s2))
theorem w109 {d:Nat} (hd:2≤d) (k0:Bool) (a0:Ai) (k1:Bool) (a1:Ai):Fit (R NN d 109 [.agg (Enc.cs k0 a0),.agg (Enc.cs k1 a1)] []) (Wp a0 a1) PB:=by
  obtain ⟨d,rfl,g⟩:=up hd
  refine AD (t109 NN d _ _) ?_
  unfold nH Wp
  refine AG (n:=7) rfl rfl (by decide) fun b1=>AG (n:=7) rfl rfl (by decide) fun b2=>Bo (A:=fun (s:Bool)=>[.bool s]) (B:=fun s=>[bx b2 [iW a1.Kind,iW a1.View,iW a1.From,iW a1.Slot,iW a1.Value,.rsl k1 false (a1.Certs.map (Enc.cs k1)),.rsl k1 false (a1.Refs.map (Enc.cs k1))],bx b1 [iW a0.Kind,iW a0.View,iW a0.From,iW a0.Slot,iW a0.Value,.rsl k0 false (a0.Certs.map (Enc.cs k0)),.rsl k0 false (a0.Refs.map (Enc.cs k0))]]) ?_ ?_ ?_ ?_
  ·exact q_p fr<|Ao 1 rfl rfl<|q_p fr<|Ao 0 rfl rfl<|q_p fr<|q_k (q_p fr<|Ao 1 rfl rfl<|q_p fr<|Ao 0 rfl rfl<|q_p fr<|q_k (q_p fr<|Ao 1 rfl rfl<|q_p fr<|Ao 0 rfl rfl<|q_p fr<|q_k (q_p fr<|Ao 1 rfl rfl<|q_p fr<|Ao 0 rfl rfl<|q_p fr<|q_k (q_p fr<|Ao 1 rfl rfl<|q_p fr<|Ao 0 rfl rfl<|q_p fr<|q_k (q_p fr<|Ao 1 rfl rfl<|q_p fr<|Ao 0 rfl rfl<|A7 (aF2 As As fun l0_ l1_=>w135 (by omega) l0_ a0.Certs l1_ a1.Certs) fun y1 hy1=>q_k (q_p fr<|Ao 1 rfl rfl<|q_p fr<|Ao 0 rfl rfl<|A7 (aF2 As As fun l0_ l1_=>w46 (by omega) l0_ a0.Refs l1_ a1.Refs) fun y2 hy2=>Ae 0 rr)<|Ae 0 rr)<|Ae 0 rr)<|Ae 0 rr)<|Ae 0 rr)<|Ae 0 rr)<|Ae 0 rr
  ·exact fun s2=>Am (Ad rfl) rfl
  ·exact fun i1 s2=>A4
  ·exact fun s2=>Am (Ad rfl) rfl
def Qc (a0:Ai) (a1:Ai):Option (Bool):=(Wp a0 a1).bind fun y1=>some y1
theorem w108 {d:Nat} (hd:3≤d) (k0:Bool) (a0:Ai) (k1:Bool) (a1:Ai):Fit (R NN d 108 [.agg (Enc.cs k0 a0),.rp k1 (Enc.cs k1 a1)] []) (Qc a0 a1) PB:=by
  obtain ⟨d,rfl,g⟩:=up hd
  refine AD (t108 NN d _ _) ?_
  unfold nI Qc
  exact AG (n:=7) rfl rfl (by decide) fun b1=>A9 0 rfl rfl rfl<|q_p fr<|A7 (aF2 (A8 (Aq (l0:=k0) (x:=a0))) (A8 (Aq (l0:=k1) (x:=a1))) fun l0_ l1_=>w109 (by omega) l0_ a0 l1_ a1) fun y1 hy1=>Am (Ad rfl) rfl
def m73 (a0:List Ai) (a1:Ai):Option (Int):=(Wq a0 (fun x0_=>Qc x0_ a1)).bind fun y1=>some y1
theorem w73 {d:Nat} (hd:5≤d) (k0:Bool) (a0:List Ai) (k1:Bool) (a1:Ai):Fit (R NN d 73 [.rsl k0 false (a0.map (Enc.cs k0)),.agg (Enc.cs k1 a1)] []) (m73 a0 a1) PI:=by
  obtain ⟨d,rfl,g⟩:=up hd
  refine AD (t73 NN d _ _) ?_
  unfold b73 m73
  exact AG (n:=7) rfl rfl (by decide) fun b1=>A7 (aF2 As (BC (Aa (B9 0 rfl (Aq (l0:=k1) (x:=a1))) Ah)) fun l0_ l1_=>iC (Dc:=3) (by omega) l0_ a0 (fun l=>.fn 108 [.rp l (Enc.cs l a1)]) (fun l=>BC (Aa (AZ (Aq (l0:=l) (x:=a1)) (fun _ _ _ h=>Enc.frz _ a1 _ _ _ h)) Ah)) (fun x0_=>Qc x0_ a1) (fun d hd l q0_ x0_ S t ht=>(TW _ _ _ _).trans (BR (E:=(fun (t:Bool)=>AV.bool t)) (mg:=Qc x0_ a1) (Hg (M:=fun a=>Fit (R NN d 108 a []) _ _) (A8 (Aq (l0:=q0_) (x:=x0_))) (AZ (Aq (l0:=l) (x:=a1)) (fun _ _ _ h=>Enc.frz _ a1 _ _ _ h)) HP.nil fun u0_ v0_=>w108 hd u0_ x0_ v0_ a1) ht)) l1_) fun y1 hy1=>Am (Ad rfl) rfl
def m80 (a0:Int):Bool:=(m56 a0 0 20)
theorem w80 {d:Nat} (hd:2≤d) (a0:Int):Fit (R NN d 80 [iW a0] []) (some (m80 a0)) PB:=by
  obtain ⟨d,rfl,g⟩:=up hd
  refine AD (t80 NN d _) ?_
  unfold b80 m80
  exact AS (aF3 (Ad rfl) (Ad rfl) (Ad rfl) fun l0_ l1_ l2_=>w56 (by omega) a0 0 20)<|Am (Ad rfl) rfl
def m94 (a0:Int):Bool:=(m56 a0 1 30)
theorem w94 {d:Nat} (hd:2≤d) (a0:Int):Fit (R NN d 94 [iW a0] []) (some (m94 a0)) PB:=by
  obtain ⟨d,rfl,g⟩:=up hd
  refine AD (t94 NN d _) ?_
  unfold b94 m94
  exact AS (aF3 (Ad rfl) (Ad rfl) (Ad rfl) fun l0_ l1_ l2_=>w56 (by omega) a0 1 30)<|Am (Ad rfl) rfl
def m95 (a0:Int):Bool:=(m56 a0 0 12)
theorem w95 {d:Nat} (hd:2≤d) (a0:Int):Fit (R NN d 95 [iW a0] []) (some (m95 a0)) PB:=by
  obtain ⟨d,rfl,g⟩:=up hd
  refine AD (t95 NN d _) ?_
  unfold b95 m95
  exact AS (aF3 (Ad rfl) (Ad rfl) (Ad rfl) fun l0_ l1_ l2_=>w56 (by omega) a0 0 12)<|Am (Ad rfl) rfl
def T9 (a0:Int):Bool:=(m56 a0 1 3)
theorem w112 {d:Nat} (hd:2≤d) (a0:Int):Fit (R NN d 112 [iW a0] []) (some (T9 a0)) PB:=by
  obtain ⟨d,rfl,g⟩:=up hd
  refine AD (t112 NN d _) ?_
  unfold nE T9
  exact AS (aF3 (Ad rfl) (Ad rfl) (Ad rfl) fun l0_ l1_ l2_=>w56 (by omega) a0 1 3)<|Am (Ad rfl) rfl
def Ry (a0:List AP) (a1:AP→Option (Bool)) (s1:Int×Int):Option (LO (Int×Int)):=bif decide (s1.2 < (a0.length:Int)) then (Av a0 s1.2).bind fun x1=>(a1 x1).bind fun y1=>bif y1 then some (LO.ret (s1.2,s1.2)) else some (LO.norm (s1.1,wi .i64 (s1.2 + 1))) else some (LO.exit 0 (s1.1,s1.2))
def d6 (a0:List AP) (a1:AP→Option (Bool)):Option (Int):=(AB (Ry a0 a1) NN (0,0)).bind (Ak (fun _=>none) (fun i1 s2=>if i1 = 0 then some (-1) else none) (fun s2=>some s2.1))
theorem w137 {Dc:Nat} {d:Nat} (hd:Dc + 1≤d) (k0:Bool) (a0:List AP) (c1:Bool→AV) (hc1:∀ l,CV 8 [] false (c1 l) c1) (a1:AP→Option (Bool)) (tc1:∀ (d:Nat),Dc≤d→∀ (l:Bool) (q0:Bool) (x0:AP) (S:St) (t:Bool),a1 x0 = some t→AH (cfg NN) (R NN d) 137 (c1 l) [.agg (Enc.cs q0 x0)] S = some ((fun (t:Bool)=>AV.bool t) t,S)) (k1:Bool):Fit (R NN d 137 [.rsl k0 false (a0.map (Enc.cs k0)),c1 k1] []) (d6 a0 a1) PI:=by
  obtain ⟨d,rfl,g⟩:=up hd
  refine AD (t137 NN d _ _) ?_
  unfold mH d6
  refine AL<|CU (A:=fun (s:Int×Int)=>[iW s.1,iW s.2]) (B:=fun s=>[]) 0 rr ?_ ?_ ?_
  ·intro s1
   unfold UT Ry
   exact q_p fr<|q_i (Bf rfl fun x1 hx1=>q_p fr<|Jn (mg:=a1 x1) (E:=(fun (t:Bool)=>AV.bool t)) (fun S t ht=>tc1 d (by omega) k1 k0 x1 S t ht) fun y1 hy1=>q_i (Ar 0 rr)<|q_p fr<|Ae 0 rr)<|Ax 0 rr
  ·exact fun i1 s2=>q_n (Am (Ad rfl) rfl)<|A4
  ·exact fun s2=>Am (Ad rfl) rfl
def T8 (a0:List AP) (a1:AP→Option (Bool)):Option (Bool):=(d6 a0 a1).bind fun y1=>some (decide (y1 ≥ 0))
theorem hJ {Dc:Nat} {d:Nat} (hd:Dc + 2≤d) (k0:Bool) (a0:List AP) (c1:Bool→AV) (hc1:∀ l,CV 8 [] false (c1 l) c1) (a1:AP→Option (Bool)) (tc1:∀ (d:Nat),Dc≤d→∀ (l:Bool) (q0:Bool) (x0:AP) (S:St) (t:Bool),a1 x0 = some t→AH (cfg NN) (R NN d) 137 (c1 l) [.agg (Enc.cs q0 x0)] S = some ((fun (t:Bool)=>AV.bool t) t,S)) (k1:Bool):Fit (R NN d 113 [.rsl k0 false (a0.map (Enc.cs k0)),c1 k1] []) (T8 a0 a1) PB:=by
  obtain ⟨d,rfl,g⟩:=up hd
  refine AD (t113 NN d _ _) ?_
  unfold nD T8
  exact A7 (aF2 As (CV.any (hc1 k1)) fun l0_ l1_=>w137 (by omega) l0_ a0 c1 hc1 a1 tc1 l1_) fun y1 hy1=>q_p fr<|Am (Ad rfl) rfl
def Oy (a0:AP) (a1:Ai):Option (Bool):=( bif !(m94 a0.Slot) then some (LO.norm true) else bif !(m56 a0.View 0 (wi .i64 (a1.View - 1))) then some (LO.norm true) else some (LO.norm (!(m95 a0.Value)))).bind (Ak (fun s2=>some s2) (fun i1 s2=>none) (fun s2=>some s2))
theorem w114 {d:Nat} (hd:3≤d) (k0:Bool) (a0:AP) (k1:Bool) (a1:Ai):Fit (R NN d 114 [.agg (Enc.cs k0 a0),.rp k1 (Enc.cs k1 a1)] []) (Oy a0 a1) PB:=by
  obtain ⟨d,rfl,g⟩:=up hd
  refine AD (t114 NN d _ _) ?_
  unfold nC Oy
  refine AG (n:=3) rfl rfl (by decide) fun b1=>Bo (A:=fun (s:Bool)=>[.bool s]) (B:=fun s=>[bx b1 [iW a0.Slot,iW a0.View,iW a0.Value]]) ?_ ?_ ?_ ?_
  ·exact q_p fr<|Ao 0 rfl rfl<|AS (aF1 (Ad rfl) fun l0_=>w94 (by omega) a0.Slot)<|q_p fr<|q_j (Ae 0 rr)<|q_p fr<|Ao 0 rfl rfl<|q_p fr<|q_p fr<|q_p fr<|AS (aF3 (Ad rfl) (Ad rfl) (Ad rfl) fun l0_ l1_ l2_=>w56 (by omega) a0.View 0 (wi .i64 (a1.View - 1)))<|q_p fr<|q_j (Ae 0 rr)<|q_p fr<|Ao 0 rfl rfl<|AS (aF1 (Ad rfl) fun l0_=>w95 (by omega) a0.Value)<|q_p fr<|Ae 0 rr
  ·exact fun s2=>Am (Ad rfl) rfl
  ·exact fun i1 s2=>A4
  ·exact fun s2=>Am (Ad rfl) rfl
def Rx (a0:List Int) (a1:Int→Option (Bool)) (s1:Int×Int):Option (LO (Int×Int)):=bif decide (s1.2 < (a0.length:Int)) then (Av a0 s1.2).bind fun x1=>(a1 x1).bind fun y1=>bif y1 then some (LO.ret (s1.2,s1.2)) else some (LO.norm (s1.1,wi .i64 (s1.2 + 1))) else some (LO.exit 0 (s1.1,s1.2))
def d5 (a0:List Int) (a1:Int→Option (Bool)):Option (Int):=(AB (Rx a0 a1) NN (0,0)).bind (Ak (fun _=>none) (fun i1 s2=>if i1 = 0 then some (-1) else none) (fun s2=>some s2.1))
theorem w138 {Dc:Nat} {d:Nat} (hd:Dc + 1≤d) (k0:Bool) (a0:List Int) (c1:Bool→AV) (hc1:∀ l,CV 8 [] false (c1 l) c1) (a1:Int→Option (Bool)) (tc1:∀ (d:Nat),Dc≤d→∀ (l:Bool) (x0:Int) (S:St) (t:Bool),a1 x0 = some t→AH (cfg NN) (R NN d) 138 (c1 l) [iW x0] S = some ((fun (t:Bool)=>AV.bool t) t,S)) (k1:Bool):Fit (R NN d 138 [.rsl k0 false (a0.map (Enc.cs k0)),c1 k1] []) (d5 a0 a1) PI:=by
  obtain ⟨d,rfl,g⟩:=up hd
  refine AD (t138 NN d _ _) ?_
  unfold mG d5
  refine AL<|CU (A:=fun (s:Int×Int)=>[iW s.1,iW s.2]) (B:=fun s=>[]) 0 rr ?_ ?_ ?_
  ·intro s1
   unfold US Rx
   exact q_p fr<|q_i (Bf rfl fun x1 hx1=>q_p fr<|Jn (mg:=a1 x1) (E:=(fun (t:Bool)=>AV.bool t)) (fun S t ht=>tc1 d (by omega) k1 x1 S t ht) fun y1 hy1=>q_i (Ar 0 rr)<|q_p fr<|Ae 0 rr)<|Ax 0 rr
  ·exact fun i1 s2=>q_n (Am (Ad rfl) rfl)<|A4
  ·exact fun s2=>Am (Ad rfl) rfl
def T0 (a0:List Int) (a1:Int→Option (Bool)):Option (Bool):=(d5 a0 a1).bind fun y1=>some (decide (y1 ≥ 0))
theorem gZ {Dc:Nat} {d:Nat} (hd:Dc + 2≤d) (k0:Bool) (a0:List Int) (c1:Bool→AV) (hc1:∀ l,CV 8 [] false (c1 l) c1) (a1:Int→Option (Bool)) (tc1:∀ (d:Nat),Dc≤d→∀ (l:Bool) (x0:Int) (S:St) (t:Bool),a1 x0 = some t→AH (cfg NN) (R NN d) 138 (c1 l) [iW x0] S = some ((fun (t:Bool)=>AV.bool t) t,S)) (k1:Bool):Fit (R NN d 115 [.rsl k0 false (a0.map (Enc.cs k0)),c1 k1] []) (T0 a0 a1) PB:=by
  obtain ⟨d,rfl,g⟩:=up hd
  refine AD (t115 NN d _ _) ?_
  unfold nB T0
  exact A7 (aF2 As (CV.any (hc1 k1)) fun l0_ l1_=>w138 (by omega) l0_ a0 c1 hc1 a1 tc1 l1_) fun y1 hy1=>q_p fr<|Am (Ad rfl) rfl
def Qb (a0:Int):Bool:=!(m56 a0 0 239)
theorem w116 {d:Nat} (hd:2≤d) (a0:Int):Fit (R NN d 116 [iW a0] []) (some (Qb a0)) PB:=by
  obtain ⟨d,rfl,g⟩:=up hd
  refine AD (t116 NN d _) ?_
  unfold mZ Qb
  exact AS (aF3 (Ad rfl) (Ad rfl) (Ad rfl) fun l0_ l1_ l2_=>w56 (by omega) a0 0 239)<|q_p fr<|Am (Ad rfl) rfl
def Hu (a1:Ai) (s7:Int×Int):Option (LO (Int×Int)):=bif decide (s7.2 < (a1.Certs.length:Int)) then ( (Av a1.Certs s7.2).bind fun x1=>bif decide (s7.2 > 0) then (Av a1.Certs (wi .i64 (s7.2 - 1))).bind fun x2=>bif decide (x1.Slot≤x2.Slot) then some (LO.ret 1) else some (LO.norm s7.1) else some (LO.norm s7.1)).bind (Ak (fun s9=>some (LO.norm (s9,wi .i64 (s7.2 + 1)))) (fun i4 s9=>some (LO.exit i4 (s9,s7.2))) (fun s9=>some (LO.ret (s9,s7.2)))) else some (LO.exit 1 (s7.1,s7.2))
def Ht (a1:Ai) (s11:Int×Int):Option (LO (Int×Int)):=bif decide (s11.2 < (a1.Refs.length:Int)) then ( (Av a1.Refs s11.2).bind fun x3=>bif decide (s11.2 > 0) then (Av a1.Refs (wi .i64 (s11.2 - 1))).bind fun x4=>bif decide (x3≤x4) then some (LO.ret 1) else some (LO.norm s11.1) else some (LO.norm s11.1)).bind (Ak (fun s13=>some (LO.norm (s13,wi .i64 (s11.2 + 1)))) (fun i6 s13=>some (LO.exit i6 (s13,s11.2))) (fun s13=>some (LO.ret (s13,s11.2)))) else some (LO.exit 3 (s11.1,s11.2))
def m76 (a0:Int) (a1:Ai):Option (Int):=( ( bif !(m56 a1.Kind 1 5) then some (LO.norm true) else bif !(T9 a1.Kind) then bif a1.Slot != 0 then some (LO.norm true) else bif a1.Value != 0 then some (LO.norm true) else bif a1.Kind != 4 then bif decide ((a1.Certs.length:Int) > 0) then some (LO.norm true) else bif a1.Kind != 5 then some (LO.norm (decide ((a1.Refs.length:Int) > 0))) else some (LO.norm false) else bif a1.Kind != 5 then some (LO.norm (decide ((a1.Refs.length:Int) > 0))) else some (LO.norm false) else bif a1.Kind != 4 then bif decide ((a1.Certs.length:Int) > 0) then some (LO.norm true) else bif a1.Kind != 5 then some (LO.norm (decide ((a1.Refs.length:Int) > 0))) else some (LO.norm false) else bif a1.Kind != 5 then some (LO.norm (decide ((a1.Refs.length:Int) > 0))) else some (LO.norm false)).bind (Ak (fun s3=>bif s3 then some (LO.ret 1) else ( bif !(m80 a1.View) then some (LO.norm true) else bif !(m78 a0 a1.From) then some (LO.norm true) else bif (T9 a1.Kind) then bif !(m94 a1.Slot) then some (LO.norm true) else some (LO.norm (!(m95 a1.Value))) else some (LO.norm false)).bind (Ak (fun s5=>bif s5 then some (LO.ret 3) else bif decide ((a1.Certs.length:Int) > 30) then some (LO.ret 2) else bif decide ((a1.Refs.length:Int) > (m57 a0)) then some (LO.ret 2) else some (LO.norm 0)) (fun i2 s5=>if i2 = 0 then some (LO.norm 0) else some (LO.exit i2 0)) (fun s5=>some (LO.ret 0)))) (fun i1 s3=>if i1 = 0 then some (LO.norm 0) else some (LO.exit i1 0)) (fun s3=>some (LO.ret 0)))).bind (Ak (fun s6=>(AB (Hu a1) NN (s6,0)).bind (Ak (fun _=>none) (fun i5 s10=>if i5 = 1 then (AB (Ht a1) NN (s10.1,0)).bind (Ak (fun _=>none) (fun i7 s14=>if i7 = 3 then (T8 a1.Certs (fun x0_=>Oy x0_ a1)).bind fun y1=>bif y1 then some 3 else (T0 a1.Refs (fun x0_=>some (Qb x0_))).bind fun y2=>bif y2 then some 3 else some 0 else none) (fun s14=>some s14.1)) else none) (fun s10=>some s10.1))) (fun i3 s6=>none) (fun s6=>some s6))
theorem w76 {d:Nat} (hd:6≤d) (a0:Int) (k1:Bool) (a1:Ai):Fit (R NN d 76 [iW a0,.agg (Enc.cs k1 a1)] []) (m76 a0 a1) PI:=by
  obtain ⟨d,rfl,g⟩:=up hd
  refine AD (t76 NN d _ _) ?_
  unfold b76 m76
  refine AG (n:=7) rfl rfl (by decide) fun b1=>q_p fr<|Ao 0 rfl rfl<|AS (aF1 (Ad rfl) fun l0_=>w112 (by omega) a1.Kind)<|Bo (A:=fun (s:Int)=>[iW s]) (B:=fun s=>[bx b1 [iW a1.Kind,iW a1.View,iW a1.From,iW a1.Slot,iW a1.Value,.rsl k1 false (a1.Certs.map (Enc.cs k1)),.rsl k1 false (a1.Refs.map (Enc.cs k1))]]) ?_ ?_ ?_ ?_
  ·refine Bo (A:=fun (s:Bool)=>[.bool s]) (B:=fun s=>[bx b1 [iW a1.Kind,iW a1.View,iW a1.From,iW a1.Slot,iW a1.Value,.rsl k1 false (a1.Certs.map (Enc.cs k1)),.rsl k1 false (a1.Refs.map (Enc.cs k1))]]) ?_ ?_ ?_ ?_
   ·exact q_p fr<|Ao 0 rfl rfl<|AS (aF3 (Ad rfl) (Ad rfl) (Ad rfl) fun l0_ l1_ l2_=>w56 (by omega) a1.Kind 1 5)<|q_p fr<|q_j (Ae 0 rr)<|q_p fr<|q_k (q_p fr<|Ao 0 rfl rfl<|q_p fr<|q_j (Ae 0 rr)<|q_p fr<|Ao 0 rfl rfl<|q_p fr<|q_j (Ae 0 rr)<|q_p fr<|Ao 0 rfl rfl<|q_p fr<|q_k (q_p fr<|Ao 0 rfl rfl<|AL<|q_p fr<|q_j (Ae 0 rr)<|q_p fr<|Ao 0 rfl rfl<|q_p fr<|q_k (q_p fr<|Ao 0 rfl rfl<|AL<|q_p fr<|Ae 0 rr)<|Ae 0 rr)<|q_p fr<|Ao 0 rfl rfl<|q_p fr<|q_k (q_p fr<|Ao 0 rfl rfl<|AL<|q_p fr<|Ae 0 rr)<|Ae 0 rr)<|q_p fr<|Ao 0 rfl rfl<|q_p fr<|q_k (q_p fr<|Ao 0 rfl rfl<|AL<|q_p fr<|q_j (Ae 0 rr)<|q_p fr<|Ao 0 rfl rfl<|q_p fr<|q_k (q_p fr<|Ao 0 rfl rfl<|AL<|q_p fr<|Ae 0 rr)<|Ae 0 rr)<|q_p fr<|Ao 0 rfl rfl<|q_p fr<|q_k (q_p fr<|Ao 0 rfl rfl<|AL<|q_p fr<|Ae 0 rr)<|Ae 0 rr
   ·intro s3
    refine q_i ?_ ?_
    ·exact Ar 0 rr
    ·refine Bo (A:=fun (s:Bool)=>[.bool s]) (B:=fun s=>[bx b1 [iW a1.Kind,iW a1.View,iW a1.From,iW a1.Slot,iW a1.Value,.rsl k1 false (a1.Certs.map (Enc.cs k1)),.rsl k1 false (a1.Refs.map (Enc.cs k1))]]) ?_ ?_ ?_ ?_
     ·exact q_p fr<|Ao 0 rfl rfl<|AS (aF1 (Ad rfl) fun l0_=>w80 (by omega) a1.View)<|q_p fr<|q_j (Ae 0 rr)<|q_p fr<|Ao 0 rfl rfl<|AS (aF2 (Ad rfl) (Ad rfl) fun l0_ l1_=>w78 (by omega) a0 a1.From)<|q_p fr<|q_j (Ae 0 rr)<|q_k (q_p fr<|Ao 0 rfl rfl<|AS (aF1 (Ad rfl) fun l0_=>w94 (by omega) a1.Slot)<|q_p fr<|q_j (Ae 0 rr)<|q_p fr<|Ao 0 rfl rfl<|AS (aF1 (Ad rfl) fun l0_=>w95 (by omega) a1.Value)<|q_p fr<|Ae 0 rr)<|Ae 0 rr
     ·intro s5
      refine q_i ?_ ?_
      ·exact Ar 0 rr
      ·refine q_p fr<|Ao 0 rfl rfl<|AL<|q_p fr<|q_j ?_ ?_
       ·first | refine BW ?_ | skip
        exact Ar 0 rr
       ·exact q_p fr<|Ao 0 rfl rfl<|AL<|AS (aF1 (Ad rfl) fun l0_=>w57 (by omega) a0)<|q_p fr<|q_i (Ar 0 rr)<|Ae 0 rr
     ·exact fun i2 s5=>q_n (Ae 0 rr)<|Ax 0 rr
     ·exact fun s5=>Ar 0 rr
   ·exact fun i1 s3=>q_n (Ae 0 rr)<|Ax 0 rr
   ·exact fun s3=>Ar 0 rr
  ·intro s6
   refine q_p fr<|Ao 0 rfl rfl<|AL<|CU (A:=fun (s:Int×Int)=>[iW s.1,iW s.2]) (B:=fun s=>[bx b1 [iW a1.Kind,iW a1.View,iW a1.From,iW a1.Slot,iW a1.Value,.rsl k1 false (a1.Certs.map (Enc.cs k1)),.rsl k1 false (a1.Refs.map (Enc.cs k1))]]) 0 rr ?_ ?_ ?_
   ·intro s7
    unfold Z6 Hu
    refine q_p fr<|q_i ?_ ?_
    ·refine Bo (A:=fun (s:Int)=>[iW s]) (B:=fun s=>[bx b1 [iW a1.Kind,iW a1.View,iW a1.From,iW a1.Slot,iW a1.Value,.rsl k1 false (a1.Certs.map (Enc.cs k1)),.rsl k1 false (a1.Refs.map (Enc.cs k1))]]) ?_ ?_ ?_ ?_
     ·refine Bf rfl fun x1 hx1=>q_p fr<|AE rfl fun b2=>A6 0 rfl rfl rfl (by decide) rfl<|q_p fr<|q_k ?_ ?_
      ·exact q_p fr<|Ao 0 rfl rfl<|q_p fr<|Ao 1 rfl rfl<|q_p fr<|Bf rfl fun x2 hx2=>q_p fr<|q_p fr<|q_p fr<|q_i (Ar 1 rr)<|Ae 1 rr
      ·first | refine CZ ?_ | skip
       exact Ae 1 rr
     ·exact fun s9=>q_p fr<|Ae 0 rr
     ·exact fun i4 s9=>Ax 0 rr
     ·exact fun s9=>Ar 0 rr
    ·exact Ax 0 rr
   ·intro i5 s10
    refine q_n ?_ ?_
    ·refine q_p fr<|Ao 0 rfl rfl<|AL<|CU (A:=fun (s:Int×Int)=>[iW s.1,iW s.2]) (B:=fun s=>[bx b1 [iW a1.Kind,iW a1.View,iW a1.From,iW a1.Slot,iW a1.Value,.rsl k1 false (a1.Certs.map (Enc.cs k1)),.rsl k1 false (a1.Refs.map (Enc.cs k1))]]) 0 rr ?_ ?_ ?_
     ·intro s11
      unfold Z5 Ht
      refine q_p fr<|q_i ?_ ?_
      ·refine Bo (A:=fun (s:Int)=>[iW s]) (B:=fun s=>[bx b1 [iW a1.Kind,iW a1.View,iW a1.From,iW a1.Slot,iW a1.Value,.rsl k1 false (a1.Certs.map (Enc.cs k1)),.rsl k1 false (a1.Refs.map (Enc.cs k1))]]) ?_ ?_ ?_ ?_
       ·refine Bf rfl fun x3 hx3=>q_p fr<|q_p fr<|q_k ?_ ?_
        ·exact q_p fr<|Ao 0 rfl rfl<|q_p fr<|Bf rfl fun x4 hx4=>q_p fr<|q_p fr<|q_i (Ar 0 rr)<|Ae 0 rr
        ·first | refine CZ ?_ | skip
         exact Ae 0 rr
       ·exact fun s13=>q_p fr<|Ae 0 rr
       ·exact fun i6 s13=>Ax 0 rr
       ·exact fun s13=>Ar 0 rr
      ·exact Ax 0 rr
     ·exact fun i7 s14=>q_n (q_p fr<|Ao 0 rfl rfl<|A7 (aF2 As (BC (Aa (B9 0 rfl (Aq (l0:=k1) (x:=a1))) Ah)) fun l0_ l1_=>hJ (Dc:=3) (by omega) l0_ a1.Certs (fun l=>.fn 114 [.rp l (Enc.cs l a1)]) (fun l=>BC (Aa (AZ (Aq (l0:=l) (x:=a1)) (fun _ _ _ h=>Enc.frz _ a1 _ _ _ h)) Ah)) (fun x0_=>Oy x0_ a1) (fun d hd l q0_ x0_ S t ht=>(TT _ _ _ _).trans (BR (E:=(fun (t:Bool)=>AV.bool t)) (mg:=Oy x0_ a1) (Hg (M:=fun a=>Fit (R NN d 114 a []) _ _) (A8 (Aq (l0:=q0_) (x:=x0_))) (AZ (Aq (l0:=l) (x:=a1)) (fun _ _ _ h=>Enc.frz _ a1 _ _ _ h)) HP.nil fun u0_ v0_=>w114 hd u0_ x0_ v0_ a1) ht)) l1_) fun y1 hy1=>q_i (Am (Ad rfl) rfl)<|q_p fr<|Ao 0 rfl rfl<|A7 (aF2 As (BC Ah) fun l0_ l1_=>gZ (Dc:=2) (by omega) l0_ a1.Refs (fun l=>.fn 116 []) (fun l=>BC Ah) (fun x0_=>some (Qb x0_)) (fun d hd l x0_ S t ht=>(TR _ _ _ _).trans (BR (E:=(fun (t:Bool)=>AV.bool t)) (mg:=some (Qb x0_)) (Xv (M:=fun a=>Fit (R NN d 116 a []) _ _) (Ad rfl) HP.nil fun u0_=>w116 hd x0_) ht)) l1_) fun y2 hy2=>q_i (Am (Ad rfl) rfl)<|Am (Ad rfl) rfl)<|A4
     ·exact fun s14=>Am (Ad rfl) rfl
    ·exact A4
   ·exact fun s10=>Am (Ad rfl) rfl
  ·exact fun i3 s6=>A4
  ·exact fun s6=>Am (Ad rfl) rfl
def Tz (a0:Int) (a1:Int):Bool:=decide (a0 ≥ a1)
theorem w117 {d:Nat} (hd:1≤d) (a0:Int) (k1:Bool) (a1:Int):Fit (R NN d 117 [iW a0,.rp k1 (Enc.cs k1 a1)] []) (some (Tz a0 a1)) PB:=by
  obtain ⟨d,rfl,g⟩:=up hd
  refine AD (t117 NN d _ _) ?_
  unfold mY Tz
  exact q_p fr<|q_p fr<|Am (Ad rfl) rfl
def m77 (a0:Ai) (a1:Int):Option (Bool):=(T0 a0.Refs (fun x0_=>some (Tz x0_ a1))).bind fun y1=>some (!y1)
theorem w77 {d:Nat} (hd:4≤d) (k0:Bool) (a0:Ai) (a1:Int):Fit (R NN d 77 [.agg (Enc.cs k0 a0),iW a1] []) (m77 a0 a1) PB:=by
  obtain ⟨d,rfl,g⟩:=up hd
  refine AD (t77 NN d _ _) ?_
  unfold b77 m77
  exact AG (n:=7) rfl rfl (by decide) fun b1=>AG (n:=1) rfl rfl (by decide) fun b2=>q_p fr<|Ao 1 rfl rfl<|A7 (aF2 As (BC (Aa (B9 0 rfl (Aq (l0:=false) (x:=a1))) Ah)) fun l0_ l1_=>gZ (Dc:=1) (by omega) l0_ a0.Refs (fun l=>.fn 117 [.rp l (Enc.cs l a1)]) (fun l=>BC (Aa (AZ (Aq (l0:=l) (x:=a1)) (fun _ _ _ h=>Enc.frz _ a1 _ _ _ h)) Ah)) (fun x0_=>some (Tz x0_ a1)) (fun d hd l x0_ S t ht=>(TQ _ _ _ _).trans (BR (E:=(fun (t:Bool)=>AV.bool t)) (mg:=some (Tz x0_ a1)) (Hg (M:=fun a=>Fit (R NN d 117 a []) _ _) (Ad rfl) (AZ (Aq (l0:=l) (x:=a1)) (fun _ _ _ h=>Enc.frz _ a1 _ _ _ h)) HP.nil fun u0_ v0_=>w117 hd x0_ v0_ a1) ht)) l1_) fun y1 hy1=>q_p fr<|Am (Ad rfl) rfl
def IF (a0:Int) (a1:List Ai) (s1:Int×Int):Option (LO (Int×Int)):=bif decide (s1.2 < (a1.length:Int)) then (Av a1 s1.2).bind fun x1=>(m76 a0 x1).bind fun y1=>bif y1 != 0 then some (LO.ret (y1,s1.2)) else (m77 x1 s1.2).bind fun y2=>bif !y2 then some (LO.ret (4,s1.2)) else (EL a1 0 s1.2).bind fun ys1=>(m73 ys1 x1).bind fun y3=>bif decide (y3 ≥ 0) then some (LO.ret (6,s1.2)) else some (LO.norm (s1.1,wi .i64 (s1.2 + 1))) else some (LO.exit 1 (s1.1,s1.2))
def m44 (a0:Int) (a1:List Ai):Option (Int):=bif !(m27 a0) then some 3 else bif decide ((a1.length:Int) > 240) then some 2 else (AB (IF a0 a1) NN (0,0)).bind (Ak (fun _=>none) (fun i1 s2=>if i1 = 1 then some 0 else none) (fun s2=>some s2.1))
theorem w44 {d:Nat} (hd:7≤d) (a0:Int) (k1:Bool) (a1:List Ai):Fit (R NN d 44 [iW a0,.rsl k1 false (a1.map (Enc.cs k1))] []) (m44 a0 a1) PI:=by
  obtain ⟨d,rfl,g⟩:=up hd
  refine AD (t44 NN d _ _) ?_
  unfold b44 m44
  refine AS (aF1 (Ad rfl) fun l0_=>w27 (by omega) a0)<|q_p fr<|q_i ?_ ?_
  ·exact Am (Ad rfl) rfl
  ·refine AL<|q_p fr<|q_i ?_ ?_
   ·exact Am (Ad rfl) rfl
   ·refine AL<|CU (A:=fun (s:Int×Int)=>[iW s.1,iW s.2]) (B:=fun s=>[]) 0 rr ?_ ?_ ?_
    ·intro s1
     unfold ZE IF
     exact q_p fr<|q_i (Bf rfl fun x1 hx1=>q_p fr<|AE rfl fun b1=>A6 0 rfl rfl rfl (by decide) rfl<|A9 0 rfl rfl rfl<|A7 (aF2 (Ad rfl) (A8 (Aq (l0:=k1) (x:=x1))) fun l0_ l1_=>w76 (by omega) a0 l1_ x1) fun y1 hy1=>q_p fr<|q_i (Ar 1 rr)<|A9 0 rfl rfl rfl<|A7 (aF2 (A8 (Aq (l0:=k1) (x:=x1))) (Ad rfl) fun l0_ l1_=>w77 (by omega) l0_ x1 s1.2) fun y2 hy2=>q_p fr<|q_i (Ar 1 rr)<|NX rfl (.inr ⟨rfl,rfl⟩) (.inl rfl) fun fl1 ys1 hys1=>A9 0 rfl rfl rfl<|A7 (aF2 As (A8 (Aq (l0:=k1) (x:=x1))) fun l0_ l1_=>w73 (by omega) l0_ ys1 l1_ x1) fun y3 hy3=>q_p fr<|q_i (Ar 1 rr)<|q_p fr<|Ae 1 rr)<|Ax 0 rr
    ·exact fun i1 s2=>q_n (Am (Ad rfl) rfl)<|A4
    ·exact fun s2=>Am (Ad rfl) rfl
def VZ (a0:Int):Bool:=a0 != a0
theorem gF {d:Nat} (hd:1≤d) (a0:Int):Fit (R NN d 193 [iW a0] []) (some (VZ a0)) PB:=by
  obtain ⟨d,rfl,g⟩:=up hd
  refine AD (t193 NN d _) ?_
  unfold lC VZ
  exact q_p fr<|Am (Ad rfl) rfl
def Wg (a0:Int) (a1:Int):Option (Bool):=( bif (VZ a0) then bif !(VZ a1) then some (LO.norm true) else some (LO.norm (decide (a0 < a1))) else some (LO.norm (decide (a0 < a1)))).bind (Ak (fun s2=>some s2) (fun i1 s2=>none) (fun s2=>some s2))
theorem w162 {d:Nat} (hd:2≤d) (a0:Int) (a1:Int):Fit (R NN d 162 [iW a0,iW a1] []) (Wg a0 a1) PB:=by
  obtain ⟨d,rfl,g⟩:=up hd
  refine AD (t162 NN d _ _) ?_
  unfold lS Wg
  refine Bo (A:=fun (s:Bool)=>[.bool s]) (B:=fun s=>[]) ?_ ?_ ?_ ?_
  ·exact AS (aF1 (Ad rfl) fun l0_=>gF (by omega) a0)<|q_k (AS (aF1 (Ad rfl) fun l0_=>gF (by omega) a1)<|q_p fr<|q_j (Ae 0 rr)<|q_p fr<|Ae 0 rr)<|q_p fr<|Ae 0 rr
  ·exact fun s2=>Am (Ad rfl) rfl
  ·exact fun i1 s2=>A4
  ·exact fun s2=>Am (Ad rfl) rfl
def HU (a1:Int) (s2:Int×(List Int)):Option (LO (Int×(List Int))):=( ( bif decide (s2.1 > a1) then (Av s2.2 s2.1).bind fun x1=>(Av s2.2 (wi .i64 (s2.1 - 1))).bind fun x2=>(Wg x1 x2).bind fun y1=>some (LO.norm y1) else some (LO.norm false)).bind (Ak (fun s5=>bif s5 then some (LO.norm s5) else some (LO.exit 2 s5)) (fun i1 s5=>some (LO.exit i1 s5)) (fun s5=>some (LO.ret s5)))).bind (Ak (fun s6=>(Av s2.2 (wi .i64 (s2.1 - 1))).bind fun x3=>(Av s2.2 s2.1).bind fun x4=>(Av s2.2 s2.1).bind fun x5=>(Av (s2.2.set (Int.toNat s2.1) x3) (wi .i64 (s2.1 - 1))).bind fun x6=>some (LO.norm (wi .i64 (s2.1 - 1),(s2.2.set (Int.toNat s2.1) x3).set (Int.toNat (wi .i64 (s2.1 - 1))) x4))) (fun i2 s6=>some (LO.exit i2 (s2.1,s2.2))) (fun s6=>some (LO.ret (s2.1,s2.2))))
def HT (a1:Int) (a2:Int) (s1:Int×(List Int)):Option (LO (Int×(List Int))):=bif decide (s1.1 < a2) then (AB (HU a1) NN (s1.1,s1.2)).bind (Ak (fun _=>none) (fun i3 s7=>if i3 = 2 then some (LO.norm (wi .i64 (s1.1 + 1),s7.2)) else if i3 = 1 then some (LO.norm (wi .i64 (s1.1 + 1),s7.2)) else some (LO.exit i3 (s1.1,s7.2))) (fun s7=>some (LO.ret (s1.1,s7.2)))) else some (LO.exit 0 (s1.1,s1.2))
def PV (a0:List Int) (a1:Int) (a2:Int):Option ((List Int)):=(AB (HT a1 a2) NN (wi .i64 (a1 + 1),a0)).bind (Ak (fun _=>none) (fun i4 s8=>if i4 = 0 then some s8.2 else none) (fun s8=>some s8.2))
theorem w156 {d:Nat} (hd:3≤d) (L0:List En) (v0_:AV) (a0:List Int) (a1:Int) (a2:Int):Okh (sl false v0_ (a0:List Int)::L0) (fun S=>R NN d 156 [v0_,iW a1,iW a2] S) (PV a0 a1 a2) (P2 (fun (t:(List Int))=>und) (fun (t:(List Int))=>sl false v0_ t::L0)):=by
  obtain ⟨d,rfl,g⟩:=up hd
  refine Do (t156 NN d _ _ _) ?_
  unfold lT PV
  refine q_p fr<|CU (A:=fun (s:Int×(List Int))=>[iW s.1]) (B:=fun s=>sl false v0_ (s.2:List Int)::L0) 0 rr ?_ ?_ ?_
  ·intro s1
   unfold UK HT
   refine q_p fr<|q_i ?_ ?_
   ·refine CU (A:=fun (s:Int×(List Int))=>[iW s.1]) (B:=fun s=>sl false v0_ (s.2:List Int)::L0) 0 rr ?_ ?_ ?_
    ·intro s2
     unfold UL HU
     refine Bo (A:=fun (s:Bool)=>[.bool s]) (B:=fun s=>sl false v0_ (s2.2:List Int)::L0) ?_ ?_ ?_ ?_
     ·refine Bo (A:=fun (s:Bool)=>[.bool s]) (B:=fun s=>sl false v0_ (s2.2:List Int)::L0) ?_ ?_ ?_ ?_
      ·exact q_p fr<|q_k (G0 0 rfl rfl fun x1 hx1=>HO 0 rfl hx1 rfl<|q_p fr<|G0 0 rfl rfl fun x2 hx2=>HO 0 rfl hx2 rfl<|A7 (aF2 (Ad rfl) (Ad rfl) fun l0_ l1_=>w162 (by omega) x1 x2) fun y1 hy1=>Ae 0 rr)<|Ae 0 rr
      ·exact fun s5=>q_i (Ae 0 rr)<|Ax 0 rr
      ·exact fun i1 s5=>Ax 0 rr
      ·exact fun s5=>Ar 0 rr
     ·exact fun s6=>q_p fr<|q_p fr<|G0 0 rfl rfl fun x3 hx3=>HO 0 rfl hx3 rfl<|G0 0 rfl rfl fun x4 hx4=>HO 0 rfl hx4 rfl<|G0 0 rfl rfl fun x5 hx5=>JJ (y:=x3) 0 rfl rfl hx5 rfl (by decide)<|G0 0 rfl rfl fun x6 hx6=>JJ (y:=x4) 0 rfl rfl hx6 rfl (by decide)<|q_p fr<|Ae 0 rr
     ·exact fun i2 s6=>Ax 0 rr
     ·exact fun s6=>Ar 0 rr
    ·exact fun i3 s7=>q_n (q_p fr<|Ae 0 rr)<|q_n (q_p fr<|Ae 0 rr)<|Ax 0 rr
    ·exact fun s7=>Ar 0 rr
   ·exact Ax 0 rr
  ·exact fun i4 s8=>q_n (I8 0 rfl rfl)<|A4
  ·exact fun s8=>I8 0 rfl rfl
def Jw (s1:Int×Int×Int×Bool×Bool×(List Int)):Option (LO (Int×Int×Int×Bool×Bool×(List Int))):=bif decide ((wi .i64 (s1.2.1 - s1.1))≤12) then (PV s1.2.2.2.2.2 s1.1 s1.2.1).bind fun y1=>some (LO.ret (s1.1,s1.2.1,s1.2.2.1,s1.2.2.2.1,s1.2.2.2.2.1,y1)) else bif s1.2.2.1 == 0 then none else ( bif !s1.2.2.2.1 then none else some (LO.norm s1.2.2.1)).bind (Ak (fun s3=>none) (fun i1 s3=>if i1 = 1 then some (LO.norm (s1.1,s1.2.1,s3,s1.2.2.2.1,s1.2.2.2.2.1,s1.2.2.2.2.2)) else some (LO.exit i1 (s1.1,s1.2.1,s3,s1.2.2.2.1,s1.2.2.2.2.1,s1.2.2.2.2.2))) (fun s3=>some (LO.ret (s1.1,s1.2.1,s3,s1.2.2.2.1,s1.2.2.2.2.1,s1.2.2.2.2.2))))
def Ou (rec_:(List Int)→Int→Int→Int→Option ((List Int))) (a0:List Int) (a1:Int) (a2:Int) (a3:Int):Option ((List Int)):=(AB (Jw) NN (a1,a2,a3,true,true,a0)).bind (Ak (fun _=>none) (fun i2 s4=>if i2 = 0 then some s4.2.2.2.2.2 else none) (fun s4=>some s4.2.2.2.2.2))
def PW (n:Nat):(List Int)→Int→Int→Int→Option ((List Int)):=Nat.rec (fun _ _ _ _=>none) (fun _ ih=>Ou ih) n
theorem gP:∀ (n d:Nat) (hd:n + 68≤d) (L0:List En) (v0_:AV) (a0:List Int) (a1:Int) (a2:Int) (a3:Int),Okh (sl false v0_ (a0:List Int)::L0) (fun S=>R NN d 140 [v0_,iW a1,iW a2,iW a3] S) (PW n a0 a1 a2 a3) (P2 (fun (t:(List Int))=>und) (fun (t:(List Int))=>sl false v0_ t::L0))
  | 0,_,_,L0,v0_,a0,a1,a2,a3=>A4
  | n + 1,d,hd,L0,v0_,a0,a1,a2,a3=>by
    have ih:=gP n
    obtain ⟨d,rfl,g⟩:=up (n:=n + 68) (d:=d) (by omega)
    refine Do (t140 NN d _ _ _ _) ?_
    rw [show PW (n + 1) = Ou (PW n) from rfl]
    unfold mE Ou
    refine CU (A:=fun (s:Int×Int×Int×Bool×Bool×(List Int))=>[iW s.1,iW s.2.1,iW s.2.2.1,.bool s.2.2.2.1,.bool s.2.2.2.2.1]) (B:=fun s=>sl false v0_ (s.2.2.2.2.2:List Int)::L0) 0 rr ?_ ?_ ?_
    ·intro s1
     unfold UQ Jw
     refine q_p fr<|q_p fr<|q_i ?_ ?_
     ·exact q_s (mg:=PV s1.2.2.2.2.2 s1.1 s1.2.1) (w156 (by omega) _ _ s1.2.2.2.2.2 s1.1 s1.2.1) fun y1 hy1=>Ar 0 rr
     ·refine q_p fr<|q_i ?_ ?_
      ·exact A4
      ·refine Bo (A:=fun (s:Int)=>[iW s]) (B:=fun s=>sl false v0_ (s1.2.2.2.2.2:List Int)::L0) ?_ ?_ ?_ ?_
       ·refine q_p fr<|q_i ?_ ?_
        ·exact A4
        ·exact Ae 0 rr
       ·intro s3
        exact A4
       ·intro i1 s3
        refine q_n ?_ ?_
        ·exact Ae 0 rr
        ·exact Ax 0 rr
       ·intro s3
        exact Ar 0 rr
    ·intro i2 s4
     refine q_n ?_ ?_
     ·exact I8 0 rfl rfl
     ·exact A4
    ·intro s4
     exact I8 0 rfl rfl
def m165 (a0:Int):Option (Int):=( bif decide (a0 ≥ 65536) then some (LO.norm (I0 .u32 a0 16,16)) else some (LO.norm (a0,0))).bind (Ak (fun s2=>( bif decide (s2.1 ≥ 256) then some (LO.norm (I0 .u32 s2.1 8,wi .i64 (s2.2 + 8))) else some (LO.norm (s2.1,s2.2))).bind (Ak (fun s4=>(Av ([0,1,2,2,3,3,3,3,4,4,4,4,4,4,4,4,5,5,5,5,5,5,5,5,5,5,5,5,5,5,5,5,6,6,6,6,6,6,6,6,6,6,6,6,6,6,6,6,6,6,6,6,6,6,6,6,6,6,6,6,6,6,6,6,7,7,7,7,7,7,7,7,7,7,7,7,7,7,7,7,7,7,7,7,7,7,7,7,7,7,7,7,7,7,7,7,7,7,7,7,7,7,7,7,7,7,7,7,7,7,7,7,7,7,7,7,7,7,7,7,7,7,7,7,7,7,7,7,8,8,8,8,8,8,8,8,8,8,8,8,8,8,8,8,8,8,8,8,8,8,8,8,8,8,8,8,8,8,8,8,8,8,8,8,8,8,8,8,8,8,8,8,8,8,8,8,8,8,8,8,8,8,8,8,8,8,8,8,8,8,8,8,8,8,8,8,8,8,8,8,8,8,8,8,8,8,8,8,8,8,8,8,8,8,8,8,8,8,8,8,8,8,8,8,8,8,8,8,8,8,8,8,8,8,8,8,8,8,8,8,8,8,8,8,8,8,8,8,8,8,8,8,8,8,8,8]:Str) (wi .u8 s4.1)).bind fun c1=>some (wi .i64 (s4.2 + (wi .i64 (c1.toNat:Int))))) (fun i2 s4=>none) (fun s4=>some s4.2))) (fun i1 s2=>none) (fun s2=>some s2.2))
def dU (a0:Int):Option (Int):=( bif decide (a0 ≥ 4294967296) then some (LO.norm (I0 .u64 a0 32,32)) else some (LO.norm (a0,0))).bind (Ak (fun s2=>( bif decide (s2.1 ≥ 65536) then some (LO.norm (I0 .u64 s2.1 16,wi .i64 (s2.2 + 16))) else some (LO.norm (s2.1,s2.2))).bind (Ak (fun s4=>( bif decide (s4.1 ≥ 256) then some (LO.norm (I0 .u64 s4.1 8,wi .i64 (s4.2 + 8))) else some (LO.norm (s4.1,s4.2))).bind (Ak (fun s6=>(Av ([0,1,2,2,3,3,3,3,4,4,4,4,4,4,4,4,5,5,5,5,5,5,5,5,5,5,5,5,5,5,5,5,6,6,6,6,6,6,6,6,6,6,6,6,6,6,6,6,6,6,6,6,6,6,6,6,6,6,6,6,6,6,6,6,7,7,7,7,7,7,7,7,7,7,7,7,7,7,7,7,7,7,7,7,7,7,7,7,7,7,7,7,7,7,7,7,7,7,7,7,7,7,7,7,7,7,7,7,7,7,7,7,7,7,7,7,7,7,7,7,7,7,7,7,7,7,7,7,8,8,8,8,8,8,8,8,8,8,8,8,8,8,8,8,8,8,8,8,8,8,8,8,8,8,8,8,8,8,8,8,8,8,8,8,8,8,8,8,8,8,8,8,8,8,8,8,8,8,8,8,8,8,8,8,8,8,8,8,8,8,8,8,8,8,8,8,8,8,8,8,8,8,8,8,8,8,8,8,8,8,8,8,8,8,8,8,8,8,8,8,8,8,8,8,8,8,8,8,8,8,8,8,8,8,8,8,8,8,8,8,8,8,8,8,8,8,8,8,8,8,8,8,8,8,8,8]:Str) (wi .u8 s6.1)).bind fun c1=>some (wi .i64 (s6.2 + (wi .i64 (c1.toNat:Int))))) (fun i3 s6=>none) (fun s6=>some s6.2))) (fun i2 s4=>none) (fun s4=>some s4.2))) (fun i1 s2=>none) (fun s2=>some s2.2))
theorem w166 {d:Nat} (hd:1≤d) (a0:Int):Fit (R NN d 166 [.int .u64 a0] []) (dU a0) PI:=by
  obtain ⟨d,rfl,g⟩:=up hd
  refine AD (t166 NN d _) ?_
  unfold lR dU
  refine Bo (A:=fun (s:Int×Int)=>[.int .u64 s.1,iW s.2]) (B:=fun s=>[]) ?_ ?_ ?_ ?_
  ·exact q_p fr<|q_i (q_p fr<|Ae 0 rr)<|Ae 0 rr
  ·intro s2
   refine Bo (A:=fun (s:Int×Int)=>[.int .u64 s.1,iW s.2]) (B:=fun s=>[]) ?_ ?_ ?_ ?_
   ·exact q_p fr<|q_i (q_p fr<|q_p fr<|Ae 0 rr)<|Ae 0 rr
   ·intro s4
    refine Bo (A:=fun (s:Int×Int)=>[.int .u64 s.1,iW s.2]) (B:=fun s=>[]) ?_ ?_ ?_ ?_
    ·exact q_p fr<|q_i (q_p fr<|q_p fr<|Ae 0 rr)<|Ae 0 rr
    ·exact fun s6=>q_p (fun _=>WU _ _)<|I6 fun c1 hc1=>q_p (fun _=>eS _ _)<|q_p fr<|Am (Ad rfl) rfl
    ·exact fun i3 s6=>A4
    ·exact fun s6=>Am (Ad rfl) rfl
   ·exact fun i2 s4=>A4
   ·exact fun s4=>Am (Ad rfl) rfl
  ·exact fun i1 s2=>A4
  ·exact fun s2=>Am (Ad rfl) rfl
def Y2 (a0:Int):Option (Int):=(dU a0).bind fun y1=>some y1
theorem w141 {d:Nat} (hd:2≤d) (a0:Int):Fit (R NN d 141 [.int .u64 a0] []) (Y2 a0) PI:=by
  obtain ⟨d,rfl,g⟩:=up hd
  refine AD (t141 NN d _) ?_
  unfold mD Y2
  first | refine CZ ?_ | skip
  exact A7 (aF1 (Ad rfl) fun l0_=>w166 (by omega) a0) fun y1 hy1=>Am (Ad rfl) rfl
def Ox (a0:List Int):Option ((List Int)):=(Y2 (wi .u64 (a0.length:Int))).bind fun y1=>(PW 64 a0 0 (a0.length:Int) y1).bind fun y2=>some y2
theorem gX {d:Nat} (hd:133≤d) (L0:List En) (v0_:AV) (a0:List Int):Okh (sl false v0_ (a0:List Int)::L0) (fun S=>R NN d 119 [v0_] S) (Ox a0) (P2 (fun (t:(List Int))=>und) (fun (t:(List Int))=>sl false v0_ t::L0)):=by
  obtain ⟨d,rfl,g⟩:=up hd
  refine Do (t119 NN d _) ?_
  unfold mW Ox
  exact JL 0 rfl<|q_p (fun _=>KY _ _)<|A7 (aF1 (Ad rfl) fun l0_=>w141 (by omega) (wi .u64 (a0.length:Int))) fun y1 hy1=>q_s (mg:=PW 64 a0 0 (a0.length:Int) y1) (gP 64 _ (by omega) _ _ a0 0 (a0.length:Int) y1) fun y2 hy2=>I8 0 rfl rfl
def HV (lo n:Int) (s:Int×Int×List Int):Option (LO (Int×Int×List Int)):=bif decide (s.2.1 < n - lo) then ((Ny s.2.2 lo n s.2.1).bind fun x1=>(Ny s.2.2 lo n (wi .i64 (s.2.1 - 1))).bind fun x2=>bif x1 != x2 then (Ny s.2.2 lo n s.2.1).bind fun x3=>(Av s.2.2 s.1).bind fun _=>some (LO.norm (wi .i64 (s.1 + 1),s.2.2.set s.1.toNat x3)) else some (LO.norm (s.1,s.2.2))).bind (Ak (fun s'=>some (LO.norm (s'.1,wi .i64 (s.2.1 + 1),s'.2))) (fun i s'=>some (LO.exit i (s'.1,s.2.1,s'.2))) (fun s'=>some (LO.ret (s'.1,s.2.1,s'.2)))) else some (LO.exit 2 s)
def Jv (xs:List Int) (s:Option (List Int)×Int):Option (LO (Option (List Int)×Int)):=
  match s.1 with
  | some _=>none
  | none=>
    bif decide (s.2 < (xs.length:Int)) then
      (Av xs s.2).bind fun x1=>(Av xs (wi .i64 (s.2 - 1))).bind fun x2=>
      bif x1 == x2 then
        (viO xs.length s.2 xs.length).bind fun _=>(AB (HV s.2 xs.length) NN (s.2,1,xs)).bind (Ak (fun _=>none) (fun i t=>if i = 2 then (viO t.2.2.length t.1 t.2.2.length).bind fun _=>(viO (clr t.2.2 t.1).length 0 t.1).bind fun _=>some (LO.ret (some ((clr t.2.2 t.1).take t.1.toNat),t.1)) else none) (fun _=>none))
      else some (LO.norm (none,wi .i64 (s.2 + 1)))
    else some (LO.exit 0 (none,s.2))
def To (xs:List Int):Option (List Int):=
  bif decide ((xs.length:Int) < 2) then some xs
  else (AB (Jv xs) NN (none,1)).bind (Ak (fun _=>none) (fun i s=>if i = 0 then (match s.1 with | none=>some xs | some _=>none) else none) (fun s=>s.1))
theorem bW:Tryz.prog.underlying 24 = some (.slice 2):=by kernel_rfl
theorem aM:EP Tryz.prog 2 = some (Enc.cs false (0:Int)):=by kernel_rfl
theorem w155 {d:Nat} (hd:1≤d) (L0:List En) (v0_:AV) (a0:List Int):Okh (sl false v0_ a0::L0) (fun S=>R NN d 155 [v0_] S) (To a0) (P2 (fun (t:List Int)=>cpv v0_ t.length) (fun (t:List Int)=>cl v0_ t::L0)):=by
  obtain ⟨d,rfl,g⟩:=up hd
  rw [show (fun S=>R NN (d + 1) 155 [v0_] S) = fun S=>fG (cfg NN) (R NN d) (v0_) S from funext fun S=>t155 NN d v0_ S]
  have hwhole:Okh (sl false v0_ a0::L0) (fun S=>some (v0_,S)) (some a0) (P2 (fun (t:List Int)=>cpv v0_ t.length) (fun (t:List Int)=>cl v0_ t::L0)):=fun S hS t ht=>by
    injection ht with ht; subst ht
    refine ⟨_,rfl,?_,?_⟩
    · rcases hS.get (k:=0) rfl with ⟨rfl,rfl⟩ | ⟨b,fl,pl,rfl,_,_⟩
      · rfl
      · simp [cpv]
    · have h:=q_cl (L0:=L0) (v:=v0_) (xs:=a0) (k:=fun S=>some S) (m:=some ()) (P:=fun _ S'=>HP S' (cl v0_ a0::L0)) (fun S hS t ht=>⟨S,rfl,hS⟩) S hS () rfl
      obtain ⟨S',h1,h2⟩:=h
      injection h1 with h1; subst h1; exact h2
  unfold fG To
  refine JL 0 rfl ?_
  refine q_p (fun _=>rfl) ?_
  refine cS (fun h1=>?_) (fun h1=>?_)
  · exact hwhole
  · refine Cm (I:=(fun (s:Option (List Int)×Int) l L=>match s.1 with | none=>l = [.rsl false true [],iW s.2]∧L = sl false v0_ a0::L0 | some ys=>l = [cpv v0_ ys.length,iW s.2]∧L = cl v0_ ys::L0)) 0 rr ?_ ?_ ?_
    · rintro ⟨s1,k⟩ l L' hI
      cases s1 with
      | some ys=>exact A4
      | none=>
        obtain ⟨rfl,rfl⟩:=hI
        unfold UM Jv
        refine JL 0 rfl ?_
        refine q_p (fun _=>rfl) ?_
        refine cS (fun h2=>?_) (fun h2=>?_)
        · refine G0 0 rfl rfl fun x1 hx1=>?_
          refine HO 0 rfl hx1 rfl ?_
          refine q_p (fun _=>rfl) ?_
          refine G0 0 rfl rfl fun x2 hx2=>?_
          refine HO 0 rfl hx2 rfl ?_
          refine q_p (fun _=>rfl) ?_
          refine q_i ?_ ?_
          · refine Ye 0 rfl rfl (.inl rfl) (.inr ⟨rfl,rfl⟩) fun g1 g2 g3=>?_
            refine Cm (I:=(fun (s:Int×Int×List Int) l L=>l = [iW s.1,iW s.2.1]∧L = sl false v0_ s.2.2::L0∧s.2.2.length = a0.length)) 0 ⟨rfl,rfl,rfl⟩ ?_ ?_ ?_
            · rintro ⟨i,k2,ys⟩ _ _ ⟨rfl,rfl,hl⟩
              unfold UN HV
              refine cL 0 rfl g1 g2 (by dsimp only at hl ⊢; omega) ?_
              refine q_p (fun _=>rfl) ?_
              refine q_i ?_ ?_
              · refine DD (I:=(fun (s:Int×List Int) l L=>l = [iW s.1]∧L = sl false v0_ s.2::L0∧s.2.length = a0.length)) ?_ ?_ ?_ ?_
                · refine Vp 0 rfl rfl g1 g2 (by dsimp only at hl ⊢; omega) fun x3 hx3=>?_
                  refine HO 0 rfl hx3 rfl ?_
                  refine q_p (fun _=>rfl) ?_
                  refine Vp 0 rfl rfl g1 g2 (by dsimp only at hl ⊢; omega) fun x4 hx4=>?_
                  refine HO 0 rfl hx4 rfl ?_
                  refine q_p (fun _=>rfl) ?_
                  refine q_i ?_ ?_
                  · refine Vp 0 rfl rfl g1 g2 (by dsimp only at hl ⊢; omega) fun x5 hx5=>?_
                    refine HO 0 rfl hx5 rfl ?_
                    refine G0 0 rfl rfl fun x6 hx6=>?_
                    refine JJ 0 rfl rfl hx6 rfl (by decide) ?_
                    refine q_p (fun _=>rfl) ?_
                    exact Ae 0 ⟨rfl,rfl,by simpa using hl⟩
                  · exact Ae 0 ⟨rfl,rfl,hl⟩
                · rintro ⟨i',ys'⟩ _ _ ⟨rfl,rfl,hl'⟩
                  refine q_p (fun _=>rfl) ?_
                  exact Ae 0 ⟨rfl,rfl,hl'⟩
                · rintro j ⟨i',ys'⟩ _ _ ⟨rfl,rfl,hl'⟩
                  exact Ax 0 ⟨rfl,rfl,hl'⟩
                · rintro ⟨i',ys'⟩ _ _ ⟨rfl,rfl,hl'⟩
                  exact Ar 0 ⟨rfl,rfl,hl'⟩
              · exact Ax 0 ⟨rfl,rfl,hl⟩
            · rintro j ⟨i,k2,ys⟩ _ _ ⟨rfl,rfl,hl⟩
              refine q_n ?_ ?_
              · refine Ye 0 rfl rfl (.inl rfl) (.inr ⟨rfl,rfl⟩) fun g4 g5 g6=>?_
                refine cM (te:=2) (z:=(0:Int)) 0 rfl bW aM g4 g5 g6 ?_
                refine Ye (xs:=clr ys i) (i:=0) 0 rfl rfl (.inr ⟨rfl,rfl⟩) (.inl rfl) fun g7 g8 g9=>?_
                have e1:((clr ys i).take i.toNat).length = i.toNat:=by rw [List.length_take]; omega
                refine Vw (ys:=(clr ys i).take i.toNat) (by rw [e1]; rfl) ?_
                refine Ar 0 ⟨?_,rfl⟩
                rw [e1]
                show [viA v0_ 0 i.toNat,_] = _
                rw [iF]; rfl
              · exact A4
            · rintro ⟨i,k2,ys⟩ _ _ ⟨rfl,rfl,hl⟩
              exact A4
          · refine q_p (fun _=>rfl) ?_
            exact Ae 0 rr
        · exact Ax 0 rr
    · rintro i ⟨s1,k⟩ l L' hI
      refine q_n ?_ ?_
      · cases s1 with
        | some ys=>exact A4
        | none=>obtain ⟨rfl,rfl⟩:=hI; exact hwhole
      · exact A4
    · rintro ⟨s1,k⟩ l L' hI
      cases s1 with
      | none=>exact A4
      | some ys=>
        obtain ⟨rfl,rfl⟩:=hI
        exact I8 0 rfl rfl
def HW (a0:List Ai) (a1:Int) (a2:Int) (a3:Int) (a4:Int) (s1:Int×(List Int)):Option (LO (Int×(List Int))):=bif decide (s1.1 < (a0.length:Int)) then ( (Av a0 s1.1).bind fun x1=>( bif x1.Kind == a1 then bif x1.View == a2 then bif x1.Slot == a3 then some (LO.norm (x1.Value == a4)) else some (LO.norm false) else some (LO.norm false) else some (LO.norm false)).bind (Ak (fun s4=>bif s4 then (Bw 8 s1.2 [x1.From]).bind fun z1=>some (LO.norm z1) else some (LO.norm s1.2)) (fun i1 s4=>if i1 = 1 then some (LO.norm s1.2) else some (LO.exit i1 s1.2)) (fun s4=>some (LO.ret s1.2)))).bind (Ak (fun s5=>some (LO.norm (wi .i64 (s1.1 + 1),s5))) (fun i2 s5=>some (LO.exit i2 (s1.1,s5))) (fun s5=>some (LO.ret (s1.1,s5)))) else some (LO.exit 0 (s1.1,s1.2))
def Wj (a0:List Ai) (a1:Int) (a2:Int) (a3:Int) (a4:Int):Option ((List Int)):=(AB (HW a0 a1 a2 a3 a4) NN (0,[])).bind (Ak (fun _=>none) (fun i3 s6=>if i3 = 0 then (Ox s6.2).bind fun y1=>(To y1).bind fun y2=>some y2 else none) (fun s6=>some []))
theorem w139 {d:Nat} (hd:134≤d) (k0:Bool) (a0:List Ai) (a1:Int) (a2:Int) (a3:Int) (a4:Int):Fit (R NN d 139 [.rsl k0 false (a0.map (Enc.cs k0)),iW a1,iW a2,iW a3,iW a4] []) (Wj a0 a1 a2 a3 a4) (P0 (fun (t:List Int)=>AV.rsl false false (t.map (Enc.cs false)))):=by
  obtain ⟨d,rfl,g⟩:=up hd
  refine AD (t139 NN d _ _ _ _ _) ?_
  unfold mF Wj
  refine q_q (fun _=>EU)<|AL<|DN (α:=Int) false<|Cm (I:=(fun (s:Int×(List Int)) l L=>∃ (v1:AV),l = [v1,iW s.1]∧L = [sl false v1 (s.2:List Int)])) 0 ⟨(.rsl false true []),rfl,rfl⟩ ?_ ?_ ?_
  ·rintro s1 _ _ ⟨v1,rfl,rfl⟩
   unfold UR HW
   refine q_p fr<|q_i ?_ ?_
   ·refine DD (I:=(fun (s:(List Int)) l L=>∃ (v2:AV),l = [v2]∧L = [sl false v2 (s:List Int)])) ?_ ?_ ?_ ?_
    ·refine Bf rfl fun x1 hx1=>q_p fr<|AE rfl fun b1=>A6 0 rfl rfl rfl (by decide) rfl<|Bo (A:=fun (s:Bool)=>[.bool s]) (B:=fun s=>[bx b1 [iW x1.Kind,iW x1.View,iW x1.From,iW x1.Slot,iW x1.Value,.rsl k0 false (x1.Certs.map (Enc.cs k0)),.rsl k0 false (x1.Refs.map (Enc.cs k0))],sl false v1 (s1.2:List Int)]) ?_ ?_ ?_ ?_
     ·exact q_p fr<|Ao 0 rfl rfl<|q_p fr<|q_k (q_p fr<|Ao 0 rfl rfl<|q_p fr<|q_k (q_p fr<|Ao 0 rfl rfl<|q_p fr<|q_k (q_p fr<|Ao 0 rfl rfl<|q_p fr<|Ae 0 rr)<|Ae 0 rr)<|Ae 0 rr)<|Ae 0 rr
     ·exact fun s4=>q_i (q_p fr<|Ao 0 rfl rfl<|q_q (fun _=>F8)<|DO (ys:=[x1.From]) 1 rfl rfl (fun _ _=>rfl) fun v2 z1 hz1=>Ae 1 ⟨v2,rfl,rfl⟩)<|Ae 1 ⟨v1,rfl,rfl⟩
     ·exact fun i1 s4=>q_n (Ae 1 ⟨v1,rfl,rfl⟩)<|Ax 1 ⟨v1,rfl,rfl⟩
     ·exact fun s4=>Ar 1 ⟨v1,rfl,rfl⟩
    ·rintro s5 _ _ ⟨v3,rfl,rfl⟩
     exact q_p fr<|Ae 0 ⟨v3,rfl,rfl⟩
    ·rintro i2 s5 _ _ ⟨v4,rfl,rfl⟩
     exact Ax 0 ⟨v4,rfl,rfl⟩
    ·rintro s5 _ _ ⟨v5,rfl,rfl⟩
     exact Ar 0 ⟨v5,rfl,rfl⟩
   ·exact Ax 0 ⟨v1,rfl,rfl⟩
  ·rintro i3 s6 _ _ ⟨v6,rfl,rfl⟩
   exact q_n (q_s (mg:=Ox s6.2) (gX (by omega) _ _ s6.2) fun y1 hy1=>q_s (mg:=To y1) (w155 (by omega) _ _ y1) fun y2 hy2=>Am (aG 0 rfl) rfl)<|A4
  ·rintro s6 _ _ ⟨v7,rfl,rfl⟩
   exact Am (As (α:=Int) (l0:=false) (fl:=true) (xs:=[])) rfl
def Tv (a0:Int) (a1:List Ai) (a2:Int) (a3:Int) (a4:Int) (a5:Int):Option (Bool):=(Wj a1 a2 a3 a4 a5).bind fun y1=>some (decide ((y1.length:Int) ≥ (wi .i64 ((wi .i64 (2 * a0)) + 1))))
theorem gY {d:Nat} (hd:135≤d) (a0:Int) (k1:Bool) (a1:List Ai) (a2:Int) (a3:Int) (a4:Int) (a5:Int):Fit (R NN d 118 [iW a0,.rsl k1 false (a1.map (Enc.cs k1)),iW a2,iW a3,iW a4,iW a5] []) (Tv a0 a1 a2 a3 a4 a5) PB:=by
  obtain ⟨d,rfl,g⟩:=up hd
  refine AD (t118 NN d _ _ _ _ _ _) ?_
  unfold mX Tv
  exact A7 (fun S hS=>Si As (Ad rfl) (Ad rfl) (Ad rfl) (Ad rfl) hS fun l0_ l1_ l2_ l3_ l4_=>w139 (by omega) l0_ a1 a2 a3 a4 a5) fun y1 hy1=>AL<|q_p fr<|q_p fr<|q_p fr<|Am (Ad rfl) rfl
def JV (a0:Int) (a1:List Ai) (a2:Int) (s1:Int×(List Int)):Option (LO (Int×(List Int))):=bif decide (s1.1 < (a1.length:Int)) then ( (Av a1 s1.1).bind fun x1=>( bif x1.Kind == 3 then bif x1.Slot == a2 then (m58 s1.2 x1.Value).bind fun y1=>bif !y1 then (Tv a0 a1 3 x1.View a2 x1.Value).bind fun y2=>some (LO.norm y2) else some (LO.norm false) else some (LO.norm false) else some (LO.norm false)).bind (Ak (fun s4=>bif s4 then (Bw 8 s1.2 [x1.Value]).bind fun z1=>some (LO.norm z1) else some (LO.norm s1.2)) (fun i1 s4=>if i1 = 1 then some (LO.norm s1.2) else some (LO.exit i1 s1.2)) (fun s4=>some (LO.ret s1.2)))).bind (Ak (fun s5=>some (LO.norm (wi .i64 (s1.1 + 1),s5))) (fun i2 s5=>some (LO.exit i2 (s1.1,s5))) (fun s5=>some (LO.ret (s1.1,s5)))) else some (LO.exit 0 (s1.1,s1.2))
def m79 (a0:Int) (a1:List Ai) (a2:Int):Option ((List Int)):=(AB (JV a0 a1 a2) NN (0,[])).bind (Ak (fun _=>none) (fun i3 s6=>if i3 = 0 then (Ox s6.2).bind fun y3=>some y3 else none) (fun s6=>some []))
theorem w79 {d:Nat} (hd:136≤d) (a0:Int) (k1:Bool) (a1:List Ai) (a2:Int):Fit (R NN d 79 [iW a0,.rsl k1 false (a1.map (Enc.cs k1)),iW a2] []) (m79 a0 a1 a2) (P0 (fun (t:List Int)=>AV.rsl false false (t.map (Enc.cs false)))):=by
  obtain ⟨d,rfl,g⟩:=up hd
  refine AD (t79 NN d _ _ _) ?_
  unfold b79 m79
  refine q_q (fun _=>EU)<|AL<|DN (α:=Int) false<|Cm (I:=(fun (s:Int×(List Int)) l L=>∃ (v1:AV),l = [v1,iW s.1]∧L = [sl false v1 (s.2:List Int)])) 0 ⟨(.rsl false true []),rfl,rfl⟩ ?_ ?_ ?_
  ·rintro s1 _ _ ⟨v1,rfl,rfl⟩
   unfold Z4 JV
   refine q_p fr<|q_i ?_ ?_
   ·refine DD (I:=(fun (s:(List Int)) l L=>∃ (v2:AV),l = [v2]∧L = [sl false v2 (s:List Int)])) ?_ ?_ ?_ ?_
    ·refine Bf rfl fun x1 hx1=>q_p fr<|AE rfl fun b1=>A6 0 rfl rfl rfl (by decide) rfl<|Bo (A:=fun (s:Bool)=>[.bool s]) (B:=fun s=>[bx b1 [iW x1.Kind,iW x1.View,iW x1.From,iW x1.Slot,iW x1.Value,.rsl k1 false (x1.Certs.map (Enc.cs k1)),.rsl k1 false (x1.Refs.map (Enc.cs k1))],sl false v1 (s1.2:List Int)]) ?_ ?_ ?_ ?_
     ·exact q_p fr<|Ao 0 rfl rfl<|q_p fr<|q_k (q_p fr<|Ao 0 rfl rfl<|q_p fr<|q_k (q_p fr<|Ao 0 rfl rfl<|A7 (aF2 (Il 1 rfl) (Ad rfl) fun l0_ l1_=>w58 (by omega) l0_ s1.2 x1.Value) fun y1 hy1=>q_p fr<|q_k (q_p fr<|Ao 0 rfl rfl<|q_p fr<|Ao 0 rfl rfl<|A7 (fun S hS=>aI (Ad rfl) As (Ad rfl) (Ad rfl) (Ad rfl) (Ad rfl) hS fun l0_ l1_ l2_ l3_ l4_ l5_=>gY (by omega) a0 l1_ a1 3 x1.View a2 x1.Value) fun y2 hy2=>Ae 0 rr)<|Ae 0 rr)<|Ae 0 rr)<|Ae 0 rr
     ·exact fun s4=>q_i (q_p fr<|Ao 0 rfl rfl<|q_q (fun _=>F8)<|DO (ys:=[x1.Value]) 1 rfl rfl (fun _ _=>rfl) fun v2 z1 hz1=>Ae 1 ⟨v2,rfl,rfl⟩)<|Ae 1 ⟨v1,rfl,rfl⟩
     ·exact fun i1 s4=>q_n (Ae 1 ⟨v1,rfl,rfl⟩)<|Ax 1 ⟨v1,rfl,rfl⟩
     ·exact fun s4=>Ar 1 ⟨v1,rfl,rfl⟩
    ·rintro s5 _ _ ⟨v3,rfl,rfl⟩
     exact q_p fr<|Ae 0 ⟨v3,rfl,rfl⟩
    ·rintro i2 s5 _ _ ⟨v4,rfl,rfl⟩
     exact Ax 0 ⟨v4,rfl,rfl⟩
    ·rintro s5 _ _ ⟨v5,rfl,rfl⟩
     exact Ar 0 ⟨v5,rfl,rfl⟩
   ·exact Ax 0 ⟨v1,rfl,rfl⟩
  ·rintro i3 s6 _ _ ⟨v6,rfl,rfl⟩
   exact q_n (q_s (mg:=Ox s6.2) (gX (by omega) _ _ s6.2) fun y3 hy3=>Am (Il 0 rfl) rfl)<|A4
  ·rintro s6 _ _ ⟨v7,rfl,rfl⟩
   exact Am (As (α:=Int) (l0:=false) (fl:=true) (xs:=[])) rfl
def JX (a0:Int) (a1:List Ai) (s1:Int×(List Int)):Option (LO (Int×(List Int))):=bif decide (s1.1≤30) then (m79 a0 a1 s1.1).bind fun y1=>bif (y1.length:Int) == 0 then some (LO.exit 0 (s1.1,s1.2)) else (Av y1 0).bind fun x1=>(Bw 8 s1.2 [x1]).bind fun z1=>some (LO.norm (wi .i64 (s1.1 + 1),z1)) else some (LO.exit 0 (s1.1,s1.2))
def m47 (a0:Int) (a1:List Ai):Option ((List Int)):=(AB (JX a0 a1) NN (1,[])).bind (Ak (fun _=>none) (fun i1 s2=>if i1 = 0 then some s2.2 else none) (fun s2=>some []))
theorem w47 {d:Nat} (hd:137≤d) (a0:Int) (k1:Bool) (a1:List Ai):Fit (R NN d 47 [iW a0,.rsl k1 false (a1.map (Enc.cs k1))] []) (m47 a0 a1) (P0 (fun (t:List Int)=>AV.rsl false false (t.map (Enc.cs false)))):=by
  obtain ⟨d,rfl,g⟩:=up hd
  refine AD (t47 NN d _ _) ?_
  unfold b47 m47
  refine q_q (fun _=>EU)<|DN (α:=Int) false<|Cm (I:=(fun (s:Int×(List Int)) l L=>∃ (v1:AV),l = [v1,iW s.1]∧L = [sl false v1 (s.2:List Int)])) 0 ⟨(.rsl false true []),rfl,rfl⟩ ?_ ?_ ?_
  ·rintro s1 _ _ ⟨v1,rfl,rfl⟩
   unfold ZB JX
   exact q_p fr<|q_i (A7 (aF3 (Ad rfl) As (Ad rfl) fun l0_ l1_ l2_=>w79 (by omega) a0 l1_ a1 s1.1) fun y1 hy1=>AL<|q_p fr<|q_i (Ax 0 ⟨v1,rfl,rfl⟩)<|Bf rfl fun x1 hx1=>q_p fr<|q_q (fun _=>F8)<|DO (ys:=[x1]) 0 rfl rfl (fun _ _=>rfl) fun v2 z1 hz1=>q_p fr<|Ae 0 ⟨v2,rfl,rfl⟩)<|Ax 0 ⟨v1,rfl,rfl⟩
  ·rintro i1 s2 _ _ ⟨v3,rfl,rfl⟩
   exact q_n (Am (Il 0 rfl) rfl)<|A4
  ·rintro s2 _ _ ⟨v4,rfl,rfl⟩
   exact Am (As (α:=Int) (l0:=false) (fl:=true) (xs:=[])) rfl
def m97 (a0:Int) (a1:Int):Option (Int):=(I3 a1 (m57 a0)).bind fun q1=>some (wi .i64 (1 + q1))
theorem w97 {d:Nat} (hd:2≤d) (a0:Int) (a1:Int):Fit (R NN d 97 [iW a0,iW a1] []) (m97 a0 a1) PI:=by
  obtain ⟨d,rfl,g⟩:=up hd
  refine AD (t97 NN d _ _) ?_
  unfold b97 m97
  exact AS (aF1 (Ad rfl) fun l0_=>w57 (by omega) a0)<|JK fun q1 hq1=>q_p fr<|Am (Ad rfl) rfl
def Oz (a0:List Ai) (a1:Int) (a2:Int):Option (Ai×Bool):=bif !(m56 a1 0 (wi .i64 ((a0.length:Int) - 1))) then some ((⟨0,0,0,0,0,[],[]⟩:Ai),false) else (Av a0 a1).bind fun x1=>bif x1.Kind == a2 then some (x1,decide (x1.View > 0)) else some (x1,false)
theorem hZ {d:Nat} (hd:2≤d) (L0:List En) (k0:Bool) (f0_:Bool) (a0:List Ai) (a1:Int) (a2:Int):Okh (L0) (fun S=>R NN d 110 [.rsl k0 f0_ (a0.map (Enc.cs k0)),iW a1,iW a2] S) (Oz a0 a1 a2) (P3 (fun (x:Bool×Bool×Bool×Bool) (t:Ai×Bool)=>AV.tup [AV.agg [iW t.1.Kind,iW t.1.View,iW t.1.From,iW t.1.Slot,iW t.1.Value,.rsl x.1 x.2.1 (t.1.Certs.map (Enc.cs x.1)),.rsl x.2.2.1 x.2.2.2 (t.1.Refs.map (Enc.cs x.2.2.1))],AV.bool t.2]) (fun (_:Ai×Bool)=>L0)):=by
  obtain ⟨d,rfl,g⟩:=up hd
  refine Do (t110 NN d _ _ _) ?_
  unfold nG Oz
  exact AE rfl fun b1=>AL<|q_p fr<|AS (aF3 (Ad rfl) (Ad rfl) (Ad rfl) fun l0_ l1_ l2_=>w56 (by omega) a1 0 (wi .i64 ((a0.length:Int) - 1)))<|q_p fr<|q_i (q_p (fun _=>bd59 rfl)<|A6 0 rfl rfl rfl (by decide) rfl<|Nc (false,true,false,true) 1 (fun S hS=>Dq (hS.lda 0 rfl rfl) rfl) rfl rfl)<|Bf rfl fun x1 hx1=>q_p fr<|AE rfl fun b2=>A6 0 rfl rfl rfl (by decide) rfl<|A9 0 rfl rfl rfl<|q_p fr<|Ao 0 rfl rfl<|q_p fr<|q_k (q_p fr<|Ao 0 rfl rfl<|q_p fr<|A6 1 rfl rfl rfl (by decide) rfl<|Jo (fun S hS=>(Gs (hS.ap 0 1 rfl rfl (by decide)) rfl))<|Nc (k0,false,k0,false) 2 (fun S hS=>Dq (hS.lda 1 rfl rfl) rfl) rfl rfl)<|A6 1 rfl rfl rfl (by decide) rfl<|Jo (fun S hS=>(Gs rfl rfl))<|Nc (k0,false,k0,false) 2 (fun S hS=>Dq (hS.lda 1 rfl rfl) rfl) rfl rfl
def TD (a0:Int) (a1:List Ai) (a2:AP):Option (Bool):=( bif (m94 a2.Slot) then bif (m80 a2.View) then bif (m95 a2.Value) then (Tv a0 a1 2 a2.View a2.Slot a2.Value).bind fun y1=>some (LO.norm y1) else some (LO.norm false) else some (LO.norm false) else some (LO.norm false)).bind (Ak (fun s2=>some s2) (fun i1 s2=>none) (fun s2=>some s2))
theorem iE {d:Nat} (hd:136≤d) (a0:Int) (k1:Bool) (a1:List Ai) (k2:Bool) (a2:AP):Fit (R NN d 103 [iW a0,.rsl k1 false (a1.map (Enc.cs k1)),.agg (Enc.cs k2 a2)] []) (TD a0 a1 a2) PB:=by
  obtain ⟨d,rfl,g⟩:=up hd
  refine AD (t103 NN d _ _ _) ?_
  unfold nN TD
  refine AG (n:=3) rfl rfl (by decide) fun b1=>Bo (A:=fun (s:Bool)=>[.bool s]) (B:=fun s=>[bx b1 [iW a2.Slot,iW a2.View,iW a2.Value]]) ?_ ?_ ?_ ?_
  ·exact q_p fr<|Ao 0 rfl rfl<|AS (aF1 (Ad rfl) fun l0_=>w94 (by omega) a2.Slot)<|q_k (q_p fr<|Ao 0 rfl rfl<|AS (aF1 (Ad rfl) fun l0_=>w80 (by omega) a2.View)<|q_k (q_p fr<|Ao 0 rfl rfl<|AS (aF1 (Ad rfl) fun l0_=>w95 (by omega) a2.Value)<|q_k (q_p fr<|Ao 0 rfl rfl<|q_p fr<|Ao 0 rfl rfl<|q_p fr<|Ao 0 rfl rfl<|A7 (fun S hS=>aI (Ad rfl) As (Ad rfl) (Ad rfl) (Ad rfl) (Ad rfl) hS fun l0_ l1_ l2_ l3_ l4_ l5_=>gY (by omega) a0 l1_ a1 2 a2.View a2.Slot a2.Value) fun y1 hy1=>Ae 0 rr)<|Ae 0 rr)<|Ae 0 rr)<|Ae 0 rr
  ·exact fun s2=>Am (Ad rfl) rfl
  ·exact fun i1 s2=>A4
  ·exact fun s2=>Am (Ad rfl) rfl
def PX (a0:AP) (a1:Int) (a2:List Ai):Option (Bool):=(TD a1 a2 a0).bind fun y1=>some (!y1)
theorem w136 {d:Nat} (hd:137≤d) (k0:Bool) (a0:AP) (k1:Bool) (a1:Int) (k2:Bool) (a2:List Ai):Fit (R NN d 136 [.agg (Enc.cs k0 a0),.rp k1 (Enc.cs k1 a1),.rp k2 (Enc.cs k2 a2)] []) (PX a0 a1 a2) PB:=by
  obtain ⟨d,rfl,g⟩:=up hd
  refine AD (t136 NN d _ _ _) ?_
  unfold mI PX
  exact AG (n:=3) rfl rfl (by decide) fun b1=>q_p fr<|q_p fr<|A9 0 rfl rfl rfl<|A7 (aF3 (Ad rfl) As (A8 (Aq (l0:=false) (x:=a0))) fun l0_ l1_ l2_=>iE (by omega) a1 l1_ a2 l2_ a0) fun y1 hy1=>q_p fr<|Am (Ad rfl) rfl
def TA (a0:Int) (a1:List Ai) (a2:Int):Option (Bool):=(Oz a1 a2 4).bind fun y1=>bif y1.2 then (T8 y1.1.Certs (fun x0_=>PX x0_ a0 a1)).bind fun y2=>some (!y2) else some false
theorem hU {d:Nat} (hd:140≤d) (a0:Int) (k1:Bool) (a1:List Ai) (a2:Int):Fit (R NN d 111 [iW a0,.rsl k1 false (a1.map (Enc.cs k1)),iW a2] []) (TA a0 a1 a2) PB:=by
  obtain ⟨d,rfl,g⟩:=up hd
  refine AD (t111 NN d _ _ _) ?_
  unfold nF TA
  exact AG (n:=1) rfl rfl (by decide) fun b1=>AG (n:=1) rfl rfl (by decide) fun b2=>Ao 0 rfl rfl<|cN (mg:=Oz a1 a2 4) (hZ (by omega) _ k1 _ a1 a2 4) fun y1 hy1 x1=>q_q fr<|q_q fr<|AE rfl fun b3=>A6 0 rfl rfl rfl (by decide) rfl<|q_k (q_p fr<|Ao 0 rfl rfl<|A7 (aF2 As (BC (Aa (B9 2 rfl (Aq (l0:=false) (x:=a0))) (Aa (B9 1 rfl (Aq (l0:=k1) (x:=a1))) Ah))) fun l0_ l1_=>hJ (Dc:=137) (by omega) l0_ y1.1.Certs (fun l=>.fn 136 [.rp l (Enc.cs l a0),.rp l (Enc.cs l a1)]) (fun l=>BC (Aa (AZ (Aq (l0:=l) (x:=a0)) (fun _ _ _ h=>Enc.frz _ a0 _ _ _ h)) (Aa (AZ (Aq (l0:=l) (x:=a1)) (fun _ _ _ h=>Enc.frz _ a1 _ _ _ h)) Ah))) (fun x0_=>PX x0_ a0 a1) (fun d hd l q0_ x0_ S t ht=>(TS _ _ _ _).trans (BR (E:=(fun (t:Bool)=>AV.bool t)) (mg:=PX x0_ a0 a1) (Xu (M:=fun a=>Fit (R NN d 136 a []) _ _) (A8 (Aq (l0:=q0_) (x:=x0_))) (AZ (Aq (l0:=l) (x:=a0)) (fun _ _ _ h=>Enc.frz _ a0 _ _ _ h)) (AZ (Aq (l0:=l) (x:=a1)) (fun _ _ _ h=>Enc.frz _ a1 _ _ _ h)) HP.nil fun u0_ v0_ v1_=>w136 hd u0_ x0_ v0_ a0 v1_ a1) ht)) l1_) fun y2 hy2=>q_p fr<|Am (Ad rfl) rfl)<|Am (Ad rfl) rfl
def IC (a0:Int) (a1:List Ai) (y1:Ai×Bool) (s5:Bool×Int×(List Int)):Option (LO (Bool×Int×(List Int))):=bif decide (s5.2.1 < (y1.1.Refs.length:Int)) then ( (Av y1.1.Refs s5.2.1).bind fun x2=>( ( (TA a0 a1 x2).bind fun y3=>bif !y3 then some (LO.norm true) else (Av a1 x2).bind fun x3=>bif x3.View != y1.1.View then some (LO.norm true) else (Av a1 x2).bind fun x4=>(m58 s5.2.2 x4.From).bind fun y4=>some (LO.norm y4)).bind (Ak (fun s9=>bif s9 then some (LO.ret false) else some (LO.norm s5.1)) (fun i3 s9=>some (LO.exit i3 s5.1)) (fun s9=>some (LO.ret s5.1)))).bind (Ak (fun s10=>(Av a1 x2).bind fun x5=>(Bw 8 s5.2.2 [x5.From]).bind fun z1=>some (LO.norm (s10,z1))) (fun i4 s10=>if i4 = 1 then some (LO.norm (s10,s5.2.2)) else some (LO.exit i4 (s10,s5.2.2))) (fun s10=>some (LO.ret (s10,s5.2.2))))).bind (Ak (fun s11=>some (LO.norm (s11.1,wi .i64 (s5.2.1 + 1),s11.2))) (fun i5 s11=>some (LO.exit i5 (s11.1,s5.2.1,s11.2))) (fun s11=>some (LO.ret (s11.1,s5.2.1,s11.2)))) else some (LO.exit 0 (s5.1,s5.2.1,s5.2.2))
def m75 (a0:Int) (a1:List Ai) (a2:Int):Option (Bool):=(Oz a1 a2 5).bind fun y1=>( ( bif !y1.2 then some (LO.norm true) else (m97 a0 y1.1.View).bind fun y2=>bif y1.1.From != y2 then some (LO.norm true) else some (LO.norm (decide ((y1.1.Refs.length:Int) < (wi .i64 ((wi .i64 (2 * a0)) + 1)))))).bind (Ak (fun s3=>bif s3 then some (LO.ret false) else some (LO.norm false)) (fun i1 s3=>some (LO.exit i1 false)) (fun s3=>some (LO.ret false)))).bind (Ak (fun s4=>(AB (IC a0 a1 y1) NN (s4,0,[])).bind (Ak (fun _=>none) (fun i6 s12=>if i6 = 0 then some true else none) (fun s12=>some s12.1))) (fun i2 s4=>none) (fun s4=>some s4))
theorem w75 {d:Nat} (hd:141≤d) (a0:Int) (k1:Bool) (a1:List Ai) (a2:Int):Fit (R NN d 75 [iW a0,.rsl k1 false (a1.map (Enc.cs k1)),iW a2] []) (m75 a0 a1 a2) PB:=by
  obtain ⟨d,rfl,g⟩:=up hd
  refine AD (t75 NN d _ _ _) ?_
  unfold b75 m75
  refine cN (mg:=Oz a1 a2 5) (hZ (by omega) _ k1 _ a1 a2 5) fun y1 hy1 x1=>q_q fr<|q_q fr<|AE rfl fun b1=>A6 0 rfl rfl rfl (by decide) rfl<|Bo (A:=fun (s:Bool)=>[.bool s]) (B:=fun s=>[bx b1 [iW y1.1.Kind,iW y1.1.View,iW y1.1.From,iW y1.1.Slot,iW y1.1.Value,.rsl x1.1 x1.2.1 (y1.1.Certs.map (Enc.cs x1.1)),.rsl x1.2.2.1 x1.2.2.2 (y1.1.Refs.map (Enc.cs x1.2.2.1))]]) ?_ ?_ ?_ ?_
  ·refine Bo (A:=fun (s:Bool)=>[.bool s]) (B:=fun s=>[bx b1 [iW y1.1.Kind,iW y1.1.View,iW y1.1.From,iW y1.1.Slot,iW y1.1.Value,.rsl x1.1 x1.2.1 (y1.1.Certs.map (Enc.cs x1.1)),.rsl x1.2.2.1 x1.2.2.2 (y1.1.Refs.map (Enc.cs x1.2.2.1))]]) ?_ ?_ ?_ ?_
   ·exact q_p fr<|q_j (Ae 0 rr)<|q_p fr<|Ao 0 rfl rfl<|q_p fr<|Ao 0 rfl rfl<|A7 (aF2 (Ad rfl) (Ad rfl) fun l0_ l1_=>w97 (by omega) a0 y1.1.View) fun y2 hy2=>q_p fr<|q_j (Ae 0 rr)<|q_p fr<|Ao 0 rfl rfl<|AL<|q_p fr<|q_p fr<|q_p fr<|Ae 0 rr
   ·exact fun s3=>q_i (Ar 0 rr)<|Ae 0 rr
   ·exact fun i1 s3=>Ax 0 rr
   ·exact fun s3=>Ar 0 rr
  ·intro s4
   refine q_q (fun _=>EU)<|q_p fr<|Ao 0 rfl rfl<|AL<|DN (α:=Int) false<|Cm (I:=(fun (s:Bool×Int×(List Int)) l L=>∃ (v1:AV),l = [.bool s.1,v1,iW s.2.1]∧L = [sl false v1 (s.2.2:List Int),bx b1 [iW y1.1.Kind,iW y1.1.View,iW y1.1.From,iW y1.1.Slot,iW y1.1.Value,.rsl x1.1 x1.2.1 (y1.1.Certs.map (Enc.cs x1.1)),.rsl x1.2.2.1 x1.2.2.2 (y1.1.Refs.map (Enc.cs x1.2.2.1))]])) 0 ⟨(.rsl false true []),rfl,rfl⟩ ?_ ?_ ?_
   ·rintro s5 _ _ ⟨v1,rfl,rfl⟩
    unfold Z7 IC
    refine q_p fr<|q_i ?_ ?_
    ·refine DD (I:=(fun (s:Bool×(List Int)) l L=>∃ (v2:AV),l = [.bool s.1,v2]∧L = [sl false v2 (s.2:List Int),bx b1 [iW y1.1.Kind,iW y1.1.View,iW y1.1.From,iW y1.1.Slot,iW y1.1.Value,.rsl x1.1 x1.2.1 (y1.1.Certs.map (Enc.cs x1.1)),.rsl x1.2.2.1 x1.2.2.2 (y1.1.Refs.map (Enc.cs x1.2.2.1))]])) ?_ ?_ ?_ ?_
     ·refine Bf rfl fun x2 hx2=>q_p fr<|Bo (A:=fun (s:Bool)=>[.bool s]) (B:=fun s=>[sl false v1 (s5.2.2:List Int),bx b1 [iW y1.1.Kind,iW y1.1.View,iW y1.1.From,iW y1.1.Slot,iW y1.1.Value,.rsl x1.1 x1.2.1 (y1.1.Certs.map (Enc.cs x1.1)),.rsl x1.2.2.1 x1.2.2.2 (y1.1.Refs.map (Enc.cs x1.2.2.1))]]) ?_ ?_ ?_ ?_
      ·refine Bo (A:=fun (s:Bool)=>[.bool s]) (B:=fun s=>[sl false v1 (s5.2.2:List Int),bx b1 [iW y1.1.Kind,iW y1.1.View,iW y1.1.From,iW y1.1.Slot,iW y1.1.Value,.rsl x1.1 x1.2.1 (y1.1.Certs.map (Enc.cs x1.1)),.rsl x1.2.2.1 x1.2.2.2 (y1.1.Refs.map (Enc.cs x1.2.2.1))]]) ?_ ?_ ?_ ?_
       ·exact A7 (aF3 (Ad rfl) As (Ad rfl) fun l0_ l1_ l2_=>hU (by omega) a0 l1_ a1 x2) fun y3 hy3=>q_p fr<|q_j (Ae 0 rr)<|Bf rfl fun x3 hx3=>q_p fr<|q_p fr<|q_p fr<|Ao 1 rfl rfl<|q_p fr<|q_j (Ae 0 rr)<|Bf rfl fun x4 hx4=>q_p fr<|q_p fr<|A7 (aF2 (Il 0 rfl) (Ad rfl) fun l0_ l1_=>w58 (by omega) l0_ s5.2.2 x4.From) fun y4 hy4=>Ae 0 rr
       ·exact fun s9=>q_i (Ar 0 rr)<|Ae 0 rr
       ·exact fun i3 s9=>Ax 0 rr
       ·exact fun s9=>Ar 0 rr
      ·exact fun s10=>Bf rfl fun x5 hx5=>q_p fr<|q_p fr<|q_q (fun _=>F8)<|DO (ys:=[x5.From]) 0 rfl rfl (fun _ _=>rfl) fun v2 z1 hz1=>Ae 0 ⟨v2,rfl,rfl⟩
      ·exact fun i4 s10=>q_n (Ae 0 ⟨v1,rfl,rfl⟩)<|Ax 0 ⟨v1,rfl,rfl⟩
      ·exact fun s10=>Ar 0 ⟨v1,rfl,rfl⟩
     ·rintro s11 _ _ ⟨v3,rfl,rfl⟩
      exact q_p fr<|Ae 0 ⟨v3,rfl,rfl⟩
     ·rintro i5 s11 _ _ ⟨v4,rfl,rfl⟩
      exact Ax 0 ⟨v4,rfl,rfl⟩
     ·rintro s11 _ _ ⟨v5,rfl,rfl⟩
      exact Ar 0 ⟨v5,rfl,rfl⟩
    ·exact Ax 0 ⟨v1,rfl,rfl⟩
   ·rintro i6 s12 _ _ ⟨v6,rfl,rfl⟩
    exact q_n (Am (Ad rfl) rfl)<|A4
   ·rintro s12 _ _ ⟨v7,rfl,rfl⟩
    exact Am (Ad rfl) rfl
  ·exact fun i2 s4=>A4
  ·exact fun s4=>Am (Ad rfl) rfl
def m48 (a0:Int) (a1:List Ai) (a2:Af) (a3:Int):Option (Int):=( ( bif !(m78 a0 a2.Id) then some (LO.norm true) else bif !(m80 a2.View) then some (LO.norm true) else some (LO.norm (!(m56 a2.Done 0 30)))).bind (Ak (fun s3=>bif s3 then some (LO.ret 3) else ( bif a2.Start != (-1) then bif a2.View == 0 then some (LO.norm true) else (m75 a0 a1 a2.Start).bind fun y1=>bif !y1 then some (LO.norm true) else (Av a1 a2.Start).bind fun x1=>some (LO.norm (x1.View != a2.View)) else some (LO.norm false)).bind (Ak (fun s5=>bif s5 then some (LO.ret 1) else bif decide (a2.Done > a3) then some (LO.ret 8) else some (LO.norm 0)) (fun i2 s5=>if i2 = 0 then some (LO.norm 0) else some (LO.exit i2 0)) (fun s5=>some (LO.ret 0)))) (fun i1 s3=>if i1 = 0 then some (LO.norm 0) else some (LO.exit i1 0)) (fun s3=>some (LO.ret 0)))).bind (Ak (fun s6=>some 0) (fun i3 s6=>none) (fun s6=>some s6))
theorem w48 {d:Nat} (hd:142≤d) (a0:Int) (k1:Bool) (a1:List Ai) (k2:Bool) (a2:Af) (a3:Int):Fit (R NN d 48 [iW a0,.rsl k1 false (a1.map (Enc.cs k1)),.agg (Enc.cs k2 a2),iW a3] []) (m48 a0 a1 a2 a3) PI:=by
  obtain ⟨d,rfl,g⟩:=up hd
  refine AD (t48 NN d _ _ _ _) ?_
  unfold b48 m48
  refine AG (n:=4) rfl rfl (by decide) fun b1=>Bo (A:=fun (s:Int)=>[iW s]) (B:=fun s=>[bx b1 [iW a2.Id,iW a2.View,iW a2.Start,iW a2.Done]]) ?_ ?_ ?_ ?_
  ·refine Bo (A:=fun (s:Bool)=>[.bool s]) (B:=fun s=>[bx b1 [iW a2.Id,iW a2.View,iW a2.Start,iW a2.Done]]) ?_ ?_ ?_ ?_
   ·exact q_p fr<|Ao 0 rfl rfl<|AS (aF2 (Ad rfl) (Ad rfl) fun l0_ l1_=>w78 (by omega) a0 a2.Id)<|q_p fr<|q_j (Ae 0 rr)<|q_p fr<|Ao 0 rfl rfl<|AS (aF1 (Ad rfl) fun l0_=>w80 (by omega) a2.View)<|q_p fr<|q_j (Ae 0 rr)<|q_p fr<|Ao 0 rfl rfl<|AS (aF3 (Ad rfl) (Ad rfl) (Ad rfl) fun l0_ l1_ l2_=>w56 (by omega) a2.Done 0 30)<|q_p fr<|Ae 0 rr
   ·intro s3
    refine q_i ?_ ?_
    ·exact Ar 0 rr
    ·refine Bo (A:=fun (s:Bool)=>[.bool s]) (B:=fun s=>[bx b1 [iW a2.Id,iW a2.View,iW a2.Start,iW a2.Done]]) ?_ ?_ ?_ ?_
     ·exact q_p fr<|Ao 0 rfl rfl<|q_p fr<|q_k (q_p fr<|Ao 0 rfl rfl<|q_p fr<|q_j (Ae 0 rr)<|q_p fr<|Ao 0 rfl rfl<|A7 (aF3 (Ad rfl) As (Ad rfl) fun l0_ l1_ l2_=>w75 (by omega) a0 l1_ a1 a2.Start) fun y1 hy1=>q_p fr<|q_j (Ae 0 rr)<|q_p fr<|Ao 0 rfl rfl<|Bf rfl fun x1 hx1=>q_p fr<|q_p fr<|q_p fr<|Ao 0 rfl rfl<|q_p fr<|Ae 0 rr)<|Ae 0 rr
     ·exact fun s5=>q_i (Ar 0 rr)<|q_p fr<|Ao 0 rfl rfl<|q_p fr<|q_i (Ar 0 rr)<|Ae 0 rr
     ·exact fun i2 s5=>q_n (Ae 0 rr)<|Ax 0 rr
     ·exact fun s5=>Ar 0 rr
   ·exact fun i1 s3=>q_n (Ae 0 rr)<|Ax 0 rr
   ·exact fun s3=>Ar 0 rr
  ·exact fun s6=>Am (Ad rfl) rfl
  ·exact fun i3 s6=>A4
  ·exact fun s6=>Am (Ad rfl) rfl
def IG (a0:Ab) (s3:Int×(List Int)):Option (LO (Int×(List Int))):=bif decide (s3.1 < (a0.Replicas.length:Int)) then (Av a0.Replicas s3.1).bind fun x1=>(Bw 8 s3.2 [x1.Id]).bind fun z1=>some (LO.norm (wi .i64 (s3.1 + 1),z1)) else some (LO.exit 0 (s3.1,s3.2))
def Hw (a0:Ab) (y5:(List Int)) (s5:Int×Int):Option (LO (Int×Int)):=bif decide (s5.2 < (a0.Replicas.length:Int)) then (Av a0.Replicas s5.2).bind fun x2=>(m48 a0.F a0.Ledger x2 (y5.length:Int)).bind fun y6=>bif y6 != 0 then some (LO.ret (y6,s5.2)) else some (LO.norm (s5.1,wi .i64 (s5.2 + 1))) else some (LO.exit 2 (s5.1,s5.2))
def Hv (a0:Ab) (s7:Int×Int):Option (LO (Int×Int)):=bif decide (s7.2 < (a0.Requests.length:Int)) then (Av a0.Requests s7.2).bind fun x3=>(m49 x3).bind fun y7=>bif y7 != 0 then some (LO.ret (y7,s7.2)) else (EL a0.Requests 0 s7.2).bind fun ys1=>(m50 ys1 x3).bind fun y8=>bif decide (y8 ≥ 0) then some (LO.ret (6,s7.2)) else some (LO.norm (s7.1,wi .i64 (s7.2 + 1))) else some (LO.exit 4 (s7.1,s7.2))
def m20 (a0:Ab):Option (Int):=(m44 a0.F a0.Ledger).bind fun y1=>bif y1 != 0 then some y1 else ( bif decide ((a0.Bad.length:Int) > a0.F) then some (LO.ret 2) else bif decide ((a0.Requests.length:Int) > 12) then some (LO.ret 2) else some (LO.norm 0)).bind (Ak (fun s2=>(m45 a0.F a0.Bad).bind fun y2=>bif y2 != 0 then some y2 else (AB (IG a0) NN (0,[])).bind (Ak (fun _=>none) (fun i2 s4=>if i2 = 0 then (m30 a0.F a0.Bad).bind fun y3=>(m46 s4.2 y3).bind fun y4=>bif !y4 then some 1 else (m47 a0.F a0.Ledger).bind fun y5=>(AB (Hw a0 y5) NN (s2,0)).bind (Ak (fun _=>none) (fun i3 s6=>if i3 = 2 then (AB (Hv a0) NN (s6.1,0)).bind (Ak (fun _=>none) (fun i4 s8=>if i4 = 4 then some 0 else none) (fun s8=>some s8.1)) else none) (fun s6=>some s6.1)) else none) (fun s4=>some s2))) (fun i1 s2=>none) (fun s2=>some s2))
theorem w20 {d:Nat} (hd:143≤d) (k0:Bool) (a0:Ab):Fit (R NN d 20 [.agg (Enc.cs k0 a0)] []) (m20 a0) PI:=by
  obtain ⟨d,rfl,g⟩:=up hd
  refine AD (t20 NN d _) ?_
  unfold b20 m20
  refine AG (n:=5) rfl rfl (by decide) fun b1=>q_p fr<|Ao 0 rfl rfl<|q_p fr<|Ao 0 rfl rfl<|A7 (aF2 (Ad rfl) As fun l0_ l1_=>w44 (by omega) a0.F l1_ a0.Ledger) fun y1 hy1=>q_p fr<|q_i ?_ ?_
  ·exact Am (Ad rfl) rfl
  ·refine Bo (A:=fun (s:Int)=>[iW s]) (B:=fun s=>[bx b1 [iW a0.F,.rsl k0 false (a0.Bad.map (Enc.cs k0)),.rsl k0 false (a0.Replicas.map (Enc.cs k0)),.rsl k0 false (a0.Ledger.map (Enc.cs k0)),.rsl k0 false (a0.Requests.map (Enc.cs k0))]]) ?_ ?_ ?_ ?_
   ·refine q_p fr<|Ao 0 rfl rfl<|AL<|q_p fr<|Ao 0 rfl rfl<|q_p fr<|q_j ?_ ?_
    ·first | refine BW ?_ | skip
     exact Ar 0 rr
    ·exact q_p fr<|Ao 0 rfl rfl<|AL<|q_p fr<|q_i (Ar 0 rr)<|Ae 0 rr
   ·intro s2
    refine q_p fr<|Ao 0 rfl rfl<|q_p fr<|Ao 0 rfl rfl<|A7 (aF2 (Ad rfl) As fun l0_ l1_=>w45 (by omega) a0.F l1_ a0.Bad) fun y2 hy2=>q_p fr<|q_i ?_ ?_
    ·exact Am (Ad rfl) rfl
    ·refine q_q (fun _=>EU)<|q_p fr<|Ao 0 rfl rfl<|AL<|DN (α:=Int) false<|Cm (I:=(fun (s:Int×(List Int)) l L=>∃ (v1:AV),l = [v1,iW s.1]∧L = [sl false v1 (s.2:List Int),bx b1 [iW a0.F,.rsl k0 false (a0.Bad.map (Enc.cs k0)),.rsl k0 false (a0.Replicas.map (Enc.cs k0)),.rsl k0 false (a0.Ledger.map (Enc.cs k0)),.rsl k0 false (a0.Requests.map (Enc.cs k0))]])) 0 ⟨(.rsl false true []),rfl,rfl⟩ ?_ ?_ ?_
     ·rintro s3 _ _ ⟨v1,rfl,rfl⟩
      unfold ZM IG
      exact q_p fr<|q_i (Bf rfl fun x1 hx1=>q_p fr<|AE rfl fun b2=>A6 0 rfl rfl rfl (by decide) rfl<|q_p fr<|Ao 0 rfl rfl<|q_q (fun _=>F8)<|DO (ys:=[x1.Id]) 1 rfl rfl (fun _ _=>rfl) fun v2 z1 hz1=>q_p fr<|Ae 1 ⟨v2,rfl,rfl⟩)<|Ax 0 ⟨v1,rfl,rfl⟩
     ·rintro i2 s4 _ _ ⟨v3,rfl,rfl⟩
      refine q_n ?_ ?_
      ·refine q_p fr<|Ao 1 rfl rfl<|q_p fr<|Ao 1 rfl rfl<|A7 (aF2 (Ad rfl) As fun l0_ l1_=>w30 (by omega) a0.F l1_ a0.Bad) fun y3 hy3=>A7 (aF2 (Il 0 rfl) As fun l0_ l1_=>w46 (by omega) l0_ s4.2 l1_ y3) fun y4 hy4=>q_p fr<|q_i ?_ ?_
       ·exact Am (Ad rfl) rfl
       ·refine q_p fr<|Ao 1 rfl rfl<|q_p fr<|Ao 1 rfl rfl<|A7 (aF2 (Ad rfl) As fun l0_ l1_=>w47 (by omega) a0.F l1_ a0.Ledger) fun y5 hy5=>AL<|q_p fr<|Ao 1 rfl rfl<|AL<|CU (A:=fun (s:Int×Int)=>[iW s.1,iW s.2]) (B:=fun s=>[sl false v3 (s4.2:List Int),bx b1 [iW a0.F,.rsl k0 false (a0.Bad.map (Enc.cs k0)),.rsl k0 false (a0.Replicas.map (Enc.cs k0)),.rsl k0 false (a0.Ledger.map (Enc.cs k0)),.rsl k0 false (a0.Requests.map (Enc.cs k0))]]) 0 rr ?_ ?_ ?_
        ·intro s5
         unfold ZL Hw
         exact q_p fr<|q_i (Bf rfl fun x2 hx2=>q_p fr<|AE rfl fun b3=>A6 0 rfl rfl rfl (by decide) rfl<|q_p fr<|Ao 2 rfl rfl<|q_p fr<|Ao 2 rfl rfl<|A9 0 rfl rfl rfl<|A7 (fun S hS=>FM (Ad rfl) As (A8 (Aq (l0:=false) (x:=x2))) (Ad rfl) hS fun l0_ l1_ l2_ l3_=>w48 (by omega) a0.F l1_ a0.Ledger l2_ x2 (y5.length:Int)) fun y6 hy6=>q_p fr<|q_i (Ar 1 rr)<|q_p fr<|Ae 1 rr)<|Ax 0 rr
        ·intro i3 s6
         refine q_n ?_ ?_
         ·refine q_p fr<|Ao 1 rfl rfl<|AL<|CU (A:=fun (s:Int×Int)=>[iW s.1,iW s.2]) (B:=fun s=>[sl false v3 (s4.2:List Int),bx b1 [iW a0.F,.rsl k0 false (a0.Bad.map (Enc.cs k0)),.rsl k0 false (a0.Replicas.map (Enc.cs k0)),.rsl k0 false (a0.Ledger.map (Enc.cs k0)),.rsl k0 false (a0.Requests.map (Enc.cs k0))]]) 0 rr ?_ ?_ ?_
          ·intro s7
           unfold ZK Hv
           exact q_p fr<|q_i (Bf rfl fun x3 hx3=>q_p fr<|AE rfl fun b4=>A6 0 rfl rfl rfl (by decide) rfl<|A9 0 rfl rfl rfl<|A7 (aF1 (A8 (Aq (l0:=k0) (x:=x3))) fun l0_=>w49 (by omega) l0_ x3) fun y7 hy7=>q_p fr<|q_i (Ar 1 rr)<|q_p fr<|Ao 2 rfl rfl<|NX rfl (.inr ⟨rfl,rfl⟩) (.inl rfl) fun fl1 ys1 hys1=>A9 0 rfl rfl rfl<|A7 (aF2 As (A8 (Aq (l0:=k0) (x:=x3))) fun l0_ l1_=>w50 (by omega) l0_ ys1 l1_ x3) fun y8 hy8=>q_p fr<|q_i (Ar 1 rr)<|q_p fr<|Ae 1 rr)<|Ax 0 rr
          ·exact fun i4 s8=>q_n (Am (Ad rfl) rfl)<|A4
          ·exact fun s8=>Am (Ad rfl) rfl
         ·exact A4
        ·exact fun s6=>Am (Ad rfl) rfl
      ·exact A4
     ·rintro s4 _ _ ⟨v4,rfl,rfl⟩
      exact Am (Ad rfl) rfl
   ·exact fun i1 s2=>A4
   ·exact fun s2=>Am (Ad rfl) rfl
def m91 (a0:List Af):Option (List Af):=Bw 32 [] a0
theorem w91 {d:Nat} (hd:1≤d) (k0:Bool) (a0:List Af):Fit (R NN d 91 [.rsl k0 false (a0.map (Enc.cs k0))] []) (m91 a0) (P1 (T:=List Af) Lr):=by
  obtain ⟨d,rfl,g⟩:=up hd
  rw [t91]
  refine (?_:Okh [] (fun S=>b91 (cfg NN) (R NN d) (.rsl k0 false (a0.map (Enc.cs k0))) S) _ _) [] HP.nil
  unfold b91 m91
  refine Hq (e:=43) iJ (fun h S=>?_) ?_
  · subst h
    refine Eq.symm (show pq (AN (A3 _ _ _ _ S) S) _ = _ from ?_)
    rw [Vn]; rfl
  refine q_q (fun _=>Vn) ?_
  refine DN (α:=Af) false ?_
  rw [show Bw 32 ([]:List Af) a0 = (Bw 32 [] a0).bind some from by cases Bw 32 ([]:List Af) a0 <;> rfl]
  refine DO (ys:=a0) 0 rfl rfl (fun _ _=>rfl) fun v1 z1 hz1=>?_
  exact IZ (JA 0 rfl ZT) rfl
def Wh (a0:List AP):Option (List AP):=Bw 24 [] a0
theorem w154 {d:Nat} (hd:1≤d) (k0:Bool) (a0:List AP):Fit (R NN d 154 [.rsl k0 false (a0.map (Enc.cs k0))] []) (Wh a0) (P1 (T:=List AP) Lr):=by
  obtain ⟨d,rfl,g⟩:=up hd
  rw [t154]
  refine (?_:Okh [] (fun S=>fH (cfg NN) (R NN d) (.rsl k0 false (a0.map (Enc.cs k0))) S) _ _) [] HP.nil
  unfold fH Wh
  refine Hq (e:=63) iG (fun h S=>?_) ?_
  · subst h
    refine Eq.symm (show pq (AN (A3 _ _ _ _ S) S) _ = _ from ?_)
    rw [PE]; rfl
  refine q_q (fun _=>PE) ?_
  refine DN (α:=AP) false ?_
  rw [show Bw 24 ([]:List AP) a0 = (Bw 24 [] a0).bind some from by cases Bw 24 ([]:List AP) a0 <;> rfl]
  refine DO (ys:=a0) 0 rfl rfl (fun _ _=>rfl) fun v1 z1 hz1=>?_
  exact IZ (JA 0 rfl jQ) rfl
def Ov (a0:Ai):Option (Ai):=(Wh a0.Certs).bind fun y1=>(m29 a0.Refs).bind fun y2=>some (⟨a0.Kind,a0.View,a0.From,a0.Slot,a0.Value,y1,y2⟩:Ai)
theorem gV {d:Nat} (hd:2≤d) (k0:Bool) (a0:Ai):Fit (R NN d 129 [.agg (Enc.cs k0 a0)] []) (Ov a0) (P1 (T:=Ai) AV.agg):=by
  obtain ⟨d,rfl,g⟩:=up hd
  refine AD (t129 NN d _) ?_
  unfold mM Ov
  exact AG (n:=7) rfl rfl (by decide) fun b1=>AE rfl fun b2=>q_p fr<|Ao 1 rfl rfl<|Ha (mg:=Wh a0.Certs) (aF1 As fun l0_=>w154 (by omega) l0_ a0.Certs) fun y1 hy1 i1 v1=>q_p fr<|F9 2 rfl (fun S hS=>(HP.cell1t hS 0 rfl)) rfl<|q_p fr<|Ao 2 rfl rfl<|Ha (mg:=m29 a0.Refs) (aF1 As fun l0_=>w29 (by omega) l0_ a0.Refs) fun y2 hy2 i2 v2=>q_p fr<|F9 3 rfl (fun S hS=>(HP.cell1t hS 0 rfl)) rfl<|A9 3 rfl rfl rfl<|A6 2 rfl rfl rfl (by decide) rfl<|Bn (fun S hS=>hS.lda 2 rfl rfl) (Bh (α:=Ai) (β:=Int×Int×Int×Int×Int×(List AP)×(List Int)) (f:=fun x=>(x.Kind,x.View,x.From,x.Slot,x.Value,x.Certs,x.Refs)) (x:=(⟨a0.Kind,a0.View,a0.From,a0.Slot,a0.Value,y1,y2⟩:Ai)) rfl (Ap (AO (n:=a0.Kind)) (Ap (AO (n:=a0.View)) (Ap (AO (n:=a0.From)) (Ap (AO (n:=a0.Slot)) (Ap (AO (n:=a0.Value)) (Ap (Dp 1 rfl) (Dp 0 rfl)))))))) rfl
theorem gU {d:Nat} (hd:2≤d) (k0:Bool) (a0:Ai):Fit (R NN d 129 [.agg (Enc.cs k0 a0)] []) (Ov a0) (P0 (fun (t:Ai)=>AV.agg (Enc.cs false t))):=EV (gV hd k0 a0)
def Nj (a0:List Ai) (s1:Int×(List Ai)):Option (LO (Int×(List Ai))):=bif decide (s1.1 < (a0.length:Int)) then (Av a0 s1.1).bind fun x1=>(Ov x1).bind fun y1=>(Bw 88 s1.2 [y1]).bind fun z1=>some (LO.norm (wi .i64 (s1.1 + 1),z1)) else some (LO.exit 0 (s1.1,s1.2))
def m92 (a0:List Ai):Option ((List Ai)):=(AB (Nj a0) NN (0,[])).bind (Ak (fun _=>none) (fun i4 s2=>if i4 = 0 then some s2.2 else none) (fun s2=>some []))
theorem w92 {d:Nat} (hd:3≤d) (k0:Bool) (a0:List Ai):Fit (R NN d 92 [.rsl k0 false (a0.map (Enc.cs k0))] []) (m92 a0) (P1 (T:=List Ai) Lr):=by
  obtain ⟨d,rfl,g⟩:=up hd
  refine AD (t92 NN d _) ?_
  unfold b92 m92
  refine q_q (fun _=>Vm)<|AL<|Vr (α:=Ai)<|Cm (I:=(fun (s:Int×(List Ai)) l L=>∃ (i1:List Nat) (v1:AV),l = [v1,iW s.1]∧L = [tra i1 v1 (s.2:List Ai)])) 0 ⟨[],(.rsl false true []),rfl,rfl⟩ ?_ ?_ ?_
  ·rintro s1 _ _ ⟨i1,v1,rfl,rfl⟩
   unfold Zy Nj
   refine q_p fr<|q_i ?_ ?_
   ·refine Bf rfl fun x1 hx1=>q_p fr<|AE rfl fun b1=>A6 0 rfl rfl rfl (by decide) rfl<|A9 0 rfl rfl rfl<|FU (W:=AV.agg) (mg:=Ov x1) CY (aF1 (A8 (Aq (l0:=k0) (x:=x1))) fun l0_=>gV (by omega) l0_ x1) fun y1 hy1 i2 cs1=>Ez (fun S hS=>iL (hS.get (k:=0) rfl)) fun hcs_=>?_
    obtain ⟨v2,v3,rfl⟩:=hcs_
    exact Dt 3 [0,2,1] (by decide) (by decide)<|ZS rfl (fun _=>bt26) rfl fun z1 hz1 v4 i3=>q_p fr<|Dt 2 [1,0] (by decide) (by decide)<|Ae 1 ⟨i3,v4,rfl,rfl⟩
   ·exact Ax 0 ⟨i1,v1,rfl,rfl⟩
  ·rintro i4 s2 _ _ ⟨i5,v5,rfl,rfl⟩
   exact q_n (q_wk<|IZ (Dp 0 rfl) rfl)<|A4
  ·rintro s2 _ _ ⟨i6,v6,rfl,rfl⟩
   exact IZ (AA (α:=Ai) (fl:=true)) rfl
def Wm (a0:List TOp):Option (List TOp):=Bw 48 [] a0
theorem w130 {d:Nat} (hd:1≤d) (k0:Bool) (a0:List TOp):Fit (R NN d 130 [.rsl k0 false (a0.map (Enc.cs k0))] []) (Wm a0) (P1 (T:=List TOp) Lr):=by
  obtain ⟨d,rfl,g⟩:=up hd
  rw [t130]
  refine (?_:Okh [] (fun S=>fP (cfg NN) (R NN d) (.rsl k0 false (a0.map (Enc.cs k0))) S) _ _) [] HP.nil
  unfold fP Wm
  refine Hq (e:=51) iH (fun h S=>?_) ?_
  · subst h
    refine Eq.symm (show pq (AN (A3 _ _ _ _ S) S) _ = _ from ?_)
    rw [Vl]; rfl
  refine q_q (fun _=>Vl) ?_
  refine DN (α:=TOp) false ?_
  rw [show Bw 48 ([]:List TOp) a0 = (Bw 48 [] a0).bind some from by cases Bw 48 ([]:List TOp) a0 <;> rfl]
  refine DO (ys:=a0) 0 rfl rfl (fun _ _=>rfl) fun v1 z1 hz1=>?_
  exact IZ (JA 0 rfl jR) rfl
def m93 (a0:Ag):Option (Ag):=(Wm a0.Ops).bind fun y1=>some (⟨a0.Client,a0.Number,a0.Time,y1⟩:Ag)
theorem w93 {d:Nat} (hd:2≤d) (k0:Bool) (a0:Ag):Fit (R NN d 93 [.agg (Enc.cs k0 a0)] []) (m93 a0) (P1 (T:=Ag) AV.agg):=by
  obtain ⟨d,rfl,g⟩:=up hd
  refine AD (t93 NN d _) ?_
  unfold b93 m93
  exact AG (n:=4) rfl rfl (by decide) fun b1=>AE rfl fun b2=>q_p fr<|Ao 1 rfl rfl<|Ha (mg:=Wm a0.Ops) (aF1 As fun l0_=>w130 (by omega) l0_ a0.Ops) fun y1 hy1 i1 v1=>q_p fr<|F9 2 rfl (fun S hS=>(HP.cell1t hS 0 rfl)) rfl<|A9 2 rfl rfl rfl<|A6 1 rfl rfl rfl (by decide) rfl<|Bn (fun S hS=>hS.lda 1 rfl rfl) (Bh (α:=Ag) (β:=Int×Int×Int×(List TOp)) (f:=fun x=>(x.Client,x.Number,x.Time,x.Ops)) (x:=(⟨a0.Client,a0.Number,a0.Time,y1⟩:Ag)) rfl (Ap (AO (n:=a0.Client)) (Ap (AO (n:=a0.Number)) (Ap (AO (n:=a0.Time)) (Dp 0 rfl))))) rfl
def Nl (a0:Ab) (s1:Int×(List Ag)):Option (LO (Int×(List Ag))):=bif decide (s1.1 < (a0.Requests.length:Int)) then (Av a0.Requests s1.1).bind fun x1=>(m93 x1).bind fun y4=>(Bw 48 s1.2 [y4]).bind fun z1=>some (LO.norm (wi .i64 (s1.1 + 1),z1)) else some (LO.exit 0 (s1.1,s1.2))
def m59 (a0:Ab):Option (Ab):=(m29 a0.Bad).bind fun y1=>(m91 a0.Replicas).bind fun y2=>(m92 a0.Ledger).bind fun y3=>(AB (Nl a0) NN (0,[])).bind (Ak (fun _=>none) (fun i7 s2=>if i7 = 0 then some (⟨a0.F,y1,y2,y3,s2.2⟩:Ab) else none) (fun s2=>some (⟨0,[],[],[],[]⟩:Ab)))
theorem w59 {d:Nat} (hd:4≤d) (k0:Bool) (a0:Ab):Fit (R NN d 59 [.agg (Enc.cs k0 a0)] []) (m59 a0) (P1q (T:=Ab) AV.agg):=by
  obtain ⟨d,rfl,g⟩:=up hd
  refine AD (t59 NN d _) ?_
  unfold b59 m59
  refine AG (n:=5) rfl rfl (by decide) fun b1=>AE rfl fun b2=>AE rfl fun b3=>q_p fr<|Ao 2 rfl rfl<|q_p fr<|Ao 2 rfl rfl<|q_p fr<|Ao 2 rfl rfl<|q_p fr<|Ao 2 rfl rfl<|Ha (mg:=m29 a0.Bad) (aF1 As fun l0_=>w29 (by omega) l0_ a0.Bad) fun y1 hy1 i1 v1=>Ha (mg:=m91 a0.Replicas) (aF1 As fun l0_=>w91 (by omega) l0_ a0.Replicas) fun y2 hy2 i2 v2=>?_
  refine Ha (mg:=m92 a0.Ledger) (aF1 As fun l0_=>w92 (by omega) l0_ a0.Ledger) fun y3 hy3 i3 v3=>GU (fun S hS=>NE (by simp only [Bq,plc,gd,List.getD_cons_zero,List.getD_cons_succ,List.getElem?_cons_zero,List.getElem?_cons_succ,hS.cell1t 2 rfl,hS.cell1t 1 rfl,hS.cell1t 0 rfl]; rfl)) ?_
  refine A6 3 rfl rfl rfl (by decide) rfl<|q_p fr<|Ao 5 rfl rfl<|AL<|Vr (α:=Ag)<|Cm (I:=(fun (s:Int×(List Ag)) l L=>∃ (i4:List Nat) (v4:AV),l = [iW s.1]∧L = [tra i4 v4 (s.2:List Ag),tr i3 [v3] (y3:List Ai),tr i2 [v2] (y2:List Af),tr i1 [v1] (y1:List Int),bx b3 [iW a0.F,v1,v2,v3,v4],bx b2 [iW 0,.rsl false true [],.rsl false true [],.rsl false true [],.rsl false true []],bx b1 [iW a0.F,.rsl k0 false (a0.Bad.map (Enc.cs k0)),.rsl k0 false (a0.Replicas.map (Enc.cs k0)),.rsl k0 false (a0.Ledger.map (Enc.cs k0)),.rsl k0 false (a0.Requests.map (Enc.cs k0))]])) 0 ⟨[],(.rsl false true []),rfl,rfl⟩ ?_ ?_ ?_
  ·rintro s1 _ _ ⟨i4,v4,rfl,rfl⟩
   unfold Z8 Nl
   refine q_p fr<|q_i ?_ ?_
   ·refine Bf rfl fun x1 hx1=>q_p fr<|AE rfl fun b4=>A6 0 rfl rfl rfl (by decide) rfl<|q_p fr<|Ao 5 rfl rfl<|A9 0 rfl rfl rfl<|FU (W:=AV.agg) (mg:=m93 x1) CY (aF1 (A8 (Aq (l0:=k0) (x:=x1))) fun l0_=>w93 (by omega) l0_ x1) fun y4 hy4 i5 cs4=>Ez (fun S hS=>iM (hS.get (k:=0) rfl)) fun hcs_=>?_
    obtain ⟨v5,rfl⟩:=hcs_
    exact Dt 9 [0,2,1,3,4,5,6,7,8] (by decide) (by decide)<|ZS rfl (fun _=>bt27) rfl fun z1 hz1 v6 i6=>q_p fr<|F9 5 rfl (fun S hS=>(HP.cella hS 0 rfl)) rfl<|q_p fr<|Dt 8 [1,0,2,3,4,5,6,7] (by decide) (by decide)<|Ae 1 ⟨i6,v6,rfl,rfl⟩
   ·exact Ax 0 ⟨i4,v4,rfl,rfl⟩
  ·rintro i7 s2 _ _ ⟨i8,v7,rfl,rfl⟩
   exact q_n (A9 4 rfl rfl rfl<|A6 5 rfl rfl rfl (by decide) rfl<|QP (fun S hS=>cV 0 rfl S hS) (fun S hS=>hS.lda 5 rfl rfl) (Bh (α:=Ab) (β:=Int×(List Int)×(List Af)×(List Ai)×(List Ag)) (f:=fun x=>(x.F,x.Bad,x.Replicas,x.Ledger,x.Requests)) (x:=(⟨a0.F,y1,y2,y3,s2.2⟩:Ab)) rfl (Ap (AO (n:=a0.F)) (Ap (Dp (cs:=[v1]) 3 rfl) (Ap (Dp (cs:=[v2]) 2 rfl) (Ap (Dp (cs:=[v3]) 1 rfl) (cB 0 rfl)))))) rfl)<|A4
  ·rintro s2 _ _ ⟨i9,v8,rfl,rfl⟩
   exact QP (fun _ _=>cX) (fun S hS=>hS.lda 5 rfl rfl) (Bh (α:=Ab) (β:=Int×(List Int)×(List Af)×(List Ai)×(List Ag)) (f:=fun x=>(x.F,x.Bad,x.Replicas,x.Ledger,x.Requests)) (x:=(⟨0,[],[],[],[]⟩:Ab)) rfl (Ap (AO (n:=0)) (Ap (AA (α:=Int) (fl:=true)) (Ap (AA (α:=Af) (fl:=true)) (Ap (AA (α:=Ai) (fl:=true)) (AA (α:=Ag) (fl:=true))))))) rfl
theorem MQ {d:Nat} (hd:4≤d) (k0:Bool) (a0:Ab):Fit (R NN d 59 [.agg (Enc.cs k0 a0)] []) (m59 a0) (P1 AV.agg):=p1q (w59 hd k0 a0)
def Ks (a0:Ab) (a1_0:Ag):Option (Ac):=(m20 a0).bind fun y1=>bif y1 != 0 then some (⟨y1,(⟨0,[],[],[],[]⟩:Ab)⟩:Ac) else (m59 a0).bind fun y2=>(m32 y2 a1_0).bind fun y3=>bif y3.1 != 0 then some (⟨y3.1,(⟨0,[],[],[],[]⟩:Ab)⟩:Ac) else (m59 y3.2).bind fun y4=>some (⟨0,y4⟩:Ac)
theorem aP {d:Nat} (hd:144≤d) (k0:Bool) (a0:Ab) (k1_0:Bool) (a1_0:Ag):Fit (R NN d 31 [.agg (Enc.cs k0 a0),.fn 32 [.rp k1_0 (Enc.cs k1_0 a1_0)]] []) (Ks a0 a1_0) (P1 (T:=Ac) AV.agg):=by
  obtain ⟨d,rfl,g⟩:=up hd
  refine AD (t31 NN d _ _) ?_
  unfold b31 Ks
  refine AG (n:=5) rfl rfl (by decide) fun b1=>AE rfl fun b2=>A9 1 rfl rfl rfl<|A7 (aF1 (A8 (Aq (l0:=k0) (x:=a0))) fun l0_=>w20 (by omega) l0_ a0) fun y1 hy1=>q_p fr<|q_i ?_ ?_
  ·exact q_p (fun _=>CQ rfl)<|A6 0 rfl rfl rfl (by decide) rfl<|Bn (fun S hS=>hS.lda 0 rfl rfl) (Bh (α:=Ac) (β:=Int×Ab) (f:=fun x=>(x.Code,x.Cluster)) (x:=(⟨y1,(⟨0,[],[],[],[]⟩:Ab)⟩:Ac)) rfl (Ap (AO (n:=y1)) (Bh (α:=Ab) (β:=Int×(List Int)×(List Af)×(List Ai)×(List Ag)) (f:=fun x=>(x.F,x.Bad,x.Replicas,x.Ledger,x.Requests)) (x:=(⟨0,[],[],[],[]⟩:Ab)) rfl (Ap (AO (n:=0)) (Ap (AA (α:=Int) (fl:=true)) (Ap (AA (α:=Af) (fl:=true)) (Ap (AA (α:=Ai) (fl:=true)) (AA (α:=Ag) (fl:=true))))))))) rfl
  ·refine A9 1 rfl rfl rfl<|HQ (mg:=m59 a0) (aF1 (A8 (Aq (l0:=k0) (x:=a0))) fun l0_=>w59 (by omega) l0_ a0) fun y2 hy2 i1 cs1 hq_=>Ez (fun S hS=>Eu (hS.get (k:=0) rfl)) fun hcs_=>?_
   obtain ⟨v1,v2,v3,v4,rfl⟩:=hcs_
   refine HM (x:=(y2.F,y2.Bad,y2.Replicas,y2.Ledger,y2.Requests)) hq_ rfl (fun _ h=>h) fun i2 i3 i4 i5=>AE rfl fun b3=>A6 0 rfl rfl rfl (by decide) rfl<|D5 (mg:=m32 y2 a1_0) (fun S=>Ql _ _ _ _) (w32 (by omega) _ b3 i2 i3 i4 i5 v1 v2 v3 v4 y2 k1_0 a1_0) fun y3 hy3 ⟨i6,i7,v5,v6⟩=>q_p fr<|q_i ?_ ?_
   ·exact q_p (fun _=>CQ rfl)<|A6 5 rfl rfl rfl (by decide) rfl<|Bn (fun S hS=>hS.lda 5 rfl rfl) (Bh (α:=Ac) (β:=Int×Ab) (f:=fun x=>(x.Code,x.Cluster)) (x:=(⟨y3.1,(⟨0,[],[],[],[]⟩:Ab)⟩:Ac)) rfl (Ap (AO (n:=y3.1)) (Bh (α:=Ab) (β:=Int×(List Int)×(List Af)×(List Ai)×(List Ag)) (f:=fun x=>(x.F,x.Bad,x.Replicas,x.Ledger,x.Requests)) (x:=(⟨0,[],[],[],[]⟩:Ab)) rfl (Ap (AO (n:=0)) (Ap (AA (α:=Int) (fl:=true)) (Ap (AA (α:=Af) (fl:=true)) (Ap (AA (α:=Ai) (fl:=true)) (AA (α:=Ag) (fl:=true))))))))) rfl
   ·refine A9 0 rfl rfl rfl<|FU (W:=AV.agg) (mg:=m59 y3.2) CY (aF1 (A8 (Aa (Ad rfl) (Aa (Cb 1 rfl) (Aa (Cb 2 rfl) (Aa (CN (α:=Ai) 3 rfl) (Aa (DZ (α:=Ag) 4 rfl) Ah)))))) fun l0_=>MQ (by omega) l0_ y3.2) fun y4 hy4 i8 cs2=>Ez (fun S hS=>Eu (hS.get (k:=0) rfl)) fun hcs_=>?_
    obtain ⟨v7,v8,v9,v10,rfl⟩:=hcs_
    exact q_p (fun _=>FB rfl)<|A6 6 rfl rfl rfl (by decide) rfl<|Bn (fun S hS=>hS.lda 6 rfl rfl) (Bh (α:=Ac) (β:=Int×Ab) (f:=fun x=>(x.Code,x.Cluster)) (x:=(⟨0,y4⟩:Ac)) rfl (Ap (AO (n:=0)) (Dp 0 rfl))) rfl
theorem XI {d:Nat} (hd:144≤d) (k0:Bool) (a0:Ab) (k1_0:Bool) (a1_0:Ag):Fit (R NN d 31 [.agg (Enc.cs k0 a0),.fn 32 [.rp k1_0 (Enc.cs k1_0 a1_0)]] []) (Ks a0 a1_0) (P0 (fun (t:Ac)=>AV.agg (Enc.cs false t))):=EV (aP hd k0 a0 k1_0 a1_0)
def m11 (a0:Ab) (a1:Ag):Option (Ac):=(Ks a0 a1).bind fun y1=>some y1
theorem w11 {d:Nat} (hd:155≤d) (k0:Bool) (a0:Ab) (k1:Bool) (a1:Ag):Fit (R NN d 11 [.agg (Enc.cs k0 a0),.agg (Enc.cs k1 a1)] []) (m11 a0 a1) (P0 (fun (t:Ac)=>AV.agg (Enc.cs false t))):=by
  obtain ⟨d,rfl,g⟩:=up hd
  refine AD (t11 NN d _ _) ?_
  unfold b11 m11
  exact AG (n:=5) rfl rfl (by decide) fun b1=>AG (n:=4) rfl rfl (by decide) fun b2=>AE rfl fun b3=>A9 2 rfl rfl rfl<|A7 (aF2 (A8 (Aq (l0:=k0) (x:=a0))) (BC (Aa (B9 1 rfl (Aq (l0:=k1) (x:=a1))) Ah)) fun l0_ l1_=>XI (by omega) l0_ a0 l1_ a1) fun y1 hy1=>A6 0 rfl rfl rfl (by decide) rfl<|AI (fun S hS=>hS.lda 0 rfl rfl) (A8 (Aq (l0:=false) (x:=y1))) rfl
def VM (a0:List Af) (a1:Af→Option (Bool)) (s1:Int×Int):Option (LO (Int×Int)):=bif decide (s1.2 < (a0.length:Int)) then (Av a0 s1.2).bind fun x1=>(a1 x1).bind fun y1=>bif y1 then some (LO.ret (s1.2,s1.2)) else some (LO.norm (s1.1,wi .i64 (s1.2 + 1))) else some (LO.exit 0 (s1.1,s1.2))
def m54 (a0:List Af) (a1:Af→Option (Bool)):Option (Int):=(AB (VM a0 a1) NN (0,0)).bind (Ak (fun _=>none) (fun i1 s2=>if i1 = 0 then some (-1) else none) (fun s2=>some s2.1))
theorem w54 {Dc:Nat} {d:Nat} (hd:Dc + 1≤d) (k0:Bool) (a0:List Af) (c1:Bool→AV) (hc1:∀ l,CV 8 [] false (c1 l) c1) (a1:Af→Option (Bool)) (tc1:∀ (d:Nat),Dc≤d→∀ (l:Bool) (q0:Bool) (x0:Af) (S:St) (t:Bool),a1 x0 = some t→AH (cfg NN) (R NN d) 54 (c1 l) [.agg (Enc.cs q0 x0)] S = some ((fun (t:Bool)=>AV.bool t) t,S)) (k1:Bool):Fit (R NN d 54 [.rsl k0 false (a0.map (Enc.cs k0)),c1 k1] []) (m54 a0 a1) PI:=by
  obtain ⟨d,rfl,g⟩:=up hd
  refine AD (t54 NN d _ _) ?_
  unfold b54 m54
  refine AL<|CU (A:=fun (s:Int×Int)=>[iW s.1,iW s.2]) (B:=fun s=>[]) 0 rr ?_ ?_ ?_
  ·intro s1
   unfold Z9 VM
   exact q_p fr<|q_i (Bf rfl fun x1 hx1=>q_p fr<|Jn (mg:=a1 x1) (E:=(fun (t:Bool)=>AV.bool t)) (fun S t ht=>tc1 d (by omega) k1 k0 x1 S t ht) fun y1 hy1=>q_i (Ar 0 rr)<|q_p fr<|Ae 0 rr)<|Ax 0 rr
  ·exact fun i1 s2=>q_n (Am (Ad rfl) rfl)<|A4
  ·exact fun s2=>Am (Ad rfl) rfl
def m55 (a0:Af) (a1:Int):Bool:=a0.Id == a1
theorem w55 {d:Nat} (hd:1≤d) (k0:Bool) (a0:Af) (k1:Bool) (a1:Int):Fit (R NN d 55 [.agg (Enc.cs k0 a0),.rp k1 (Enc.cs k1 a1)] []) (some (m55 a0 a1)) PB:=by
  obtain ⟨d,rfl,g⟩:=up hd
  refine AD (t55 NN d _ _) ?_
  unfold b55 m55
  exact AG (n:=4) rfl rfl (by decide) fun b1=>q_p fr<|Ao 0 rfl rfl<|q_p fr<|q_p fr<|Am (Ad rfl) rfl
def m23 (a0:Ab) (a1:Int):Option ((Option Af)):=(m54 a0.Replicas (fun x0_=>some (m55 x0_ a1))).bind fun y1=>bif decide (y1 < 0) then some none else (Av a0.Replicas y1).bind fun x1=>some (some x1)
theorem gB {d:Nat} (hd:3≤d) (L0:List En) (k0:Bool) (a0:Ab) (b0_:Nat) (a1:Int):Okh (bx b0_ [iW a0.F,.rsl k0 false (a0.Bad.map (Enc.cs k0)),.rsl k0 false (a0.Replicas.map (Enc.cs k0)),.rsl k0 false (a0.Ledger.map (Enc.cs k0)),.rsl k0 false (a0.Requests.map (Enc.cs k0))]::L0) (fun S=>R NN d 23 [.bp b0_ 0 0 5 1,iW a1] S) (m23 a0 a1) (P3 (fun (x:Bool) (t:(Option Af))=>(t.elim AV.nilp fun r=>AV.rp x (Enc.cs x r))) (fun (_:(Option Af))=>bx b0_ [iW a0.F,.rsl k0 false (a0.Bad.map (Enc.cs k0)),.rsl k0 false (a0.Replicas.map (Enc.cs k0)),.rsl k0 false (a0.Ledger.map (Enc.cs k0)),.rsl k0 false (a0.Requests.map (Enc.cs k0))]::L0)):=by
  obtain ⟨d,rfl,g⟩:=up hd
  refine Do (t23 NN d _ _) ?_
  unfold b23 m23
  exact AG (n:=1) rfl rfl (by decide) fun b1=>q_q fr<|q_p fr<|Ao 1 rfl rfl<|A7 (aF2 As (BC (Aa (B9 0 rfl (Aq (l0:=false) (x:=a1))) Ah)) fun l0_ l1_=>w54 (Dc:=1) (by omega) l0_ a0.Replicas (fun l=>.fn 55 [.rp l (Enc.cs l a1)]) (fun l=>BC (Aa (AZ (Aq (l0:=l) (x:=a1)) (fun _ _ _ h=>Enc.frz _ a1 _ _ _ h)) Ah)) (fun x0_=>some (m55 x0_ a1)) (fun d hd l q0_ x0_ S t ht=>(RQ _ _ _ _).trans (BR (E:=(fun (t:Bool)=>AV.bool t)) (mg:=some (m55 x0_ a1)) (Hg (M:=fun a=>Fit (R NN d 55 a []) _ _) (A8 (Aq (l0:=q0_) (x:=x0_))) (AZ (Aq (l0:=l) (x:=a1)) (fun _ _ _ h=>Enc.frz _ a1 _ _ _ h)) HP.nil fun u0_ v0_=>w55 hd u0_ x0_ v0_ a1) ht)) l1_) fun y1 hy1=>q_p fr<|q_i (Ne_ false 1 rfl rfl)<|q_q fr<|q_p fr<|Ao 1 rfl rfl<|Bf rfl fun x1 hx1=>Ne_ k0 1 rfl rfl
def Gg (a0:Ab) (a1:Int):Option (Option Int):=(m54 a0.Replicas (fun x0_=>some (m55 x0_ a1))).bind fun y1=>bif decide (y1 < 0) then some none else (Av a0.Replicas y1).bind fun x1=>some (some y1)
theorem Ph {d:Nat} (hd:3≤d) (L0:List En) (b0_:Nat) (i0_1 i0_2 i0_3 i0_4:List Nat) (v0_1 v0_2 v0_3 v0_4:AV) (a0:Ab) (a1:Int):Okh (bx b0_ [iW a0.F,v0_1,v0_2,v0_3,v0_4]::tr i0_1 [v0_1] (a0.Bad:List Int)::tr i0_2 [v0_2] (a0.Replicas:List Af)::wls i0_3 v0_3 (a0.Ledger:List Ai)::wla i0_4 v0_4 (a0.Requests:List Ag)::L0) (fun S=>R NN d 23 [.bp b0_ 0 0 5 1,iW a1] S) (Gg a0 a1) (P3 (fun (x:Bool) (t:Option Int)=>t.elim AV.nilp fun r=>elP 4 v0_2 (Int.toNat r)) (fun (_:Option Int)=>bx b0_ [iW a0.F,v0_1,v0_2,v0_3,v0_4]::tr i0_1 [v0_1] (a0.Bad:List Int)::tr i0_2 [v0_2] (a0.Replicas:List Af)::wls i0_3 v0_3 (a0.Ledger:List Ai)::wla i0_4 v0_4 (a0.Requests:List Ag)::L0)):=by
  obtain ⟨d,rfl,g⟩:=up hd
  refine Do (t23 NN d _ _) ?_
  unfold b23 Gg
  exact AG (n:=1) rfl rfl (by decide) fun b1=>q_q fr<|q_p fr<|Ao 1 rfl rfl<|A7 (aF2 (Cb 3 rfl) (BC (Aa (B9 0 rfl (Aq (l0:=false) (x:=a1))) Ah)) fun l0_ l1_=>w54 (Dc:=1) (by omega) l0_ a0.Replicas (fun l=>.fn 55 [.rp l (Enc.cs l a1)]) (fun l=>BC (Aa (AZ (Aq (l0:=l) (x:=a1)) (fun _ _ _ h=>Enc.frz _ a1 _ _ _ h)) Ah)) (fun x0_=>some (m55 x0_ a1)) (fun d hd l q0_ x0_ S t ht=>(RQ _ _ _ _).trans (BR (E:=(fun (t:Bool)=>AV.bool t)) (mg:=some (m55 x0_ a1)) (Hg (M:=fun a=>Fit (R NN d 55 a []) _ _) (A8 (Aq (l0:=q0_) (x:=x0_))) (AZ (Aq (l0:=l) (x:=a1)) (fun _ _ _ h=>Enc.frz _ a1 _ _ _ h)) HP.nil fun u0_ v0_=>w55 hd u0_ x0_ v0_ a1) ht)) l1_) fun y1 hy1=>q_p fr<|q_i (Ne_ false 1 rfl rfl)<|q_q fr<|q_p fr<|Ao 1 rfl rfl<|NY 3 rfl rfl fun x1 hx1=>Ne_ false 1 rfl rfl
def m52 (a0:Ab) (a1:Int):Bool:=decide (a1≤(a0.Requests.length:Int))
theorem w52 {d:Nat} (hd:1≤d) (k0:Bool) (a0:Ab) (a1:Int):Fit (R NN d 52 [.rp k0 (Enc.cs k0 a0),iW a1] []) (some (m52 a0 a1)) PB:=by
  obtain ⟨d,rfl,g⟩:=up hd
  refine AD (t52 NN d _ _) ?_
  unfold b52 m52
  exact q_q fr<|q_p fr<|q_p fr<|AL<|q_p fr<|Am (Ad rfl) rfl
def m96 (a0:Af):Bool:=bif a0.View == 0 then true else a0.Start != (-1)
theorem w96 {d:Nat} (hd:1≤d) (k0:Bool) (a0:Af):Fit (R NN d 96 [.rp k0 (Enc.cs k0 a0)] []) (some (m96 a0)) PB:=by
  obtain ⟨d,rfl,g⟩:=up hd
  refine AD (t96 NN d _) ?_
  unfold b96 m96
  exact q_q fr<|q_p fr<|q_p fr<|q_p fr<|Vv (fun h1=>Am (Ad rfl) rfl) fun h1=>q_q fr<|q_p fr<|q_p fr<|q_p fr<|Am (Ad rfl) rfl
def Tq (a0:List Ai) (a1:Ai→Option (Bool)):Option (Bool):=(Wq a0 a1).bind fun y1=>some (decide (y1 ≥ 0))
theorem gR {Dc:Nat} {d:Nat} (hd:Dc + 2≤d) (k0:Bool) (a0:List Ai) (c1:Bool→AV) (hc1:∀ l,CV 8 [] false (c1 l) c1) (a1:Ai→Option (Bool)) (tc1:∀ (d:Nat),Dc≤d→∀ (l:Bool) (q0:Bool) (x0:Ai) (S:St) (t:Bool),a1 x0 = some t→AH (cfg NN) (R NN d) 107 (c1 l) [.agg (Enc.cs q0 x0)] S = some ((fun (t:Bool)=>AV.bool t) t,S)) (k1:Bool):Fit (R NN d 132 [.rsl k0 false (a0.map (Enc.cs k0)),c1 k1] []) (Tq a0 a1) PB:=by
  obtain ⟨d,rfl,g⟩:=up hd
  refine AD (t132 NN d _ _) ?_
  unfold mK Tq
  exact A7 (aF2 As (CV.any (hc1 k1)) fun l0_ l1_=>iC (by omega) l0_ a0 c1 hc1 a1 tc1 l1_) fun y1 hy1=>q_p fr<|Am (Ad rfl) rfl
def Wl (a0:Ai) (a1:Int):Bool:=a0.Slot == a1
theorem w131 {d:Nat} (hd:1≤d) (k0:Bool) (a0:Ai) (k1:Bool) (a1:Int):Fit (R NN d 131 [.agg (Enc.cs k0 a0),.rp k1 (Enc.cs k1 a1)] []) (some (Wl a0 a1)) PB:=by
  obtain ⟨d,rfl,g⟩:=up hd
  refine AD (t131 NN d _ _) ?_
  unfold mL Wl
  exact AG (n:=7) rfl rfl (by decide) fun b1=>q_p fr<|Ao 0 rfl rfl<|q_p fr<|q_p fr<|Am (Ad rfl) rfl
def PY (a0:Ai) (a1:Af) (a2:Int) (a3_0:Int):Option (Bool):=( bif a0.From == a1.Id then bif a0.Kind == a2 then bif a0.View == a1.View then some (LO.norm (Wl a0 a3_0)) else some (LO.norm false) else some (LO.norm false) else some (LO.norm false)).bind (Ak (fun s2=>some s2) (fun i1 s2=>none) (fun s2=>some s2))
theorem w133 {d:Nat} (hd:2≤d) (k0:Bool) (a0:Ai) (k1:Bool) (a1:Af) (k2:Bool) (a2:Int) (k3:Bool) (k3_0:Bool) (a3_0:Int):Fit (R NN d 133 [.agg (Enc.cs k0 a0),.rp k1 [.rp k1 (Enc.cs k1 a1)],.rp k2 (Enc.cs k2 a2),.rp k3 [.fn 131 [.rp k3_0 (Enc.cs k3_0 a3_0)]]] []) (PY a0 a1 a2 a3_0) PB:=by
  obtain ⟨d,rfl,g⟩:=up hd
  refine AD (iS NN d _ _ _ _) ?_
  unfold fO PY
  refine AG (n:=7) rfl rfl (by decide) fun b1=>Bo (A:=fun (s:Bool)=>[.bool s]) (B:=fun s=>[bx b1 [iW a0.Kind,iW a0.View,iW a0.From,iW a0.Slot,iW a0.Value,.rsl k0 false (a0.Certs.map (Enc.cs k0)),.rsl k0 false (a0.Refs.map (Enc.cs k0))]]) ?_ ?_ ?_ ?_
  ·exact q_p fr<|Ao 0 rfl rfl<|q_p fr<|q_q fr<|q_p fr<|q_p fr<|q_p fr<|q_k (q_p fr<|Ao 0 rfl rfl<|q_p fr<|q_p fr<|q_k (q_p fr<|Ao 0 rfl rfl<|q_p fr<|q_q fr<|q_p fr<|q_p fr<|q_p fr<|q_k (q_p fr<|A9 0 rfl rfl rfl<|Vq (y:=Wl a0 a3_0) (E:=(fun (t:Bool)=>AV.bool t)) (fun S=>TU _ _ _ _) (aF2 (A8 (Aq (l0:=k0) (x:=a0))) (AZ (Aq (l0:=k3_0) (x:=a3_0)) (fun _ _ _ h=>Enc.frz k3_0 a3_0 _ _ _ h)) fun l0_ l1_=>w131 (by omega) l0_ a0 l1_ a3_0)<|Ae 0 rr)<|Ae 0 rr)<|Ae 0 rr)<|Ae 0 rr
  ·exact fun s2=>Am (Ad rfl) rfl
  ·exact fun i1 s2=>A4
  ·exact fun s2=>Am (Ad rfl) rfl
def Y4 (a0:Af) (a1:List Ai) (a2:Int) (a3_0:Int):Option (Bool):=(Tq a1 (fun x0_=>PY x0_ a0 a2 a3_0)).bind fun y1=>some y1
theorem w100 {d:Nat} (hd:5≤d) (k0:Bool) (a0:Af) (k1:Bool) (a1:List Ai) (a2:Int) (k3_0:Bool) (a3_0:Int):Fit (R NN d 100 [.rp k0 (Enc.cs k0 a0),.rsl k1 false (a1.map (Enc.cs k1)),iW a2,.fn 131 [.rp k3_0 (Enc.cs k3_0 a3_0)]] []) (Y4 a0 a1 a2 a3_0) PB:=by
  obtain ⟨d,rfl,g⟩:=up hd
  refine AD (iT NN d _ _ _ _) ?_
  unfold fQ Y4
  exact AG (n:=1) rfl rfl (by decide) fun b1=>AG (n:=1) rfl rfl (by decide) fun b2=>AG (n:=1) rfl rfl (by decide) fun b3=>A7 (aF2 As (BC (Aa (B9 2 rfl (Aa (AZ (Aq (l0:=k0) (x:=a0)) (fun _ _ _ h=>Enc.frz k0 a0 _ _ _ h)) Ah)) (Aa (B9 1 rfl (Aq (l0:=false) (x:=a2))) (Aa (B9 0 rfl (Aa (BC (Aa (AZ (Aq (l0:=k3_0) (x:=a3_0)) (fun _ _ _ h=>Enc.frz k3_0 a3_0 _ _ _ h)) Ah)) Ah)) Ah)))) fun l0_ l1_=>gR (Dc:=2) (by omega) l0_ a1 (fun l=>.fn 133 [.rp l [.rp l (Enc.cs l a0)],.rp l (Enc.cs l a2),.rp l [.fn 131 [.rp l (Enc.cs l a3_0)]]]) (fun l=>BC (Aa (G4 (l0:=l) (Aa (AZ (Aq (l0:=l) (x:=a0)) (fun _ _ _ h=>Enc.frz _ a0 _ _ _ h)) Ah) 1 (fun _ _ _ h=>N1 h)) (Aa (AZ (Aq (l0:=l) (x:=a2)) (fun _ _ _ h=>Enc.frz _ a2 _ _ _ h)) (Aa (G4 (l0:=l) (Aa (BC (Aa (AZ (Aq (l0:=l) (x:=a3_0)) (fun _ _ _ h=>Enc.frz _ a3_0 _ _ _ h)) Ah)) Ah) 3 (fun _ _ _ h=>N2 h (by simp))) Ah)))) (fun x0_=>PY x0_ a0 a2 a3_0) (fun d hd l q0_ x0_ S t ht=>(TV _ _ _ _).trans (BR (E:=(fun (t:Bool)=>AV.bool t)) (mg:=PY x0_ a0 a2 a3_0) (Xt (M:=fun a=>Fit (R NN d 133 a []) _ _) (A8 (Aq (l0:=q0_) (x:=x0_))) (G4 (l0:=l) (Aa (AZ (Aq (l0:=l) (x:=a0)) (fun _ _ _ h=>Enc.frz _ a0 _ _ _ h)) Ah) 1 (fun _ _ _ h=>N1 h)) (AZ (Aq (l0:=l) (x:=a2)) (fun _ _ _ h=>Enc.frz _ a2 _ _ _ h)) (G4 (l0:=l) (Aa (BC (Aa (AZ (Aq (l0:=l) (x:=a3_0)) (fun _ _ _ h=>Enc.frz _ a3_0 _ _ _ h)) Ah)) Ah) 3 (fun _ _ _ h=>N2 h (by simp))) HP.nil fun u0_ v0_ v1_ v2_=>w133 hd u0_ x0_ v0_ a0 v1_ a2 v2_ v2_ a3_0) ht)) l1_) fun y1 hy1=>Am (Ad rfl) rfl
def m98 (a0:Af) (a1:List Ai) (a2:Int) (a3:Int):Option (Bool):=(Y4 a0 a1 a2 a3).bind fun y1=>some y1
theorem w98 {d:Nat} (hd:7≤d) (k0:Bool) (a0:Af) (k1:Bool) (a1:List Ai) (a2:Int) (a3:Int):Fit (R NN d 98 [.rp k0 (Enc.cs k0 a0),.rsl k1 false (a1.map (Enc.cs k1)),iW a2,iW a3] []) (m98 a0 a1 a2 a3) PB:=by
  obtain ⟨d,rfl,g⟩:=up hd
  refine AD (t98 NN d _ _ _ _) ?_
  unfold b98 m98
  exact AG (n:=1) rfl rfl (by decide) fun b1=>A7 (fun S hS=>FM (AZ (Aq (l0:=k0) (x:=a0)) (fun _ _ _ h=>Enc.frz k0 a0 _ _ _ h)) As (Ad rfl) (BC (Aa (B9 0 rfl (Aq (l0:=false) (x:=a3))) Ah)) hS fun l0_ l1_ l2_ l3_=>w100 (by omega) l0_ a0 l1_ a1 a2 l3_ a3) fun y1 hy1=>Am (Ad rfl) rfl
def m99 (a0:List Ai) (a1:List Int):Option (List Int):=LX a1 (Gj (fun r=>(Av a0 r).map fun x=>x.Certs.map fun c=>(c.Slot,c.View,c.Value)) a1)
theorem w99 {d:Nat} (hd:1≤d) (k0:Bool) (a0:List Ai) (k1:Bool) (a1:List Int):Fit (R NN d 99 [.rsl k0 false (a0.map (Enc.cs k0)),.rsl k1 false (a1.map (Enc.cs k1))] []) (m99 a0 a1) (P0 (fun (t:List Int)=>AV.rsl false false (t.map (Enc.cs false)))):=by
  obtain ⟨d,rfl,g⟩:=up hd
  exact eQ (R:=R NN (d + 1)) (fun _ _ _=>t99 _ _ _ _ _) (Enc.cs k0) (fun x=>x.Certs.map fun c=>(c.Slot,c.View,c.Value)) (fun x=>⟨rfl,_,_,_,rfl,KW (f:=WR) (g:=(Enc.cs k0:AP→List AV)) (k:=fun c=>(c.Slot,c.View,c.Value)) (fun _=>rfl) x.Certs⟩) a0 a1 _ _ _ _
def Wv (a0:Ai) (a1:Int):Bool:=a0.Value == a1
theorem w101 {d:Nat} (hd:1≤d) (k0:Bool) (a0:Ai) (k1:Bool) (a1:Int):Fit (R NN d 101 [.agg (Enc.cs k0 a0),.rp k1 (Enc.cs k1 a1)] []) (some (Wv a0 a1)) PB:=by
  obtain ⟨d,rfl,g⟩:=up hd
  refine AD (t101 NN d _ _) ?_
  unfold nQ Wv
  exact AG (n:=7) rfl rfl (by decide) fun b1=>q_p fr<|Ao 0 rfl rfl<|q_p fr<|q_p fr<|Am (Ad rfl) rfl
def Hy (a0:Ai) (a1:Af) (a2:Int) (a3_0:Int):Option (Bool):=( bif a0.From == a1.Id then bif a0.Kind == a2 then bif a0.View == a1.View then some (LO.norm (Wv a0 a3_0)) else some (LO.norm false) else some (LO.norm false) else some (LO.norm false)).bind (Ak (fun s2=>some s2) (fun i1 s2=>none) (fun s2=>some s2))
theorem bU {d:Nat} (hd:2≤d) (k0:Bool) (a0:Ai) (k1:Bool) (a1:Af) (k2:Bool) (a2:Int) (k3:Bool) (k3_0:Bool) (a3_0:Int):Fit (R NN d 133 [.agg (Enc.cs k0 a0),.rp k1 [.rp k1 (Enc.cs k1 a1)],.rp k2 (Enc.cs k2 a2),.rp k3 [.fn 101 [.rp k3_0 (Enc.cs k3_0 a3_0)]]] []) (Hy a0 a1 a2 a3_0) PB:=by
  obtain ⟨d,rfl,g⟩:=up hd
  refine AD (iS NN d _ _ _ _) ?_
  unfold fO Hy
  refine AG (n:=7) rfl rfl (by decide) fun b1=>Bo (A:=fun (s:Bool)=>[.bool s]) (B:=fun s=>[bx b1 [iW a0.Kind,iW a0.View,iW a0.From,iW a0.Slot,iW a0.Value,.rsl k0 false (a0.Certs.map (Enc.cs k0)),.rsl k0 false (a0.Refs.map (Enc.cs k0))]]) ?_ ?_ ?_ ?_
  ·exact q_p fr<|Ao 0 rfl rfl<|q_p fr<|q_q fr<|q_p fr<|q_p fr<|q_p fr<|q_k (q_p fr<|Ao 0 rfl rfl<|q_p fr<|q_p fr<|q_k (q_p fr<|Ao 0 rfl rfl<|q_p fr<|q_q fr<|q_p fr<|q_p fr<|q_p fr<|q_k (q_p fr<|A9 0 rfl rfl rfl<|Vq (y:=Wv a0 a3_0) (E:=(fun (t:Bool)=>AV.bool t)) (fun S=>OI _ _ _ _) (aF2 (A8 (Aq (l0:=k0) (x:=a0))) (AZ (Aq (l0:=k3_0) (x:=a3_0)) (fun _ _ _ h=>Enc.frz k3_0 a3_0 _ _ _ h)) fun l0_ l1_=>w101 (by omega) l0_ a0 l1_ a3_0)<|Ae 0 rr)<|Ae 0 rr)<|Ae 0 rr)<|Ae 0 rr
  ·exact fun s2=>Am (Ad rfl) rfl
  ·exact fun i1 s2=>A4
  ·exact fun s2=>Am (Ad rfl) rfl
def KH (a0:Af) (a1:List Ai) (a2:Int) (a3_0:Int):Option (Bool):=(Tq a1 (fun x0_=>Hy x0_ a0 a2 a3_0)).bind fun y1=>some y1
theorem bV {d:Nat} (hd:5≤d) (k0:Bool) (a0:Af) (k1:Bool) (a1:List Ai) (a2:Int) (k3_0:Bool) (a3_0:Int):Fit (R NN d 100 [.rp k0 (Enc.cs k0 a0),.rsl k1 false (a1.map (Enc.cs k1)),iW a2,.fn 101 [.rp k3_0 (Enc.cs k3_0 a3_0)]] []) (KH a0 a1 a2 a3_0) PB:=by
  obtain ⟨d,rfl,g⟩:=up hd
  refine AD (iT NN d _ _ _ _) ?_
  unfold fQ KH
  exact AG (n:=1) rfl rfl (by decide) fun b1=>AG (n:=1) rfl rfl (by decide) fun b2=>AG (n:=1) rfl rfl (by decide) fun b3=>A7 (aF2 As (BC (Aa (B9 2 rfl (Aa (AZ (Aq (l0:=k0) (x:=a0)) (fun _ _ _ h=>Enc.frz k0 a0 _ _ _ h)) Ah)) (Aa (B9 1 rfl (Aq (l0:=false) (x:=a2))) (Aa (B9 0 rfl (Aa (BC (Aa (AZ (Aq (l0:=k3_0) (x:=a3_0)) (fun _ _ _ h=>Enc.frz k3_0 a3_0 _ _ _ h)) Ah)) Ah)) Ah)))) fun l0_ l1_=>gR (Dc:=2) (by omega) l0_ a1 (fun l=>.fn 133 [.rp l [.rp l (Enc.cs l a0)],.rp l (Enc.cs l a2),.rp l [.fn 101 [.rp l (Enc.cs l a3_0)]]]) (fun l=>BC (Aa (G4 (l0:=l) (Aa (AZ (Aq (l0:=l) (x:=a0)) (fun _ _ _ h=>Enc.frz _ a0 _ _ _ h)) Ah) 1 (fun _ _ _ h=>N1 h)) (Aa (AZ (Aq (l0:=l) (x:=a2)) (fun _ _ _ h=>Enc.frz _ a2 _ _ _ h)) (Aa (G4 (l0:=l) (Aa (BC (Aa (AZ (Aq (l0:=l) (x:=a3_0)) (fun _ _ _ h=>Enc.frz _ a3_0 _ _ _ h)) Ah)) Ah) 3 (fun _ _ _ h=>N2 h (by simp))) Ah)))) (fun x0_=>Hy x0_ a0 a2 a3_0) (fun d hd l q0_ x0_ S t ht=>(OH _ _ _ _).trans (BR (E:=(fun (t:Bool)=>AV.bool t)) (mg:=Hy x0_ a0 a2 a3_0) (Xt (M:=fun a=>Fit (R NN d 133 a []) _ _) (A8 (Aq (l0:=q0_) (x:=x0_))) (G4 (l0:=l) (Aa (AZ (Aq (l0:=l) (x:=a0)) (fun _ _ _ h=>Enc.frz _ a0 _ _ _ h)) Ah) 1 (fun _ _ _ h=>N1 h)) (AZ (Aq (l0:=l) (x:=a2)) (fun _ _ _ h=>Enc.frz _ a2 _ _ _ h)) (G4 (l0:=l) (Aa (BC (Aa (AZ (Aq (l0:=l) (x:=a3_0)) (fun _ _ _ h=>Enc.frz _ a3_0 _ _ _ h)) Ah)) Ah) 3 (fun _ _ _ h=>N2 h (by simp))) HP.nil fun u0_ v0_ v1_ v2_=>bU hd u0_ x0_ v0_ a0 v1_ a2 v2_ v2_ a3_0) ht)) l1_) fun y1 hy1=>Am (Ad rfl) rfl
end
end Go.Proofs.YthbiabieiopobaaGreatDoor
