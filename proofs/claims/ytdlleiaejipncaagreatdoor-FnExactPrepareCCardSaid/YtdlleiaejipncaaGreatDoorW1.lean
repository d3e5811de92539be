/- Plain functions, and that the evaluator computes them. -/
import Derived.Test.YtdlleiaejipncaaGreatDoorT
import Derived.Test.YtdlleiaejipncaaGreatDoorRh6
import Derived.Test.YtdlleiaejipncaaGreatDoorRh10
import Derived.Test.YtdlleiaejipncaaGreatDoorRh14
namespace Go.Proofs.YtdlleiaejipncaaGreatDoor
open Go Go.Rf
set_option linter.unusedVariables false
set_option linter.unusedSimpArgs false
noncomputable section
structure Ak where
  Id:Int
  View:Int
  Start:Int
  Done:Int
  deriving DecidableEq
instance:Enc Ak:=(Enc.of fun x:Ak=>(x.Id,x.View,x.Start,x.Done)).copy (fun l x=>[iW x.Id,iW x.View,iW x.Start,iW x.Done]) (fun _ _=>rfl) 4 0 rfl rfl
instance:Tr Ak:=Tr.of (fun x:Ak=>(x.Id,x.View,x.Start,x.Done)) (fun _ _=>rfl) rfl rfl
structure Ax where
  Slot:Int
  View:Int
  Value:Int
  deriving DecidableEq
instance:Enc Ax:=(Enc.of fun x:Ax=>(x.Slot,x.View,x.Value)).copy (fun l x=>[iW x.Slot,iW x.View,iW x.Value]) (fun _ _=>rfl) 3 0 rfl rfl
instance:Tr Ax:=Tr.of (fun x:Ax=>(x.Slot,x.View,x.Value)) (fun _ _=>rfl) rfl rfl
structure Ah where
  Kind:Int
  View:Int
  From:Int
  Slot:Int
  Value:Int
  Certs:List Ax
  Refs:List Int
  deriving DecidableEq
instance:Enc Ah:=(Enc.of fun x:Ah=>(x.Kind,x.View,x.From,x.Slot,x.Value,x.Certs,x.Refs)).copy (fun l x=>[iW x.Kind,iW x.View,iW x.From,iW x.Slot,iW x.Value,.rsl l false (x.Certs.map (Enc.cs l)),.rsl l false (x.Refs.map (Enc.cs l))]) (fun _ _=>rfl) 7 1 rfl rfl
instance:Tr Ah:=Tr.of (fun x:Ah=>(x.Kind,x.View,x.From,x.Slot,x.Value,x.Certs,x.Refs)) (fun _ _=>rfl) rfl rfl
structure TOp where
  Kind:Int
  Path:Str
  Data:Int
  Version:Int
  Seq:Bool
  Own:Bool
  deriving DecidableEq
instance:Enc TOp:=(Enc.of fun x:TOp=>(x.Kind,x.Path,x.Data,x.Version,x.Seq,x.Own)).copy (fun l x=>[iW x.Kind,Bo x.Path,iW x.Data,iW x.Version,.bool x.Seq,.bool x.Own]) (fun _ _=>rfl) 6 0 rfl rfl
instance:Tr TOp:=Tr.of (fun x:TOp=>(x.Kind,x.Path,x.Data,x.Version,x.Seq,x.Own)) (fun _ _=>rfl) rfl rfl
structure Af where
  Client:Int
  Number:Int
  Time:Int
  Ops:List TOp
  deriving DecidableEq
instance:Enc Af:=(Enc.of fun x:Af=>(x.Client,x.Number,x.Time,x.Ops)).copy (fun l x=>[iW x.Client,iW x.Number,iW x.Time,.rsl l false (x.Ops.map (Enc.cs l))]) (fun _ _=>rfl) 4 1 rfl rfl
instance:Tr Af:=Tr.of (fun x:Af=>(x.Client,x.Number,x.Time,x.Ops)) (fun _ _=>rfl) rfl rfl
structure Ae where
  F:Int
  Bad:List Int
  Replicas:List Ak
  Ledger:List Ah
  Requests:List Af
  deriving DecidableEq
instance:Enc Ae:=(Enc.of fun x:Ae=>(x.F,x.Bad,x.Replicas,x.Ledger,x.Requests)).copy (fun l x=>[iW x.F,.rsl l false (x.Bad.map (Enc.cs l)),.rsl l false (x.Replicas.map (Enc.cs l)),.rsl l false (x.Ledger.map (Enc.cs l)),.rsl l false (x.Requests.map (Enc.cs l))]) (fun _ _=>rfl) 5 2 rfl rfl
instance:Tr Ae:=Tr.of (fun x:Ae=>(x.F,x.Bad,x.Replicas,x.Ledger,x.Requests)) (fun _ _=>rfl) rfl rfl
structure Aq where
  Code:Int
  Cluster:Ae
  deriving DecidableEq
instance:Enc Aq:=(Enc.of fun x:Aq=>(x.Code,x.Cluster)).copy (fun l x=>[iW x.Code,iW x.Cluster.F,.rsl l false (x.Cluster.Bad.map (Enc.cs l)),.rsl l false (x.Cluster.Replicas.map (Enc.cs l)),.rsl l false (x.Cluster.Ledger.map (Enc.cs l)),.rsl l false (x.Cluster.Requests.map (Enc.cs l))]) (fun _ _=>rfl) 6 2 rfl rfl
instance:Tr Aq:=Tr.of (fun x:Aq=>(x.Code,x.Cluster)) (fun _ _=>rfl) rfl rfl
theorem LR (x y:Bool):IU Tryz.prog .neq 4 (.bool x) (.bool y) = some (.bool (x != y)):=WV (P:=Tryz.prog) (t:=4) (by kernel_rfl)
theorem Ns {x0 x1 x2 r:AV} (hr:(EX (plc [(0,1),(1,1),(2,1)]) [iW 0,iW 0,iW 0] [(0,x0),(1,x1),(2,x2)]).map AV.agg = some r):BV Tryz.prog 129 [(0,x0),(1,x1),(2,x2)] = some r:=Eq.trans (by kernel_rfl) hr
theorem HZ {x0 x1 x2 x3 r:AV} (hr:(EX (plc [(0,1),(1,1),(2,1),(3,1),(4,1)]) [iW 0,.rsl false true [],.rsl false true [],.rsl false true [],.rsl false true []] [(0,x0),(1,x1),(2,x2),(3,x3)]).map AV.agg = some r):BV Tryz.prog 33 [(0,x0),(1,x1),(2,x2),(3,x3)] = some r:=Eq.trans (by kernel_rfl) hr
theorem O2 {x0 r:AV} (hr:(EX (plc [(0,1),(1,5)]) [iW 0,iW 0,.rsl false true [],.rsl false true [],.rsl false true [],.rsl false true []] [(0,x0)]).map AV.agg = some r):BV Tryz.prog 35 [(0,x0)] = some r:=Eq.trans (by kernel_rfl) hr
theorem WW {x1 r:AV} (hr:(EX (plc [(0,1),(1,5)]) [iW 0,iW 0,.rsl false true [],.rsl false true [],.rsl false true [],.rsl false true []] [(1,x1)]).map AV.agg = some r):BV Tryz.prog 35 [(1,x1)] = some r:=Eq.trans (by kernel_rfl) hr
theorem bd57 { r:AV} (hr:(EX (plc [(0,1),(1,1),(2,1),(3,1),(4,1),(5,1),(6,1)]) [iW 0,iW 0,iW 0,iW 0,iW 0,.rsl false true [],.rsl false true []] []).map AV.agg = some r):BV Tryz.prog 57 [] = some r:=Eq.trans (by kernel_rfl) hr
theorem Ep {x0 x1 x2 x3 x4 r:AV} (hr:(EX (plc [(0,1),(1,1),(2,1),(3,1),(4,1),(5,1),(6,1)]) [iW 0,iW 0,iW 0,iW 0,iW 0,.rsl false true [],.rsl false true []] [(0,x0),(1,x1),(2,x2),(3,x3),(4,x4)]).map AV.agg = some r):BV Tryz.prog 57 [(0,x0),(1,x1),(2,x2),(3,x3),(4,x4)] = some r:=Eq.trans (by kernel_rfl) hr
theorem fU {n:Int} {S:St}:AH (Av Tryz.prog 160 1 [(0,.int .u8 n)] S) S = some (.rsl false true [[.int .u8 n]],S):=by kernel_rfl
theorem EF {x0:Int} {S:St}:AH (Av Tryz.prog 22 1 [(0,iW x0)] S) S = some (.rsl false true [[iW x0]],S):=by kernel_rfl
theorem OH {S:St}:AH (Av Tryz.prog 185 0 [] S) S = some (.rsl false true [],S):=by kernel_rfl
theorem OG {x0:Str} {S:St}:AH (Av Tryz.prog 185 1 [(0,Bo x0)] S) S = some (.rsl false true [[Bo x0]],S):=by kernel_rfl
theorem Dq {S:St}:AH (Av Tryz.prog 22 0 [] S) S = some (.rsl false true [],S):=by kernel_rfl
theorem NS {S:St}:AH (Av Tryz.prog 29 0 [] S) S = some (.rsl false true [],S):=by kernel_rfl
theorem NR {S:St}:AH (Av Tryz.prog 30 0 [] S) S = some (.rsl false true [],S):=by kernel_rfl
theorem NQ {S:St}:AH (Av Tryz.prog 55 0 [] S) S = some (.rsl false true [],S):=by kernel_rfl
theorem NP {S:St}:AH (Av Tryz.prog 93 0 [] S) S = some (.rsl false true [],S):=by kernel_rfl
theorem c7 {x0 r:AV} {S:St} (hr:(Er 7 0 [(0,x0)]).map (fun es=>mkS 7 es S) = some (r,S)):Av Tryz.prog 30 1 [(0,x0)] S = some (r,S):=Eq.trans (by kernel_rfl) hr
theorem cZ {a:AV} {S:St}:Av Tryz.prog 30 1 [(0,a)] S = (Er 7 0 [(0,a)]).map fun es=>mkS 7 es S:=by kernel_rfl
theorem kM {a:AV} {S:St}:Av Tryz.prog 31 1 [(0,a)] S = (Er 4 0 [(0,a)]).map fun es=>mkS 4 es S:=by kernel_rfl
theorem R7 (run:FuncId→List AV→St→Option (AV×St)) (cap args:List AV) (S:St):AQ (cfg NN) run 118 (.fn 119 cap) args S = B7 run 119 (args++cap) S:=by kernel_rfl
theorem AI (run:FuncId→List AV→St→Option (AV×St)) (cap args:List AV) (S:St):AQ (cfg NN) run 152 (.fn 185 cap) args S = B7 run 185 (args++cap) S:=by kernel_rfl
theorem R2 (run:FuncId→List AV→St→Option (AV×St)) (cap args:List AV) (S:St):AQ (cfg NN) run 155 (.fn 156 cap) args S = B7 run 156 (args++cap) S:=by kernel_rfl
theorem R1 (run:FuncId→List AV→St→Option (AV×St)) (cap args:List AV) (S:St):AQ (cfg NN) run 162 (.fn 125 cap) args S = B7 run 125 (args++cap) S:=by kernel_rfl
theorem Rz (run:FuncId→List AV→St→Option (AV×St)) (cap args:List AV) (S:St):AQ (cfg NN) run 178 (.fn 162 cap) args S = B7 run 162 (args++cap) S:=by kernel_rfl
theorem Ry (run:FuncId→List AV→St→Option (AV×St)) (cap args:List AV) (S:St):AQ (cfg NN) run 178 (.fn 179 cap) args S = B7 run 179 (args++cap) S:=by kernel_rfl
theorem Rx (run:FuncId→List AV→St→Option (AV×St)) (cap args:List AV) (S:St):AQ (cfg NN) run 189 (.fn 154 cap) args S = B7 run 154 (args++cap) S:=by kernel_rfl
theorem Rw (run:FuncId→List AV→St→Option (AV×St)) (cap args:List AV) (S:St):AQ (cfg NN) run 195 (.fn 174 cap) args S = B7 run 174 (args++cap) S:=by kernel_rfl
theorem Rv (run:FuncId→List AV→St→Option (AV×St)) (cap args:List AV) (S:St):AQ (cfg NN) run 195 (.fn 191 cap) args S = B7 run 191 (args++cap) S:=by kernel_rfl
theorem Ru (run:FuncId→List AV→St→Option (AV×St)) (cap args:List AV) (S:St):AQ (cfg NN) run 196 (.fn 176 cap) args S = B7 run 176 (args++cap) S:=by kernel_rfl
theorem Rt (run:FuncId→List AV→St→Option (AV×St)) (cap args:List AV) (S:St):AQ (cfg NN) run 196 (.fn 177 cap) args S = B7 run 177 (args++cap) S:=by kernel_rfl
theorem Yw (run:FuncId→List AV→St→Option (AV×St)) (cap args:List AV) (S:St):AQ (cfg NN) run 47 (.fn 48 cap) args S = Ba run 48 (args++cap) S:=by kernel_rfl
theorem Yv (run:FuncId→List AV→St→Option (AV×St)) (cap args:List AV) (S:St):AQ (cfg NN) run 49 (.fn 50 cap) args S = Ba run 50 (args++cap) S:=by kernel_rfl
theorem WF (n:Int) (S:St):Dl Tryz.prog 210 3 (.int .u64 n) S = some (iW (wi .i64 n)):=by kernel_rfl
theorem WE (n:Int) (S:St):Dl Tryz.prog 224 5 (.int .u64 n) S = some (.int .u8 (wi .u8 n)):=by kernel_rfl
theorem Nn (n:Int) (S:St):Dl Tryz.prog 3 210 (iW n) S = some (.int .u64 (wi .u64 n)):=by kernel_rfl
theorem WC (n:Int) (S:St):Dl Tryz.prog 3 228 (iW n) S = some (.int .u64 (wi .u64 n)):=by kernel_rfl
theorem cU (n:Int) (S:St):Dl Tryz.prog 3 5 (iW n) S = some (.int .u8 (wi .u8 n)):=by kernel_rfl
theorem cT (n:Int) (S:St):Dl Tryz.prog 5 3 (.int .u8 n) S = some (iW (wi .i64 n)):=by kernel_rfl
theorem WG (n:Int) (S:St):Dl Tryz.prog 160 9 (.rsl false true [[.int .u8 n]]) S = some (Bo [UInt8.ofNat n.toNat]):=by kernel_rfl
theorem W1:Fo (α:=Ae) (γ:=List Int) 1 (fun x=>x.Bad) (fun y x=>{ x with Bad:=y }):=fun S i c x h=>((BC (LG E8)):Fo (α:=Int×(List Int)×(List Ak)×(List Ah)×(List Af)) (γ:=List Int) 1 _ _) S i c (x.F,x.Bad,x.Replicas,x.Ledger,x.Requests) h
theorem Nb:Fo (α:=Ae) (γ:=List Ah) 3 (fun x=>x.Ledger) (fun y x=>{ x with Ledger:=y }):=fun S i c x h=>((BC (BC (BC (LG E8)))):Fo (α:=Int×(List Int)×(List Ak)×(List Ah)×(List Af)) (γ:=List Ah) 3 _ _) S i c (x.F,x.Bad,x.Replicas,x.Ledger,x.Requests) h
theorem Kr:Fo (α:=Ae) (γ:=List Ak) 2 (fun x=>x.Replicas) (fun y x=>{ x with Replicas:=y }):=fun S i c x h=>((BC (BC (LG E8))):Fo (α:=Int×(List Int)×(List Ak)×(List Ah)×(List Af)) (γ:=List Ak) 2 _ _) S i c (x.F,x.Bad,x.Replicas,x.Ledger,x.Requests) h
theorem Kq:Fo (α:=Ae) (γ:=List Af) 4 (fun x=>x.Requests) (fun y x=>{ x with Requests:=y }):=fun S i c x h=>((BC (BC (BC (BC E8)))):Fo (α:=Int×(List Int)×(List Ak)×(List Ah)×(List Af)) (γ:=List Af) 4 _ _) S i c (x.F,x.Bad,x.Replicas,x.Ledger,x.Requests) h
theorem LH:Fo (α:=Aq) (γ:=Ae) 1 (fun x=>x.Cluster) (fun y x=>{ x with Cluster:=y }):=fun S i c x h=>((BC E8):Fo (α:=Int×Ae) (γ:=Ae) 1 _ _) S i c (x.Code,x.Cluster) h
theorem Oq:Fo (α:=Ah) (γ:=List Ax) 5 (fun x=>x.Certs) (fun y x=>{ x with Certs:=y }):=fun S i c x h=>((BC (BC (BC (BC (BC (LG E8)))))):Fo (α:=Int×Int×Int×Int×Int×(List Ax)×(List Int)) (γ:=List Ax) 5 _ _) S i c (x.Kind,x.View,x.From,x.Slot,x.Value,x.Certs,x.Refs) h
theorem Rn:Fo (α:=Ah) (γ:=List Int) 6 (fun x=>x.Refs) (fun y x=>{ x with Refs:=y }):=fun S i c x h=>((BC (BC (BC (BC (BC (BC E8)))))):Fo (α:=Int×Int×Int×Int×Int×(List Ax)×(List Int)) (γ:=List Int) 6 _ _) S i c (x.Kind,x.View,x.From,x.Slot,x.Value,x.Certs,x.Refs) h
theorem W0:Fo (α:=Af) (γ:=List TOp) 3 (fun x=>x.Ops) (fun y x=>{ x with Ops:=y }):=fun S i c x h=>((BC (BC (BC E8))):Fo (α:=Int×Int×Int×(List TOp)) (γ:=List TOp) 3 _ _) S i c (x.Client,x.Number,x.Time,x.Ops) h
theorem gY {x:Ah} {cs:List AV} (h:cs.length = 7) (h2:∀ (o:Nat) (z:Int),(Enc.cs false x)[o]? = some (AV.int .i64 z)→cs[o]? = some (AV.int .i64 z)):∃ v0 v1:AV,cs = [iW x.Kind,iW x.View,iW x.From,iW x.Slot,iW x.Value,v0,v1]:=by
  match cs,h with
  | [c0,c1,c2,c3,c4,c5,c6],_=>
    have e0:=h2 0 _ rfl
    simp only [List.getElem?_cons_zero,List.getElem?_cons_succ,Option.some.injEq] at e0
    subst e0
    have e1:=h2 1 _ rfl
    simp only [List.getElem?_cons_zero,List.getElem?_cons_succ,Option.some.injEq] at e1
    subst e1
    have e2:=h2 2 _ rfl
    simp only [List.getElem?_cons_zero,List.getElem?_cons_succ,Option.some.injEq] at e2
    subst e2
    have e3:=h2 3 _ rfl
    simp only [List.getElem?_cons_zero,List.getElem?_cons_succ,Option.some.injEq] at e3
    subst e3
    have e4:=h2 4 _ rfl
    simp only [List.getElem?_cons_zero,List.getElem?_cons_succ,Option.some.injEq] at e4
    subst e4
    exact ⟨_,_,rfl⟩
theorem gW (S:St) (n:Nat) (h:(n + 1) * (16 + 1)≤70368744177664):Cq Tryz.prog 185 (iW n) (iW n) S = some (.bsl S.length 0 n n true,S++[⟨1,List.replicate n [.str ⟨#[]⟩],true⟩]):=
  Es (e:=9) (sz:=1) (by_:=16) (z:=[.str ⟨#[]⟩]) (z0:=[.str ⟨#[]⟩]) (by kernel_rfl) (by kernel_rfl) (by kernel_rfl) rfl rfl (by omega) rfl rfl h
theorem mk22 (S:St) (n:Nat) (h:(n + 1) * (8 + 1)≤70368744177664):Cq Tryz.prog 22 (iW n) (iW n) S = some (.bsl S.length 0 n n true,S++[⟨1,List.replicate n [iW 0],true⟩]):=
  Es (e:=2) (sz:=1) (by_:=8) (z:=[iW 0]) (z0:=[iW 0]) (by kernel_rfl) (by kernel_rfl) (by kernel_rfl) rfl rfl (by omega) rfl rfl h
theorem mk29 (S:St) (n:Nat) (h:(n + 1) * (32 + 1)≤70368744177664):Cq Tryz.prog 29 (iW n) (iW n) S = some (.bsl S.length 0 n n true,S++[⟨4,List.replicate n [iW 0,iW 0,iW 0,iW 0],true⟩]):=
  Es (e:=53) (sz:=4) (by_:=32) (z:=[iW 0,iW 0,iW 0,iW 0]) (z0:=[iW 0,iW 0,iW 0,iW 0]) (by kernel_rfl) (by kernel_rfl) (by kernel_rfl) rfl rfl (by omega) rfl rfl h
theorem mk30 (S:St) (n:Nat) (h:(n + 1) * (88 + 1)≤70368744177664):Cq Tryz.prog 30 (iW n) (iW n) S = some (.bsl S.length 0 n n true,S++[⟨7,List.replicate n [iW 0,iW 0,iW 0,iW 0,iW 0,.rsl false false [],.rsl false false []],false⟩]):=
  Es (e:=57) (sz:=7) (by_:=88) (z:=[iW 0,iW 0,iW 0,iW 0,iW 0,.rsl false false [],.rsl false false []]) (z0:=[iW 0,iW 0,iW 0,iW 0,iW 0,.rsl false true [],.rsl false true []]) (by kernel_rfl) (by kernel_rfl) (by kernel_rfl) rfl rfl (by omega) rfl rfl h
theorem mk31 (S:St) (n:Nat) (h:(n + 1) * (48 + 1)≤70368744177664):Cq Tryz.prog 31 (iW n) (iW n) S = some (.bsl S.length 0 n n true,S++[⟨4,List.replicate n [iW 0,iW 0,iW 0,.rsl false false []],false⟩]):=
  Es (e:=95) (sz:=4) (by_:=48) (z:=[iW 0,iW 0,iW 0,.rsl false false []]) (z0:=[iW 0,iW 0,iW 0,.rsl false true []]) (by kernel_rfl) (by kernel_rfl) (by kernel_rfl) rfl rfl (by omega) rfl rfl h
theorem mk55 (S:St) (n:Nat) (h:(n + 1) * (24 + 1)≤70368744177664):Cq Tryz.prog 55 (iW n) (iW n) S = some (.bsl S.length 0 n n true,S++[⟨3,List.replicate n [iW 0,iW 0,iW 0],true⟩]):=
  Es (e:=129) (sz:=3) (by_:=24) (z:=[iW 0,iW 0,iW 0]) (z0:=[iW 0,iW 0,iW 0]) (by kernel_rfl) (by kernel_rfl) (by kernel_rfl) rfl rfl (by omega) rfl rfl h
theorem mk93 (S:St) (n:Nat) (h:(n + 1) * (48 + 1)≤70368744177664):Cq Tryz.prog 93 (iW n) (iW n) S = some (.bsl S.length 0 n n true,S++[⟨6,List.replicate n [iW 0,.str ⟨#[]⟩,iW 0,iW 0,.bool false,.bool false],true⟩]):=
  Es (e:=131) (sz:=6) (by_:=48) (z:=[iW 0,.str ⟨#[]⟩,iW 0,iW 0,.bool false,.bool false]) (z0:=[iW 0,.str ⟨#[]⟩,iW 0,iW 0,.bool false,.bool false]) (by kernel_rfl) (by kernel_rfl) (by kernel_rfl) rfl rfl (by omega) rfl rfl h
theorem XL (b i o n L:Nat):Do Tryz.prog .eql 51 (.bp b i o n L) .nilp = some (.bool false):=by kernel_rfl
theorem XK:Do Tryz.prog .eql 51 (.nilp) .nilp = some (.bool true):=by kernel_rfl
theorem U5 {S:St} {l:Bool} (x:Ax):Tr.ow S [] (Enc.cs l x) x:=(DC Cl (DC Cl Cl) _:Tr.ow (α:=Int×Int×Int) S [] (Enc.cs l _) (x.Slot,x.View,x.Value))
theorem NU {l:Bool} (S:St) (x:Ax):Tr.ow S [] (Enc.cs l x) x:=U5 x
theorem bL {S:St} {l:Bool} (x:TOp):Tr.ow S [] (Enc.cs l x) x:=(DC Cl (DC Qw (DC Cl (DC Cl (DC OL OL)))) _:Tr.ow (α:=Int×Str×Int×Int×Bool×Bool) S [] (Enc.cs l _) (x.Kind,x.Path,x.Data,x.Version,x.Seq,x.Own))
theorem NT {l:Bool} (S:St) (x:TOp):Tr.ow S [] (Enc.cs l x) x:=bL x
theorem XH {l:Bool} (S:St) (x:Int):Tr.ow S [] (Enc.cs l x) x:=Cl x
theorem My {S:St} {l:Bool} (x:Ak):Tr.ow S [] (Enc.cs l x) x:=(DC Cl (DC Cl (DC Cl Cl)) _:Tr.ow (α:=Int×Int×Int×Int) S [] (Enc.cs l _) (x.Id,x.View,x.Start,x.Done))
theorem U4 {l:Bool} (S:St) (x:Ak):Tr.ow S [] (Enc.cs l x) x:=My x
theorem XB:Rd (α:=Ak) 0 (fun x=>AV.int .i64 x.Id):=(Z7 (α:=Ak) (β:=Int×Int×Int×Int) (f:=fun x=>(x.Id,x.View,x.Start,x.Done)) (Uj Ui) rfl)
theorem Qr:Rd (α:=Ak) 1 (fun x=>AV.int .i64 x.View):=(Z7 (α:=Ak) (β:=Int×Int×Int×Int) (f:=fun x=>(x.Id,x.View,x.Start,x.Done)) (aZ (Uj Ui)) rfl)
theorem Mg (x0:Int) (x1:Int) (x2:Int) (y0:Int) (y1:Int) (y2:Int):IU Tryz.prog .neq 129 (.agg [iW x0,iW x1,iW x2]) (.agg [iW y0,iW y1,iW y2]) = some (.bool (!((x0 == y0) && ((x1 == y1) && ((x2 == y2) && true))))):=by kernel_rfl
theorem Ku {S:St} {ids:List Nat} {cs:List AV} {x:Ae} (h:Tr.ow S ids cs x):∃ v0 v1 v2 v3:AV,cs = [iW x.F,v0,v1,v2,v3]:=by
  obtain ⟨_,_,_,_,rfl,_,rfl,⟨rfl,rfl⟩,⟨_,_,_,_,rfl,_,rfl,⟨v0,rfl,_⟩,⟨_,_,_,_,rfl,_,rfl,⟨v1,rfl,_⟩,⟨_,_,_,_,rfl,_,rfl,⟨v2,rfl,_⟩,⟨v3,rfl,_⟩⟩⟩⟩⟩:=h
  exact ⟨_,_,_,_,rfl⟩
theorem O9 {S:St} {ids:List Nat} {cs:List AV} {x:Aq} (h:Tr.ow S ids cs x):∃ v0 v1 v2 v3:AV,cs = [iW x.Code,iW x.Cluster.F,v0,v1,v2,v3]:=by
  obtain ⟨_,_,_,_,rfl,_,rfl,⟨rfl,rfl⟩,⟨_,_,_,_,rfl,_,rfl,⟨rfl,rfl⟩,⟨_,_,_,_,rfl,_,rfl,⟨v0,rfl,_⟩,⟨_,_,_,_,rfl,_,rfl,⟨v1,rfl,_⟩,⟨_,_,_,_,rfl,_,rfl,⟨v2,rfl,_⟩,⟨v3,rfl,_⟩⟩⟩⟩⟩⟩:=h
  exact ⟨_,_,_,_,rfl⟩
theorem O8 {S:St} {ids:List Nat} {cs:List AV} {x:Ah} (h:Tr.ow S ids cs x):∃ v0 v1:AV,cs = [iW x.Kind,iW x.View,iW x.From,iW x.Slot,iW x.Value,v0,v1]:=by
  obtain ⟨_,_,_,_,rfl,_,rfl,⟨rfl,rfl⟩,⟨_,_,_,_,rfl,_,rfl,⟨rfl,rfl⟩,⟨_,_,_,_,rfl,_,rfl,⟨rfl,rfl⟩,⟨_,_,_,_,rfl,_,rfl,⟨rfl,rfl⟩,⟨_,_,_,_,rfl,_,rfl,⟨rfl,rfl⟩,⟨_,_,_,_,rfl,_,rfl,⟨v0,rfl,_⟩,⟨v1,rfl,_⟩⟩⟩⟩⟩⟩⟩:=h
  exact ⟨_,_,rfl⟩
theorem Sc {S:St} {ids:List Nat} {cs:List AV} {x:Af} (h:Tr.ow S ids cs x):∃ v0:AV,cs = [iW x.Client,iW x.Number,iW x.Time,v0]:=by
  obtain ⟨_,_,_,_,rfl,_,rfl,⟨rfl,rfl⟩,⟨_,_,_,_,rfl,_,rfl,⟨rfl,rfl⟩,⟨_,_,_,_,rfl,_,rfl,⟨rfl,rfl⟩,⟨v0,rfl,_⟩⟩⟩⟩:=h
  exact ⟨_,rfl⟩
theorem fH:Tryz.prog.underlying 22 = some (.slice 2):=by kernel_rfl
theorem fG:Tryz.prog.underlying 29 = some (.slice 53):=by kernel_rfl
theorem fF:Tryz.prog.underlying 30 = some (.slice 57):=by kernel_rfl
theorem fE:Tryz.prog.underlying 55 = some (.slice 129):=by kernel_rfl
theorem fD:Tryz.prog.underlying 93 = some (.slice 131):=by kernel_rfl
theorem NC (n:Int):Up (α:=Ax) 0 (iW n) (fun x=>{ x with Slot:=n }):=(CS (α:=Ax) (β:=Int×Int×Int) (f:=fun x=>(x.Slot,x.View,x.Value)) (v:=fun x=>{ x with Slot:=n }) (Cr (Cj (n:=n))) rfl (fun _=>rfl))
theorem Me (n:Int):Up (α:=Ax) 2 (iW n) (fun x=>{ x with Value:=n }):=(CS (α:=Ax) (β:=Int×Int×Int) (f:=fun x=>(x.Slot,x.View,x.Value)) (v:=fun x=>{ x with Value:=n }) (Bh (Bh (Cj (n:=n)))) rfl (fun _=>rfl))
theorem NB (n:Int):Up (α:=Ax) 1 (iW n) (fun x=>{ x with View:=n }):=(CS (α:=Ax) (β:=Int×Int×Int) (f:=fun x=>(x.Slot,x.View,x.Value)) (v:=fun x=>{ x with View:=n }) (Bh (Cr (Cj (n:=n)))) rfl (fun _=>rfl))
theorem NA (n:Int):Up (α:=TOp) 2 (iW n) (fun x=>{ x with Data:=n }):=(CS (α:=TOp) (β:=Int×Str×Int×Int×Bool×Bool) (f:=fun x=>(x.Kind,x.Path,x.Data,x.Version,x.Seq,x.Own)) (v:=fun x=>{ x with Data:=n }) (Bh (Bh (Cr (Cj (n:=n))))) rfl (fun _=>rfl))
theorem N9 (n:Int):Up (α:=TOp) 0 (iW n) (fun x=>{ x with Kind:=n }):=(CS (α:=TOp) (β:=Int×Str×Int×Int×Bool×Bool) (f:=fun x=>(x.Kind,x.Path,x.Data,x.Version,x.Seq,x.Own)) (v:=fun x=>{ x with Kind:=n }) (Cr (Cj (n:=n))) rfl (fun _=>rfl))
theorem PX (n:Bool):Up (α:=TOp) 5 (.bool n) (fun x=>{ x with Own:=n }):=(CS (α:=TOp) (β:=Int×Str×Int×Int×Bool×Bool) (f:=fun x=>(x.Kind,x.Path,x.Data,x.Version,x.Seq,x.Own)) (v:=fun x=>{ x with Own:=n }) (Bh (Bh (Bh (Bh (Bh (O7 (n:=n))))))) rfl (fun _=>rfl))
theorem N8 (n:Str):Up (α:=TOp) 1 (Bo n) (fun x=>{ x with Path:=n }):=(CS (α:=TOp) (β:=Int×Str×Int×Int×Bool×Bool) (f:=fun x=>(x.Kind,x.Path,x.Data,x.Version,x.Seq,x.Own)) (v:=fun x=>{ x with Path:=n }) (Bh (Cr (aP (s:=n)))) rfl (fun _=>rfl))
theorem PW (n:Bool):Up (α:=TOp) 4 (.bool n) (fun x=>{ x with Seq:=n }):=(CS (α:=TOp) (β:=Int×Str×Int×Int×Bool×Bool) (f:=fun x=>(x.Kind,x.Path,x.Data,x.Version,x.Seq,x.Own)) (v:=fun x=>{ x with Seq:=n }) (Bh (Bh (Bh (Bh (Cr (O7 (n:=n))))))) rfl (fun _=>rfl))
theorem Kk (n:Int):Up (α:=TOp) 3 (iW n) (fun x=>{ x with Version:=n }):=(CS (α:=TOp) (β:=Int×Str×Int×Int×Bool×Bool) (f:=fun x=>(x.Kind,x.Path,x.Data,x.Version,x.Seq,x.Own)) (v:=fun x=>{ x with Version:=n }) (Bh (Bh (Bh (Cr (Cj (n:=n)))))) rfl (fun _=>rfl))
theorem PV (n:Int):Up (α:=Ak) 3 (iW n) (fun x=>{ x with Done:=n }):=(CS (α:=Ak) (β:=Int×Int×Int×Int) (f:=fun x=>(x.Id,x.View,x.Start,x.Done)) (v:=fun x=>{ x with Done:=n }) (Bh (Bh (Bh (Cj (n:=n))))) rfl (fun _=>rfl))
theorem Xz (n:Int):Up (α:=Ak) 0 (iW n) (fun x=>{ x with Id:=n }):=(CS (α:=Ak) (β:=Int×Int×Int×Int) (f:=fun x=>(x.Id,x.View,x.Start,x.Done)) (v:=fun x=>{ x with Id:=n }) (Cr (Cj (n:=n))) rfl (fun _=>rfl))
theorem N7 (n:Int):Up (α:=Ak) 2 (iW n) (fun x=>{ x with Start:=n }):=(CS (α:=Ak) (β:=Int×Int×Int×Int) (f:=fun x=>(x.Id,x.View,x.Start,x.Done)) (v:=fun x=>{ x with Start:=n }) (Bh (Bh (Cr (Cj (n:=n))))) rfl (fun _=>rfl))
theorem PU (n:Int):Up (α:=Ak) 1 (iW n) (fun x=>{ x with View:=n }):=(CS (α:=Ak) (β:=Int×Int×Int×Int) (f:=fun x=>(x.Id,x.View,x.Start,x.Done)) (v:=fun x=>{ x with View:=n }) (Bh (Cr (Cj (n:=n)))) rfl (fun _=>rfl))
theorem PT (n:Int):Up (α:=Ah) 2 (iW n) (fun x=>{ x with From:=n }):=(CS (α:=Ah) (β:=Int×Int×Int×Int×Int×(List Ax)×(List Int)) (f:=fun x=>(x.Kind,x.View,x.From,x.Slot,x.Value,x.Certs,x.Refs)) (v:=fun x=>{ x with From:=n }) (Bh (Bh (Cr (Cj (n:=n))))) rfl (fun _=>rfl))
theorem PR (n:Int):Up (α:=Ah) 0 (iW n) (fun x=>{ x with Kind:=n }):=(CS (α:=Ah) (β:=Int×Int×Int×Int×Int×(List Ax)×(List Int)) (f:=fun x=>(x.Kind,x.View,x.From,x.Slot,x.Value,x.Certs,x.Refs)) (v:=fun x=>{ x with Kind:=n }) (Cr (Cj (n:=n))) rfl (fun _=>rfl))
theorem PQ (n:Int):Up (α:=Ah) 3 (iW n) (fun x=>{ x with Slot:=n }):=(CS (α:=Ah) (β:=Int×Int×Int×Int×Int×(List Ax)×(List Int)) (f:=fun x=>(x.Kind,x.View,x.From,x.Slot,x.Value,x.Certs,x.Refs)) (v:=fun x=>{ x with Slot:=n }) (Bh (Bh (Bh (Cr (Cj (n:=n)))))) rfl (fun _=>rfl))
theorem N6 (n:Int):Up (α:=Ah) 4 (iW n) (fun x=>{ x with Value:=n }):=(CS (α:=Ah) (β:=Int×Int×Int×Int×Int×(List Ax)×(List Int)) (f:=fun x=>(x.Kind,x.View,x.From,x.Slot,x.Value,x.Certs,x.Refs)) (v:=fun x=>{ x with Value:=n }) (Bh (Bh (Bh (Bh (Cr (Cj (n:=n))))))) rfl (fun _=>rfl))
theorem PO (n:Int):Up (α:=Ah) 1 (iW n) (fun x=>{ x with View:=n }):=(CS (α:=Ah) (β:=Int×Int×Int×Int×Int×(List Ax)×(List Int)) (f:=fun x=>(x.Kind,x.View,x.From,x.Slot,x.Value,x.Certs,x.Refs)) (v:=fun x=>{ x with View:=n }) (Bh (Cr (Cj (n:=n)))) rfl (fun _=>rfl))
theorem Md (n:Int):Up (α:=Af) 0 (iW n) (fun x=>{ x with Client:=n }):=(CS (α:=Af) (β:=Int×Int×Int×(List TOp)) (f:=fun x=>(x.Client,x.Number,x.Time,x.Ops)) (v:=fun x=>{ x with Client:=n }) (Cr (Cj (n:=n))) rfl (fun _=>rfl))
theorem Mc (n:Int):Up (α:=Af) 1 (iW n) (fun x=>{ x with Number:=n }):=(CS (α:=Af) (β:=Int×Int×Int×(List TOp)) (f:=fun x=>(x.Client,x.Number,x.Time,x.Ops)) (v:=fun x=>{ x with Number:=n }) (Bh (Cr (Cj (n:=n)))) rfl (fun _=>rfl))
theorem PN (n:Int):Up (α:=Af) 2 (iW n) (fun x=>{ x with Time:=n }):=(CS (α:=Af) (β:=Int×Int×Int×(List TOp)) (f:=fun x=>(x.Client,x.Number,x.Time,x.Ops)) (v:=fun x=>{ x with Time:=n }) (Bh (Bh (Cr (Cj (n:=n))))) rfl (fun _=>rfl))
theorem dS (S:St):Tr.ow S [] [AV.int .i64 0,AV.int .i64 0,AV.int .i64 0,AV.int .i64 0,AV.int .i64 0,AV.rsl false false [],AV.rsl false false []] (⟨0,0,0,0,0,[],[]⟩:Ah):=((DZ (Cl (l:=false) 0) (DZ (Cl (l:=false) 0) (DZ (Cl (l:=false) 0) (DZ (Cl (l:=false) 0) (DZ (Cl (l:=false) 0) (DZ (N2 (α:=Ax) (fl:=false)) (N2 (α:=Int) (fl:=false)))))))):Tr.ow (α:=Int×Int×Int×Int×Int×(List Ax)×(List Int)) S [] _ (0,0,0,0,0,[],[]))
theorem dR (S:St):Tr.ow S [] [AV.int .i64 0,AV.int .i64 0,AV.int .i64 0,AV.rsl false false []] (⟨0,0,0,[]⟩:Af):=((DZ (Cl (l:=false) 0) (DZ (Cl (l:=false) 0) (DZ (Cl (l:=false) 0) (N2 (α:=TOp) (fl:=false))))):Tr.ow (α:=Int×Int×Int×(List TOp)) S [] _ (0,0,0,[]))
def m13 (a0:List Int) (a1:Int):Int:=bif decide ((wi .i64 (a1 - (a0.length:Int))) < 0) then (-1) else wi .i64 (a1 - (a0.length:Int))
theorem w13 {d:Nat} (hd:1≤d) (k0:Bool) (a0:List Int) (a1:Int):Fit (R NN d 13 [.rsl k0 false (a0.map (Enc.cs k0)),iW a1] []) (some (m13 a0 a1)) PI:=by
  obtain ⟨d,rfl,g⟩:=up hd
  refine Ay (t13 NN d _ _) ?_
  unfold b13 m13
  exact As<|q_p fr<|q_p fr<|Ce (fun h1=>Ad (Ab rfl) rfl) fun h1=>Ad (Ab rfl) rfl
def m14 (a0:List Ak) (a1:Int):Int:=bif decide ((wi .i64 (a1 - (a0.length:Int))) < 0) then (-1) else wi .i64 (a1 - (a0.length:Int))
theorem w14 {d:Nat} (hd:1≤d) (k0:Bool) (a0:List Ak) (a1:Int):Fit (R NN d 14 [.rsl k0 false (a0.map (Enc.cs k0)),iW a1] []) (some (m14 a0 a1)) PI:=by
  obtain ⟨d,rfl,g⟩:=up hd
  refine Ay (t14 NN d _ _) ?_
  unfold b14 m14
  exact As<|q_p fr<|q_p fr<|Ce (fun h1=>Ad (Ab rfl) rfl) fun h1=>Ad (Ab rfl) rfl
def m63 (a0:List Ax) (a1:Int):Int:=bif decide ((wi .i64 (a1 - (a0.length:Int))) < 0) then (-1) else wi .i64 (a1 - (a0.length:Int))
theorem w63 {d:Nat} (hd:1≤d) (k0:Bool) (a0:List Ax) (a1:Int):Fit (R NN d 63 [.rsl k0 false (a0.map (Enc.cs k0)),iW a1] []) (some (m63 a0 a1)) PI:=by
  obtain ⟨d,rfl,g⟩:=up hd
  refine Ay (t63 NN d _ _) ?_
  unfold b63 m63
  exact As<|q_p fr<|q_p fr<|Ce (fun h1=>Ad (Ab rfl) rfl) fun h1=>Ad (Ab rfl) rfl
def m36 (a0:Ah) (a1:Int):Int:=bif decide ((m63 a0.Certs a1) < 0) then (-1) else bif decide ((m13 a0.Refs (m63 a0.Certs a1)) < 0) then (-1) else (m13 a0.Refs (m63 a0.Certs a1))
theorem w36 {d:Nat} (hd:2≤d) (k0:Bool) (a0:Ah) (a1:Int):Fit (R NN d 36 [.agg (Enc.cs k0 a0),iW a1] []) (some (m36 a0 a1)) PI:=by
  obtain ⟨d,rfl,g⟩:=up hd
  refine Ay (t36 NN d _ _) ?_
  unfold b36 m36
  exact AL (n:=7) rfl rfl (by decide) fun b1=>q_p fr<|Ao 0 rfl rfl<|AB (aF2 A5 (Ab rfl) fun l0_ l1_=>w63 (by omega) l0_ a0.Certs a1)<|q_p fr<|Ce (fun h2=>Ad (Ab rfl) rfl) fun h2=>q_p fr<|Ao 0 rfl rfl<|AB (aF2 A5 (Ab rfl) fun l0_ l1_=>w13 (by omega) l0_ a0.Refs (m63 a0.Certs a1))<|q_p fr<|Ce (fun h1=>Ad (Ab rfl) rfl) fun h1=>Ad (Ab rfl) rfl
def Vg (a0:List Ah) (s1:Int×Int×Int):Option (LO (Int×Int×Int)):=bif decide (s1.2.2 < (a0.length:Int)) then (Al a0 s1.2.2).bind fun x1=>bif decide ((m36 x1 s1.1) < 0) then some (LO.ret ((m36 x1 s1.1),(-1),s1.2.2)) else some (LO.norm ((m36 x1 s1.1),s1.2.1,wi .i64 (s1.2.2 + 1))) else some (LO.exit 0 (s1.1,s1.2.1,s1.2.2))
def m15 (a0:List Ah) (a1:Int):Option (Int):=bif decide ((wi .i64 (a1 - (a0.length:Int))) < 0) then some (-1) else (Ar (Vg a0) NN (wi .i64 (a1 - (a0.length:Int)),0,0)).bind (Ac (fun _=>none) (fun i1 s2=>if i1 = 0 then some s2.1 else none) (fun s2=>some s2.2.1))
theorem w15 {d:Nat} (hd:3≤d) (k0:Bool) (a0:List Ah) (a1:Int):Fit (R NN d 15 [.rsl k0 false (a0.map (Enc.cs k0)),iW a1] []) (m15 a0 a1) PI:=by
  obtain ⟨d,rfl,g⟩:=up hd
  refine Ay (t15 NN d _ _) ?_
  unfold b15 m15
  refine As<|q_p fr<|q_p fr<|q_i ?_ ?_
  ·exact Ad (Ab rfl) rfl
  ·refine AU (A:=fun (s:Int×Int×Int)=>[iW s.1,iW s.2.1,iW s.2.2]) (B:=fun s=>[]) 0 rr ?_ ?_ ?_
   ·intro s1
    unfold Z6 Vg
    exact As<|q_p fr<|q_i (A9 rfl fun x1 hx1=>q_p fr<|AB (aF2 (AZ (Au (l0:=k0) (x:=x1))) (Ab rfl) fun l0_ l1_=>w36 (by omega) l0_ x1 s1.1)<|q_p fr<|q_i (Aj 0 rr)<|q_p fr<|Aa 0 rr)<|Am 0 rr
   ·exact fun i1 s2=>q_n (Ad (Ab rfl) rfl)<|Ap
   ·exact fun s2=>Ad (Ab rfl) rfl
def m91 (a0:TOp) (a1:Int):Int:=bif decide ((wi .i64 (a1 - (a0.Path.length:Int))) < 0) then (-1) else wi .i64 (a1 - (a0.Path.length:Int))
theorem w91 {d:Nat} (hd:1≤d) (k0:Bool) (a0:TOp) (a1:Int):Fit (R NN d 91 [.agg (Enc.cs k0 a0),iW a1] []) (some (m91 a0 a1)) PI:=by
  obtain ⟨d,rfl,g⟩:=up hd
  refine Ay (t91 NN d _ _) ?_
  unfold b91 m91
  exact AL (n:=6) rfl rfl (by decide) fun b1=>q_p fr<|Ao 0 rfl rfl<|Eg<|q_p fr<|q_p fr<|Ce (fun h1=>Ad (Ab rfl) rfl) fun h1=>Ad (Ab rfl) rfl
def UU (a0:List TOp) (s1:Int×Int×Int):Option (LO (Int×Int×Int)):=bif decide (s1.2.2 < (a0.length:Int)) then (Al a0 s1.2.2).bind fun x1=>bif decide ((m91 x1 s1.1) < 0) then some (LO.ret ((m91 x1 s1.1),(-1),s1.2.2)) else some (LO.norm ((m91 x1 s1.1),s1.2.1,wi .i64 (s1.2.2 + 1))) else some (LO.exit 0 (s1.1,s1.2.1,s1.2.2))
def m64 (a0:List TOp) (a1:Int):Option (Int):=bif decide ((wi .i64 (a1 - (a0.length:Int))) < 0) then some (-1) else (Ar (UU a0) NN (wi .i64 (a1 - (a0.length:Int)),0,0)).bind (Ac (fun _=>none) (fun i1 s2=>if i1 = 0 then some s2.1 else none) (fun s2=>some s2.2.1))
theorem w64 {d:Nat} (hd:2≤d) (k0:Bool) (a0:List TOp) (a1:Int):Fit (R NN d 64 [.rsl k0 false (a0.map (Enc.cs k0)),iW a1] []) (m64 a0 a1) PI:=by
  obtain ⟨d,rfl,g⟩:=up hd
  refine Ay (t64 NN d _ _) ?_
  unfold b64 m64
  refine As<|q_p fr<|q_p fr<|q_i ?_ ?_
  ·exact Ad (Ab rfl) rfl
  ·refine AU (A:=fun (s:Int×Int×Int)=>[iW s.1,iW s.2.1,iW s.2.2]) (B:=fun s=>[]) 0 rr ?_ ?_ ?_
   ·intro s1
    unfold Zg UU
    exact As<|q_p fr<|q_i (A9 rfl fun x1 hx1=>q_p fr<|AB (aF2 (AZ (Au (l0:=k0) (x:=x1))) (Ab rfl) fun l0_ l1_=>w91 (by omega) l0_ x1 s1.1)<|q_p fr<|q_i (Aj 0 rr)<|q_p fr<|Aa 0 rr)<|Am 0 rr
   ·exact fun i1 s2=>q_n (Ad (Ab rfl) rfl)<|Ap
   ·exact fun s2=>Ad (Ab rfl) rfl
def m37 (a0:Af) (a1:Int):Option (Int):=(m64 a0.Ops a1).bind fun y1=>bif decide (y1 < 0) then some (-1) else some y1
theorem w37 {d:Nat} (hd:3≤d) (k0:Bool) (a0:Af) (a1:Int):Fit (R NN d 37 [.agg (Enc.cs k0 a0),iW a1] []) (m37 a0 a1) PI:=by
  obtain ⟨d,rfl,g⟩:=up hd
  refine Ay (t37 NN d _ _) ?_
  unfold b37 m37
  exact AL (n:=4) rfl rfl (by decide) fun b1=>q_p fr<|Ao 0 rfl rfl<|A7 (aF2 A5 (Ab rfl) fun l0_ l1_=>w64 (by omega) l0_ a0.Ops a1) fun y1 hy1=>q_p fr<|q_i (Ad (Ab rfl) rfl)<|Ad (Ab rfl) rfl
def Vf (a0:List Af) (s1:Int×Int×Int):Option (LO (Int×Int×Int)):=bif decide (s1.2.2 < (a0.length:Int)) then (Al a0 s1.2.2).bind fun x1=>(m37 x1 s1.1).bind fun y1=>bif decide (y1 < 0) then some (LO.ret (y1,(-1),s1.2.2)) else some (LO.norm (y1,s1.2.1,wi .i64 (s1.2.2 + 1))) else some (LO.exit 0 (s1.1,s1.2.1,s1.2.2))
def m16 (a0:List Af) (a1:Int):Option (Int):=bif decide ((wi .i64 (a1 - (a0.length:Int))) < 0) then some (-1) else (Ar (Vf a0) NN (wi .i64 (a1 - (a0.length:Int)),0,0)).bind (Ac (fun _=>none) (fun i1 s2=>if i1 = 0 then some s2.1 else none) (fun s2=>some s2.2.1))
theorem w16 {d:Nat} (hd:4≤d) (k0:Bool) (a0:List Af) (a1:Int):Fit (R NN d 16 [.rsl k0 false (a0.map (Enc.cs k0)),iW a1] []) (m16 a0 a1) PI:=by
  obtain ⟨d,rfl,g⟩:=up hd
  refine Ay (t16 NN d _ _) ?_
  unfold b16 m16
  refine As<|q_p fr<|q_p fr<|q_i ?_ ?_
  ·exact Ad (Ab rfl) rfl
  ·refine AU (A:=fun (s:Int×Int×Int)=>[iW s.1,iW s.2.1,iW s.2.2]) (B:=fun s=>[]) 0 rr ?_ ?_ ?_
   ·intro s1
    unfold Z5 Vf
    exact As<|q_p fr<|q_i (A9 rfl fun x1 hx1=>q_p fr<|A7 (aF2 (AZ (Au (l0:=k0) (x:=x1))) (Ab rfl) fun l0_ l1_=>w37 (by omega) l0_ x1 s1.1) fun y1 hy1=>q_p fr<|q_i (Aj 0 rr)<|q_p fr<|Aa 0 rr)<|Am 0 rr
   ·exact fun i1 s2=>q_n (Ad (Ab rfl) rfl)<|Ap
   ·exact fun s2=>Ad (Ab rfl) rfl
def m4 (a0:Ae) (a1:Int):Option (Int):=bif decide ((m13 a0.Bad a1) < 0) then some (-1) else bif decide ((m14 a0.Replicas (m13 a0.Bad a1)) < 0) then some (-1) else (m15 a0.Ledger (m14 a0.Replicas (m13 a0.Bad a1))).bind fun y1=>bif decide (y1 < 0) then some (-1) else (m16 a0.Requests y1).bind fun y2=>bif decide (y2 < 0) then some (-1) else some y2
theorem w4 {d:Nat} (hd:5≤d) (k0:Bool) (a0:Ae) (a1:Int):Fit (R NN d 4 [.agg (Enc.cs k0 a0),iW a1] []) (m4 a0 a1) PI:=by
  obtain ⟨d,rfl,g⟩:=up hd
  refine Ay (t4 NN d _ _) ?_
  unfold b4 m4
  exact AL (n:=5) rfl rfl (by decide) fun b1=>q_p fr<|Ao 0 rfl rfl<|AB (aF2 A5 (Ab rfl) fun l0_ l1_=>w13 (by omega) l0_ a0.Bad a1)<|q_p fr<|q_i (Ad (Ab rfl) rfl)<|q_p fr<|Ao 0 rfl rfl<|AB (aF2 A5 (Ab rfl) fun l0_ l1_=>w14 (by omega) l0_ a0.Replicas (m13 a0.Bad a1))<|q_p fr<|q_i (Ad (Ab rfl) rfl)<|q_p fr<|Ao 0 rfl rfl<|A7 (aF2 A5 (Ab rfl) fun l0_ l1_=>w15 (by omega) l0_ a0.Ledger (m14 a0.Replicas (m13 a0.Bad a1))) fun y1 hy1=>q_p fr<|q_i (Ad (Ab rfl) rfl)<|q_p fr<|Ao 0 rfl rfl<|A7 (aF2 A5 (Ab rfl) fun l0_ l1_=>w16 (by omega) l0_ a0.Requests y1) fun y2 hy2=>q_p fr<|q_i (Ad (Ab rfl) rfl)<|Ad (Ab rfl) rfl
def m98 (a0:Int) (a1:Int) (a2:Int):Bool:=bif decide (a0 ≥ a1) then decide (a0≤a2) else false
theorem w98 {d:Nat} (hd:1≤d) (a0:Int) (a1:Int) (a2:Int):Fit (R NN d 98 [iW a0,iW a1,iW a2] []) (some (m98 a0 a1 a2)) PB:=by
  obtain ⟨d,rfl,g⟩:=up hd
  refine Ay (t98 NN d _ _ _) ?_
  unfold b98 m98
  exact q_p fr<|Uu (fun h1=>q_p fr<|Ad (Ab rfl) rfl) fun h1=>Ad (Ab rfl) rfl
def m92 (a0:Int):Bool:=(m98 a0 1 2)
theorem w92 {d:Nat} (hd:2≤d) (a0:Int):Fit (R NN d 92 [iW a0] []) (some (m92 a0)) PB:=by
  obtain ⟨d,rfl,g⟩:=up hd
  refine Ay (t92 NN d _) ?_
  unfold b92 m92
  exact AB (aF3 (Ab rfl) (Ab rfl) (Ab rfl) fun l0_ l1_ l2_=>w98 (by omega) a0 1 2)<|Ad (Ab rfl) rfl
def Jj (a0:Ah) (a1:Ah) (s5:Bool×Int):Option (LO (Bool×Int)):=bif decide (s5.2 < (a0.Certs.length:Int)) then (Al a0.Certs s5.2).bind fun x1=>(Al a1.Certs s5.2).bind fun x2=>bif !(((x1.Slot == x2.Slot) && ((x1.View == x2.View) && ((x1.Value == x2.Value) && true)))) then some (LO.ret (false,s5.2)) else some (LO.norm (s5.1,wi .i64 (s5.2 + 1))) else some (LO.exit 0 (s5.1,s5.2))
def Ji (a0:Ah) (a1:Ah) (s7:Bool×Int):Option (LO (Bool×Int)):=bif decide (s7.2 < (a0.Refs.length:Int)) then (Al a0.Refs s7.2).bind fun x3=>(Al a1.Refs s7.2).bind fun x4=>bif x3 != x4 then some (LO.ret (false,s7.2)) else some (LO.norm (s7.1,wi .i64 (s7.2 + 1))) else some (LO.exit 2 (s7.1,s7.2))
def Ri (a0:Ah) (a1:Ah):Option (Bool):=( ( bif a0.Kind != a1.Kind then some (LO.norm true) else bif a0.View != a1.View then some (LO.norm true) else bif a0.From != a1.From then some (LO.norm true) else bif a0.Slot != a1.Slot then some (LO.norm true) else bif a0.Value != a1.Value then some (LO.norm true) else bif (a0.Certs.length:Int) != (a1.Certs.length:Int) then some (LO.norm true) else some (LO.norm ((a0.Refs.length:Int) != (a1.Refs.length:Int)))).bind (Ac (fun s3=>bif s3 then some (LO.ret false) else some (LO.norm false)) (fun i1 s3=>some (LO.exit i1 false)) (fun s3=>some (LO.ret false)))).bind (Ac (fun s4=>(Ar (Jj a0 a1) NN (s4,0)).bind (Ac (fun _=>none) (fun i3 s6=>if i3 = 0 then (Ar (Ji a0 a1) NN (s6.1,0)).bind (Ac (fun _=>none) (fun i4 s8=>if i4 = 2 then some true else none) (fun s8=>some s8.1)) else none) (fun s6=>some s6.1))) (fun i2 s4=>none) (fun s4=>some s4))
theorem w103 {d:Nat} (hd:1≤d) (k0:Bool) (a0:Ah) (k1:Bool) (a1:Ah):Fit (R NN d 103 [.rp k0 (Enc.cs k0 a0),.rp k1 (Enc.cs k1 a1)] []) (Ri a0 a1) PB:=by
  obtain ⟨d,rfl,g⟩:=up hd
  refine Ay (t103 NN d _ _) ?_
  unfold pB Ri
  refine AM (A:=fun (s:Bool)=>[.bool s]) (B:=fun s=>[]) ?_ ?_ ?_ ?_
  ·refine AM (A:=fun (s:Bool)=>[.bool s]) (B:=fun s=>[]) ?_ ?_ ?_ ?_
   ·exact q_q fr<|q_p fr<|q_p fr<|q_q fr<|q_p fr<|q_p fr<|q_p fr<|q_j (Aa 0 rr)<|q_q fr<|q_p fr<|q_p fr<|q_q fr<|q_p fr<|q_p fr<|q_p fr<|q_j (Aa 0 rr)<|q_q fr<|q_p fr<|q_p fr<|q_q fr<|q_p fr<|q_p fr<|q_p fr<|q_j (Aa 0 rr)<|q_q fr<|q_p fr<|q_p fr<|q_q fr<|q_p fr<|q_p fr<|q_p fr<|q_j (Aa 0 rr)<|q_q fr<|q_p fr<|q_p fr<|q_q fr<|q_p fr<|q_p fr<|q_p fr<|q_j (Aa 0 rr)<|q_q fr<|q_p fr<|q_p fr<|As<|q_q fr<|q_p fr<|q_p fr<|As<|q_p fr<|q_j (Aa 0 rr)<|q_q fr<|q_p fr<|q_p fr<|As<|q_q fr<|q_p fr<|q_p fr<|As<|q_p fr<|Aa 0 rr
   ·exact fun s3=>q_i (Aj 0 rr)<|Aa 0 rr
   ·exact fun i1 s3=>Am 0 rr
   ·exact fun s3=>Aj 0 rr
  ·intro s4
   refine AU (A:=fun (s:Bool×Int)=>[.bool s.1,iW s.2]) (B:=fun s=>[]) 0 rr ?_ ?_ ?_
   ·intro s5
    unfold Ud Jj
    exact q_q fr<|q_p fr<|q_p fr<|As<|q_p fr<|q_i (q_q fr<|q_p fr<|q_p fr<|A9 rfl fun x1 hx1=>q_p fr<|q_q fr<|q_p fr<|q_p fr<|A9 rfl fun x2 hx2=>q_p fr<|q_p (fun _=>Mg _ _ _ _ _ _)<|q_i (Aj 0 rr)<|q_p fr<|Aa 0 rr)<|Am 0 rr
   ·intro i3 s6
    refine q_n ?_ ?_
    ·refine AU (A:=fun (s:Bool×Int)=>[.bool s.1,iW s.2]) (B:=fun s=>[]) 0 rr ?_ ?_ ?_
     ·intro s7
      unfold Uc Ji
      exact q_q fr<|q_p fr<|q_p fr<|As<|q_p fr<|q_i (q_q fr<|q_p fr<|q_p fr<|A9 rfl fun x3 hx3=>q_p fr<|q_q fr<|q_p fr<|q_p fr<|A9 rfl fun x4 hx4=>q_p fr<|q_p fr<|q_i (Aj 0 rr)<|q_p fr<|Aa 0 rr)<|Am 0 rr
     ·exact fun i4 s8=>q_n (Ad (Ab rfl) rfl)<|Ap
     ·exact fun s8=>Ad (Ab rfl) rfl
    ·exact Ap
   ·exact fun s6=>Ad (Ab rfl) rfl
  ·exact fun i2 s4=>Ap
  ·exact fun s4=>Ad (Ab rfl) rfl
def UT (a0:List Ah) (a1:Ah) (s1:Int×Int):Option (LO (Int×Int)):=bif decide (s1.2 < (a0.length:Int)) then (Al a0 s1.2).bind fun x1=>(Ri x1 a1).bind fun y1=>bif y1 then some (LO.ret (s1.2,s1.2)) else some (LO.norm (s1.1,wi .i64 (s1.2 + 1))) else some (LO.exit 0 (s1.1,s1.2))
def m76 (a0:List Ah) (a1:Ah):Option (Int):=(Ar (UT a0 a1) NN (0,0)).bind (Ac (fun _=>none) (fun i1 s2=>if i1 = 0 then some (-1) else none) (fun s2=>some s2.1))
theorem w76 {d:Nat} (hd:2≤d) (k0:Bool) (a0:List Ah) (k1:Bool) (a1:Ah):Fit (R NN d 76 [.rsl k0 false (a0.map (Enc.cs k0)),.rp k1 (Enc.cs k1 a1)] []) (m76 a0 a1) PI:=by
  obtain ⟨d,rfl,g⟩:=up hd
  refine Ay (t76 NN d _ _) ?_
  unfold b76 m76
  refine AU (A:=fun (s:Int×Int)=>[iW s.1,iW s.2]) (B:=fun s=>[]) 0 rr ?_ ?_ ?_
  ·intro s1
   unfold YY UT
   exact As<|q_p fr<|q_i (A9 rfl fun x1 hx1=>A7 (aF2 (Bs (Au (l0:=k0) (x:=x1)) (fun _ _ _ h=>Enc.frz k0 x1 _ _ _ h)) (Bs (Au (l0:=k1) (x:=a1)) (fun _ _ _ h=>Enc.frz k1 a1 _ _ _ h)) fun l0_ l1_=>w103 (by omega) l0_ x1 l1_ a1) fun y1 hy1=>q_i (Aj 0 rr)<|q_p fr<|Aa 0 rr)<|Am 0 rr
  ·exact fun i1 s2=>q_n (Ad (Ab rfl) rfl)<|Ap
  ·exact fun s2=>Ad (Ab rfl) rfl
def m94 (a0:Int) (a1:Int):Bool:=(m98 a1 1 (wi .i64 ((wi .i64 (3 * a0)) + 1)))
theorem w94 {d:Nat} (hd:2≤d) (a0:Int) (a1:Int):Fit (R NN d 94 [iW a0,iW a1] []) (some (m94 a0 a1)) PB:=by
  obtain ⟨d,rfl,g⟩:=up hd
  refine Ay (t94 NN d _ _) ?_
  unfold b94 m94
  exact q_p fr<|q_p fr<|AB (aF3 (Ab rfl) (Ab rfl) (Ab rfl) fun l0_ l1_ l2_=>w98 (by omega) a1 1 (wi .i64 ((wi .i64 (3 * a0)) + 1)))<|Ad (Ab rfl) rfl
def V3 (a0:Ah):Option (Bool):=( bif (m98 a0.Kind 1 5) then bif (m98 a0.Kind 1 3) then bif a0.Kind == 4 then bif a0.Kind == 5 then some (LO.norm true) else some (LO.norm ((a0.Refs.length:Int) == 0)) else bif (a0.Certs.length:Int) == 0 then bif a0.Kind == 5 then some (LO.norm true) else some (LO.norm ((a0.Refs.length:Int) == 0)) else some (LO.norm false) else bif a0.Slot == 0 then bif a0.Value == 0 then bif a0.Kind == 4 then bif a0.Kind == 5 then some (LO.norm true) else some (LO.norm ((a0.Refs.length:Int) == 0)) else bif (a0.Certs.length:Int) == 0 then bif a0.Kind == 5 then some (LO.norm true) else some (LO.norm ((a0.Refs.length:Int) == 0)) else some (LO.norm false) else some (LO.norm false) else some (LO.norm false) else some (LO.norm false)).bind (Ac (fun s2=>some s2) (fun i1 s2=>none) (fun s2=>some s2))
theorem w164 {d:Nat} (hd:2≤d) (k0:Bool) (a0:Ah):Fit (R NN d 164 [.rp k0 (Enc.cs k0 a0)] []) (V3 a0) PB:=by
  obtain ⟨d,rfl,g⟩:=up hd
  refine Ay (t164 NN d _) ?_
  unfold mT V3
  refine q_q fr<|q_p fr<|q_p fr<|AB (aF3 (Ab rfl) (Ab rfl) (Ab rfl) fun l0_ l1_ l2_=>w98 (by omega) a0.Kind 1 3)<|AM (A:=fun (s:Bool)=>[.bool s]) (B:=fun s=>[]) ?_ ?_ ?_ ?_
  ·exact q_q fr<|q_p fr<|q_p fr<|AB (aF3 (Ab rfl) (Ab rfl) (Ab rfl) fun l0_ l1_ l2_=>w98 (by omega) a0.Kind 1 5)<|q_k (q_j (q_q fr<|q_p fr<|q_p fr<|q_p fr<|q_j (q_q fr<|q_p fr<|q_p fr<|q_p fr<|q_j (Aa 0 rr)<|q_q fr<|q_p fr<|q_p fr<|As<|q_p fr<|Aa 0 rr)<|q_q fr<|q_p fr<|q_p fr<|As<|q_p fr<|q_k (q_q fr<|q_p fr<|q_p fr<|q_p fr<|q_j (Aa 0 rr)<|q_q fr<|q_p fr<|q_p fr<|As<|q_p fr<|Aa 0 rr)<|Aa 0 rr)<|q_q fr<|q_p fr<|q_p fr<|q_p fr<|q_k (q_q fr<|q_p fr<|q_p fr<|q_p fr<|q_k (q_q fr<|q_p fr<|q_p fr<|q_p fr<|q_j (q_q fr<|q_p fr<|q_p fr<|q_p fr<|q_j (Aa 0 rr)<|q_q fr<|q_p fr<|q_p fr<|As<|q_p fr<|Aa 0 rr)<|q_q fr<|q_p fr<|q_p fr<|As<|q_p fr<|q_k (q_q fr<|q_p fr<|q_p fr<|q_p fr<|q_j (Aa 0 rr)<|q_q fr<|q_p fr<|q_p fr<|As<|q_p fr<|Aa 0 rr)<|Aa 0 rr)<|Aa 0 rr)<|Aa 0 rr)<|Aa 0 rr
  ·exact fun s2=>Ad (Ab rfl) rfl
  ·exact fun i1 s2=>Ap
  ·exact fun s2=>Ad (Ab rfl) rfl
def F3 (a0:Ah) (s1:Int×Int):Option (LO (Int×Int)):=bif decide (s1.2 < (a0.Certs.length:Int)) then (Al a0.Certs s1.2).bind fun x1=>(Al a0.Certs (wi .i64 (s1.2 - 1))).bind fun x2=>bif decide (x1.Slot≤x2.Slot) then some (LO.ret (1,s1.2)) else some (LO.norm (s1.1,wi .i64 (s1.2 + 1))) else some (LO.exit 0 (s1.1,s1.2))
def Fz (a0:Ah) (s3:Int×Int):Option (LO (Int×Int)):=bif decide (s3.2 < (a0.Refs.length:Int)) then (Al a0.Refs s3.2).bind fun x3=>(Al a0.Refs (wi .i64 (s3.2 - 1))).bind fun x4=>bif decide (x3≤x4) then some (LO.ret (1,s3.2)) else some (LO.norm (s3.1,wi .i64 (s3.2 + 1))) else some (LO.exit 2 (s3.1,s3.2))
def Fy (a0:Ah) (s5:Int×Int):Option (LO (Int×Int)):=bif decide (s5.2 < (a0.Certs.length:Int)) then ( (Al a0.Certs s5.2).bind fun x5=>( bif !(m98 x5.Slot 1 30) then some (LO.norm true) else bif !(m98 x5.View 0 (wi .i64 (a0.View - 1))) then some (LO.norm true) else some (LO.norm (!(m98 x5.Value 0 12)))).bind (Ac (fun s8=>bif s8 then some (LO.ret 3) else some (LO.norm s5.1)) (fun i3 s8=>if i3 = 5 then some (LO.norm s5.1) else some (LO.exit i3 s5.1)) (fun s8=>some (LO.ret s5.1)))).bind (Ac (fun s9=>some (LO.norm (s9,wi .i64 (s5.2 + 1)))) (fun i4 s9=>some (LO.exit i4 (s9,s5.2))) (fun s9=>some (LO.ret (s9,s5.2)))) else some (LO.exit 4 (s5.1,s5.2))
def Fx (a0:Ah) (s11:Int×Int):Option (LO (Int×Int)):=bif decide (s11.2 < (a0.Refs.length:Int)) then (Al a0.Refs s11.2).bind fun x6=>bif !(m98 x6 0 239) then some (LO.ret (3,s11.2)) else some (LO.norm (s11.1,wi .i64 (s11.2 + 1))) else some (LO.exit 6 (s11.1,s11.2))
def V2 (a0:Ah):Option (Int):=(Ar (F3 a0) NN (0,1)).bind (Ac (fun _=>none) (fun i1 s2=>if i1 = 0 then (Ar (Fz a0) NN (s2.1,1)).bind (Ac (fun _=>none) (fun i2 s4=>if i2 = 2 then (Ar (Fy a0) NN (s4.1,0)).bind (Ac (fun _=>none) (fun i5 s10=>if i5 = 4 then (Ar (Fx a0) NN (s10.1,0)).bind (Ac (fun _=>none) (fun i6 s12=>if i6 = 6 then some 0 else none) (fun s12=>some s12.1)) else none) (fun s10=>some s10.1)) else none) (fun s4=>some s4.1)) else none) (fun s2=>some s2.1))
theorem w165 {d:Nat} (hd:2≤d) (k0:Bool) (a0:Ah):Fit (R NN d 165 [.rp k0 (Enc.cs k0 a0)] []) (V2 a0) PI:=by
  obtain ⟨d,rfl,g⟩:=up hd
  refine Ay (t165 NN d _) ?_
  unfold mS V2
  refine AU (A:=fun (s:Int×Int)=>[iW s.1,iW s.2]) (B:=fun s=>[]) 0 rr ?_ ?_ ?_
  ·intro s1
   unfold TI F3
   exact q_q fr<|q_p fr<|q_p fr<|As<|q_p fr<|q_i (q_q fr<|q_p fr<|q_p fr<|A9 rfl fun x1 hx1=>q_p fr<|q_p fr<|q_q fr<|q_p fr<|q_p fr<|q_p fr<|A9 rfl fun x2 hx2=>q_p fr<|q_p fr<|q_p fr<|q_i (Aj 0 rr)<|q_p fr<|Aa 0 rr)<|Am 0 rr
  ·intro i1 s2
   refine q_n ?_ ?_
   ·refine AU (A:=fun (s:Int×Int)=>[iW s.1,iW s.2]) (B:=fun s=>[]) 0 rr ?_ ?_ ?_
    ·intro s3
     unfold TG Fz
     exact q_q fr<|q_p fr<|q_p fr<|As<|q_p fr<|q_i (q_q fr<|q_p fr<|q_p fr<|A9 rfl fun x3 hx3=>q_p fr<|q_q fr<|q_p fr<|q_p fr<|q_p fr<|A9 rfl fun x4 hx4=>q_p fr<|q_p fr<|q_i (Aj 0 rr)<|q_p fr<|Aa 0 rr)<|Am 0 rr
    ·intro i2 s4
     refine q_n ?_ ?_
     ·refine AU (A:=fun (s:Int×Int)=>[iW s.1,iW s.2]) (B:=fun s=>[]) 0 rr ?_ ?_ ?_
      ·intro s5
       unfold TF Fy
       refine q_q fr<|q_p fr<|q_p fr<|As<|q_p fr<|q_i ?_ ?_
       ·refine AM (A:=fun (s:Int)=>[iW s]) (B:=fun s=>[]) ?_ ?_ ?_ ?_
        ·refine q_q fr<|q_p fr<|q_p fr<|A9 rfl fun x5 hx5=>q_p fr<|Bc rfl fun b1=>Bb 0 rfl rfl rfl (by decide) rfl<|AM (A:=fun (s:Bool)=>[.bool s]) (B:=fun s=>[bx b1 [iW x5.Slot,iW x5.View,iW x5.Value]]) ?_ ?_ ?_ ?_
         ·exact q_p fr<|Ao 0 rfl rfl<|AB (aF3 (Ab rfl) (Ab rfl) (Ab rfl) fun l0_ l1_ l2_=>w98 (by omega) x5.Slot 1 30)<|q_p fr<|q_j (Aa 0 rr)<|q_p fr<|Ao 0 rfl rfl<|q_q fr<|q_p fr<|q_p fr<|q_p fr<|AB (aF3 (Ab rfl) (Ab rfl) (Ab rfl) fun l0_ l1_ l2_=>w98 (by omega) x5.View 0 (wi .i64 (a0.View - 1)))<|q_p fr<|q_j (Aa 0 rr)<|q_p fr<|Ao 0 rfl rfl<|AB (aF3 (Ab rfl) (Ab rfl) (Ab rfl) fun l0_ l1_ l2_=>w98 (by omega) x5.Value 0 12)<|q_p fr<|Aa 0 rr
         ·exact fun s8=>q_i (Aj 1 rr)<|Aa 1 rr
         ·exact fun i3 s8=>q_n (Aa 1 rr)<|Am 1 rr
         ·exact fun s8=>Aj 1 rr
        ·exact fun s9=>q_p fr<|Aa 0 rr
        ·exact fun i4 s9=>Am 0 rr
        ·exact fun s9=>Aj 0 rr
       ·exact Am 0 rr
      ·intro i5 s10
       refine q_n ?_ ?_
       ·refine AU (A:=fun (s:Int×Int)=>[iW s.1,iW s.2]) (B:=fun s=>[]) 0 rr ?_ ?_ ?_
        ·intro s11
         unfold TE Fx
         exact q_q fr<|q_p fr<|q_p fr<|As<|q_p fr<|q_i (q_q fr<|q_p fr<|q_p fr<|A9 rfl fun x6 hx6=>q_p fr<|AB (aF3 (Ab rfl) (Ab rfl) (Ab rfl) fun l0_ l1_ l2_=>w98 (by omega) x6 0 239)<|q_p fr<|q_i (Aj 0 rr)<|q_p fr<|Aa 0 rr)<|Am 0 rr
        ·exact fun i6 s12=>q_n (Ad (Ab rfl) rfl)<|Ap
        ·exact fun s12=>Ad (Ab rfl) rfl
       ·exact Ap
      ·exact fun s10=>Ad (Ab rfl) rfl
     ·exact Ap
    ·exact fun s4=>Ad (Ab rfl) rfl
   ·exact Ap
  ·exact fun s2=>Ad (Ab rfl) rfl
def VB (a0:Int) (a1:Ah):Option (Int):=(V3 a1).bind fun y1=>bif !y1 then some 1 else ( ( bif !(m98 a1.View 0 20) then some (LO.norm true) else bif !(m94 a0 a1.From) then some (LO.norm true) else bif decide (a1.Kind≤3) then bif !(m98 a1.Slot 1 30) then some (LO.norm true) else some (LO.norm (!(m98 a1.Value 0 12))) else some (LO.norm false)).bind (Ac (fun s3=>bif s3 then some (LO.ret 3) else some (LO.norm 0)) (fun i1 s3=>some (LO.exit i1 0)) (fun s3=>some (LO.ret 0)))).bind (Ac (fun s4=>( bif decide ((a1.Certs.length:Int) > 30) then some (LO.ret 2) else bif decide ((a1.Refs.length:Int) > (wi .i64 ((wi .i64 (3 * a0)) + 1))) then some (LO.ret 2) else some (LO.norm s4)).bind (Ac (fun s6=>(V2 a1).bind fun y2=>some y2) (fun i3 s6=>none) (fun s6=>some s6))) (fun i2 s4=>none) (fun s4=>some s4))
theorem w129 {d:Nat} (hd:3≤d) (a0:Int) (k1:Bool) (a1:Ah):Fit (R NN d 129 [iW a0,.rp k1 (Enc.cs k1 a1)] []) (VB a0 a1) PI:=by
  obtain ⟨d,rfl,g⟩:=up hd
  refine Ay (t129 NN d _ _) ?_
  unfold oD VB
  refine A7 (aF1 (Bs (Au (l0:=k1) (x:=a1)) (fun _ _ _ h=>Enc.frz k1 a1 _ _ _ h)) fun l0_=>w164 (by omega) l0_ a1) fun y1 hy1=>q_p fr<|q_i ?_ ?_
  ·exact Ad (Ab rfl) rfl
  ·refine q_q fr<|q_p fr<|q_p fr<|q_p fr<|AM (A:=fun (s:Int)=>[iW s]) (B:=fun s=>[]) ?_ ?_ ?_ ?_
   ·refine AM (A:=fun (s:Bool)=>[.bool s]) (B:=fun s=>[]) ?_ ?_ ?_ ?_
    ·exact q_q fr<|q_p fr<|q_p fr<|AB (aF3 (Ab rfl) (Ab rfl) (Ab rfl) fun l0_ l1_ l2_=>w98 (by omega) a1.View 0 20)<|q_p fr<|q_j (Aa 0 rr)<|q_q fr<|q_p fr<|q_p fr<|AB (aF2 (Ab rfl) (Ab rfl) fun l0_ l1_=>w94 (by omega) a0 a1.From)<|q_p fr<|q_j (Aa 0 rr)<|q_k (q_q fr<|q_p fr<|q_p fr<|AB (aF3 (Ab rfl) (Ab rfl) (Ab rfl) fun l0_ l1_ l2_=>w98 (by omega) a1.Slot 1 30)<|q_p fr<|q_j (Aa 0 rr)<|q_q fr<|q_p fr<|q_p fr<|AB (aF3 (Ab rfl) (Ab rfl) (Ab rfl) fun l0_ l1_ l2_=>w98 (by omega) a1.Value 0 12)<|q_p fr<|Aa 0 rr)<|Aa 0 rr
    ·exact fun s3=>q_i (Aj 0 rr)<|Aa 0 rr
    ·exact fun i1 s3=>Am 0 rr
    ·exact fun s3=>Aj 0 rr
   ·intro s4
    refine AM (A:=fun (s:Int)=>[iW s]) (B:=fun s=>[]) ?_ ?_ ?_ ?_
    ·refine q_q fr<|q_p fr<|q_p fr<|As<|q_p fr<|q_j ?_ ?_
     ·first | refine Ct ?_ | skip
      exact Aj 0 rr
     ·exact q_q fr<|q_p fr<|q_p fr<|As<|q_p fr<|q_p fr<|q_p fr<|q_i (Aj 0 rr)<|Aa 0 rr
    ·exact fun s6=>A7 (aF1 (Bs (Au (l0:=k1) (x:=a1)) (fun _ _ _ h=>Enc.frz k1 a1 _ _ _ h)) fun l0_=>w165 (by omega) l0_ a1) fun y2 hy2=>Ad (Ab rfl) rfl
    ·exact fun i3 s6=>Ap
    ·exact fun s6=>Ad (Ab rfl) rfl
   ·exact fun i2 s4=>Ap
   ·exact fun s4=>Ad (Ab rfl) rfl
def Pb (a0:Ah) (a1:Int) (s1:Bool×Int):Option (LO (Bool×Int)):=bif decide (s1.2 < (a0.Refs.length:Int)) then (Al a0.Refs s1.2).bind fun x1=>bif decide (x1 ≥ a1) then some (LO.ret (false,s1.2)) else some (LO.norm (s1.1,wi .i64 (s1.2 + 1))) else some (LO.exit 0 (s1.1,s1.2))
def XZ (a0:Ah) (a1:Int):Option (Bool):=(Ar (Pb a0 a1) NN (false,0)).bind (Ac (fun _=>none) (fun i1 s2=>if i1 = 0 then some true else none) (fun s2=>some s2.1))
theorem w130 {d:Nat} (hd:1≤d) (k0:Bool) (a0:Ah) (a1:Int):Fit (R NN d 130 [.rp k0 (Enc.cs k0 a0),iW a1] []) (XZ a0 a1) PB:=by
  obtain ⟨d,rfl,g⟩:=up hd
  refine Ay (t130 NN d _ _) ?_
  unfold oC XZ
  refine AU (A:=fun (s:Bool×Int)=>[.bool s.1,iW s.2]) (B:=fun s=>[]) 0 rr ?_ ?_ ?_
  ·intro s1
   unfold TS Pb
   exact q_q fr<|q_p fr<|q_p fr<|As<|q_p fr<|q_i (q_q fr<|q_p fr<|q_p fr<|A9 rfl fun x1 hx1=>q_p fr<|q_p fr<|q_i (Aj 0 rr)<|q_p fr<|Aa 0 rr)<|Am 0 rr
  ·exact fun i1 s2=>q_n (Ad (Ab rfl) rfl)<|Ap
  ·exact fun s2=>Ad (Ab rfl) rfl
def Ir (a0:Int) (a1:List Ah) (s1:Int×Int):Option (LO (Int×Int)):=bif decide (s1.2 < (a1.length:Int)) then (Al a1 s1.2).bind fun x1=>(VB a0 x1).bind fun y1=>bif y1 != 0 then some (LO.ret (y1,s1.2)) else (Al a1 s1.2).bind fun x2=>(XZ x2 s1.2).bind fun y2=>bif !y2 then some (LO.ret (4,s1.2)) else (Al a1 s1.2).bind fun x3=>(m76 a1 x3).bind fun y3=>bif y3 != s1.2 then some (LO.ret (6,s1.2)) else some (LO.norm (s1.1,wi .i64 (s1.2 + 1))) else some (LO.exit 0 (s1.1,s1.2))
def m93 (a0:Int) (a1:List Ah):Option (Int):=bif decide ((a1.length:Int) > 240) then some 2 else (Ar (Ir a0 a1) NN (0,0)).bind (Ac (fun _=>none) (fun i1 s2=>if i1 = 0 then some 0 else none) (fun s2=>some s2.1))
theorem w93 {d:Nat} (hd:4≤d) (a0:Int) (k1:Bool) (a1:List Ah):Fit (R NN d 93 [iW a0,.rsl k1 false (a1.map (Enc.cs k1))] []) (m93 a0 a1) PI:=by
  obtain ⟨d,rfl,g⟩:=up hd
  refine Ay (t93 NN d _ _) ?_
  unfold b93 m93
  refine As<|q_p fr<|q_i ?_ ?_
  ·exact Ad (Ab rfl) rfl
  ·refine AU (A:=fun (s:Int×Int)=>[iW s.1,iW s.2]) (B:=fun s=>[]) 0 rr ?_ ?_ ?_
   ·intro s1
    unfold YM Ir
    exact As<|q_p fr<|q_i (A9 rfl fun x1 hx1=>A7 (aF2 (Ab rfl) (Bs (Au (l0:=k1) (x:=x1)) (fun _ _ _ h=>Enc.frz k1 x1 _ _ _ h)) fun l0_ l1_=>w129 (by omega) a0 l1_ x1) fun y1 hy1=>q_p fr<|q_i (Aj 0 rr)<|A9 rfl fun x2 hx2=>A7 (aF2 (Bs (Au (l0:=k1) (x:=x2)) (fun _ _ _ h=>Enc.frz k1 x2 _ _ _ h)) (Ab rfl) fun l0_ l1_=>w130 (by omega) l0_ x2 s1.2) fun y2 hy2=>q_p fr<|q_i (Aj 0 rr)<|A9 rfl fun x3 hx3=>A7 (aF2 A5 (Bs (Au (l0:=k1) (x:=x3)) (fun _ _ _ h=>Enc.frz k1 x3 _ _ _ h)) fun l0_ l1_=>w76 (by omega) l0_ a1 l1_ x3) fun y3 hy3=>q_p fr<|q_i (Aj 0 rr)<|q_p fr<|Aa 0 rr)<|Am 0 rr
   ·exact fun i1 s2=>q_n (Ad (Ab rfl) rfl)<|Ap
   ·exact fun s2=>Ad (Ab rfl) rfl
def m65 (a0:Int) (a1:List Ah):Option (Int):=bif !(m92 a0) then some 3 else (m93 a0 a1).bind fun y1=>some y1
theorem w65 {d:Nat} (hd:5≤d) (a0:Int) (k1:Bool) (a1:List Ah):Fit (R NN d 65 [iW a0,.rsl k1 false (a1.map (Enc.cs k1))] []) (m65 a0 a1) PI:=by
  obtain ⟨d,rfl,g⟩:=up hd
  refine Ay (t65 NN d _ _) ?_
  unfold b65 m65
  exact AB (aF1 (Ab rfl) fun l0_=>w92 (by omega) a0)<|q_p fr<|q_i (Ad (Ab rfl) rfl)<|A7 (aF2 (Ab rfl) A5 fun l0_ l1_=>w93 (by omega) a0 l1_ a1) fun y1 hy1=>Ad (Ab rfl) rfl
def Lt (a0:Int) (a1:List Int) (s1:Int×Int):Option (LO (Int×Int)):=bif decide (s1.2 < (a1.length:Int)) then ( (Al a1 s1.2).bind fun x1=>bif !(m94 a0 x1) then some (LO.ret 3) else bif decide (s1.2 > 0) then (Al a1 s1.2).bind fun x2=>(Al a1 (wi .i64 (s1.2 - 1))).bind fun x3=>bif decide (x2≤x3) then some (LO.ret 1) else some (LO.norm s1.1) else some (LO.norm s1.1)).bind (Ac (fun s3=>some (LO.norm (s3,wi .i64 (s1.2 + 1)))) (fun i1 s3=>some (LO.exit i1 (s3,s1.2))) (fun s3=>some (LO.ret (s3,s1.2)))) else some (LO.exit 0 (s1.1,s1.2))
def m66 (a0:Int) (a1:List Int):Option (Int):=bif decide ((a1.length:Int) > a0) then some 2 else (Ar (Lt a0 a1) NN (0,0)).bind (Ac (fun _=>none) (fun i2 s4=>if i2 = 0 then some 0 else none) (fun s4=>some s4.1))
theorem w66 {d:Nat} (hd:3≤d) (a0:Int) (k1:Bool) (a1:List Int):Fit (R NN d 66 [iW a0,.rsl k1 false (a1.map (Enc.cs k1))] []) (m66 a0 a1) PI:=by
  obtain ⟨d,rfl,g⟩:=up hd
  refine Ay (t66 NN d _ _) ?_
  unfold b66 m66
  refine As<|q_p fr<|q_i ?_ ?_
  ·exact Ad (Ab rfl) rfl
  ·refine AU (A:=fun (s:Int×Int)=>[iW s.1,iW s.2]) (B:=fun s=>[]) 0 rr ?_ ?_ ?_
   ·intro s1
    unfold Zf Lt
    refine As<|q_p fr<|q_i ?_ ?_
    ·refine AM (A:=fun (s:Int)=>[iW s]) (B:=fun s=>[]) ?_ ?_ ?_ ?_
     ·refine A9 rfl fun x1 hx1=>q_p fr<|AB (aF2 (Ab rfl) (Ab rfl) fun l0_ l1_=>w94 (by omega) a0 x1)<|q_p fr<|q_i ?_ ?_
      ·exact Aj 0 rr
      ·refine q_p fr<|q_k ?_ ?_
       ·exact A9 rfl fun x2 hx2=>q_p fr<|q_p fr<|A9 rfl fun x3 hx3=>q_p fr<|q_p fr<|q_i (Aj 0 rr)<|Aa 0 rr
       ·first | refine DN ?_ | skip
        exact Aa 0 rr
     ·exact fun s3=>q_p fr<|Aa 0 rr
     ·exact fun i1 s3=>Am 0 rr
     ·exact fun s3=>Aj 0 rr
    ·exact Am 0 rr
   ·exact fun i2 s4=>q_n (Ad (Ab rfl) rfl)<|Ap
   ·exact fun s4=>Ad (Ab rfl) rfl
def Iq (a0:List Int) (a1:Int) (s1:Bool×Int):Option (LO (Bool×Int)):=bif decide (s1.2 < (a0.length:Int)) then (Al a0 s1.2).bind fun x1=>bif x1 == a1 then some (LO.ret (true,s1.2)) else some (LO.norm (s1.1,wi .i64 (s1.2 + 1))) else some (LO.exit 0 (s1.1,s1.2))
def m95 (a0:List Int) (a1:Int):Option (Bool):=(Ar (Iq a0 a1) NN (false,0)).bind (Ac (fun _=>none) (fun i1 s2=>if i1 = 0 then some false else none) (fun s2=>some s2.1))
theorem w95 {d:Nat} (hd:1≤d) (k0:Bool) (a0:List Int) (a1:Int):Fit (R NN d 95 [.rsl k0 false (a0.map (Enc.cs k0)),iW a1] []) (m95 a0 a1) PB:=by
  obtain ⟨d,rfl,g⟩:=up hd
  refine Ay (t95 NN d _ _) ?_
  unfold b95 m95
  refine AU (A:=fun (s:Bool×Int)=>[.bool s.1,iW s.2]) (B:=fun s=>[]) 0 rr ?_ ?_ ?_
  ·intro s1
   unfold YL Iq
   exact As<|q_p fr<|q_i (A9 rfl fun x1 hx1=>q_p fr<|q_p fr<|q_i (Aj 0 rr)<|q_p fr<|Aa 0 rr)<|Am 0 rr
  ·exact fun i1 s2=>q_n (Ad (Ab rfl) rfl)<|Ap
  ·exact fun s2=>Ad (Ab rfl) rfl
def m70 (a0:List Ah) (a1:Int) (a2:Int):Option (Bool):=bif (m98 a1 0 (wi .i64 ((a0.length:Int) - 1))) then (Al a0 a1).bind fun x1=>some (x1.Kind == a2) else some false
theorem w70 {d:Nat} (hd:2≤d) (k0:Bool) (a0:List Ah) (a1:Int) (a2:Int):Fit (R NN d 70 [.rsl k0 false (a0.map (Enc.cs k0)),iW a1,iW a2] []) (m70 a0 a1 a2) PB:=by
  obtain ⟨d,rfl,g⟩:=up hd
  refine Ay (t70 NN d _ _ _) ?_
  unfold b70 m70
  exact As<|q_p fr<|AB (aF3 (Ab rfl) (Ab rfl) (Ab rfl) fun l0_ l1_ l2_=>w98 (by omega) a1 0 (wi .i64 ((a0.length:Int) - 1)))<|q_k (A9 rfl fun x1 hx1=>q_p fr<|q_p fr<|q_p fr<|Ad (Ab rfl) rfl)<|Ad (Ab rfl) rfl
def m71 (a0:Int) (a1:Int):Option (Int):=(Mp a1 (wi .i64 ((wi .i64 (3 * a0)) + 1))).bind fun q1=>some (wi .i64 (1 + q1))
theorem w71 {d:Nat} (hd:1≤d) (a0:Int) (a1:Int):Fit (R NN d 71 [iW a0,iW a1] []) (m71 a0 a1) PI:=by
  obtain ⟨d,rfl,g⟩:=up hd
  refine Ay (t71 NN d _ _) ?_
  unfold b71 m71
  exact q_p fr<|q_p fr<|Un fun q1 hq1=>q_p fr<|Ad (Ab rfl) rfl
def VA (a0:Int):Int:=wi .i64 ((wi .i64 (2 * a0)) + 1)
theorem eU {d:Nat} (hd:1≤d) (a0:Int):Fit (R NN d 137 [iW a0] []) (some (VA a0)) PI:=by
  obtain ⟨d,rfl,g⟩:=up hd
  refine Ay (t137 NN d _) ?_
  unfold nU VA
  exact q_p fr<|q_p fr<|Ad (Ab rfl) rfl
def H7 (a0:Int) (a1:List Ah) (a2:Int) (a3:Ax) (s1:Int×(List Int)):Option (LO (Int×(List Int))):=bif decide (s1.1≤(wi .i64 ((wi .i64 (3 * a0)) + 1))) then ( (m76 a1 (⟨a2,a3.View,s1.1,a3.Slot,a3.Value,[],[]⟩:Ah)).bind fun y1=>bif decide (y1 ≥ 0) then (Bu 8 s1.2 [s1.1]).bind fun z1=>some (LO.norm z1) else some (LO.norm s1.2)).bind (Ac (fun s3=>some (LO.norm (wi .i64 (s1.1 + 1),s3))) (fun i1 s3=>some (LO.exit i1 (s1.1,s3))) (fun s3=>some (LO.ret (s1.1,s3)))) else some (LO.exit 0 (s1.1,s1.2))
def Vt (a0:Int) (a1:List Ah) (a2:Int) (a3:Ax):Option ((List Int)):=(Ar (H7 a0 a1 a2 a3) NN (1,[])).bind (Ac (fun _=>none) (fun i2 s4=>if i2 = 0 then some s4.2 else none) (fun s4=>some []))
theorem w194 {d:Nat} (hd:3≤d) (a0:Int) (k1:Bool) (a1:List Ah) (a2:Int) (k3:Bool) (a3:Ax):Fit (R NN d 194 [iW a0,.rsl k1 false (a1.map (Enc.cs k1)),iW a2,.agg (Enc.cs k3 a3)] []) (Vt a0 a1 a2 a3) (P0 (fun (t:List Int)=>AV.rsl false false (t.map (Enc.cs false)))):=by
  obtain ⟨d,rfl,g⟩:=up hd
  refine Ay (t194 NN d _ _ _ _) ?_
  unfold lO Vt
  refine AL (n:=3) rfl rfl (by decide) fun b1=>q_q (fun _=>Dq)<|Dj (α:=Int) false<|BU (I:=(fun (s:Int×(List Int)) l L=>∃ (v1:AV),l = [v1,iW s.1]∧L = [sl false v1 (s.2:List Int),bx b1 [iW a3.Slot,iW a3.View,iW a3.Value]])) 0 ⟨(.rsl false true []),rfl,rfl⟩ ?_ ?_ ?_
  ·rintro s1 _ _ ⟨v1,rfl,rfl⟩
   unfold Tw H7
   refine q_p fr<|q_p fr<|q_p fr<|q_i ?_ ?_
   ·refine FH (I:=(fun (s:(List Int)) l L=>∃ (v2:AV),l = [v2]∧L = [sl false v2 (s:List Int),bx b1 [iW a3.Slot,iW a3.View,iW a3.Value]])) ?_ ?_ ?_ ?_
    ·exact q_p fr<|Ao 1 rfl rfl<|q_p fr<|Ao 1 rfl rfl<|q_p fr<|Ao 1 rfl rfl<|q_p (fun _=>Ep rfl)<|Bc rfl fun b2=>Bb 0 rfl rfl rfl (by decide) rfl<|A7 (aF2 A5 (BI 0 rfl (Ag (Ab rfl) (Ag (Ab rfl) (Ag (Ab rfl) (Ag (Ab rfl) (Ag (Ab rfl) (Ag (A5 (α:=Ax) (l0:=false) (fl:=true) (xs:=[])) (Ag (A5 (α:=Int) (l0:=false) (fl:=true) (xs:=[])) Az)))))))) fun l0_ l1_=>w76 (by omega) l0_ a1 l1_ (⟨a2,a3.View,s1.1,a3.Slot,a3.Value,[],[]⟩:Ah)) fun y1 hy1=>q_p fr<|q_i (q_q (fun _=>EF)<|CX (ys:=[s1.1]) 1 rfl rfl (fun _ _=>rfl) fun v2 z1 hz1=>Aa 1 ⟨v2,rfl,rfl⟩)<|Aa 1 ⟨v1,rfl,rfl⟩
    ·rintro s3 _ _ ⟨v3,rfl,rfl⟩
     exact q_p fr<|Aa 0 ⟨v3,rfl,rfl⟩
    ·rintro i1 s3 _ _ ⟨v4,rfl,rfl⟩
     exact Am 0 ⟨v4,rfl,rfl⟩
    ·rintro s3 _ _ ⟨v5,rfl,rfl⟩
     exact Aj 0 ⟨v5,rfl,rfl⟩
   ·exact Am 0 ⟨v1,rfl,rfl⟩
  ·rintro i2 s4 _ _ ⟨v6,rfl,rfl⟩
   exact q_n (Ad (IT 0 rfl) rfl)<|Ap
  ·rintro s4 _ _ ⟨v7,rfl,rfl⟩
   exact Ad (A5 (α:=Int) (l0:=false) (fl:=true) (xs:=[])) rfl
def QQ (a0:Int) (a1:List Ah) (a2:Int) (a3:Ax):Option (Bool):=(Vt a0 a1 a2 a3).bind fun y1=>some (decide ((y1.length:Int) ≥ (VA a0)))
theorem eL {d:Nat} (hd:4≤d) (a0:Int) (k1:Bool) (a1:List Ah) (a2:Int) (k3:Bool) (a3:Ax):Fit (R NN d 169 [iW a0,.rsl k1 false (a1.map (Enc.cs k1)),iW a2,.agg (Enc.cs k3 a3)] []) (QQ a0 a1 a2 a3) PB:=by
  obtain ⟨d,rfl,g⟩:=up hd
  refine Ay (t169 NN d _ _ _ _) ?_
  unfold mO QQ
  exact AL (n:=3) rfl rfl (by decide) fun b1=>AX 0 rfl rfl rfl<|A7 (fun S hS=>EB (Ab rfl) A5 (Ab rfl) (AZ (Au (l0:=false) (x:=a3))) hS fun l0_ l1_ l2_ l3_=>w194 (by omega) a0 l1_ a1 a2 l3_ a3) fun y1 hy1=>As<|AB (aF1 (Ab rfl) fun l0_=>eU (by omega) a0)<|q_p fr<|Ad (Ab rfl) rfl
def Gt (a0:Int) (a1:List Ah) (a2:Int) (s3:Bool×Int):Option (LO (Bool×Int)):=(Al a1 a2).bind fun x2=>bif decide (s3.2 < (x2.Certs.length:Int)) then (Al a1 a2).bind fun x3=>(Al x3.Certs s3.2).bind fun x4=>(QQ a0 a1 2 x4).bind fun y2=>bif !y2 then some (LO.ret (false,s3.2)) else some (LO.norm (s3.1,wi .i64 (s3.2 + 1))) else some (LO.exit 0 (s3.1,s3.2))
def V9 (a0:Int) (a1:List Ah) (a2:Int):Option (Bool):=( (m70 a1 a2 4).bind fun y1=>bif !y1 then some (LO.ret false) else (Al a1 a2).bind fun x1=>bif decide (x1.View < 1) then some (LO.ret false) else some (LO.norm false)).bind (Ac (fun s2=>(Ar (Gt a0 a1 a2) NN (s2,0)).bind (Ac (fun _=>none) (fun i2 s4=>if i2 = 0 then some true else none) (fun s4=>some s4.1))) (fun i1 s2=>none) (fun s2=>some s2))
theorem w138 {d:Nat} (hd:5≤d) (a0:Int) (k1:Bool) (a1:List Ah) (a2:Int):Fit (R NN d 138 [iW a0,.rsl k1 false (a1.map (Enc.cs k1)),iW a2] []) (V9 a0 a1 a2) PB:=by
  obtain ⟨d,rfl,g⟩:=up hd
  refine Ay (t138 NN d _ _ _) ?_
  unfold nT V9
  refine AM (A:=fun (s:Bool)=>[.bool s]) (B:=fun s=>[]) ?_ ?_ ?_ ?_
  ·refine A7 (aF3 A5 (Ab rfl) (Ab rfl) fun l0_ l1_ l2_=>w70 (by omega) l0_ a1 a2 4) fun y1 hy1=>q_p fr<|q_j ?_ ?_
   ·first | refine Ct ?_ | skip
    exact Aj 0 rr
   ·exact A9 rfl fun x1 hx1=>q_p fr<|q_p fr<|q_p fr<|q_i (Aj 0 rr)<|Aa 0 rr
  ·intro s2
   refine AU (A:=fun (s:Bool×Int)=>[.bool s.1,iW s.2]) (B:=fun s=>[]) 0 rr ?_ ?_ ?_
   ·intro s3
    unfold TQ Gt
    exact A9 rfl fun x2 hx2=>q_p fr<|q_p fr<|As<|q_p fr<|q_i (A9 rfl fun x3 hx3=>q_p fr<|q_p fr<|A9 rfl fun x4 hx4=>q_p fr<|A7 (fun S hS=>EB (Ab rfl) A5 (Ab rfl) (AZ (Au (l0:=k1) (x:=x4))) hS fun l0_ l1_ l2_ l3_=>eL (by omega) a0 l1_ a1 2 l3_ x4) fun y2 hy2=>q_p fr<|q_i (Aj 0 rr)<|q_p fr<|Aa 0 rr)<|Am 0 rr
   ·exact fun i2 s4=>q_n (Ad (Ab rfl) rfl)<|Ap
   ·exact fun s4=>Ad (Ab rfl) rfl
  ·exact fun i1 s2=>Ap
  ·exact fun s2=>Ad (Ab rfl) rfl
def Gs (a0:List Ah) (a1:List Int) (a2:Int) (s1:Bool×Int):Option (LO (Bool×Int)):=bif decide (s1.2 < (a1.length:Int)) then (Al a1 s1.2).bind fun x1=>(Al a0 x1).bind fun x2=>bif x2.From == a2 then some (LO.ret (true,s1.2)) else some (LO.norm (s1.1,wi .i64 (s1.2 + 1))) else some (LO.exit 0 (s1.1,s1.2))
def V8 (a0:List Ah) (a1:List Int) (a2:Int):Option (Bool):=(Ar (Gs a0 a1 a2) NN (false,0)).bind (Ac (fun _=>none) (fun i1 s2=>if i1 = 0 then some false else none) (fun s2=>some s2.1))
theorem w139 {d:Nat} (hd:1≤d) (k0:Bool) (a0:List Ah) (k1:Bool) (a1:List Int) (a2:Int):Fit (R NN d 139 [.rsl k0 false (a0.map (Enc.cs k0)),.rsl k1 false (a1.map (Enc.cs k1)),iW a2] []) (V8 a0 a1 a2) PB:=by
  obtain ⟨d,rfl,g⟩:=up hd
  refine Ay (t139 NN d _ _ _) ?_
  unfold nS V8
  refine AU (A:=fun (s:Bool×Int)=>[.bool s.1,iW s.2]) (B:=fun s=>[]) 0 rr ?_ ?_ ?_
  ·intro s1
   unfold TP Gs
   exact As<|q_p fr<|q_i (A9 rfl fun x1 hx1=>q_p fr<|A9 rfl fun x2 hx2=>q_p fr<|q_p fr<|q_p fr<|q_i (Aj 0 rr)<|q_p fr<|Aa 0 rr)<|Am 0 rr
  ·exact fun i1 s2=>q_n (Ad (Ab rfl) rfl)<|Ap
  ·exact fun s2=>Ad (Ab rfl) rfl
def Gw (a0:Int) (a1:List Ah) (x1:Ah) (s5:Bool×Int):Option (LO (Bool×Int)):=bif decide (s5.2 < (x1.Refs.length:Int)) then ( ( (Al x1.Refs s5.2).bind fun x2=>(V9 a0 a1 x2).bind fun y3=>bif !y3 then some (LO.norm true) else (Al x1.Refs s5.2).bind fun x3=>(Al a1 x3).bind fun x4=>bif x4.View != x1.View then some (LO.norm true) else (CU x1.Refs 0 s5.2).bind fun ys1=>(Al x1.Refs s5.2).bind fun x5=>(Al a1 x5).bind fun x6=>(V8 a1 ys1 x6.From).bind fun y4=>some (LO.norm y4)).bind (Ac (fun s8=>bif s8 then some (LO.ret false) else some (LO.norm s5.1)) (fun i3 s8=>if i3 = 1 then some (LO.norm s5.1) else some (LO.exit i3 s5.1)) (fun s8=>some (LO.ret s5.1)))).bind (Ac (fun s9=>some (LO.norm (s9,wi .i64 (s5.2 + 1)))) (fun i4 s9=>some (LO.exit i4 (s9,s5.2))) (fun s9=>some (LO.ret (s9,s5.2)))) else some (LO.exit 0 (s5.1,s5.2))
def VS (a0:Int) (a1:List Ah) (a2:Int):Option (Bool):=(m70 a1 a2 5).bind fun y1=>bif !y1 then some false else (Al a1 a2).bind fun x1=>( ( bif decide (x1.View < 1) then some (LO.norm true) else (m71 a0 x1.View).bind fun y2=>bif x1.From != y2 then some (LO.norm true) else some (LO.norm (decide ((x1.Refs.length:Int) < (VA a0))))).bind (Ac (fun s3=>bif s3 then some (LO.ret false) else some (LO.norm false)) (fun i1 s3=>some (LO.exit i1 false)) (fun s3=>some (LO.ret false)))).bind (Ac (fun s4=>(Ar (Gw a0 a1 x1) NN (s4,0)).bind (Ac (fun _=>none) (fun i5 s10=>if i5 = 0 then some true else none) (fun s10=>some s10.1))) (fun i2 s4=>none) (fun s4=>some s4))
theorem w101 {d:Nat} (hd:6≤d) (a0:Int) (k1:Bool) (a1:List Ah) (a2:Int):Fit (R NN d 101 [iW a0,.rsl k1 false (a1.map (Enc.cs k1)),iW a2] []) (VS a0 a1 a2) PB:=by
  obtain ⟨d,rfl,g⟩:=up hd
  refine Ay (t101 NN d _ _ _) ?_
  unfold pD VS
  refine A7 (aF3 A5 (Ab rfl) (Ab rfl) fun l0_ l1_ l2_=>w70 (by omega) l0_ a1 a2 5) fun y1 hy1=>q_p fr<|q_i ?_ ?_
  ·exact Ad (Ab rfl) rfl
  ·refine A9 rfl fun x1 hx1=>AM (A:=fun (s:Bool)=>[.bool s]) (B:=fun s=>[]) ?_ ?_ ?_ ?_
   ·refine AM (A:=fun (s:Bool)=>[.bool s]) (B:=fun s=>[]) ?_ ?_ ?_ ?_
    ·exact q_q fr<|q_p fr<|q_p fr<|q_p fr<|q_j (Aa 0 rr)<|q_q fr<|q_p fr<|q_p fr<|q_q fr<|q_p fr<|q_p fr<|A7 (aF2 (Ab rfl) (Ab rfl) fun l0_ l1_=>w71 (by omega) a0 x1.View) fun y2 hy2=>q_p fr<|q_j (Aa 0 rr)<|q_q fr<|q_p fr<|q_p fr<|As<|AB (aF1 (Ab rfl) fun l0_=>eU (by omega) a0)<|q_p fr<|Aa 0 rr
    ·exact fun s3=>q_i (Aj 0 rr)<|Aa 0 rr
    ·exact fun i1 s3=>Am 0 rr
    ·exact fun s3=>Aj 0 rr
   ·intro s4
    refine AU (A:=fun (s:Bool×Int)=>[.bool s.1,iW s.2]) (B:=fun s=>[]) 0 rr ?_ ?_ ?_
    ·intro s5
     unfold Uf Gw
     refine q_q fr<|q_p fr<|q_p fr<|As<|q_p fr<|q_i ?_ ?_
     ·refine AM (A:=fun (s:Bool)=>[.bool s]) (B:=fun s=>[]) ?_ ?_ ?_ ?_
      ·refine AM (A:=fun (s:Bool)=>[.bool s]) (B:=fun s=>[]) ?_ ?_ ?_ ?_
       ·exact q_q fr<|q_p fr<|q_p fr<|A9 rfl fun x2 hx2=>q_p fr<|A7 (aF3 (Ab rfl) A5 (Ab rfl) fun l0_ l1_ l2_=>w138 (by omega) a0 l1_ a1 x2) fun y3 hy3=>q_p fr<|q_j (Aa 0 rr)<|q_q fr<|q_p fr<|q_p fr<|A9 rfl fun x3 hx3=>q_p fr<|A9 rfl fun x4 hx4=>q_p fr<|q_p fr<|q_q fr<|q_p fr<|q_p fr<|q_p fr<|q_j (Aa 0 rr)<|q_q fr<|q_p fr<|q_p fr<|Mq rfl (.inr ⟨rfl,rfl⟩) (.inl rfl) fun fl1 ys1 hys1=>q_q fr<|q_p fr<|q_p fr<|A9 rfl fun x5 hx5=>q_p fr<|A9 rfl fun x6 hx6=>q_p fr<|q_p fr<|A7 (aF3 A5 A5 (Ab rfl) fun l0_ l1_ l2_=>w139 (by omega) l0_ a1 l1_ ys1 x6.From) fun y4 hy4=>Aa 0 rr
       ·exact fun s8=>q_i (Aj 0 rr)<|Aa 0 rr
       ·exact fun i3 s8=>q_n (Aa 0 rr)<|Am 0 rr
       ·exact fun s8=>Aj 0 rr
      ·exact fun s9=>q_p fr<|Aa 0 rr
      ·exact fun i4 s9=>Am 0 rr
      ·exact fun s9=>Aj 0 rr
     ·exact Am 0 rr
    ·exact fun i5 s10=>q_n (Ad (Ab rfl) rfl)<|Ap
    ·exact fun s10=>Ad (Ab rfl) rfl
   ·exact fun i2 s4=>Ap
   ·exact fun s4=>Ad (Ab rfl) rfl
def m72 (a0:Int) (a1:List Ah) (a2:Int) (a3:Int):Option (Bool):=bif a2 == 0 then some (a3 == (-1)) else (VS a0 a1 a3).bind fun y1=>bif y1 then (Al a1 a3).bind fun x1=>some (x1.View == a2) else some false
theorem w72 {d:Nat} (hd:7≤d) (a0:Int) (k1:Bool) (a1:List Ah) (a2:Int) (a3:Int):Fit (R NN d 72 [iW a0,.rsl k1 false (a1.map (Enc.cs k1)),iW a2,iW a3] []) (m72 a0 a1 a2 a3) PB:=by
  obtain ⟨d,rfl,g⟩:=up hd
  refine Ay (t72 NN d _ _ _ _) ?_
  unfold b72 m72
  exact q_p fr<|q_i (q_p fr<|Ad (Ab rfl) rfl)<|A7 (aF3 (Ab rfl) A5 (Ab rfl) fun l0_ l1_ l2_=>w101 (by omega) a0 l1_ a1 a3) fun y1 hy1=>q_k (A9 rfl fun x1 hx1=>q_p fr<|q_p fr<|q_p fr<|Ad (Ab rfl) rfl)<|Ad (Ab rfl) rfl
def HA (a0:Int) (a1:List Ah) (a2:Int) (s1:Int×(List Int)) (s3:Bool×Int):Option (LO (Bool×Int)):=( ( bif decide (s3.2 < (a1.length:Int)) then some (LO.norm (!s3.1)) else some (LO.norm false)).bind (Ac (fun s6=>bif s6 then some (LO.norm s6) else some (LO.exit 2 s6)) (fun i1 s6=>some (LO.exit i1 s6)) (fun s6=>some (LO.ret s6)))).bind (Ac (fun s7=>( (Al a1 s3.2).bind fun x1=>( bif x1.Kind == 3 then bif x1.Slot == a2 then some (LO.norm (x1.Value == s1.1)) else some (LO.norm false) else some (LO.norm false)).bind (Ac (fun s10=>bif s10 then (QQ a0 a1 3 (⟨a2,x1.View,s1.1⟩:Ax)).bind fun y1=>some (LO.norm y1) else some (LO.norm s3.1)) (fun i3 s10=>if i3 = 3 then some (LO.norm s3.1) else some (LO.exit i3 s3.1)) (fun s10=>some (LO.ret s3.1)))).bind (Ac (fun s11=>some (LO.norm (s11,wi .i64 (s3.2 + 1)))) (fun i4 s11=>some (LO.exit i4 (s11,s3.2))) (fun s11=>some (LO.ret (s11,s3.2))))) (fun i2 s7=>some (LO.exit i2 (s3.1,s3.2))) (fun s7=>some (LO.ret (s3.1,s3.2))))
def H9 (a0:Int) (a1:List Ah) (a2:Int) (s1:Int×(List Int)):Option (LO (Int×(List Int))):=bif decide (s1.1≤12) then ( (Ar (HA a0 a1 a2 s1) NN (false,0)).bind (Ac (fun _=>none) (fun i5 s12=>if i5 = 2 then bif s12.1 then (Bu 8 s1.2 [s1.1]).bind fun z1=>some (LO.norm z1) else some (LO.norm s1.2) else if i5 = 1 then some (LO.norm s1.2) else some (LO.exit i5 s1.2)) (fun s12=>some (LO.ret s1.2)))).bind (Ac (fun s13=>some (LO.norm (wi .i64 (s1.1 + 1),s13))) (fun i6 s13=>some (LO.exit i6 (s1.1,s13))) (fun s13=>some (LO.ret (s1.1,s13)))) else some (LO.exit 0 (s1.1,s1.2))
def V1 (a0:Int) (a1:List Ah) (a2:Int):Option ((List Int)):=(Ar (H9 a0 a1 a2) NN (0,[])).bind (Ac (fun _=>none) (fun i7 s14=>if i7 = 0 then some s14.2 else none) (fun s14=>some []))
theorem w166 {d:Nat} (hd:5≤d) (a0:Int) (k1:Bool) (a1:List Ah) (a2:Int):Fit (R NN d 166 [iW a0,.rsl k1 false (a1.map (Enc.cs k1)),iW a2] []) (V1 a0 a1 a2) (P0 (fun (t:List Int)=>AV.rsl false false (t.map (Enc.cs false)))):=by
  obtain ⟨d,rfl,g⟩:=up hd
  refine Ay (t166 NN d _ _ _) ?_
  unfold mR V1
  refine q_q (fun _=>Dq)<|Dj (α:=Int) false<|BU (I:=(fun (s:Int×(List Int)) l L=>∃ (v1:AV),l = [v1,iW s.1]∧L = [sl false v1 (s.2:List Int)])) 0 ⟨(.rsl false true []),rfl,rfl⟩ ?_ ?_ ?_
  ·rintro s1 _ _ ⟨v1,rfl,rfl⟩
   unfold TC H9
   refine q_p fr<|q_i ?_ ?_
   ·refine FH (I:=(fun (s:(List Int)) l L=>∃ (v2:AV),l = [v2]∧L = [sl false v2 (s:List Int)])) ?_ ?_ ?_ ?_
    ·refine AU (A:=fun (s:Bool×Int)=>[.bool s.1,iW s.2]) (B:=fun s=>[sl false v1 (s1.2:List Int)]) 0 rr ?_ ?_ ?_
     ·intro s3
      unfold TD HA
      refine AM (A:=fun (s:Bool)=>[.bool s]) (B:=fun s=>[sl false v1 (s1.2:List Int)]) ?_ ?_ ?_ ?_
      ·refine AM (A:=fun (s:Bool)=>[.bool s]) (B:=fun s=>[sl false v1 (s1.2:List Int)]) ?_ ?_ ?_ ?_
       ·exact As<|q_p fr<|q_k (q_p fr<|Aa 0 rr)<|Aa 0 rr
       ·exact fun s6=>q_i (Aa 0 rr)<|Am 0 rr
       ·exact fun i1 s6=>Am 0 rr
       ·exact fun s6=>Aj 0 rr
      ·intro s7
       refine AM (A:=fun (s:Bool)=>[.bool s]) (B:=fun s=>[sl false v1 (s1.2:List Int)]) ?_ ?_ ?_ ?_
       ·refine A9 rfl fun x1 hx1=>AM (A:=fun (s:Bool)=>[.bool s]) (B:=fun s=>[sl false v1 (s1.2:List Int)]) ?_ ?_ ?_ ?_
        ·exact q_q fr<|q_p fr<|q_p fr<|q_p fr<|q_k (q_q fr<|q_p fr<|q_p fr<|q_p fr<|q_k (q_q fr<|q_p fr<|q_p fr<|q_p fr<|Aa 0 rr)<|Aa 0 rr)<|Aa 0 rr
        ·exact fun s10=>q_i (q_q fr<|q_p fr<|q_p fr<|q_p (fun _=>Ns rfl)<|A7 (fun S hS=>EB (Ab rfl) A5 (Ab rfl) (AZ (Ag (Ab rfl) (Ag (Ab rfl) (Ag (Ab rfl) Az)))) hS fun l0_ l1_ l2_ l3_=>eL (by omega) a0 l1_ a1 3 l3_ (⟨a2,x1.View,s1.1⟩:Ax)) fun y1 hy1=>Aa 0 rr)<|Aa 0 rr
        ·exact fun i3 s10=>q_n (Aa 0 rr)<|Am 0 rr
        ·exact fun s10=>Aj 0 rr
       ·exact fun s11=>q_p fr<|Aa 0 rr
       ·exact fun i4 s11=>Am 0 rr
       ·exact fun s11=>Aj 0 rr
      ·exact fun i2 s7=>Am 0 rr
      ·exact fun s7=>Aj 0 rr
     ·exact fun i5 s12=>q_n (q_i (q_q (fun _=>EF)<|CX (ys:=[s1.1]) 0 rfl rfl (fun _ _=>rfl) fun v2 z1 hz1=>Aa 0 ⟨v2,rfl,rfl⟩)<|Aa 0 ⟨v1,rfl,rfl⟩)<|q_n (Aa 0 ⟨v1,rfl,rfl⟩)<|Am 0 ⟨v1,rfl,rfl⟩
     ·exact fun s12=>Aj 0 ⟨v1,rfl,rfl⟩
    ·rintro s13 _ _ ⟨v3,rfl,rfl⟩
     exact q_p fr<|Aa 0 ⟨v3,rfl,rfl⟩
    ·rintro i6 s13 _ _ ⟨v4,rfl,rfl⟩
     exact Am 0 ⟨v4,rfl,rfl⟩
    ·rintro s13 _ _ ⟨v5,rfl,rfl⟩
     exact Aj 0 ⟨v5,rfl,rfl⟩
   ·exact Am 0 ⟨v1,rfl,rfl⟩
  ·rintro i7 s14 _ _ ⟨v6,rfl,rfl⟩
   exact q_n (Ad (IT 0 rfl) rfl)<|Ap
  ·rintro s14 _ _ ⟨v7,rfl,rfl⟩
   exact Ad (A5 (α:=Int) (l0:=false) (fl:=true) (xs:=[])) rfl
def HD (a0:Int) (a1:List Ah) (s1:Bool×Int×(List Int)):Option (LO (Bool×Int×(List Int))):=bif s1.1 then none else bif decide (s1.2.1≤30) then (V1 a0 a1 s1.2.1).bind fun y1=>bif (y1.length:Int) == 0 then some (LO.ret (true,s1.2.1,s1.2.2)) else (Al y1 0).bind fun x1=>(Bu 8 s1.2.2 [x1]).bind fun z1=>some (LO.norm (false,wi .i64 (s1.2.1 + 1),z1)) else some (LO.exit 0 (false,s1.2.1,s1.2.2))
def QZ (a0:Int) (a1:List Ah):Option ((List Int)):=(Ar (HD a0 a1) NN (false,1,[])).bind (Ac (fun _=>none) (fun i1 s2=>if i1 = 0 then some s2.2.2 else none) (fun s2=>some (bif s2.1 then s2.2.2 else [])))
theorem w131 {d:Nat} (hd:6≤d) (a0:Int) (k1:Bool) (a1:List Ah):Fit (R NN d 131 [iW a0,.rsl k1 false (a1.map (Enc.cs k1))] []) (QZ a0 a1) (P0 (fun (t:List Int)=>AV.rsl false false (t.map (Enc.cs false)))):=by
  obtain ⟨d,rfl,g⟩:=up hd
  refine Ay (t131 NN d _ _) ?_
  unfold n0 QZ
  refine q_q (fun _=>Dq)<|Dj (α:=Int) false<|BU (I:=(fun (s:Bool×Int×(List Int)) l L=>∃ (v1:AV),l = [(bif s.1 then v1 else AV.rsl false true []),v1,iW s.2.1]∧L = [sl false v1 (s.2.2:List Int)])) 0 ⟨(.rsl false true []),rfl,rfl⟩ ?_ ?_ ?_
  ·rintro s1 _ _ ⟨v1,rfl,rfl⟩
   unfold TR HD
   refine bH (b:=s1.1) fun hfg_=>?_
   try rw [hfg_]
   exact q_p fr<|q_i (A7 (aF3 (Ab rfl) A5 (Ab rfl) fun l0_ l1_ l2_=>w166 (by omega) a0 l1_ a1 s1.2.1) fun y1 hy1=>As<|q_p fr<|q_i (Aj 0 ⟨v1,rfl,rfl⟩)<|A9 rfl fun x1 hx1=>q_p fr<|q_q (fun _=>EF)<|CX (ys:=[x1]) 0 rfl rfl (fun _ _=>rfl) fun v2 z1 hz1=>q_p fr<|Aa 0 ⟨v2,rfl,rfl⟩)<|Am 0 ⟨v1,rfl,rfl⟩
  ·rintro i1 s2 _ _ ⟨v3,rfl,rfl⟩
   exact q_n (Ad (IT 0 rfl) rfl)<|Ap
  ·rintro s2 _ _ ⟨v4,rfl,rfl⟩
   exact Ad (cV 0 rfl) rfl
def m96 (a0:Int) (a1:List Ah) (a2:Ak):Option (Int):=( ( bif !(m94 a0 a2.Id) then some (LO.norm true) else bif !(m98 a2.View 0 20) then some (LO.norm true) else some (LO.norm (!(m98 a2.Done 0 30)))).bind (Ac (fun s3=>bif s3 then some (LO.ret 3) else some (LO.norm 0)) (fun i1 s3=>some (LO.exit i1 0)) (fun s3=>some (LO.ret 0)))).bind (Ac (fun s4=>( ( bif a2.Start != (-1) then bif a2.View == 0 then some (LO.norm true) else (m72 a0 a1 a2.View a2.Start).bind fun y1=>some (LO.norm (!y1)) else some (LO.norm false)).bind (Ac (fun s7=>bif s7 then some (LO.ret 1) else some (LO.norm s4)) (fun i3 s7=>some (LO.exit i3 s4)) (fun s7=>some (LO.ret s4)))).bind (Ac (fun s8=>( bif decide (a2.Done > 0) then (QZ a0 a1).bind fun y2=>bif decide (a2.Done > (y2.length:Int)) then some (LO.ret 8) else some (LO.norm s8) else some (LO.norm s8)).bind (Ac (fun s10=>some 0) (fun i5 s10=>none) (fun s10=>some s10))) (fun i4 s8=>none) (fun s8=>some s8))) (fun i2 s4=>none) (fun s4=>some s4))
theorem w96 {d:Nat} (hd:8≤d) (a0:Int) (k1:Bool) (a1:List Ah) (k2:Bool) (a2:Ak):Fit (R NN d 96 [iW a0,.rsl k1 false (a1.map (Enc.cs k1)),.rp k2 (Enc.cs k2 a2)] []) (m96 a0 a1 a2) PI:=by
  obtain ⟨d,rfl,g⟩:=up hd
  refine Ay (t96 NN d _ _ _) ?_
  unfold b96 m96
  refine AM (A:=fun (s:Int)=>[iW s]) (B:=fun s=>[]) ?_ ?_ ?_ ?_
  ·refine AM (A:=fun (s:Bool)=>[.bool s]) (B:=fun s=>[]) ?_ ?_ ?_ ?_
   ·exact q_q fr<|q_p fr<|q_p fr<|AB (aF2 (Ab rfl) (Ab rfl) fun l0_ l1_=>w94 (by omega) a0 a2.Id)<|q_p fr<|q_j (Aa 0 rr)<|q_q fr<|q_p fr<|q_p fr<|AB (aF3 (Ab rfl) (Ab rfl) (Ab rfl) fun l0_ l1_ l2_=>w98 (by omega) a2.View 0 20)<|q_p fr<|q_j (Aa 0 rr)<|q_q fr<|q_p fr<|q_p fr<|AB (aF3 (Ab rfl) (Ab rfl) (Ab rfl) fun l0_ l1_ l2_=>w98 (by omega) a2.Done 0 30)<|q_p fr<|Aa 0 rr
   ·exact fun s3=>q_i (Aj 0 rr)<|Aa 0 rr
   ·exact fun i1 s3=>Am 0 rr
   ·exact fun s3=>Aj 0 rr
  ·intro s4
   refine AM (A:=fun (s:Int)=>[iW s]) (B:=fun s=>[]) ?_ ?_ ?_ ?_
   ·refine AM (A:=fun (s:Bool)=>[.bool s]) (B:=fun s=>[]) ?_ ?_ ?_ ?_
    ·exact q_q fr<|q_p fr<|q_p fr<|q_p fr<|q_k (q_q fr<|q_p fr<|q_p fr<|q_p fr<|q_j (Aa 0 rr)<|q_q fr<|q_p fr<|q_p fr<|q_q fr<|q_p fr<|q_p fr<|A7 (fun S hS=>EB (Ab rfl) A5 (Ab rfl) (Ab rfl) hS fun l0_ l1_ l2_ l3_=>w72 (by omega) a0 l1_ a1 a2.View a2.Start) fun y1 hy1=>q_p fr<|Aa 0 rr)<|Aa 0 rr
    ·exact fun s7=>q_i (Aj 0 rr)<|Aa 0 rr
    ·exact fun i3 s7=>Am 0 rr
    ·exact fun s7=>Aj 0 rr
   ·intro s8
    refine AM (A:=fun (s:Int)=>[iW s]) (B:=fun s=>[]) ?_ ?_ ?_ ?_
    ·refine q_q fr<|q_p fr<|q_p fr<|q_p fr<|q_k ?_ ?_
     ·exact q_q fr<|q_p fr<|q_p fr<|A7 (aF2 (Ab rfl) A5 fun l0_ l1_=>w131 (by omega) a0 l1_ a1) fun y2 hy2=>As<|q_p fr<|q_i (Aj 0 rr)<|Aa 0 rr
     ·first | refine DN ?_ | skip
      exact Aa 0 rr
    ·exact fun s10=>Ad (Ab rfl) rfl
    ·exact fun i5 s10=>Ap
    ·exact fun s10=>Ad (Ab rfl) rfl
   ·exact fun i4 s8=>Ap
   ·exact fun s8=>Ad (Ab rfl) rfl
  ·exact fun i2 s4=>Ap
  ·exact fun s4=>Ad (Ab rfl) rfl
def Fw (a0:Ae) (s1:Int×Int×Int):Option (LO (Int×Int×Int)):=bif decide (s1.2.2≤(wi .i64 ((wi .i64 (3 * a0.F)) + 1))) then ( (m95 a0.Bad s1.2.2).bind fun y1=>bif y1 then some (LO.norm (s1.1,s1.2.1)) else ( bif decide (s1.2.1 ≥ (a0.Replicas.length:Int)) then some (LO.ret 1) else (Al a0.Replicas s1.2.1).bind fun x1=>bif x1.Id != s1.2.2 then some (LO.ret 1) else some (LO.norm s1.1)).bind (Ac (fun s4=>some (LO.norm (s4,wi .i64 (s1.2.1 + 1)))) (fun i1 s4=>if i1 = 1 then some (LO.norm (s4,s1.2.1)) else some (LO.exit i1 (s4,s1.2.1))) (fun s4=>some (LO.ret (s4,s1.2.1))))).bind (Ac (fun s5=>some (LO.norm (s5.1,s5.2,wi .i64 (s1.2.2 + 1)))) (fun i2 s5=>some (LO.exit i2 (s5.1,s5.2,s1.2.2))) (fun s5=>some (LO.ret (s5.1,s5.2,s1.2.2)))) else some (LO.exit 0 (s1.1,s1.2.1,s1.2.2))
def GM (a0:Ae) (s7:Int×Int):Option (LO (Int×Int)):=bif decide (s7.2 < (a0.Replicas.length:Int)) then (Al a0.Replicas s7.2).bind fun x2=>(m96 a0.F a0.Ledger x2).bind fun y2=>bif y2 != 0 then some (LO.ret (y2,s7.2)) else some (LO.norm (s7.1,wi .i64 (s7.2 + 1))) else some (LO.exit 2 (s7.1,s7.2))
def m67 (a0:Ae):Option (Int):=(Ar (Fw a0) NN (0,0,1)).bind (Ac (fun _=>none) (fun i3 s6=>if i3 = 0 then bif s6.2.1 != (a0.Replicas.length:Int) then some 1 else (Ar (GM a0) NN (s6.1,0)).bind (Ac (fun _=>none) (fun i4 s8=>if i4 = 2 then some 0 else none) (fun s8=>some s8.1)) else none) (fun s6=>some s6.1))
theorem w67 {d:Nat} (hd:9≤d) (k0:Bool) (a0:Ae):Fit (R NN d 67 [.rp k0 (Enc.cs k0 a0)] []) (m67 a0) PI:=by
  obtain ⟨d,rfl,g⟩:=up hd
  refine Ay (t67 NN d _) ?_
  unfold b67 m67
  refine AU (A:=fun (s:Int×Int×Int)=>[iW s.1,iW s.2.1,iW s.2.2]) (B:=fun s=>[]) 0 rr ?_ ?_ ?_
  ·intro s1
   unfold Ze Fw
   refine q_q fr<|q_p fr<|q_p fr<|q_p fr<|q_p fr<|q_p fr<|q_i ?_ ?_
   ·refine AM (A:=fun (s:Int×Int)=>[iW s.1,iW s.2]) (B:=fun s=>[]) ?_ ?_ ?_ ?_
    ·refine q_q fr<|q_p fr<|q_p fr<|A7 (aF2 A5 (Ab rfl) fun l0_ l1_=>w95 (by omega) l0_ a0.Bad s1.2.2) fun y1 hy1=>q_i ?_ ?_
     ·exact Aa 0 rr
     ·refine AM (A:=fun (s:Int)=>[iW s]) (B:=fun s=>[]) ?_ ?_ ?_ ?_
      ·refine q_q fr<|q_p fr<|q_p fr<|As<|q_p fr<|q_j ?_ ?_
       ·first | refine Ct ?_ | skip
        exact Aj 0 rr
       ·exact q_q fr<|q_p fr<|q_p fr<|A9 rfl fun x1 hx1=>q_p fr<|q_p fr<|q_p fr<|q_i (Aj 0 rr)<|Aa 0 rr
      ·exact fun s4=>q_p fr<|Aa 0 rr
      ·exact fun i1 s4=>q_n (Aa 0 rr)<|Am 0 rr
      ·exact fun s4=>Aj 0 rr
    ·exact fun s5=>q_p fr<|Aa 0 rr
    ·exact fun i2 s5=>Am 0 rr
    ·exact fun s5=>Aj 0 rr
   ·exact Am 0 rr
  ·intro i3 s6
   refine q_n ?_ ?_
   ·refine q_q fr<|q_p fr<|q_p fr<|As<|q_p fr<|q_i ?_ ?_
    ·exact Ad (Ab rfl) rfl
    ·refine AU (A:=fun (s:Int×Int)=>[iW s.1,iW s.2]) (B:=fun s=>[]) 0 rr ?_ ?_ ?_
     ·intro s7
      unfold Zd GM
      exact q_q fr<|q_p fr<|q_p fr<|As<|q_p fr<|q_i (q_q fr<|q_p fr<|q_p fr<|q_q fr<|q_p fr<|q_p fr<|q_q fr<|q_p fr<|q_p fr<|A9 rfl fun x2 hx2=>A7 (aF3 (Ab rfl) A5 (Bs (Au (l0:=k0) (x:=x2)) (fun _ _ _ h=>Enc.frz k0 x2 _ _ _ h)) fun l0_ l1_ l2_=>w96 (by omega) a0.F l1_ a0.Ledger l2_ x2) fun y2 hy2=>q_p fr<|q_i (Aj 0 rr)<|q_p fr<|Aa 0 rr)<|Am 0 rr
     ·exact fun i4 s8=>q_n (Ad (Ab rfl) rfl)<|Ap
     ·exact fun s8=>Ad (Ab rfl) rfl
   ·exact Ap
  ·exact fun s6=>Ad (Ab rfl) rfl
def m97 (a0:Int):Bool:=(m98 a0 1 9)
theorem w97 {d:Nat} (hd:2≤d) (a0:Int):Fit (R NN d 97 [iW a0] []) (some (m97 a0)) PB:=by
  obtain ⟨d,rfl,g⟩:=up hd
  refine Ay (t97 NN d _) ?_
  unfold b97 m97
  exact AB (aF3 (Ab rfl) (Ab rfl) (Ab rfl) fun l0_ l1_ l2_=>w98 (by omega) a0 1 9)<|Ad (Ab rfl) rfl
def m99 (a0:Int):Bool:=(m98 a0 0 9000)
theorem w99 {d:Nat} (hd:2≤d) (a0:Int):Fit (R NN d 99 [iW a0] []) (some (m99 a0)) PB:=by
  obtain ⟨d,rfl,g⟩:=up hd
  refine Ay (t99 NN d _) ?_
  unfold b99 m99
  exact AB (aF3 (Ab rfl) (Ab rfl) (Ab rfl) fun l0_ l1_ l2_=>w98 (by omega) a0 0 9000)<|Ad (Ab rfl) rfl
def IS (a0:Int):Bool:=(m98 a0 3 8)
theorem eW {d:Nat} (hd:2≤d) (a0:Int):Fit (R NN d 132 [iW a0] []) (some (IS a0)) PB:=by
  obtain ⟨d,rfl,g⟩:=up hd
  refine Ay (t132 NN d _) ?_
  unfold nZ IS
  exact AB (aF3 (Ab rfl) (Ab rfl) (Ab rfl) fun l0_ l1_ l2_=>w98 (by omega) a0 3 8)<|Ad (Ab rfl) rfl
def IR (a0:Int):Bool:=bif a0 == 3 then true else a0 == 5
theorem eV {d:Nat} (hd:1≤d) (a0:Int):Fit (R NN d 133 [iW a0] []) (some (IR a0)) PB:=by
  obtain ⟨d,rfl,g⟩:=up hd
  refine Ay (t133 NN d _) ?_
  unfold nY IR
  exact q_p fr<|ZD (fun h1=>Ad (Ab rfl) rfl) fun h1=>q_p fr<|Ad (Ab rfl) rfl
def HK (a0:Int):Option (Bool):=( bif a0 == 4 then some (LO.norm true) else bif a0 == 5 then some (LO.norm true) else some (LO.norm (a0 == 8))).bind (Ac (fun s2=>some s2) (fun i1 s2=>none) (fun s2=>some s2))
theorem Xw {d:Nat} (hd:1≤d) (a0:Int):Fit (R NN d 134 [iW a0] []) (HK a0) PB:=by
  obtain ⟨d,rfl,g⟩:=up hd
  refine Ay (t134 NN d _) ?_
  unfold nX HK
  refine AM (A:=fun (s:Bool)=>[.bool s]) (B:=fun s=>[]) ?_ ?_ ?_ ?_
  ·exact q_p fr<|q_j (Aa 0 rr)<|q_p fr<|q_j (Aa 0 rr)<|q_p fr<|Aa 0 rr
  ·exact fun s2=>Ad (Ab rfl) rfl
  ·exact fun i1 s2=>Ap
  ·exact fun s2=>Ad (Ab rfl) rfl
def H8 (a0:Str) (a1:Int) (s1:Int×Int×(List Str)):Option (LO (Int×Int×(List Str))):=bif decide (s1.2.1≤(a0.length:Int)) then ( bif s1.2.1 == (a0.length:Int) then (CU a0 s1.1 s1.2.1).bind fun t2=>(Bu 16 s1.2.2 [t2]).bind fun z2=>some (LO.norm (wi .i64 (s1.2.1 + 1),z2)) else (Al a0 s1.2.1).bind fun c1=>bif (c1.toNat:Int) == a1 then (CU a0 s1.1 s1.2.1).bind fun t1=>(Bu 16 s1.2.2 [t1]).bind fun z1=>some (LO.norm (wi .i64 (s1.2.1 + 1),z1)) else some (LO.norm (s1.1,s1.2.2))).bind (Ac (fun s3=>some (LO.norm (s3.1,wi .i64 (s1.2.1 + 1),s3.2))) (fun i1 s3=>some (LO.exit i1 (s3.1,s1.2.1,s3.2))) (fun s3=>some (LO.ret (s3.1,s1.2.1,s3.2)))) else some (LO.exit 0 (s1.1,s1.2.1,s1.2.2))
def QR (a0:Str) (a1:Int):Option ((List Str)):=(Ar (H8 a0 a1) NN (0,0,[])).bind (Ac (fun _=>none) (fun i2 s4=>if i2 = 0 then some s4.2.2 else none) (fun s4=>some []))
theorem eM {d:Nat} (hd:1≤d) (a0:Str) (a1:Int):Fit (R NN d 167 [Bo a0,.int .u8 a1] []) (QR a0 a1) (P0 (fun (t:List Str)=>AV.rsl false false (t.map (Enc.cs false)))):=by
  obtain ⟨d,rfl,g⟩:=up hd
  refine Ay (t167 NN d _ _) ?_
  unfold mQ QR
  refine q_q (fun _=>OH)<|Dj (α:=Str) false<|BU (I:=(fun (s:Int×Int×(List Str)) l L=>∃ (v1:AV),l = [v1,iW s.1,iW s.2.1]∧L = [sl false v1 (s.2.2:List Str)])) 0 ⟨(.rsl false true []),rfl,rfl⟩ ?_ ?_ ?_
  ·rintro s1 _ _ ⟨v1,rfl,rfl⟩
   unfold TA H8
   refine Eg<|q_p fr<|q_i ?_ ?_
   ·refine FH (I:=(fun (s:Int×(List Str)) l L=>∃ (v2:AV),l = [v2,iW s.1]∧L = [sl false v2 (s.2:List Str)])) ?_ ?_ ?_ ?_
    ·refine Eg<|q_p fr<|q_j ?_ ?_
     ·first | refine Ct ?_ | skip
      exact Ll (.inl rfl) (.inl rfl) fun t2 ht2=>q_q (fun _=>OG)<|CX (ys:=[t2]) 0 rfl rfl (fun _ _=>rfl) fun v3 z2 hz2=>q_p fr<|Aa 0 ⟨v3,rfl,rfl⟩
     ·exact Hj fun c1 hc1=>q_p fr<|q_i (Ll (.inl rfl) (.inl rfl) fun t1 ht1=>q_q (fun _=>OG)<|CX (ys:=[t1]) 0 rfl rfl (fun _ _=>rfl) fun v2 z1 hz1=>q_p fr<|Aa 0 ⟨v2,rfl,rfl⟩)<|Aa 0 ⟨v1,rfl,rfl⟩
    ·rintro s3 _ _ ⟨v4,rfl,rfl⟩
     exact q_p fr<|Aa 0 ⟨v4,rfl,rfl⟩
    ·rintro i1 s3 _ _ ⟨v5,rfl,rfl⟩
     exact Am 0 ⟨v5,rfl,rfl⟩
    ·rintro s3 _ _ ⟨v6,rfl,rfl⟩
     exact Aj 0 ⟨v6,rfl,rfl⟩
   ·exact Am 0 ⟨v1,rfl,rfl⟩
  ·rintro i2 s4 _ _ ⟨v7,rfl,rfl⟩
   exact q_n (Ad (IT 0 rfl) rfl)<|Ap
  ·rintro s4 _ _ ⟨v8,rfl,rfl⟩
   exact Ad (A5 (α:=Str) (l0:=false) (fl:=true) (xs:=[])) rfl
def Jg (a0:Str) (s1:Bool×Int):Option (LO (Bool×Int)):=bif decide (s1.2 < (a0.length:Int)) then ( ( (Al a0 s1.2).bind fun c1=>bif decide ((c1.toNat:Int) < 97) then (Al a0 s1.2).bind fun c5=>bif decide ((c5.toNat:Int) < 48) then some (LO.norm true) else (Al a0 s1.2).bind fun c6=>some (LO.norm (decide ((c6.toNat:Int) > 57))) else (Al a0 s1.2).bind fun c2=>bif decide ((c2.toNat:Int) > 122) then (Al a0 s1.2).bind fun c3=>bif decide ((c3.toNat:Int) < 48) then some (LO.norm true) else (Al a0 s1.2).bind fun c4=>some (LO.norm (decide ((c4.toNat:Int) > 57))) else some (LO.norm false)).bind (Ac (fun s4=>bif s4 then some (LO.ret false) else some (LO.norm s1.1)) (fun i1 s4=>if i1 = 1 then some (LO.norm s1.1) else some (LO.exit i1 s1.1)) (fun s4=>some (LO.ret s1.1)))).bind (Ac (fun s5=>some (LO.norm (s5,wi .i64 (s1.2 + 1)))) (fun i2 s5=>some (LO.exit i2 (s5,s1.2))) (fun s5=>some (LO.ret (s5,s1.2)))) else some (LO.exit 0 (s1.1,s1.2))
def MG (a0:Str):Option (Bool):=(Ar (Jg a0) NN (false,0)).bind (Ac (fun _=>none) (fun i3 s6=>if i3 = 0 then some (m98 (a0.length:Int) 1 8) else none) (fun s6=>some s6.1))
theorem w193 {d:Nat} (hd:2≤d) (a0:Str):Fit (R NN d 193 [Bo a0] []) (MG a0) PB:=by
  obtain ⟨d,rfl,g⟩:=up hd
  refine Ay (t193 NN d _) ?_
  unfold lP MG
  refine AU (A:=fun (s:Bool×Int)=>[.bool s.1,iW s.2]) (B:=fun s=>[]) 0 rr ?_ ?_ ?_
  ·intro s1
   unfold Tx Jg
   refine Eg<|q_p fr<|q_i ?_ ?_
   ·refine AM (A:=fun (s:Bool)=>[.bool s]) (B:=fun s=>[]) ?_ ?_ ?_ ?_
    ·refine AM (A:=fun (s:Bool)=>[.bool s]) (B:=fun s=>[]) ?_ ?_ ?_ ?_
     ·exact Hj fun c1 hc1=>q_p fr<|q_j (Hj fun c5 hc5=>q_p fr<|q_j (Aa 0 rr)<|Hj fun c6 hc6=>q_p fr<|Aa 0 rr)<|Hj fun c2 hc2=>q_p fr<|q_k (Hj fun c3 hc3=>q_p fr<|q_j (Aa 0 rr)<|Hj fun c4 hc4=>q_p fr<|Aa 0 rr)<|Aa 0 rr
     ·exact fun s4=>q_i (Aj 0 rr)<|Aa 0 rr
     ·exact fun i1 s4=>q_n (Aa 0 rr)<|Am 0 rr
     ·exact fun s4=>Aj 0 rr
    ·exact fun s5=>q_p fr<|Aa 0 rr
    ·exact fun i2 s5=>Am 0 rr
    ·exact fun s5=>Aj 0 rr
   ·exact Am 0 rr
  ·exact fun i3 s6=>q_n (Eg<|AB (aF3 (Ab rfl) (Ab rfl) (Ab rfl) fun l0_ l1_ l2_=>w98 (by omega) (a0.length:Int) 1 8)<|Ad (Ab rfl) rfl)<|Ap
  ·exact fun s6=>Ad (Ab rfl) rfl
def Gq (y1:(List Str)) (s3:(List Str)×Bool×Int):Option (LO ((List Str)×Bool×Int)):=bif decide (s3.2.2 < (y1.length:Int)) then (Al y1 s3.2.2).bind fun x2=>(MG x2).bind fun y2=>bif !y2 then some (LO.ret ([],false,s3.2.2)) else some (LO.norm (s3.1,s3.2.1,wi .i64 (s3.2.2 + 1))) else some (LO.exit 0 (s3.1,s3.2.1,s3.2.2))
def Vz (a0:Str):Option ((List Str)×Bool):=bif a0 == ([47]:Str) then some ([],true) else (QR a0 47).bind fun y1=>( bif decide ((y1.length:Int) < 2) then some (LO.ret ([],false)) else (Al y1 0).bind fun x1=>bif !(x1 == ([]:Str)) then some (LO.ret ([],false)) else some (LO.norm ([],false))).bind (Ac (fun s2=>(Ar (Gq y1) NN (s2.1,s2.2,1)).bind (Ac (fun _=>none) (fun i2 s4=>if i2 = 0 then (CU y1 1 (y1.length:Int)).bind fun ys1=>some (ys1,true) else none) (fun s4=>some (s4.1,s4.2.1)))) (fun i1 s2=>none) (fun s2=>some (s2.1,s2.2)))
theorem w168 {d:Nat} (hd:3≤d) (a0:Str):Fit (R NN d 168 [Bo a0] []) (Vz a0) (P0 (fun (t:(List Str)×Bool)=>AV.tup [.rsl false false (t.1.map (Enc.cs false)),.bool t.2])):=by
  obtain ⟨d,rfl,g⟩:=up hd
  refine Ay (t168 NN d _) ?_
  unfold mP Vz
  refine q_p (fun _=>Lh)<|q_i ?_ ?_
  ·exact q_q (fun _=>OH)<|Ad (DR (Ag (A5 (α:=Str) (l0:=false) (fl:=true) (xs:=[])) (Ag (Ab rfl) Az))) rfl
  ·refine A7 (aF2 (Ab rfl) (Ab rfl) fun l0_ l1_=>eM (by omega) a0 47) fun y1 hy1=>FH (I:=(fun (s:(List Str)×Bool) l L=>∃ (fl1:Bool),l = [.rsl false fl1 (s.1.map (Enc.cs false)),.bool s.2]∧L = [])) ?_ ?_ ?_ ?_
   ·refine As<|q_p fr<|q_j ?_ ?_
    ·first | refine Ct ?_ | skip
     exact Aj 0 ⟨true,rfl,rfl⟩
    ·exact A9 rfl fun x1 hx1=>q_p fr<|q_p (fun _=>Gi)<|q_i (Aj 0 ⟨true,rfl,rfl⟩)<|Aa 0 ⟨true,rfl,rfl⟩
   ·rintro s2 _ _ ⟨fl1,rfl,rfl⟩
    refine BU (I:=(fun (s:(List Str)×Bool×Int) l L=>∃ (fl2:Bool),l = [.rsl false fl2 (s.1.map (Enc.cs false)),.bool s.2.1,iW s.2.2]∧L = [])) 0 ⟨fl1,rfl,rfl⟩ ?_ ?_ ?_
    ·rintro s3 _ _ ⟨fl2,rfl,rfl⟩
     unfold T9 Gq
     exact As<|q_p fr<|q_i (A9 rfl fun x2 hx2=>q_p fr<|A7 (aF1 (Ab rfl) fun l0_=>w193 (by omega) x2) fun y2 hy2=>q_p fr<|q_i (Aj 0 ⟨true,rfl,rfl⟩)<|q_p fr<|Aa 0 ⟨fl2,rfl,rfl⟩)<|Am 0 ⟨fl2,rfl,rfl⟩
    ·rintro i2 s4 _ _ ⟨fl3,rfl,rfl⟩
     exact q_n (Mq rfl (.inl rfl) (.inr ⟨rfl,rfl⟩) fun fl4 ys1 hys1=>Ad (DR (Ag A5 (Ag (Ab rfl) Az))) rfl)<|Ap
    ·rintro s4 _ _ ⟨fl5,rfl,rfl⟩
     exact Ad (DR (Ag A5 (Ag (Ab rfl) Az))) rfl
   ·rintro i1 s2 _ _ ⟨fl6,rfl,rfl⟩
    exact Ap
   ·rintro s2 _ _ ⟨fl7,rfl,rfl⟩
    exact Ad (DR (Ag A5 (Ag (Ab rfl) Az))) rfl
def QY (a0:Str):Option (Int):=( ( bif decide ((a0.length:Int) > 24) then some (LO.norm true) else bif !(a0 == ([47]:Str)) then (QR a0 47).bind fun y1=>some (LO.norm (decide ((y1.length:Int) > 5))) else some (LO.norm false)).bind (Ac (fun s3=>bif s3 then some (LO.ret 2) else some (LO.norm 0)) (fun i1 s3=>some (LO.exit i1 0)) (fun s3=>some (LO.ret 0)))).bind (Ac (fun s4=>(Vz a0).bind fun y2=>bif !y2.2 then some 5 else some 0) (fun i2 s4=>none) (fun s4=>some s4))
theorem w135 {d:Nat} (hd:4≤d) (a0:Str):Fit (R NN d 135 [Bo a0] []) (QY a0) PI:=by
  obtain ⟨d,rfl,g⟩:=up hd
  refine Ay (t135 NN d _) ?_
  unfold nW QY
  refine AM (A:=fun (s:Int)=>[iW s]) (B:=fun s=>[]) ?_ ?_ ?_ ?_
  ·refine AM (A:=fun (s:Bool)=>[.bool s]) (B:=fun s=>[]) ?_ ?_ ?_ ?_
   ·exact Eg<|q_p fr<|q_j (Aa 0 rr)<|q_p (fun _=>Gi)<|q_k (A7 (aF2 (Ab rfl) (Ab rfl) fun l0_ l1_=>eM (by omega) a0 47) fun y1 hy1=>As<|q_p fr<|Aa 0 rr)<|Aa 0 rr
   ·exact fun s3=>q_i (Aj 0 rr)<|Aa 0 rr
   ·exact fun i1 s3=>Am 0 rr
   ·exact fun s3=>Aj 0 rr
  ·exact fun s4=>A7 (aF1 (Ab rfl) fun l0_=>w168 (by omega) a0) fun y2 hy2=>q_q fr<|q_q fr<|q_p fr<|q_i (Ad (Ab rfl) rfl)<|Ad (Ab rfl) rfl
  ·exact fun i2 s4=>Ap
  ·exact fun s4=>Ad (Ab rfl) rfl
def QX (a0:Int):Bool:=(m98 a0 0 9999)
theorem w136 {d:Nat} (hd:2≤d) (a0:Int):Fit (R NN d 136 [iW a0] []) (some (QX a0)) PB:=by
  obtain ⟨d,rfl,g⟩:=up hd
  refine Ay (t136 NN d _) ?_
  unfold nV QX
  exact AB (aF3 (Ab rfl) (Ab rfl) (Ab rfl) fun l0_ l1_ l2_=>w98 (by omega) a0 0 9999)<|Ad (Ab rfl) rfl
def Lx (a0:TOp):Option (Int):=bif !(m98 a0.Kind 1 8) then some 1 else ( ( bif !(IS a0.Kind) then bif !(a0.Path == ([]:Str)) then some (LO.norm true) else bif !(IR a0.Kind) then bif a0.Data != 0 then some (LO.norm true) else (HK a0.Kind).bind fun y1=>bif !y1 then bif a0.Version != 0 then some (LO.norm true) else bif a0.Kind != 3 then bif a0.Seq then some (LO.norm true) else some (LO.norm a0.Own) else some (LO.norm false) else bif a0.Kind != 3 then bif a0.Seq then some (LO.norm true) else some (LO.norm a0.Own) else some (LO.norm false) else (HK a0.Kind).bind fun y2=>bif !y2 then bif a0.Version != 0 then some (LO.norm true) else bif a0.Kind != 3 then bif a0.Seq then some (LO.norm true) else some (LO.norm a0.Own) else some (LO.norm false) else bif a0.Kind != 3 then bif a0.Seq then some (LO.norm true) else some (LO.norm a0.Own) else some (LO.norm false) else bif !(IR a0.Kind) then bif a0.Data != 0 then some (LO.norm true) else (HK a0.Kind).bind fun y3=>bif !y3 then bif a0.Version != 0 then some (LO.norm true) else bif a0.Kind != 3 then bif a0.Seq then some (LO.norm true) else some (LO.norm a0.Own) else some (LO.norm false) else bif a0.Kind != 3 then bif a0.Seq then some (LO.norm true) else some (LO.norm a0.Own) else some (LO.norm false) else (HK a0.Kind).bind fun y4=>bif !y4 then bif a0.Version != 0 then some (LO.norm true) else bif a0.Kind != 3 then bif a0.Seq then some (LO.norm true) else some (LO.norm a0.Own) else some (LO.norm false) else bif a0.Kind != 3 then bif a0.Seq then some (LO.norm true) else some (LO.norm a0.Own) else some (LO.norm false)).bind (Ac (fun s3=>bif s3 then some (LO.ret 1) else some (LO.norm 0)) (fun i1 s3=>some (LO.exit i1 0)) (fun s3=>some (LO.ret 0)))).bind (Ac (fun s4=>( bif (IS a0.Kind) then (QY a0.Path).bind fun y5=>bif y5 != 0 then some (LO.ret y5) else some (LO.norm s4) else some (LO.norm s4)).bind (Ac (fun s6=>( bif !(QX a0.Data) then some (LO.ret 3) else bif !(m98 a0.Version (-1) 999) then some (LO.ret 3) else some (LO.norm s6)).bind (Ac (fun s8=>some 0) (fun i4 s8=>none) (fun s8=>some s8))) (fun i3 s6=>none) (fun s6=>some s6))) (fun i2 s4=>none) (fun s4=>some s4))
theorem w100 {d:Nat} (hd:5≤d) (k0:Bool) (a0:TOp):Fit (R NN d 100 [.rp k0 (Enc.cs k0 a0)] []) (Lx a0) PI:=by
  obtain ⟨d,rfl,g⟩:=up hd
  refine Ay (t100 NN d _) ?_
  unfold pE Lx
  refine q_q fr<|q_p fr<|q_p fr<|AB (aF3 (Ab rfl) (Ab rfl) (Ab rfl) fun l0_ l1_ l2_=>w98 (by omega) a0.Kind 1 8)<|q_p fr<|q_i ?_ ?_
  ·exact Ad (Ab rfl) rfl
  ·refine AM (A:=fun (s:Int)=>[iW s]) (B:=fun s=>[]) ?_ ?_ ?_ ?_
   ·refine AM (A:=fun (s:Bool)=>[.bool s]) (B:=fun s=>[]) ?_ ?_ ?_ ?_
    ·exact q_q fr<|q_p fr<|q_p fr<|AB (aF1 (Ab rfl) fun l0_=>eW (by omega) a0.Kind)<|q_p fr<|q_k (q_q fr<|q_p fr<|q_p fr<|q_p (fun _=>Gi)<|q_j (Aa 0 rr)<|q_q fr<|q_p fr<|q_p fr<|AB (aF1 (Ab rfl) fun l0_=>eV (by omega) a0.Kind)<|q_p fr<|q_k (q_q fr<|q_p fr<|q_p fr<|q_p fr<|q_j (Aa 0 rr)<|q_q fr<|q_p fr<|q_p fr<|A7 (aF1 (Ab rfl) fun l0_=>Xw (by omega) a0.Kind) fun y1 hy1=>q_p fr<|q_k (q_q fr<|q_p fr<|q_p fr<|q_p fr<|q_j (Aa 0 rr)<|q_q fr<|q_p fr<|q_p fr<|q_p fr<|q_k (q_q fr<|q_p fr<|q_p fr<|q_j (Aa 0 rr)<|q_q fr<|q_p fr<|q_p fr<|Aa 0 rr)<|Aa 0 rr)<|q_q fr<|q_p fr<|q_p fr<|q_p fr<|q_k (q_q fr<|q_p fr<|q_p fr<|q_j (Aa 0 rr)<|q_q fr<|q_p fr<|q_p fr<|Aa 0 rr)<|Aa 0 rr)<|q_q fr<|q_p fr<|q_p fr<|A7 (aF1 (Ab rfl) fun l0_=>Xw (by omega) a0.Kind) fun y2 hy2=>q_p fr<|q_k (q_q fr<|q_p fr<|q_p fr<|q_p fr<|q_j (Aa 0 rr)<|q_q fr<|q_p fr<|q_p fr<|q_p fr<|q_k (q_q fr<|q_p fr<|q_p fr<|q_j (Aa 0 rr)<|q_q fr<|q_p fr<|q_p fr<|Aa 0 rr)<|Aa 0 rr)<|q_q fr<|q_p fr<|q_p fr<|q_p fr<|q_k (q_q fr<|q_p fr<|q_p fr<|q_j (Aa 0 rr)<|q_q fr<|q_p fr<|q_p fr<|Aa 0 rr)<|Aa 0 rr)<|q_q fr<|q_p fr<|q_p fr<|AB (aF1 (Ab rfl) fun l0_=>eV (by omega) a0.Kind)<|q_p fr<|q_k (q_q fr<|q_p fr<|q_p fr<|q_p fr<|q_j (Aa 0 rr)<|q_q fr<|q_p fr<|q_p fr<|A7 (aF1 (Ab rfl) fun l0_=>Xw (by omega) a0.Kind) fun y3 hy3=>q_p fr<|q_k (q_q fr<|q_p fr<|q_p fr<|q_p fr<|q_j (Aa 0 rr)<|q_q fr<|q_p fr<|q_p fr<|q_p fr<|q_k (q_q fr<|q_p fr<|q_p fr<|q_j (Aa 0 rr)<|q_q fr<|q_p fr<|q_p fr<|Aa 0 rr)<|Aa 0 rr)<|q_q fr<|q_p fr<|q_p fr<|q_p fr<|q_k (q_q fr<|q_p fr<|q_p fr<|q_j (Aa 0 rr)<|q_q fr<|q_p fr<|q_p fr<|Aa 0 rr)<|Aa 0 rr)<|q_q fr<|q_p fr<|q_p fr<|A7 (aF1 (Ab rfl) fun l0_=>Xw (by omega) a0.Kind) fun y4 hy4=>q_p fr<|q_k (q_q fr<|q_p fr<|q_p fr<|q_p fr<|q_j (Aa 0 rr)<|q_q fr<|q_p fr<|q_p fr<|q_p fr<|q_k (q_q fr<|q_p fr<|q_p fr<|q_j (Aa 0 rr)<|q_q fr<|q_p fr<|q_p fr<|Aa 0 rr)<|Aa 0 rr)<|q_q fr<|q_p fr<|q_p fr<|q_p fr<|q_k (q_q fr<|q_p fr<|q_p fr<|q_j (Aa 0 rr)<|q_q fr<|q_p fr<|q_p fr<|Aa 0 rr)<|Aa 0 rr
    ·exact fun s3=>q_i (Aj 0 rr)<|Aa 0 rr
    ·exact fun i1 s3=>Am 0 rr
    ·exact fun s3=>Aj 0 rr
   ·intro s4
    refine AM (A:=fun (s:Int)=>[iW s]) (B:=fun s=>[]) ?_ ?_ ?_ ?_
    ·exact q_q fr<|q_p fr<|q_p fr<|AB (aF1 (Ab rfl) fun l0_=>eW (by omega) a0.Kind)<|q_i (q_q fr<|q_p fr<|q_p fr<|A7 (aF1 (Ab rfl) fun l0_=>w135 (by omega) a0.Path) fun y5 hy5=>q_p fr<|q_i (Aj 0 rr)<|Aa 0 rr)<|Aa 0 rr
    ·intro s6
     refine AM (A:=fun (s:Int)=>[iW s]) (B:=fun s=>[]) ?_ ?_ ?_ ?_
     ·refine q_q fr<|q_p fr<|q_p fr<|AB (aF1 (Ab rfl) fun l0_=>w136 (by omega) a0.Data)<|q_p fr<|q_j ?_ ?_
      ·first | refine Ct ?_ | skip
       exact Aj 0 rr
      ·exact q_q fr<|q_p fr<|q_p fr<|AB (aF3 (Ab rfl) (Ab rfl) (Ab rfl) fun l0_ l1_ l2_=>w98 (by omega) a0.Version (-1) 999)<|q_p fr<|q_i (Aj 0 rr)<|Aa 0 rr
     ·exact fun s8=>Ad (Ab rfl) rfl
     ·exact fun i4 s8=>Ap
     ·exact fun s8=>Ad (Ab rfl) rfl
    ·exact fun i3 s6=>Ap
    ·exact fun s6=>Ad (Ab rfl) rfl
   ·exact fun i2 s4=>Ap
   ·exact fun s4=>Ad (Ab rfl) rfl
def FZ (a0:Af) (s7:Int×Int):Option (LO (Int×Int)):=bif decide (s7.2 < (a0.Ops.length:Int)) then (Al a0.Ops s7.2).bind fun x1=>(Lx x1).bind fun y1=>bif y1 != 0 then some (LO.ret (y1,s7.2)) else some (LO.norm (s7.1,wi .i64 (s7.2 + 1))) else some (LO.exit 0 (s7.1,s7.2))
def Fv (a0:Af) (s9:Int×Int):Option (LO (Int×Int)):=( ( bif decide (s9.2 < (a0.Ops.length:Int)) then some (LO.norm (decide ((a0.Ops.length:Int) > 1))) else some (LO.norm false)).bind (Ac (fun s12=>bif s12 then some (LO.norm s12) else some (LO.exit 2 s12)) (fun i5 s12=>some (LO.exit i5 s12)) (fun s12=>some (LO.ret s12)))).bind (Ac (fun s13=>(Al a0.Ops s9.2).bind fun x2=>bif decide (x2.Kind≤2) then some (LO.ret (1,s9.2)) else some (LO.norm (s9.1,wi .i64 (s9.2 + 1)))) (fun i6 s13=>some (LO.exit i6 (s9.1,s9.2))) (fun s13=>some (LO.ret (s9.1,s9.2))))
def m68 (a0:Af):Option (Int):=( ( bif !(m97 a0.Client) then some (LO.norm true) else bif !(m98 a0.Number 1 99) then some (LO.norm true) else some (LO.norm (!(m99 a0.Time)))).bind (Ac (fun s3=>bif s3 then some (LO.ret 3) else some (LO.norm 0)) (fun i1 s3=>some (LO.exit i1 0)) (fun s3=>some (LO.ret 0)))).bind (Ac (fun s4=>( bif decide ((a0.Ops.length:Int) < 1) then some (LO.ret 2) else bif decide ((a0.Ops.length:Int) > 3) then some (LO.ret 2) else some (LO.norm s4)).bind (Ac (fun s6=>(Ar (FZ a0) NN (s6,0)).bind (Ac (fun _=>none) (fun i4 s8=>if i4 = 0 then (Ar (Fv a0) NN (s8.1,0)).bind (Ac (fun _=>none) (fun i7 s14=>if i7 = 2 then some 0 else none) (fun s14=>some s14.1)) else none) (fun s8=>some s8.1))) (fun i3 s6=>none) (fun s6=>some s6))) (fun i2 s4=>none) (fun s4=>some s4))
theorem w68 {d:Nat} (hd:6≤d) (k0:Bool) (a0:Af):Fit (R NN d 68 [.rp k0 (Enc.cs k0 a0)] []) (m68 a0) PI:=by
  obtain ⟨d,rfl,g⟩:=up hd
  refine Ay (t68 NN d _) ?_
  unfold b68 m68
  refine AM (A:=fun (s:Int)=>[iW s]) (B:=fun s=>[]) ?_ ?_ ?_ ?_
  ·refine AM (A:=fun (s:Bool)=>[.bool s]) (B:=fun s=>[]) ?_ ?_ ?_ ?_
   ·exact q_q fr<|q_p fr<|q_p fr<|AB (aF1 (Ab rfl) fun l0_=>w97 (by omega) a0.Client)<|q_p fr<|q_j (Aa 0 rr)<|q_q fr<|q_p fr<|q_p fr<|AB (aF3 (Ab rfl) (Ab rfl) (Ab rfl) fun l0_ l1_ l2_=>w98 (by omega) a0.Number 1 99)<|q_p fr<|q_j (Aa 0 rr)<|q_q fr<|q_p fr<|q_p fr<|AB (aF1 (Ab rfl) fun l0_=>w99 (by omega) a0.Time)<|q_p fr<|Aa 0 rr
   ·exact fun s3=>q_i (Aj 0 rr)<|Aa 0 rr
   ·exact fun i1 s3=>Am 0 rr
   ·exact fun s3=>Aj 0 rr
  ·intro s4
   refine AM (A:=fun (s:Int)=>[iW s]) (B:=fun s=>[]) ?_ ?_ ?_ ?_
   ·refine q_q fr<|q_p fr<|q_p fr<|As<|q_p fr<|q_j ?_ ?_
    ·first | refine Ct ?_ | skip
     exact Aj 0 rr
    ·exact q_q fr<|q_p fr<|q_p fr<|As<|q_p fr<|q_i (Aj 0 rr)<|Aa 0 rr
   ·intro s6
    refine AU (A:=fun (s:Int×Int)=>[iW s.1,iW s.2]) (B:=fun s=>[]) 0 rr ?_ ?_ ?_
    ·intro s7
     unfold Zc FZ
     exact q_q fr<|q_p fr<|q_p fr<|As<|q_p fr<|q_i (q_q fr<|q_p fr<|q_p fr<|A9 rfl fun x1 hx1=>A7 (aF1 (Bs (Au (l0:=k0) (x:=x1)) (fun _ _ _ h=>Enc.frz k0 x1 _ _ _ h)) fun l0_=>w100 (by omega) l0_ x1) fun y1 hy1=>q_p fr<|q_i (Aj 0 rr)<|q_p fr<|Aa 0 rr)<|Am 0 rr
    ·intro i4 s8
     refine q_n ?_ ?_
     ·refine AU (A:=fun (s:Int×Int)=>[iW s.1,iW s.2]) (B:=fun s=>[]) 0 rr ?_ ?_ ?_
      ·intro s9
       unfold Zb Fv
       refine AM (A:=fun (s:Bool)=>[.bool s]) (B:=fun s=>[]) ?_ ?_ ?_ ?_
       ·refine AM (A:=fun (s:Bool)=>[.bool s]) (B:=fun s=>[]) ?_ ?_ ?_ ?_
        ·exact q_q fr<|q_p fr<|q_p fr<|As<|q_p fr<|q_k (q_q fr<|q_p fr<|q_p fr<|As<|q_p fr<|Aa 0 rr)<|Aa 0 rr
        ·exact fun s12=>q_i (Aa 0 rr)<|Am 0 rr
        ·exact fun i5 s12=>Am 0 rr
        ·exact fun s12=>Aj 0 rr
       ·exact fun s13=>q_q fr<|q_p fr<|q_p fr<|A9 rfl fun x2 hx2=>q_p fr<|q_p fr<|q_p fr<|q_i (Aj 0 rr)<|q_p fr<|Aa 0 rr
       ·exact fun i6 s13=>Am 0 rr
       ·exact fun s13=>Aj 0 rr
      ·exact fun i7 s14=>q_n (Ad (Ab rfl) rfl)<|Ap
      ·exact fun s14=>Ad (Ab rfl) rfl
     ·exact Ap
    ·exact fun s8=>Ad (Ab rfl) rfl
   ·exact fun i3 s6=>Ap
   ·exact fun s6=>Ad (Ab rfl) rfl
  ·exact fun i2 s4=>Ap
  ·exact fun s4=>Ad (Ab rfl) rfl
def It (a0:List Af) (a1:Int) (a2:Int) (s1:Int×Int):Option (LO (Int×Int)):=bif decide (s1.2 < (a0.length:Int)) then ( (Al a0 s1.2).bind fun x1=>bif x1.Client == a1 then (Al a0 s1.2).bind fun x2=>bif x2.Number == a2 then some (LO.ret s1.2) else some (LO.norm s1.1) else some (LO.norm s1.1)).bind (Ac (fun s3=>some (LO.norm (s3,wi .i64 (s1.2 + 1)))) (fun i1 s3=>some (LO.exit i1 (s3,s1.2))) (fun s3=>some (LO.ret (s3,s1.2)))) else some (LO.exit 0 (s1.1,s1.2))
def m69 (a0:List Af) (a1:Int) (a2:Int):Option (Int):=(Ar (It a0 a1 a2) NN (0,0)).bind (Ac (fun _=>none) (fun i2 s4=>if i2 = 0 then some (-1) else none) (fun s4=>some s4.1))
theorem w69 {d:Nat} (hd:1≤d) (k0:Bool) (a0:List Af) (a1:Int) (a2:Int):Fit (R NN d 69 [.rsl k0 false (a0.map (Enc.cs k0)),iW a1,iW a2] []) (m69 a0 a1 a2) PI:=by
  obtain ⟨d,rfl,g⟩:=up hd
  refine Ay (t69 NN d _ _ _) ?_
  unfold b69 m69
  refine AU (A:=fun (s:Int×Int)=>[iW s.1,iW s.2]) (B:=fun s=>[]) 0 rr ?_ ?_ ?_
  ·intro s1
   unfold Za It
   refine As<|q_p fr<|q_i ?_ ?_
   ·refine AM (A:=fun (s:Int)=>[iW s]) (B:=fun s=>[]) ?_ ?_ ?_ ?_
    ·refine A9 rfl fun x1 hx1=>q_p fr<|q_p fr<|q_p fr<|q_k ?_ ?_
     ·exact A9 rfl fun x2 hx2=>q_p fr<|q_p fr<|q_p fr<|q_i (Aj 0 rr)<|Aa 0 rr
     ·first | refine DN ?_ | skip
      exact Aa 0 rr
    ·exact fun s3=>q_p fr<|Aa 0 rr
    ·exact fun i1 s3=>Am 0 rr
    ·exact fun s3=>Aj 0 rr
   ·exact Am 0 rr
  ·exact fun i2 s4=>q_n (Ad (Ab rfl) rfl)<|Ap
  ·exact fun s4=>Ad (Ab rfl) rfl
def GN (a0:Ae) (s1:Int×Int):Option (LO (Int×Int)):=bif decide (s1.2 < (a0.Requests.length:Int)) then (Al a0.Requests s1.2).bind fun x1=>(m68 x1).bind fun y4=>bif y4 != 0 then some (LO.ret (y4,s1.2)) else (Al a0.Requests s1.2).bind fun x2=>(Al a0.Requests s1.2).bind fun x3=>(m69 a0.Requests x2.Client x3.Number).bind fun y5=>bif y5 != s1.2 then some (LO.ret (6,s1.2)) else some (LO.norm (s1.1,wi .i64 (s1.2 + 1))) else some (LO.exit 0 (s1.1,s1.2))
def m38 (a0:Ae):Option (Int):=(m65 a0.F a0.Ledger).bind fun y1=>bif y1 != 0 then some y1 else bif decide ((a0.Requests.length:Int) > 12) then some 2 else (m66 a0.F a0.Bad).bind fun y2=>bif y2 != 0 then some y2 else (m67 a0).bind fun y3=>bif y3 != 0 then some y3 else (Ar (GN a0) NN (0,0)).bind (Ac (fun _=>none) (fun i1 s2=>if i1 = 0 then some 0 else none) (fun s2=>some s2.1))
theorem w38 {d:Nat} (hd:10≤d) (k0:Bool) (a0:Ae):Fit (R NN d 38 [.rp k0 (Enc.cs k0 a0)] []) (m38 a0) PI:=by
  obtain ⟨d,rfl,g⟩:=up hd
  refine Ay (t38 NN d _) ?_
  unfold b38 m38
  refine q_q fr<|q_p fr<|q_p fr<|q_q fr<|q_p fr<|q_p fr<|A7 (aF2 (Ab rfl) A5 fun l0_ l1_=>w65 (by omega) a0.F l1_ a0.Ledger) fun y1 hy1=>q_p fr<|q_i ?_ ?_
  ·exact Ad (Ab rfl) rfl
  ·refine q_q fr<|q_p fr<|q_p fr<|As<|q_p fr<|q_i ?_ ?_
   ·exact Ad (Ab rfl) rfl
   ·refine q_q fr<|q_p fr<|q_p fr<|q_q fr<|q_p fr<|q_p fr<|A7 (aF2 (Ab rfl) A5 fun l0_ l1_=>w66 (by omega) a0.F l1_ a0.Bad) fun y2 hy2=>q_p fr<|q_i ?_ ?_
    ·exact Ad (Ab rfl) rfl
    ·refine A7 (aF1 (Bs (Au (l0:=k0) (x:=a0)) (fun _ _ _ h=>Enc.frz k0 a0 _ _ _ h)) fun l0_=>w67 (by omega) l0_ a0) fun y3 hy3=>q_p fr<|q_i ?_ ?_
     ·exact Ad (Ab rfl) rfl
     ·refine AU (A:=fun (s:Int×Int)=>[iW s.1,iW s.2]) (B:=fun s=>[]) 0 rr ?_ ?_ ?_
      ·intro s1
       unfold Zq GN
       exact q_q fr<|q_p fr<|q_p fr<|As<|q_p fr<|q_i (q_q fr<|q_p fr<|q_p fr<|A9 rfl fun x1 hx1=>A7 (aF1 (Bs (Au (l0:=k0) (x:=x1)) (fun _ _ _ h=>Enc.frz k0 x1 _ _ _ h)) fun l0_=>w68 (by omega) l0_ x1) fun y4 hy4=>q_p fr<|q_i (Aj 0 rr)<|q_q fr<|q_p fr<|q_p fr<|q_q fr<|q_p fr<|q_p fr<|A9 rfl fun x2 hx2=>q_p fr<|q_p fr<|q_q fr<|q_p fr<|q_p fr<|A9 rfl fun x3 hx3=>q_p fr<|q_p fr<|A7 (aF3 A5 (Ab rfl) (Ab rfl) fun l0_ l1_ l2_=>w69 (by omega) l0_ a0.Requests x2.Client x3.Number) fun y5 hy5=>q_p fr<|q_i (Aj 0 rr)<|q_p fr<|Aa 0 rr)<|Am 0 rr
      ·exact fun i1 s2=>q_n (Ad (Ab rfl) rfl)<|Ap
      ·exact fun s2=>Ad (Ab rfl) rfl
def UV (a0:Ae) (a1:Int) (s1:Int×Int):Option (LO (Int×Int)):=bif decide (s1.2 < (a0.Replicas.length:Int)) then (Al a0.Replicas s1.2).bind fun x1=>bif x1.Id == a1 then some (LO.ret (s1.2,s1.2)) else some (LO.norm (s1.1,wi .i64 (s1.2 + 1))) else some (LO.exit 0 (s1.1,s1.2))
def m39 (a0:Ae) (a1:Int):Option (Int):=(Ar (UV a0 a1) NN (0,0)).bind (Ac (fun _=>none) (fun i1 s2=>if i1 = 0 then some (-1) else none) (fun s2=>some s2.1))
theorem w39 {d:Nat} (hd:1≤d) (k0:Bool) (a0:Ae) (a1:Int):Fit (R NN d 39 [.rp k0 (Enc.cs k0 a0),iW a1] []) (m39 a0 a1) PI:=by
  obtain ⟨d,rfl,g⟩:=up hd
  refine Ay (t39 NN d _ _) ?_
  unfold b39 m39
  refine AU (A:=fun (s:Int×Int)=>[iW s.1,iW s.2]) (B:=fun s=>[]) 0 rr ?_ ?_ ?_
  ·intro s1
   unfold Zp UV
   exact q_q fr<|q_p fr<|q_p fr<|As<|q_p fr<|q_i (q_q fr<|q_p fr<|q_p fr<|A9 rfl fun x1 hx1=>q_p fr<|q_p fr<|q_p fr<|q_i (Aj 0 rr)<|q_p fr<|Aa 0 rr)<|Am 0 rr
  ·exact fun i1 s2=>q_n (Ad (Ab rfl) rfl)<|Ap
  ·exact fun s2=>Ad (Ab rfl) rfl
def m17 (a0:Ae) (a1:Int):Option (Int×Int):=(m38 a0).bind fun y1=>bif y1 != 0 then some (0,y1) else (m39 a0 a1).bind fun y2=>bif decide (y2 < 0) then some (0,4) else some (y2,0)
theorem w17 {d:Nat} (hd:11≤d) (k0:Bool) (a0:Ae) (a1:Int):Fit (R NN d 17 [.rp k0 (Enc.cs k0 a0),iW a1] []) (m17 a0 a1) (P0 (fun (t:Int×Int)=>AV.tup [iW t.1,iW t.2])):=by
  obtain ⟨d,rfl,g⟩:=up hd
  refine Ay (t17 NN d _ _) ?_
  unfold b17 m17
  exact A7 (aF1 (Bs (Au (l0:=k0) (x:=a0)) (fun _ _ _ h=>Enc.frz k0 a0 _ _ _ h)) fun l0_=>w38 (by omega) l0_ a0) fun y1 hy1=>q_p fr<|q_i (Ad (DR (Ag (Ab rfl) (Ag (Ab rfl) Az))) rfl)<|A7 (aF2 (Bs (Au (l0:=k0) (x:=a0)) (fun _ _ _ h=>Enc.frz k0 a0 _ _ _ h)) (Ab rfl) fun l0_ l1_=>w39 (by omega) l0_ a0 a1) fun y2 hy2=>q_p fr<|q_i (Ad (DR (Ag (Ab rfl) (Ag (Ab rfl) Az))) rfl)<|Ad (DR (Ag (Ab rfl) (Ag (Ab rfl) Az))) rfl
def m18 (a0:Int):Aq:=(⟨a0,(⟨0,[],[],[],[]⟩:Ae)⟩:Aq)
theorem w18 {d:Nat} (hd:1≤d) (a0:Int):Fit (R NN d 18 [iW a0] []) (some (m18 a0)) (P0 (fun (t:Aq)=>AV.agg (Enc.cs false t))):=by
  obtain ⟨d,rfl,g⟩:=up hd
  refine Ay (t18 NN d _) ?_
  unfold b18 m18
  exact Bc rfl fun b1=>q_p (fun _=>O2 rfl)<|Bb 0 rfl rfl rfl (by decide) rfl<|EG (fun S hS=>hS.lda 0 rfl rfl) (AZ (Ag (Ab rfl) (Ag (Ab rfl) (Ag (A5 (α:=Int) (l0:=false) (fl:=true) (xs:=[])) (Ag (A5 (α:=Ak) (l0:=false) (fl:=true) (xs:=[])) (Ag (A5 (α:=Ah) (l0:=false) (fl:=true) (xs:=[])) (Ag (A5 (α:=Af) (l0:=false) (fl:=true) (xs:=[])) Az))))))) rfl
def Gr (a2:Int) (x2:Ah) (s2:Int×Int×Int):Option (LO (Int×Int×Int)):=bif decide (s2.2.2 < (x2.Certs.length:Int)) then ( (Al x2.Certs s2.2.2).bind fun x3=>bif x3.Slot == a2 then (Al x2.Certs s2.2.2).bind fun x4=>bif decide (x4.View > s2.1) then (Al x2.Certs s2.2.2).bind fun x5=>(Al x2.Certs s2.2.2).bind fun x6=>some (LO.norm (x5.View,x6.Value)) else some (LO.norm (s2.1,s2.2.1)) else some (LO.norm (s2.1,s2.2.1))).bind (Ac (fun s4=>some (LO.norm (s4.1,s4.2,wi .i64 (s2.2.2 + 1)))) (fun i1 s4=>some (LO.exit i1 (s4.1,s4.2,s2.2.2))) (fun s4=>some (LO.ret (s4.1,s4.2,s2.2.2)))) else some (LO.exit 2 (s2.1,s2.2.1,s2.2.2))
def HC (a0:List Ah) (a1:List Int) (a2:Int) (s1:Int×Int×Int):Option (LO (Int×Int×Int)):=bif decide (s1.2.2 < (a1.length:Int)) then (Al a1 s1.2.2).bind fun x1=>(Al a0 x1).bind fun x2=>(Ar (Gr a2 x2) NN (s1.1,s1.2.1,0)).bind (Ac (fun _=>none) (fun i2 s5=>if i2 = 2 then some (LO.norm (s5.1,s5.2.1,wi .i64 (s1.2.2 + 1))) else if i2 = 1 then some (LO.norm (s5.1,s5.2.1,wi .i64 (s1.2.2 + 1))) else some (LO.exit i2 (s5.1,s5.2.1,s1.2.2))) (fun s5=>some (LO.ret (s5.1,s5.2.1,s1.2.2)))) else some (LO.exit 0 (s1.1,s1.2.1,s1.2.2))
def QW (a0:List Ah) (a1:List Int) (a2:Int):Option (Int×Bool):=(Ar (HC a0 a1 a2) NN ((-1),0,0)).bind (Ac (fun _=>none) (fun i3 s6=>if i3 = 0 then some (s6.2.1,decide (s6.1 ≥ 0)) else none) (fun s6=>some (0,false)))
theorem w140 {d:Nat} (hd:1≤d) (k0:Bool) (a0:List Ah) (k1:Bool) (a1:List Int) (a2:Int):Fit (R NN d 140 [.rsl k0 false (a0.map (Enc.cs k0)),.rsl k1 false (a1.map (Enc.cs k1)),iW a2] []) (QW a0 a1 a2) (P0 (fun (t:Int×Bool)=>AV.tup [iW t.1,.bool t.2])):=by
  obtain ⟨d,rfl,g⟩:=up hd
  refine Ay (t140 NN d _ _ _) ?_
  unfold nR QW
  refine AU (A:=fun (s:Int×Int×Int)=>[iW s.1,iW s.2.1,iW s.2.2]) (B:=fun s=>[]) 0 rr ?_ ?_ ?_
  ·intro s1
   unfold TN HC
   refine As<|q_p fr<|q_i ?_ ?_
   ·refine A9 rfl fun x1 hx1=>q_p fr<|A9 rfl fun x2 hx2=>q_p fr<|q_p fr<|AU (A:=fun (s:Int×Int×Int)=>[iW s.1,iW s.2.1,iW s.2.2]) (B:=fun s=>[]) 0 rr ?_ ?_ ?_
    ·intro s2
     unfold TO Gr
     refine As<|q_p fr<|q_i ?_ ?_
     ·refine AM (A:=fun (s:Int×Int)=>[iW s.1,iW s.2]) (B:=fun s=>[]) ?_ ?_ ?_ ?_
      ·refine A9 rfl fun x3 hx3=>q_p fr<|q_p fr<|q_p fr<|q_k ?_ ?_
       ·exact A9 rfl fun x4 hx4=>q_p fr<|q_p fr<|q_p fr<|q_i (A9 rfl fun x5 hx5=>q_p fr<|q_p fr<|A9 rfl fun x6 hx6=>q_p fr<|q_p fr<|Aa 0 rr)<|Aa 0 rr
       ·first | refine DN ?_ | skip
        exact Aa 0 rr
      ·exact fun s4=>q_p fr<|Aa 0 rr
      ·exact fun i1 s4=>Am 0 rr
      ·exact fun s4=>Aj 0 rr
     ·exact Am 0 rr
    ·exact fun i2 s5=>q_n (q_p fr<|Aa 0 rr)<|q_n (q_p fr<|Aa 0 rr)<|Am 0 rr
    ·exact fun s5=>Aj 0 rr
   ·exact Am 0 rr
  ·exact fun i3 s6=>q_n (q_p fr<|Ad (DR (Ag (Ab rfl) (Ag (Ab rfl) Az))) rfl)<|Ap
  ·exact fun s6=>Ad (DR (Ag (Ab rfl) (Ag (Ab rfl) Az))) rfl
def Jk (a0:List Ah) (a1:List Int) (s1:Int×Int×(List Int)):Option (LO (Int×Int×(List Int))):=bif decide (s1.2.1≤30) then ( (QW a0 a1 s1.2.1).bind fun y1=>(Bu 8 s1.2.2 [y1.1]).bind fun z1=>bif y1.2 then some (LO.norm ((z1.length:Int),z1)) else some (LO.norm (s1.1,z1))).bind (Ac (fun s3=>some (LO.norm (s3.1,wi .i64 (s1.2.1 + 1),s3.2))) (fun i1 s3=>some (LO.exit i1 (s3.1,s1.2.1,s3.2))) (fun s3=>some (LO.ret (s3.1,s1.2.1,s3.2)))) else some (LO.exit 0 (s1.1,s1.2.1,s1.2.2))
def VQ (a0:List Ah) (a1:List Int):Option ((List Int)):=(Ar (Jk a0 a1) NN (0,1,[])).bind (Ac (fun _=>none) (fun i2 s4=>if i2 = 0 then (CU s4.2.2 0 s4.1).bind fun ys1=>some ys1 else none) (fun s4=>some []))
theorem w102 {d:Nat} (hd:2≤d) (k0:Bool) (a0:List Ah) (k1:Bool) (a1:List Int):Fit (R NN d 102 [.rsl k0 false (a0.map (Enc.cs k0)),.rsl k1 false (a1.map (Enc.cs k1))] []) (VQ a0 a1) (P0 (fun (t:List Int)=>AV.rsl false false (t.map (Enc.cs false)))):=by
  obtain ⟨d,rfl,g⟩:=up hd
  refine Ay (t102 NN d _ _) ?_
  unfold pC VQ
  refine q_q (fun _=>Dq)<|Dj (α:=Int) false<|BU (I:=(fun (s:Int×Int×(List Int)) l L=>∃ (v1:AV),l = [v1,iW s.1,iW s.2.1]∧L = [sl false v1 (s.2.2:List Int)])) 0 ⟨(.rsl false true []),rfl,rfl⟩ ?_ ?_ ?_
  ·rintro s1 _ _ ⟨v1,rfl,rfl⟩
   unfold Ue Jk
   refine q_p fr<|q_i ?_ ?_
   ·refine FH (I:=(fun (s:Int×(List Int)) l L=>∃ (v2:AV),l = [v2,iW s.1]∧L = [sl false v2 (s.2:List Int)])) ?_ ?_ ?_ ?_
    ·exact A7 (aF3 A5 A5 (Ab rfl) fun l0_ l1_ l2_=>w140 (by omega) l0_ a0 l1_ a1 s1.2.1) fun y1 hy1=>q_q fr<|q_q fr<|q_q (fun _=>EF)<|CX (ys:=[y1.1]) 0 rfl rfl (fun _ _=>rfl) fun v2 z1 hz1=>q_i (Lo 0 rfl<|Aa 0 ⟨v2,rfl,rfl⟩)<|Aa 0 ⟨v2,rfl,rfl⟩
    ·rintro s3 _ _ ⟨v3,rfl,rfl⟩
     exact q_p fr<|Aa 0 ⟨v3,rfl,rfl⟩
    ·rintro i1 s3 _ _ ⟨v4,rfl,rfl⟩
     exact Am 0 ⟨v4,rfl,rfl⟩
    ·rintro s3 _ _ ⟨v5,rfl,rfl⟩
     exact Aj 0 ⟨v5,rfl,rfl⟩
   ·exact Am 0 ⟨v1,rfl,rfl⟩
  ·rintro i2 s4 _ _ ⟨v6,rfl,rfl⟩
   exact q_n (Uv rfl (.inr ⟨rfl,rfl⟩) (.inl rfl) fun ys1 hys1=>Ad (WI 0 rfl) rfl)<|Ap
  ·rintro s4 _ _ ⟨v7,rfl,rfl⟩
   exact Ad (A5 (α:=Int) (l0:=false) (fl:=true) (xs:=[])) rfl
def m73 (a0:List Ah) (a1:Int) (a2:Int) (a3:Int):Option (Bool):=bif decide (a1 < 0) then some (decide (a3 > 0)) else (Al a0 a1).bind fun x1=>(VQ a0 x1.Refs).bind fun y1=>bif decide (a2≤(y1.length:Int)) then (Al y1 (wi .i64 (a2 - 1))).bind fun x2=>some (a3 == x2) else some (decide (a3 > 0))
theorem w73 {d:Nat} (hd:3≤d) (k0:Bool) (a0:List Ah) (a1:Int) (a2:Int) (a3:Int):Fit (R NN d 73 [.rsl k0 false (a0.map (Enc.cs k0)),iW a1,iW a2,iW a3] []) (m73 a0 a1 a2 a3) PB:=by
  obtain ⟨d,rfl,g⟩:=up hd
  refine Ay (t73 NN d _ _ _ _) ?_
  unfold b73 m73
  exact q_p fr<|q_i (q_p fr<|Ad (Ab rfl) rfl)<|A9 rfl fun x1 hx1=>q_p fr<|q_p fr<|A7 (aF2 A5 A5 fun l0_ l1_=>w102 (by omega) l0_ a0 l1_ x1.Refs) fun y1 hy1=>As<|q_p fr<|q_i (q_p fr<|A9 rfl fun x2 hx2=>q_p fr<|q_p fr<|Ad (Ab rfl) rfl)<|q_p fr<|Ad (Ab rfl) rfl
def m40 (a0:Int) (a1:List Ah) (a2:Int) (a3:Int):Option (Bool):=(m70 a1 a2 1).bind fun y1=>bif !y1 then some false else (Al a1 a2).bind fun x1=>( (m71 a0 x1.View).bind fun y2=>bif x1.From == y2 then (m72 a0 a1 x1.View a3).bind fun y3=>bif y3 then (m73 a1 a3 x1.Slot x1.Value).bind fun y4=>some (LO.norm y4) else some (LO.norm false) else some (LO.norm false)).bind (Ac (fun s2=>some s2) (fun i1 s2=>none) (fun s2=>some s2))
theorem w40 {d:Nat} (hd:8≤d) (a0:Int) (k1:Bool) (a1:List Ah) (a2:Int) (a3:Int):Fit (R NN d 40 [iW a0,.rsl k1 false (a1.map (Enc.cs k1)),iW a2,iW a3] []) (m40 a0 a1 a2 a3) PB:=by
  obtain ⟨d,rfl,g⟩:=up hd
  refine Ay (t40 NN d _ _ _ _) ?_
  unfold b40 m40
  refine A7 (aF3 A5 (Ab rfl) (Ab rfl) fun l0_ l1_ l2_=>w70 (by omega) l0_ a1 a2 1) fun y1 hy1=>q_p fr<|q_i ?_ ?_
  ·exact Ad (Ab rfl) rfl
  ·refine A9 rfl fun x1 hx1=>AM (A:=fun (s:Bool)=>[.bool s]) (B:=fun s=>[]) ?_ ?_ ?_ ?_
   ·exact q_q fr<|q_p fr<|q_p fr<|q_q fr<|q_p fr<|q_p fr<|A7 (aF2 (Ab rfl) (Ab rfl) fun l0_ l1_=>w71 (by omega) a0 x1.View) fun y2 hy2=>q_p fr<|q_k (q_q fr<|q_p fr<|q_p fr<|A7 (fun S hS=>EB (Ab rfl) A5 (Ab rfl) (Ab rfl) hS fun l0_ l1_ l2_ l3_=>w72 (by omega) a0 l1_ a1 x1.View a3) fun y3 hy3=>q_k (q_q fr<|q_p fr<|q_p fr<|q_q fr<|q_p fr<|q_p fr<|A7 (fun S hS=>EB A5 (Ab rfl) (Ab rfl) (Ab rfl) hS fun l0_ l1_ l2_ l3_=>w73 (by omega) l0_ a1 a3 x1.Slot x1.Value) fun y4 hy4=>Aa 0 rr)<|Aa 0 rr)<|Aa 0 rr
   ·exact fun s2=>Ad (Ab rfl) rfl
   ·exact fun i1 s2=>Ap
   ·exact fun s2=>Ad (Ab rfl) rfl
def Iu (a0:List Ah) (a1:Ak) (a2:Int) (a3:Int) (a4:Int) (s1:Bool×Int):Option (LO (Bool×Int)):=bif decide (s1.2 < (a0.length:Int)) then ( (Al a0 s1.2).bind fun x1=>( bif x1.Kind == a2 then bif x1.From == a1.Id then bif x1.View == a1.View then bif a3 == 0 then bif decide (a4 < 0) then some (LO.norm true) else some (LO.norm (x1.Value == a4)) else bif x1.Slot == a3 then bif decide (a4 < 0) then some (LO.norm true) else some (LO.norm (x1.Value == a4)) else some (LO.norm false) else some (LO.norm false) else some (LO.norm false) else some (LO.norm false)).bind (Ac (fun s4=>bif s4 then some (LO.ret true) else some (LO.norm s1.1)) (fun i1 s4=>if i1 = 1 then some (LO.norm s1.1) else some (LO.exit i1 s1.1)) (fun s4=>some (LO.ret s1.1)))).bind (Ac (fun s5=>some (LO.norm (s5,wi .i64 (s1.2 + 1)))) (fun i2 s5=>some (LO.exit i2 (s5,s1.2))) (fun s5=>some (LO.ret (s5,s1.2)))) else some (LO.exit 0 (s1.1,s1.2))
def m41 (a0:List Ah) (a1:Ak) (a2:Int) (a3:Int) (a4:Int):Option (Bool):=(Ar (Iu a0 a1 a2 a3 a4) NN (false,0)).bind (Ac (fun _=>none) (fun i3 s6=>if i3 = 0 then some false else none) (fun s6=>some s6.1))
theorem w41 {d:Nat} (hd:1≤d) (k0:Bool) (a0:List Ah) (k1:Bool) (a1:Ak) (a2:Int) (a3:Int) (a4:Int):Fit (R NN d 41 [.rsl k0 false (a0.map (Enc.cs k0)),.rp k1 (Enc.cs k1 a1),iW a2,iW a3,iW a4] []) (m41 a0 a1 a2 a3 a4) PB:=by
  obtain ⟨d,rfl,g⟩:=up hd
  refine Ay (t41 NN d _ _ _ _ _) ?_
  unfold b41 m41
  refine AU (A:=fun (s:Bool×Int)=>[.bool s.1,iW s.2]) (B:=fun s=>[]) 0 rr ?_ ?_ ?_
  ·intro s1
   unfold Zo Iu
   refine As<|q_p fr<|q_i ?_ ?_
   ·refine AM (A:=fun (s:Bool)=>[.bool s]) (B:=fun s=>[]) ?_ ?_ ?_ ?_
    ·refine A9 rfl fun x1 hx1=>AM (A:=fun (s:Bool)=>[.bool s]) (B:=fun s=>[]) ?_ ?_ ?_ ?_
     ·exact q_q fr<|q_p fr<|q_p fr<|q_p fr<|q_k (q_q fr<|q_p fr<|q_p fr<|q_q fr<|q_p fr<|q_p fr<|q_p fr<|q_k (q_q fr<|q_p fr<|q_p fr<|q_q fr<|q_p fr<|q_p fr<|q_p fr<|q_k (q_p fr<|q_j (q_p fr<|q_j (Aa 0 rr)<|q_q fr<|q_p fr<|q_p fr<|q_p fr<|Aa 0 rr)<|q_q fr<|q_p fr<|q_p fr<|q_p fr<|q_k (q_p fr<|q_j (Aa 0 rr)<|q_q fr<|q_p fr<|q_p fr<|q_p fr<|Aa 0 rr)<|Aa 0 rr)<|Aa 0 rr)<|Aa 0 rr)<|Aa 0 rr
     ·exact fun s4=>q_i (Aj 0 rr)<|Aa 0 rr
     ·exact fun i1 s4=>q_n (Aa 0 rr)<|Am 0 rr
     ·exact fun s4=>Aj 0 rr
    ·exact fun s5=>q_p fr<|Aa 0 rr
    ·exact fun i2 s5=>Am 0 rr
    ·exact fun s5=>Aj 0 rr
   ·exact Am 0 rr
  ·exact fun i3 s6=>q_n (Ad (Ab rfl) rfl)<|Ap
  ·exact fun s6=>Ad (Ab rfl) rfl
def m19 (a0:Int) (a1:List Ah) (a2:Ak) (a3:Int):Option (Int):=( (m40 a0 a1 a3 a2.Start).bind fun y1=>bif !y1 then some (LO.ret 1) else (Al a1 a3).bind fun x1=>bif x1.View != a2.View then some (LO.ret 1) else some (LO.norm 0)).bind (Ac (fun s2=>(Al a1 a3).bind fun x2=>(m41 a1 a2 2 x2.Slot (-1)).bind fun y2=>bif y2 then some 6 else some 0) (fun i1 s2=>none) (fun s2=>some s2))
theorem w19 {d:Nat} (hd:9≤d) (a0:Int) (k1:Bool) (a1:List Ah) (k2:Bool) (a2:Ak) (a3:Int):Fit (R NN d 19 [iW a0,.rsl k1 false (a1.map (Enc.cs k1)),.rp k2 (Enc.cs k2 a2),iW a3] []) (m19 a0 a1 a2 a3) PI:=by
  obtain ⟨d,rfl,g⟩:=up hd
  refine Ay (t19 NN d _ _ _ _) ?_
  unfold b19 m19
  refine AM (A:=fun (s:Int)=>[iW s]) (B:=fun s=>[]) ?_ ?_ ?_ ?_
  ·refine q_q fr<|q_p fr<|q_p fr<|A7 (fun S hS=>EB (Ab rfl) A5 (Ab rfl) (Ab rfl) hS fun l0_ l1_ l2_ l3_=>w40 (by omega) a0 l1_ a1 a3 a2.Start) fun y1 hy1=>q_p fr<|q_j ?_ ?_
   ·first | refine Ct ?_ | skip
    exact Aj 0 rr
   ·exact A9 rfl fun x1 hx1=>q_p fr<|q_p fr<|q_q fr<|q_p fr<|q_p fr<|q_p fr<|q_i (Aj 0 rr)<|Aa 0 rr
  ·exact fun s2=>A9 rfl fun x2 hx2=>q_p fr<|q_p fr<|A7 (fun S hS=>ZV A5 (Bs (Au (l0:=k2) (x:=a2)) (fun _ _ _ h=>Enc.frz k2 a2 _ _ _ h)) (Ab rfl) (Ab rfl) (Ab rfl) hS fun l0_ l1_ l2_ l3_ l4_=>w41 (by omega) l0_ a1 l1_ a2 2 x2.Slot (-1)) fun y2 hy2=>q_i (Ad (Ab rfl) rfl)<|Ad (Ab rfl) rfl
  ·exact fun i1 s2=>Ap
  ·exact fun s2=>Ad (Ab rfl) rfl
def m77 (a0:Ah):Option (Ah):=(Bu 24 [] a0.Certs).bind fun z1=>(Bu 8 [] a0.Refs).bind fun z2=>some (⟨a0.Kind,a0.View,a0.From,a0.Slot,a0.Value,z1,z2⟩:Ah)
theorem w77 {d:Nat} (hd:1≤d) (k0:Bool) (a0:Ah):Fit (R NN d 77 [.agg (Enc.cs k0 a0)] []) (m77 a0) (P1 (T:=Ah) AV.agg):=by
  obtain ⟨d,rfl,g⟩:=up hd
  refine Ay (t77 NN d _) ?_
  unfold b77 m77
  exact AL (n:=7) rfl rfl (by decide) fun b1=>Bc rfl fun b2=>q_q (fun _=>NQ)<|q_p fr<|Ao 1 rfl rfl<|Dj (α:=Ax) false<|CX (ys:=a0.Certs) 0 rfl rfl (fun _ _=>rfl) fun v1 z1 hz1=>q_p fr<|CM 2 rfl (fun S hS=>(HP.cell1 hS 0 rfl)) rfl<|q_q (fun _=>Dq)<|q_p fr<|Ao 2 rfl rfl<|Dj (α:=Int) false<|CX (ys:=a0.Refs) 0 rfl rfl (fun _ _=>rfl) fun v2 z2 hz2=>q_p fr<|CM 3 rfl (fun S hS=>(HP.cell1 hS 0 rfl)) rfl<|AX 3 rfl rfl rfl<|Bb 2 rfl rfl rfl (by decide) rfl<|DL (fun S hS=>hS.lda 2 rfl rfl) (DW (α:=Ah) (β:=Int×Int×Int×Int×Int×(List Ax)×(List Int)) (f:=fun x=>(x.Kind,x.View,x.From,x.Slot,x.Value,x.Certs,x.Refs)) (x:=(⟨a0.Kind,a0.View,a0.From,a0.Slot,a0.Value,z1,z2⟩:Ah)) rfl (AA (Bm (n:=a0.Kind)) (AA (Bm (n:=a0.View)) (AA (Bm (n:=a0.From)) (AA (Bm (n:=a0.Slot)) (AA (Bm (n:=a0.Value)) (AA (EM 1 rfl NU) (EM 0 rfl XH)))))))) rfl
def Ls (a0:List Ah) (s1:Int×(List Ah)):Option (LO (Int×(List Ah))):=bif decide (s1.1 < (a0.length:Int)) then (Al a0 s1.1).bind fun x1=>(m77 x1).bind fun y1=>(Bu 88 s1.2 [y1]).bind fun z1=>some (LO.norm (wi .i64 (s1.1 + 1),z1)) else some (LO.exit 0 (s1.1,s1.2))
def m74 (a0:List Ah):Option ((List Ah)):=(Ar (Ls a0) NN (0,[])).bind (Ac (fun _=>none) (fun i4 s2=>if i4 = 0 then some s2.2 else none) (fun s2=>some []))
theorem w74 {d:Nat} (hd:2≤d) (k0:Bool) (a0:List Ah):Fit (R NN d 74 [.rsl k0 false (a0.map (Enc.cs k0))] []) (m74 a0) P1a:=by
  obtain ⟨d,rfl,g⟩:=up hd
  refine Ay (t74 NN d _) ?_
  unfold b74 m74
  refine q_q (fun _=>NR)<|J2 (α:=Ah)<|BU (I:=(fun (s:Int×(List Ah)) l L=>∃ (i1:List Nat) (v1:AV),l = [v1,iW s.1]∧L = [tra i1 v1 (s.2:List Ah)])) 0 ⟨[],(.rsl false true []),rfl,rfl⟩ ?_ ?_ ?_
  ·rintro s1 _ _ ⟨i1,v1,rfl,rfl⟩
   unfold YZ Ls
   refine As<|q_p fr<|q_i ?_ ?_
   ·refine A9 rfl fun x1 hx1=>q_p fr<|G6 (W:=AV.agg) (mg:=m77 x1) CL (aF1 (AZ (Au (l0:=k0) (x:=x1))) fun l0_=>w77 (by omega) l0_ x1) fun y1 hy1 i2 cs1=>FV (fun S hS=>O8 (hS.get (k:=0) rfl)) fun hcs_=>?_
    obtain ⟨v2,v3,rfl⟩:=hcs_
    exact Mv rfl (fun _=>cZ) rfl fun z1 hz1 v4 i3=>q_p fr<|Aa 0 ⟨i3,v4,rfl,rfl⟩
   ·exact Am 0 ⟨i1,v1,rfl,rfl⟩
  ·rintro i4 s2 _ _ ⟨i5,v5,rfl,rfl⟩
   exact q_n (Uo 0 rfl)<|Ap
  ·rintro s2 _ _ ⟨i6,v6,rfl,rfl⟩
   exact J2 (α:=Ah)<|Uo 0 rfl
theorem w74g {d:Nat} (hd:2≤d) (k0:Bool) (a0:List Ah):Fit (R NN d 74 [.rsl k0 false (a0.map (Enc.cs k0))] []) (m74 a0) (P1 GG):=p1a (w74 hd k0 a0)
def m75 (a0:Af):Option (Af):=(Bu 48 [] a0.Ops).bind fun z1=>some (⟨a0.Client,a0.Number,a0.Time,z1⟩:Af)
theorem w75 {d:Nat} (hd:1≤d) (k0:Bool) (a0:Af):Fit (R NN d 75 [.agg (Enc.cs k0 a0)] []) (m75 a0) (P1 (T:=Af) AV.agg):=by
  obtain ⟨d,rfl,g⟩:=up hd
  refine Ay (t75 NN d _) ?_
  unfold b75 m75
  exact AL (n:=4) rfl rfl (by decide) fun b1=>Bc rfl fun b2=>q_q (fun _=>NP)<|q_p fr<|Ao 1 rfl rfl<|Dj (α:=TOp) false<|CX (ys:=a0.Ops) 0 rfl rfl (fun _ _=>rfl) fun v1 z1 hz1=>q_p fr<|CM 2 rfl (fun S hS=>(HP.cell1 hS 0 rfl)) rfl<|AX 2 rfl rfl rfl<|Bb 1 rfl rfl rfl (by decide) rfl<|DL (fun S hS=>hS.lda 1 rfl rfl) (DW (α:=Af) (β:=Int×Int×Int×(List TOp)) (f:=fun x=>(x.Client,x.Number,x.Time,x.Ops)) (x:=(⟨a0.Client,a0.Number,a0.Time,z1⟩:Af)) rfl (AA (Bm (n:=a0.Client)) (AA (Bm (n:=a0.Number)) (AA (Bm (n:=a0.Time)) (EM 0 rfl NT))))) rfl
def Lu (a0:Ae) (s1:Int×(List Af)):Option (LO (Int×(List Af))):=bif decide (s1.1 < (a0.Requests.length:Int)) then (Al a0.Requests s1.1).bind fun x1=>(m75 x1).bind fun y2=>(Bu 48 s1.2 [y2]).bind fun z3=>some (LO.norm (wi .i64 (s1.1 + 1),z3)) else some (LO.exit 0 (s1.1,s1.2))
def m42 (a0:Ae):Option (Ae):=(Bu 8 [] a0.Bad).bind fun z1=>(Bu 32 [] a0.Replicas).bind fun z2=>(m74 a0.Ledger).bind fun y1=>(Ar (Lu a0) NN (0,[])).bind (Ac (fun _=>none) (fun i5 s2=>if i5 = 0 then some (⟨a0.F,z1,z2,y1,s2.2⟩:Ae) else none) (fun s2=>some (⟨0,[],[],[],[]⟩:Ae)))
theorem w42 {d:Nat} (hd:3≤d) (k0:Bool) (a0:Ae):Fit (R NN d 42 [.agg (Enc.cs k0 a0)] []) (m42 a0) (P1q (T:=Ae) AV.agg):=by
  obtain ⟨d,rfl,g⟩:=up hd
  refine Ay (t42 NN d _) ?_
  unfold b42 m42
  refine AL (n:=5) rfl rfl (by decide) fun b1=>Bc rfl fun b2=>Bc rfl fun b3=>q_p fr<|Ao 2 rfl rfl<|q_q (fun _=>Dq)<|q_p fr<|Ao 2 rfl rfl<|q_q (fun _=>NS)<|q_p fr<|Ao 2 rfl rfl<|q_p fr<|Ao 2 rfl rfl ?_
  refine Dj (α:=Int) false<|CX (ys:=a0.Bad) 0 rfl rfl (fun _ _=>rfl) fun v1 z1 hz1=>Dj (α:=Ak) false<|CX (ys:=a0.Replicas) 0 rfl rfl (fun _ _=>rfl) fun v2 z2 hz2=>Ev (mg:=m74 a0.Ledger) (aF1 A5 fun l0_=>w74g (by omega) l0_ a0.Ledger) fun y1 hy1 i1 v3=>Km (fun S hS=>HZ (by simp only [EX,plc,gd,List.getD_cons_zero,List.getD_cons_succ,List.getElem?_cons_zero,List.getElem?_cons_succ,hS.cell1 2 rfl,hS.cell1 1 rfl,hS.cell1t 0 rfl]; rfl)) ?_
  refine Bb 3 rfl rfl rfl (by decide) rfl<|bJ (fun S hS=>(Ib rfl (Ib rfl (Ib rfl (Ib rfl (Ib rfl (Ib rfl (Ib rfl rfl))))))))<|J2 (α:=Af)<|BU (I:=(fun (s:Int×(List Af)) l L=>∃ (i2:List Nat) (v4:AV),l = [iW s.1]∧L = [tra i2 v4 (s.2:List Af),tr i1 [v3] (y1:List Ah),sl false v2 (z2:List Ak),sl false v1 (z1:List Int),bx b3 [iW a0.F,v1,v2,v3,v4],bx b2 [iW 0,.rsl false true [],.rsl false true [],.rsl false true [],.rsl false true []],bx b1 [iW a0.F,.rsl k0 false (a0.Bad.map (Enc.cs k0)),.rsl k0 false (a0.Replicas.map (Enc.cs k0)),.rsl k0 false (a0.Ledger.map (Enc.cs k0)),.rsl k0 false (a0.Requests.map (Enc.cs k0))]])) 0 ⟨[],(.rsl false true []),rfl,rfl⟩ ?_ ?_ ?_
  ·rintro s1 _ _ ⟨i2,v4,rfl,rfl⟩
   unfold Zn Lu
   refine q_p fr<|Ao 6 rfl rfl<|As<|q_p fr<|q_i ?_ ?_
   ·refine q_p fr<|Ao 4 rfl rfl<|q_p fr<|Ao 6 rfl rfl<|A9 rfl fun x1 hx1=>q_p fr<|G6 (W:=AV.agg) (mg:=m75 x1) CL (aF1 (AZ (Au (l0:=k0) (x:=x1))) fun l0_=>w75 (by omega) l0_ x1) fun y2 hy2 i3 cs2=>FV (fun S hS=>Sc (hS.get (k:=0) rfl)) fun hcs_=>?_
    obtain ⟨v5,rfl⟩:=hcs_
    exact Mv rfl (fun _=>kM) rfl fun z3 hz3 v6 i4=>q_p fr<|CM 4 rfl (fun S hS=>(HP.cella hS 0 rfl)) rfl<|q_p fr<|Aa 0 ⟨i4,v6,rfl,rfl⟩
   ·exact Am 0 ⟨i2,v4,rfl,rfl⟩
  ·rintro i5 s2 _ _ ⟨i6,v7,rfl,rfl⟩
   exact q_n (AX 4 rfl rfl rfl<|Bb 5 rfl rfl rfl (by decide) rfl<|IY (fun S hS=>Ux 0 rfl S hS) (fun S hS=>hS.lda 5 rfl rfl) (DW (α:=Ae) (β:=Int×(List Int)×(List Ak)×(List Ah)×(List Af)) (f:=fun x=>(x.F,x.Bad,x.Replicas,x.Ledger,x.Requests)) (x:=(⟨a0.F,z1,z2,y1,s2.2⟩:Ae)) rfl (AA (Bm (n:=a0.F)) (AA (EM 3 rfl XH) (AA (EM 2 rfl U4) (AA (Di (cs:=[v3]) 1 rfl) (Ss 0 rfl)))))) rfl)<|Ap
  ·rintro s2 _ _ ⟨i7,v8,rfl,rfl⟩
   exact IY (fun _ _=>Uy) (fun S hS=>hS.lda 5 rfl rfl) (DW (α:=Ae) (β:=Int×(List Int)×(List Ak)×(List Ah)×(List Af)) (f:=fun x=>(x.F,x.Bad,x.Replicas,x.Ledger,x.Requests)) (x:=(⟨0,[],[],[],[]⟩:Ae)) rfl (AA (Bm (n:=0)) (AA (BL (α:=Int) (fl:=true)) (AA (BL (α:=Ak) (fl:=true)) (AA (BL (α:=Ah) (fl:=true)) (BL (α:=Af) (fl:=true))))))) rfl
def m43 (a0:List Ah) (a1:Ah):Option ((List Ah)×Int):=(m76 a0 a1).bind fun y1=>bif decide (y1 ≥ 0) then (m74 a0).bind fun y2=>some (y2,0) else bif decide ((a0.length:Int) ≥ 240) then some ([],2) else (m74 a0).bind fun y3=>(m77 a1).bind fun y4=>(Bu 88 y3 [y4]).bind fun z1=>some (z1,0)
theorem w43 {d:Nat} (hd:3≤d) (k0:Bool) (a0:List Ah) (k1:Bool) (a1:Ah):Fit (R NN d 43 [.rsl k0 false (a0.map (Enc.cs k0)),.rp k1 (Enc.cs k1 a1)] []) (m43 a0 a1) (P0 (fun (t:(List Ah)×Int)=>AV.tup [.rsl false false (t.1.map (Enc.cs false)),iW t.2])):=by
  obtain ⟨d,rfl,g⟩:=up hd
  refine Ay (t43 NN d _ _) ?_
  unfold b43 m43
  refine A7 (aF2 A5 (Bs (Au (l0:=k1) (x:=a1)) (fun _ _ _ h=>Enc.frz k1 a1 _ _ _ h)) fun l0_ l1_=>w76 (by omega) l0_ a0 l1_ a1) fun y1 hy1=>q_p fr<|q_i ?_ ?_
  ·exact ZG (mg:=m74 a0) (aF1 A5 fun l0_=>w74 (by omega) l0_ a0) fun y2 hy2 i1 v1=>Ad (DR (Ag (Oy 0 rfl) (Ag (Ab rfl) Az))) rfl
  ·refine As<|q_p fr<|q_i ?_ ?_
   ·exact Ad (DR (Ag (A5 (α:=Ah) (l0:=false) (fl:=true) (xs:=[])) (Ag (Ab rfl) Az))) rfl
   ·refine q_q fr<|q_p fr<|ZG (mg:=m74 a0) (aF1 A5 fun l0_=>w74 (by omega) l0_ a0) fun y3 hy3 i2 v2=>G6 (W:=AV.agg) (mg:=m77 a1) CL (aF1 (AZ (Au (l0:=k1) (x:=a1))) fun l0_=>w77 (by omega) l0_ a1) fun y4 hy4 i3 cs3=>FV (fun S hS=>O8 (hS.get (k:=0) rfl)) fun hcs_=>?_
    obtain ⟨v3,v4,rfl⟩:=hcs_
    exact Mv rfl (fun _=>cZ) rfl fun z1 hz1 v5 i4=>Ad (DR (Ag (Oy 0 rfl) (Ag (Ab rfl) Az))) rfl
def m20 (a0:Ae) (a1:Ah):Option (Aq):=(m42 a0).bind fun y1=>(m43 a0.Ledger a1).bind fun y2=>bif y2.2 != 0 then some (m18 y2.2) else some (⟨0,(⟨y1.F,y1.Bad,y1.Replicas,y2.1,y1.Requests⟩:Ae)⟩:Aq)
theorem w20 {d:Nat} (hd:4≤d) (k0:Bool) (a0:Ae) (k1:Bool) (a1:Ah):Fit (R NN d 20 [.agg (Enc.cs k0 a0),.agg (Enc.cs k1 a1)] []) (m20 a0 a1) (P0 (fun (t:Aq)=>AV.agg (Enc.cs false t))):=by
  obtain ⟨d,rfl,g⟩:=up hd
  refine Ay (t20 NN d _ _) ?_
  unfold b20 m20
  refine AL (n:=5) rfl rfl (by decide) fun b1=>AL (n:=7) rfl rfl (by decide) fun b2=>Bc rfl fun b3=>AX 2 rfl rfl rfl<|ZF (mg:=m42 a0) (aF1 (AZ (Au (l0:=k0) (x:=a0))) fun l0_=>w42 (by omega) l0_ a0) fun y1 hy1 i1 cs1 hq_=>FV (fun S hS=>Ku (hS.get (k:=0) rfl)) fun hcs_=>?_
  obtain ⟨v1,v2,v3,v4,rfl⟩:=hcs_
  exact fV (x:=(y1.F,y1.Bad,y1.Replicas,y1.Ledger,y1.Requests)) hq_ rfl (fun _ h=>h) fun i2 i3 i4 i5=>Bc rfl fun b4=>Bb 0 rfl rfl rfl (by decide) rfl<|q_p fr<|Ao 7 rfl rfl<|A7 (aF2 A5 (BI 6 rfl (Ag (Ab rfl) (Ag (Ab rfl) (Ag (Ab rfl) (Ag (Ab rfl) (Ag (Ab rfl) (Ag A5 (Ag A5 Az)))))))) fun l0_ l1_=>w43 (by omega) l0_ a0.Ledger l1_ a1) fun y2 hy2=>q_q fr<|q_q fr<|q_p fr<|q_i (AB (aF1 (Ab rfl) fun l0_=>w18 (by omega) y2.2)<|Bb 5 rfl rfl rfl (by decide) rfl<|EG (fun S hS=>hS.lda 5 rfl rfl) (AZ (Ag (Ab rfl) (Ag (Ab rfl) (Ag A5 (Ag A5 (Ag A5 (Ag A5 Az))))))) rfl)<|q_p fr<|Bb 0 rfl rfl rfl (by decide) rfl<|AX 0 rfl rfl rfl<|q_p (fun _=>WW rfl)<|Bb 5 rfl rfl rfl (by decide) rfl<|EG (fun S hS=>hS.lda 5 rfl rfl) (AZ (Ag (Ab rfl) (Ag (Ab rfl) (Ag (IG 1 rfl) (Ag (IG 2 rfl) (Ag A5 (Ag (Oy 4 rfl) Az))))))) rfl
def m5 (a0:Ae) (a1:Int) (a2:Int):Option (Aq):=(m17 a0 a1).bind fun y1=>bif y1.2 != 0 then some (m18 y1.2) else (Al a0.Replicas y1.1).bind fun x1=>(m19 a0.F a0.Ledger x1 a2).bind fun y2=>bif y2 != 0 then some (⟨(m18 y2).Code,(m18 y2).Cluster⟩:Aq) else (Al a0.Ledger a2).bind fun x2=>bif decide (x2.Value > (a0.Requests.length:Int)) then some (⟨(m18 4).Code,(m18 4).Cluster⟩:Aq) else (m20 a0 (⟨2,x1.View,a1,x2.Slot,x2.Value,[],[]⟩:Ah)).bind fun y3=>some y3
theorem w5 {d:Nat} (hd:12≤d) (k0:Bool) (a0:Ae) (a1:Int) (a2:Int):Fit (R NN d 5 [.agg (Enc.cs k0 a0),iW a1,iW a2] []) (m5 a0 a1 a2) (P0 (fun (t:Aq)=>AV.agg (Enc.cs false t))):=by
  obtain ⟨d,rfl,g⟩:=up hd
  refine Ay (t5 NN d _ _ _) ?_
  unfold b5 m5
  exact AL (n:=5) rfl rfl (by decide) fun b1=>Bc rfl fun b2=>A7 (aF2 (BI 1 rfl (Ag (Ab rfl) (Ag A5 (Ag A5 (Ag A5 (Ag A5 Az)))))) (Ab rfl) fun l0_ l1_=>w17 (by omega) l0_ a0 a1) fun y1 hy1=>q_q fr<|q_q fr<|q_p fr<|q_i (AB (aF1 (Ab rfl) fun l0_=>w18 (by omega) y1.2)<|Bb 0 rfl rfl rfl (by decide) rfl<|EG (fun S hS=>hS.lda 0 rfl rfl) (AZ (Ag (Ab rfl) (Ag (Ab rfl) (Ag A5 (Ag A5 (Ag A5 (Ag A5 Az))))))) rfl)<|q_p fr<|Ao 1 rfl rfl<|A9 rfl fun x1 hx1=>q_p fr<|Ao 1 rfl rfl<|q_p fr<|Ao 1 rfl rfl<|A7 (fun S hS=>EB (Ab rfl) A5 (Bs (Au (l0:=k0) (x:=x1)) (fun _ _ _ h=>Enc.frz k0 x1 _ _ _ h)) (Ab rfl) hS fun l0_ l1_ l2_ l3_=>w19 (by omega) a0.F l1_ a0.Ledger l2_ x1 a2) fun y2 hy2=>q_p fr<|q_i (AB (aF1 (Ab rfl) fun l0_=>w18 (by omega) y2)<|Bb 0 rfl rfl rfl (by decide) rfl<|EG (fun S hS=>hS.lda 0 rfl rfl) (AZ (Ag (Ab rfl) (Ag (Ab rfl) (Ag A5 (Ag A5 (Ag A5 (Ag A5 Az))))))) rfl)<|q_p fr<|Ao 1 rfl rfl<|A9 rfl fun x2 hx2=>q_p fr<|Bc rfl fun b3=>Bb 0 rfl rfl rfl (by decide) rfl<|q_p fr<|Ao 0 rfl rfl<|q_p fr<|Ao 2 rfl rfl<|As<|q_p fr<|q_i (AB (aF1 (Ab rfl) fun l0_=>w18 (by omega) 4)<|Bb 1 rfl rfl rfl (by decide) rfl<|EG (fun S hS=>hS.lda 1 rfl rfl) (AZ (Ag (Ab rfl) (Ag (Ab rfl) (Ag A5 (Ag A5 (Ag A5 (Ag A5 Az))))))) rfl)<|AX 2 rfl rfl rfl<|q_q fr<|q_p fr<|q_p fr<|q_p fr<|Ao 0 rfl rfl<|q_p fr<|Ao 0 rfl rfl<|q_p (fun _=>Ep rfl)<|A7 (aF2 (AZ (Au (l0:=k0) (x:=a0))) (AZ (Ag (Ab rfl) (Ag (Ab rfl) (Ag (Ab rfl) (Ag (Ab rfl) (Ag (Ab rfl) (Ag (A5 (α:=Ax) (l0:=false) (fl:=true) (xs:=[])) (Ag (A5 (α:=Int) (l0:=false) (fl:=true) (xs:=[])) Az)))))))) fun l0_ l1_=>w20 (by omega) l0_ a0 l1_ (⟨2,x1.View,a1,x2.Slot,x2.Value,[],[]⟩:Ah)) fun y3 hy3=>Bb 1 rfl rfl rfl (by decide) rfl<|EG (fun S hS=>hS.lda 1 rfl rfl) (AZ (Au (l0:=false) (x:=y3))) rfl
def Ve (a0:List Int) (s1:Int×(List Int)):Option (LO (Int×(List Int))):=bif decide (s1.1 < (a0.length:Int)) then (Al a0 s1.1).bind fun x1=>(Al s1.2 s1.1).bind fun x2=>some (LO.norm (wi .i64 (s1.1 + 1),s1.2.set (Int.toNat s1.1) x1)) else some (LO.exit 0 (s1.1,s1.2))
def m21 (a0:List Int):Option ((List Int)):=(mkO 8 (a0.length:Int) 0).bind fun z1=>(Ar (Ve a0) NN (0,z1)).bind (Ac (fun _=>none) (fun i1 s2=>if i1 = 0 then some s2.2 else none) (fun s2=>some []))
theorem w21 {d:Nat} (hd:1≤d) (k0:Bool) (a0:List Int):Fit (R NN d 21 [.rsl k0 false (a0.map (Enc.cs k0))] []) (m21 a0) (P1 (T:=List Int) GG):=by
  obtain ⟨d,rfl,g⟩:=up hd
  refine Ay (t21 NN d _) ?_
  unfold b21 m21
  refine As<|Ur (z:=0) mk22 fun v1 z1 hz1=>AU (A:=fun (s:Int×(List Int))=>[iW s.1]) (B:=fun s=>[sl false v1 (s.2:List Int)]) 0 rr ?_ ?_ ?_
  ·intro s1
   unfold Z4 Ve
   exact As<|q_p fr<|q_i (A9 rfl fun x1 hx1=>q_p fr<|AC 0 rfl rfl fun x2 hx2=>Bi (y:=x1) 0 rfl rfl hx2 rfl (by decide)<|q_p fr<|Aa 0 rr)<|Am 0 rr
  ·exact fun i1 s2=>q_n (D1 (EM 0 rfl XH) rfl)<|Ap
  ·exact fun s2=>D1 (BL (α:=Int) (fl:=true)) rfl
def m44 (a0:Ak):Ak:=a0
theorem w44 {d:Nat} (hd:1≤d) (k0:Bool) (a0:Ak):Fit (R NN d 44 [.agg (Enc.cs k0 a0)] []) (some (m44 a0)) (P0 (fun (t:Ak)=>AV.agg (Enc.cs false t))):=by
  obtain ⟨d,rfl,g⟩:=up hd
  refine Ay (t44 NN d _) ?_
  unfold b44 m44
  exact AL (n:=4) rfl rfl (by decide) fun b1=>Bc rfl fun b2=>Bc rfl fun b3=>q_p fr<|Ao 2 rfl rfl<|q_p fr<|Bb 0 rfl rfl rfl (by decide) rfl<|q_p fr<|Ao 2 rfl rfl<|q_p fr<|Bb 0 rfl rfl rfl (by decide) rfl<|q_p fr<|Ao 2 rfl rfl<|q_p fr<|Bb 0 rfl rfl rfl (by decide) rfl<|q_p fr<|Ao 2 rfl rfl<|q_p fr<|Bb 0 rfl rfl rfl (by decide) rfl<|AX 0 rfl rfl rfl<|Bb 1 rfl rfl rfl (by decide) rfl<|EG (fun S hS=>hS.lda 1 rfl rfl) (AZ (Au (l0:=false) (x:=a0))) rfl
def Vd (a0:List Ak) (s1:Int×(List Ak)):Option (LO (Int×(List Ak))):=bif decide (s1.1 < (a0.length:Int)) then (Al a0 s1.1).bind fun x1=>(Al s1.2 s1.1).bind fun x2=>some (LO.norm (wi .i64 (s1.1 + 1),s1.2.set (Int.toNat s1.1) (m44 x1))) else some (LO.exit 0 (s1.1,s1.2))
def m22 (a0:List Ak):Option ((List Ak)):=(mkO 32 (a0.length:Int) (⟨0,0,0,0⟩:Ak)).bind fun z1=>(Ar (Vd a0) NN (0,z1)).bind (Ac (fun _=>none) (fun i1 s2=>if i1 = 0 then some s2.2 else none) (fun s2=>some []))
theorem w22 {d:Nat} (hd:2≤d) (k0:Bool) (a0:List Ak):Fit (R NN d 22 [.rsl k0 false (a0.map (Enc.cs k0))] []) (m22 a0) (P1 (T:=List Ak) GG):=by
  obtain ⟨d,rfl,g⟩:=up hd
  refine Ay (t22 NN d _) ?_
  unfold b22 m22
  refine As<|Ur (z:=(⟨0,0,0,0⟩:Ak)) mk29 fun v1 z1 hz1=>AU (A:=fun (s:Int×(List Ak))=>[iW s.1]) (B:=fun s=>[sl false v1 (s.2:List Ak)]) 0 rr ?_ ?_ ?_
  ·intro s1
   unfold Z3 Vd
   exact As<|q_p fr<|q_i (A9 rfl fun x1 hx1=>q_p fr<|AB (aF1 (AZ (Au (l0:=k0) (x:=x1))) fun l0_=>w44 (by omega) l0_ x1)<|AC 0 rfl rfl fun x2 hx2=>Bi (y:=(m44 x1)) 0 rfl rfl hx2 rfl (by decide)<|q_p fr<|Aa 0 rr)<|Am 0 rr
  ·exact fun i1 s2=>q_n (D1 (EM 0 rfl U4) rfl)<|Ap
  ·exact fun s2=>D1 (BL (α:=Ak) (fl:=true)) rfl
def VP (a0:Ax):Ax:=a0
theorem w104 {d:Nat} (hd:1≤d) (k0:Bool) (a0:Ax):Fit (R NN d 104 [.agg (Enc.cs k0 a0)] []) (some (VP a0)) (P0 (fun (t:Ax)=>AV.agg (Enc.cs false t))):=by
  obtain ⟨d,rfl,g⟩:=up hd
  refine Ay (t104 NN d _) ?_
  unfold pA VP
  exact AL (n:=3) rfl rfl (by decide) fun b1=>Bc rfl fun b2=>Bc rfl fun b3=>q_p fr<|Ao 2 rfl rfl<|q_p fr<|Bb 0 rfl rfl rfl (by decide) rfl<|q_p fr<|Ao 2 rfl rfl<|q_p fr<|Bb 0 rfl rfl rfl (by decide) rfl<|q_p fr<|Ao 2 rfl rfl<|q_p fr<|Bb 0 rfl rfl rfl (by decide) rfl<|AX 0 rfl rfl rfl<|Bb 1 rfl rfl rfl (by decide) rfl<|EG (fun S hS=>hS.lda 1 rfl rfl) (AZ (Au (l0:=false) (x:=a0))) rfl
def US (a0:List Ax) (s1:Int×(List Ax)):Option (LO (Int×(List Ax))):=bif decide (s1.1 < (a0.length:Int)) then (Al a0 s1.1).bind fun x1=>(Al s1.2 s1.1).bind fun x2=>some (LO.norm (wi .i64 (s1.1 + 1),s1.2.set (Int.toNat s1.1) (VP x1))) else some (LO.exit 0 (s1.1,s1.2))
def m78 (a0:List Ax):Option ((List Ax)):=(mkO 24 (a0.length:Int) (⟨0,0,0⟩:Ax)).bind fun z1=>(Ar (US a0) NN (0,z1)).bind (Ac (fun _=>none) (fun i1 s2=>if i1 = 0 then some s2.2 else none) (fun s2=>some []))
theorem w78 {d:Nat} (hd:2≤d) (k0:Bool) (a0:List Ax):Fit (R NN d 78 [.rsl k0 false (a0.map (Enc.cs k0))] []) (m78 a0) (P1 (T:=List Ax) GG):=by
  obtain ⟨d,rfl,g⟩:=up hd
  refine Ay (t78 NN d _) ?_
  unfold b78 m78
  refine As<|Ur (z:=(⟨0,0,0⟩:Ax)) mk55 fun v1 z1 hz1=>AU (A:=fun (s:Int×(List Ax))=>[iW s.1]) (B:=fun s=>[sl false v1 (s.2:List Ax)]) 0 rr ?_ ?_ ?_
  ·intro s1
   unfold YX US
   exact As<|q_p fr<|q_i (A9 rfl fun x1 hx1=>q_p fr<|AB (aF1 (AZ (Au (l0:=k0) (x:=x1))) fun l0_=>w104 (by omega) l0_ x1)<|AC 0 rfl rfl fun x2 hx2=>Bi (y:=(VP x1)) 0 rfl rfl hx2 rfl (by decide)<|q_p fr<|Aa 0 rr)<|Am 0 rr
  ·exact fun i1 s2=>q_n (D1 (EM 0 rfl NU) rfl)<|Ap
  ·exact fun s2=>D1 (BL (α:=Ax) (fl:=true)) rfl
def m45 (a0:Ah):Option (Ah):=(m78 a0.Certs).bind fun y1=>(m21 a0.Refs).bind fun y2=>some (⟨a0.Kind,a0.View,a0.From,a0.Slot,a0.Value,y1,y2⟩:Ah)
theorem w45 {d:Nat} (hd:3≤d) (k0:Bool) (a0:Ah):Fit (R NN d 45 [.agg (Enc.cs k0 a0)] []) (m45 a0) (P1 (T:=Ah) AV.agg):=by
  obtain ⟨d,rfl,g⟩:=up hd
  refine Ay (t45 NN d _) ?_
  unfold b45 m45
  exact AL (n:=7) rfl rfl (by decide) fun b1=>Bc rfl fun b2=>Bc rfl fun b3=>q_p fr<|Ao 2 rfl rfl<|q_p fr<|Bb 0 rfl rfl rfl (by decide) rfl<|q_p fr<|Ao 2 rfl rfl<|q_p fr<|Bb 0 rfl rfl rfl (by decide) rfl<|q_p fr<|Ao 2 rfl rfl<|q_p fr<|Bb 0 rfl rfl rfl (by decide) rfl<|q_p fr<|Ao 2 rfl rfl<|q_p fr<|Bb 0 rfl rfl rfl (by decide) rfl<|q_p fr<|Ao 2 rfl rfl<|q_p fr<|Bb 0 rfl rfl rfl (by decide) rfl<|q_p fr<|Ao 2 rfl rfl<|Ev (mg:=m78 a0.Certs) (aF1 A5 fun l0_=>w78 (by omega) l0_ a0.Certs) fun y1 hy1 i1 v1=>q_p fr<|CM 1 rfl (fun S hS=>(HP.cell1t hS 0 rfl)) rfl<|q_p fr<|Ao 3 rfl rfl<|Ev (mg:=m21 a0.Refs) (aF1 A5 fun l0_=>w21 (by omega) l0_ a0.Refs) fun y2 hy2 i2 v2=>q_p fr<|CM 2 rfl (fun S hS=>(HP.cell1t hS 0 rfl)) rfl<|AX 2 rfl rfl rfl<|Bb 3 rfl rfl rfl (by decide) rfl<|DL (fun S hS=>hS.lda 3 rfl rfl) (DW (α:=Ah) (β:=Int×Int×Int×Int×Int×(List Ax)×(List Int)) (f:=fun x=>(x.Kind,x.View,x.From,x.Slot,x.Value,x.Certs,x.Refs)) (x:=(⟨a0.Kind,a0.View,a0.From,a0.Slot,a0.Value,y1,y2⟩:Ah)) rfl (AA (Bm (n:=a0.Kind)) (AA (Bm (n:=a0.View)) (AA (Bm (n:=a0.From)) (AA (Bm (n:=a0.Slot)) (AA (Bm (n:=a0.Value)) (AA (Di 1 rfl) (Di 0 rfl)))))))) rfl
def Vb (a0:List Ah) (s1:Int×(List Ah)):Option (LO (Int×(List Ah))):=bif decide (s1.1 < (a0.length:Int)) then (Al a0 s1.1).bind fun x1=>(m45 x1).bind fun y1=>(Al s1.2 s1.1).bind fun x2=>some (LO.norm (wi .i64 (s1.1 + 1),s1.2.set (Int.toNat s1.1) y1)) else some (LO.exit 0 (s1.1,s1.2))
def m23 (a0:List Ah):Option ((List Ah)):=(mkO 88 (a0.length:Int) (⟨0,0,0,0,0,[],[]⟩:Ah)).bind fun z1=>(Ar (Vb a0) NN (0,z1)).bind (Ac (fun _=>none) (fun i5 s2=>if i5 = 0 then some s2.2 else none) (fun s2=>some []))
theorem w23 {d:Nat} (hd:4≤d) (k0:Bool) (a0:List Ah):Fit (R NN d 23 [.rsl k0 false (a0.map (Enc.cs k0))] []) (m23 a0) (P1 (T:=List Ah) GG):=by
  obtain ⟨d,rfl,g⟩:=up hd
  refine Ay (t23 NN d _) ?_
  unfold b23 m23
  refine As<|ZB (z:=(⟨0,0,0,0,0,[],[]⟩:Ah)) mk30 dS fun z1 hz1 v1 i1=>BU (I:=(fun (s:Int×(List Ah)) l L=>∃ (i2:List Nat),l = [iW s.1]∧L = [tr i2 [v1] (s.2:List Ah)])) 0 ⟨i1,rfl,rfl⟩ ?_ ?_ ?_
  ·rintro s1 _ _ ⟨i2,rfl,rfl⟩
   unfold Z2 Vb
   refine As<|q_p fr<|q_i ?_ ?_
   ·refine A9 rfl fun x1 hx1=>q_p fr<|G6 (W:=AV.agg) (mg:=m45 x1) CL (aF1 (AZ (Au (l0:=k0) (x:=x1))) fun l0_=>w45 (by omega) l0_ x1) fun y1 hy1 i3 cs1=>FV (fun S hS=>O8 (hS.get (k:=0) rfl)) fun hcs_=>?_
    obtain ⟨v2,v3,rfl⟩:=hcs_
    exact BZ 1 rfl rfl fun x2 hx2=>Z8 rfl (by decide) hx2 rfl fun i4=>q_p fr<|Aa 0 ⟨i4,rfl,rfl⟩
   ·exact Am 0 ⟨i2,rfl,rfl⟩
  ·rintro i5 s2 _ _ ⟨i6,rfl,rfl⟩
   exact q_n (D1 (Di 0 rfl) rfl)<|Ap
  ·rintro s2 _ _ ⟨i7,rfl,rfl⟩
   exact D1 (BL (α:=Ah) (fl:=true)) rfl
def VO (a0:TOp):TOp:=a0
theorem w105 {d:Nat} (hd:1≤d) (k0:Bool) (a0:TOp):Fit (R NN d 105 [.agg (Enc.cs k0 a0)] []) (some (VO a0)) (P0 (fun (t:TOp)=>AV.agg (Enc.cs false t))):=by
  obtain ⟨d,rfl,g⟩:=up hd
  refine Ay (t105 NN d _) ?_
  unfold o9 VO
  exact AL (n:=6) rfl rfl (by decide) fun b1=>Bc rfl fun b2=>Bc rfl fun b3=>q_p fr<|Ao 2 rfl rfl<|q_p fr<|Bb 0 rfl rfl rfl (by decide) rfl<|q_p fr<|Ao 2 rfl rfl<|q_p fr<|Bb 0 rfl rfl rfl (by decide) rfl<|q_p fr<|Ao 2 rfl rfl<|q_p fr<|Bb 0 rfl rfl rfl (by decide) rfl<|q_p fr<|Ao 2 rfl rfl<|q_p fr<|Bb 0 rfl rfl rfl (by decide) rfl<|q_p fr<|Ao 2 rfl rfl<|q_p fr<|Bb 0 rfl rfl rfl (by decide) rfl<|q_p fr<|Ao 2 rfl rfl<|q_p fr<|Bb 0 rfl rfl rfl (by decide) rfl<|AX 0 rfl rfl rfl<|Bb 1 rfl rfl rfl (by decide) rfl<|EG (fun S hS=>hS.lda 1 rfl rfl) (AZ (Au (l0:=false) (x:=a0))) rfl
def UR (a0:List TOp) (s1:Int×(List TOp)):Option (LO (Int×(List TOp))):=bif decide (s1.1 < (a0.length:Int)) then (Al a0 s1.1).bind fun x1=>(Al s1.2 s1.1).bind fun x2=>some (LO.norm (wi .i64 (s1.1 + 1),s1.2.set (Int.toNat s1.1) (VO x1))) else some (LO.exit 0 (s1.1,s1.2))
def m79 (a0:List TOp):Option ((List TOp)):=(mkO 48 (a0.length:Int) (⟨0,[],0,0,false,false⟩:TOp)).bind fun z1=>(Ar (UR a0) NN (0,z1)).bind (Ac (fun _=>none) (fun i1 s2=>if i1 = 0 then some s2.2 else none) (fun s2=>some []))
theorem w79 {d:Nat} (hd:2≤d) (k0:Bool) (a0:List TOp):Fit (R NN d 79 [.rsl k0 false (a0.map (Enc.cs k0))] []) (m79 a0) (P1 (T:=List TOp) GG):=by
  obtain ⟨d,rfl,g⟩:=up hd
  refine Ay (t79 NN d _) ?_
  unfold b79 m79
  refine As<|Ur (z:=(⟨0,[],0,0,false,false⟩:TOp)) mk93 fun v1 z1 hz1=>AU (A:=fun (s:Int×(List TOp))=>[iW s.1]) (B:=fun s=>[sl false v1 (s.2:List TOp)]) 0 rr ?_ ?_ ?_
  ·intro s1
   unfold YW UR
   exact As<|q_p fr<|q_i (A9 rfl fun x1 hx1=>q_p fr<|AB (aF1 (AZ (Au (l0:=k0) (x:=x1))) fun l0_=>w105 (by omega) l0_ x1)<|AC 0 rfl rfl fun x2 hx2=>Bi (y:=(VO x1)) 0 rfl rfl hx2 rfl (by decide)<|q_p fr<|Aa 0 rr)<|Am 0 rr
  ·exact fun i1 s2=>q_n (D1 (EM 0 rfl NT) rfl)<|Ap
  ·exact fun s2=>D1 (BL (α:=TOp) (fl:=true)) rfl
def m46 (a0:Af):Option (Af):=(m79 a0.Ops).bind fun y1=>some (⟨a0.Client,a0.Number,a0.Time,y1⟩:Af)
theorem w46 {d:Nat} (hd:3≤d) (k0:Bool) (a0:Af):Fit (R NN d 46 [.agg (Enc.cs k0 a0)] []) (m46 a0) (P1 (T:=Af) AV.agg):=by
  obtain ⟨d,rfl,g⟩:=up hd
  refine Ay (t46 NN d _) ?_
  unfold b46 m46
  exact AL (n:=4) rfl rfl (by decide) fun b1=>Bc rfl fun b2=>Bc rfl fun b3=>q_p fr<|Ao 2 rfl rfl<|q_p fr<|Bb 0 rfl rfl rfl (by decide) rfl<|q_p fr<|Ao 2 rfl rfl<|q_p fr<|Bb 0 rfl rfl rfl (by decide) rfl<|q_p fr<|Ao 2 rfl rfl<|q_p fr<|Bb 0 rfl rfl rfl (by decide) rfl<|q_p fr<|Ao 2 rfl rfl<|Ev (mg:=m79 a0.Ops) (aF1 A5 fun l0_=>w79 (by omega) l0_ a0.Ops) fun y1 hy1 i1 v1=>q_p fr<|CM 1 rfl (fun S hS=>(HP.cell1t hS 0 rfl)) rfl<|AX 1 rfl rfl rfl<|Bb 2 rfl rfl rfl (by decide) rfl<|DL (fun S hS=>hS.lda 2 rfl rfl) (DW (α:=Af) (β:=Int×Int×Int×(List TOp)) (f:=fun x=>(x.Client,x.Number,x.Time,x.Ops)) (x:=(⟨a0.Client,a0.Number,a0.Time,y1⟩:Af)) rfl (AA (Bm (n:=a0.Client)) (AA (Bm (n:=a0.Number)) (AA (Bm (n:=a0.Time)) (Di 0 rfl))))) rfl
def Va (a0:List Af) (s1:Int×(List Af)):Option (LO (Int×(List Af))):=bif decide (s1.1 < (a0.length:Int)) then (Al a0 s1.1).bind fun x1=>(m46 x1).bind fun y1=>(Al s1.2 s1.1).bind fun x2=>some (LO.norm (wi .i64 (s1.1 + 1),s1.2.set (Int.toNat s1.1) y1)) else some (LO.exit 0 (s1.1,s1.2))
def m24 (a0:List Af):Option ((List Af)):=(mkO 48 (a0.length:Int) (⟨0,0,0,[]⟩:Af)).bind fun z1=>(Ar (Va a0) NN (0,z1)).bind (Ac (fun _=>none) (fun i5 s2=>if i5 = 0 then some s2.2 else none) (fun s2=>some []))
theorem w24 {d:Nat} (hd:4≤d) (k0:Bool) (a0:List Af):Fit (R NN d 24 [.rsl k0 false (a0.map (Enc.cs k0))] []) (m24 a0) (P1 (T:=List Af) GG):=by
  obtain ⟨d,rfl,g⟩:=up hd
  refine Ay (t24 NN d _) ?_
  unfold b24 m24
  refine As<|ZB (z:=(⟨0,0,0,[]⟩:Af)) mk31 dR fun z1 hz1 v1 i1=>BU (I:=(fun (s:Int×(List Af)) l L=>∃ (i2:List Nat),l = [iW s.1]∧L = [tr i2 [v1] (s.2:List Af)])) 0 ⟨i1,rfl,rfl⟩ ?_ ?_ ?_
  ·rintro s1 _ _ ⟨i2,rfl,rfl⟩
   unfold Zz Va
   refine As<|q_p fr<|q_i ?_ ?_
   ·refine A9 rfl fun x1 hx1=>q_p fr<|G6 (W:=AV.agg) (mg:=m46 x1) CL (aF1 (AZ (Au (l0:=k0) (x:=x1))) fun l0_=>w46 (by omega) l0_ x1) fun y1 hy1 i3 cs1=>FV (fun S hS=>Sc (hS.get (k:=0) rfl)) fun hcs_=>?_
    obtain ⟨v2,rfl⟩:=hcs_
    exact BZ 1 rfl rfl fun x2 hx2=>Z8 rfl (by decide) hx2 rfl fun i4=>q_p fr<|Aa 0 ⟨i4,rfl,rfl⟩
   ·exact Am 0 ⟨i2,rfl,rfl⟩
  ·rintro i5 s2 _ _ ⟨i6,rfl,rfl⟩
   exact q_n (D1 (Di 0 rfl) rfl)<|Ap
  ·rintro s2 _ _ ⟨i7,rfl,rfl⟩
   exact D1 (BL (α:=Af) (fl:=true)) rfl
def m6 (a0:Ae):Option (Ae):=(m21 a0.Bad).bind fun y1=>(m22 a0.Replicas).bind fun y2=>(m23 a0.Ledger).bind fun y3=>(m24 a0.Requests).bind fun y4=>some (⟨a0.F,y1,y2,y3,y4⟩:Ae)
theorem w6 {d:Nat} (hd:5≤d) (k0:Bool) (a0:Ae):Fit (R NN d 6 [.agg (Enc.cs k0 a0)] []) (m6 a0) (P1 (T:=Ae) AV.agg):=by
  obtain ⟨d,rfl,g⟩:=up hd
  refine Ay (t6 NN d _) ?_
  unfold b6 m6
  exact AL (n:=5) rfl rfl (by decide) fun b1=>Bc rfl fun b2=>Bc rfl fun b3=>q_p fr<|Ao 2 rfl rfl<|q_p fr<|Bb 0 rfl rfl rfl (by decide) rfl<|q_p fr<|Ao 2 rfl rfl<|Ev (mg:=m21 a0.Bad) (aF1 A5 fun l0_=>w21 (by omega) l0_ a0.Bad) fun y1 hy1 i1 v1=>q_p fr<|CM 1 rfl (fun S hS=>(HP.cell1t hS 0 rfl)) rfl<|q_p fr<|Ao 3 rfl rfl<|Ev (mg:=m22 a0.Replicas) (aF1 A5 fun l0_=>w22 (by omega) l0_ a0.Replicas) fun y2 hy2 i2 v2=>q_p fr<|CM 2 rfl (fun S hS=>(HP.cell1t hS 0 rfl)) rfl<|q_p fr<|Ao 4 rfl rfl<|Ev (mg:=m23 a0.Ledger) (aF1 A5 fun l0_=>w23 (by omega) l0_ a0.Ledger) fun y3 hy3 i3 v3=>q_p fr<|CM 3 rfl (fun S hS=>(HP.cell1t hS 0 rfl)) rfl<|q_p fr<|Ao 5 rfl rfl<|Ev (mg:=m24 a0.Requests) (aF1 A5 fun l0_=>w24 (by omega) l0_ a0.Requests) fun y4 hy4 i4 v4=>q_p fr<|CM 4 rfl (fun S hS=>(HP.cell1t hS 0 rfl)) rfl<|AX 4 rfl rfl rfl<|Bb 5 rfl rfl rfl (by decide) rfl<|DL (fun S hS=>hS.lda 5 rfl rfl) (DW (α:=Ae) (β:=Int×(List Int)×(List Ak)×(List Ah)×(List Af)) (f:=fun x=>(x.F,x.Bad,x.Replicas,x.Ledger,x.Requests)) (x:=(⟨a0.F,y1,y2,y3,y4⟩:Ae)) rfl (AA (Bm (n:=a0.F)) (AA (Di 3 rfl) (AA (Di 2 rfl) (AA (Di 1 rfl) (Di 0 rfl)))))) rfl
theorem w6f {d:Nat} (hd:5≤d) (k0:Bool) (a0:Ae):Fit (R NN d 6 [.agg (Enc.cs k0 a0)] []) (m6 a0) (P0 (fun (t:Ae)=>AV.agg (Enc.cs false t))):=UE (w6 hd k0 a0)
def CE (a0:Int) (a1:Int) (a2:Int):Bool:=bif decide (a1≤a0) then decide (a0≤a2) else false
theorem EK {d:Nat} (hd:1≤d) (a0:Int) (a1:Int) (a2:Int):Fit (R NN d 120 [iW a0,iW a1,iW a2] []) (some (CE a0 a1 a2)) PB:=by
  obtain ⟨d,rfl,g⟩:=up hd
  refine Ay (t120 NN d _ _ _) ?_
  unfold oO CE
  exact q_p fr<|Uu (fun h1=>q_p fr<|Ad (Ab rfl) rfl) fun h1=>Ad (Ab rfl) rfl
def IQ (a0:Int):Int:=wi .i64 ((wi .i64 (3 * a0)) + 1)
theorem Xv {d:Nat} (hd:1≤d) (a0:Int):Fit (R NN d 146 [iW a0] []) (some (IQ a0)) PI:=by
  obtain ⟨d,rfl,g⟩:=up hd
  refine Ay (t146 NN d _) ?_
  unfold nK IQ
  exact q_p fr<|q_p fr<|Ad (Ab rfl) rfl
def Oh (a0:Int) (a1:Int):Option (Int):=(Mp a1 (IQ a0)).bind fun q1=>some (wi .i64 (1 + q1))
theorem eY {d:Nat} (hd:2≤d) (a0:Int) (a1:Int):Fit (R NN d 121 [iW a0,iW a1] []) (Oh a0 a1) PI:=by
  obtain ⟨d,rfl,g⟩:=up hd
  refine Ay (t121 NN d _ _) ?_
  unfold oN Oh
  exact AB (aF1 (Ab rfl) fun l0_=>Xv (by omega) a0)<|Un fun q1 hq1=>q_p fr<|Ad (Ab rfl) rfl
def OY (a0:List Int) (a1:Int) (s1:Int×Int):Option (LO (Int×Int)):=bif decide (s1.2 < (a0.length:Int)) then (Al a0 s1.2).bind fun x1=>bif a1 == x1 then some (LO.ret (s1.2,s1.2)) else some (LO.norm (s1.1,wi .i64 (s1.2 + 1))) else some (LO.exit 0 (s1.1,s1.2))
def cE (a0:List Int) (a1:Int):Option (Int):=(Ar (OY a0 a1) NN (0,0)).bind (Ac (fun _=>none) (fun i1 s2=>if i1 = 0 then some (-1) else none) (fun s2=>some s2.1))
theorem w181 {d:Nat} (hd:1≤d) (k0:Bool) (a0:List Int) (a1:Int):Fit (R NN d 181 [.rsl k0 false (a0.map (Enc.cs k0)),iW a1] []) (cE a0 a1) PI:=by
  obtain ⟨d,rfl,g⟩:=up hd
  refine Ay (t181 NN d _ _) ?_
  unfold mC cE
  refine As<|AU (A:=fun (s:Int×Int)=>[iW s.1,iW s.2]) (B:=fun s=>[]) 0 rr ?_ ?_ ?_
  ·intro s1
   unfold T0 OY
   exact q_p fr<|q_i (A9 rfl fun x1 hx1=>q_p fr<|q_p fr<|q_i (Aj 0 rr)<|q_p fr<|Aa 0 rr)<|Am 0 rr
  ·exact fun i1 s2=>q_n (Ad (Ab rfl) rfl)<|Ap
  ·exact fun s2=>Ad (Ab rfl) rfl
def Lv (a0:List Int) (a1:Int):Option (Bool):=(cE a0 a1).bind fun y1=>some (decide (y1 ≥ 0))
theorem aN {d:Nat} (hd:2≤d) (k0:Bool) (a0:List Int) (a1:Int):Fit (R NN d 147 [.rsl k0 false (a0.map (Enc.cs k0)),iW a1] []) (Lv a0 a1) PB:=by
  obtain ⟨d,rfl,g⟩:=up hd
  refine Ay (t147 NN d _ _) ?_
  unfold nJ Lv
  exact A7 (aF2 A5 (Ab rfl) fun l0_ l1_=>w181 (by omega) l0_ a0 a1) fun y1 hy1=>q_p fr<|Ad (Ab rfl) rfl
def MJ (a0:List Ah) (a1:Int) (a2:Int):Option (Ah×Bool):=bif !(CE a1 0 (wi .i64 ((a0.length:Int) - 1))) then some ((⟨0,0,0,0,0,[],[]⟩:Ah),false) else (Al a0 a1).bind fun x1=>bif x1.Kind == a2 then some (x1,decide (x1.View > 0)) else some (x1,false)
theorem eP {d:Nat} (hd:2≤d) (L0:List En) (k0:Bool) (f0_:Bool) (a0:List Ah) (a1:Int) (a2:Int):Okh (L0) (fun S=>R NN d 159 [.rsl k0 f0_ (a0.map (Enc.cs k0)),iW a1,iW a2] S) (MJ a0 a1 a2) (P3 (fun (x:Bool×Bool×Bool×Bool) (t:Ah×Bool)=>AV.tup [AV.agg [iW t.1.Kind,iW t.1.View,iW t.1.From,iW t.1.Slot,iW t.1.Value,.rsl x.1 x.2.1 (t.1.Certs.map (Enc.cs x.1)),.rsl x.2.2.1 x.2.2.2 (t.1.Refs.map (Enc.cs x.2.2.1))],AV.bool t.2]) (fun (_:Ah×Bool)=>L0)):=by
  obtain ⟨d,rfl,g⟩:=up hd
  refine Dn (t159 NN d _ _ _) ?_
  unfold mX MJ
  exact Bc rfl fun b1=>As<|q_p fr<|AB (aF3 (Ab rfl) (Ab rfl) (Ab rfl) fun l0_ l1_ l2_=>EK (by omega) a1 0 (wi .i64 ((a0.length:Int) - 1)))<|q_p fr<|q_i (q_p (fun _=>bd57 rfl)<|Bb 0 rfl rfl rfl (by decide) rfl<|Lm (false,true,false,true) 1 (fun S hS=>Lj (hS.lda 0 rfl rfl) rfl) rfl rfl)<|A9 rfl fun x1 hx1=>q_p fr<|Bc rfl fun b2=>Bb 0 rfl rfl rfl (by decide) rfl<|AX 0 rfl rfl rfl<|q_p fr<|Ao 0 rfl rfl<|q_p fr<|q_k (q_p fr<|Ao 0 rfl rfl<|q_p fr<|Bb 1 rfl rfl rfl (by decide) rfl<|bJ (fun S hS=>(Ib (hS.ap 0 1 rfl rfl (by decide)) rfl))<|Lm (k0,false,k0,false) 2 (fun S hS=>Lj (hS.lda 1 rfl rfl) rfl) rfl rfl)<|Bb 1 rfl rfl rfl (by decide) rfl<|bJ (fun S hS=>(Ib rfl rfl))<|Lm (k0,false,k0,false) 2 (fun S hS=>Lj (hS.lda 1 rfl rfl) rfl) rfl rfl
def OW (a0:List Ax) (a1:Ax→Option (Bool)) (s1:Int×Int):Option (LO (Int×Int)):=bif decide (s1.2 < (a0.length:Int)) then (Al a0 s1.2).bind fun x1=>(a1 x1).bind fun y1=>bif y1 then some (LO.ret (s1.2,s1.2)) else some (LO.norm (s1.1,wi .i64 (s1.2 + 1))) else some (LO.exit 0 (s1.1,s1.2))
def cB (a0:List Ax) (a1:Ax→Option (Bool)):Option (Int):=(Ar (OW a0 a1) NN (0,0)).bind (Ac (fun _=>none) (fun i1 s2=>if i1 = 0 then some (-1) else none) (fun s2=>some s2.1))
theorem w195 {Dc:Nat} {d:Nat} (hd:Dc + 1≤d) (k0:Bool) (a0:List Ax) (c1:Bool→AV) (hc1:∀ l,CV 8 [] false (c1 l) c1) (a1:Ax→Option (Bool)) (tc1:∀ (d:Nat),Dc≤d→∀ (l:Bool) (q0:Bool) (x0:Ax) (S:St) (t:Bool),a1 x0 = some t→AQ (cfg NN) (R NN d) 195 (c1 l) [.agg (Enc.cs q0 x0)] S = some ((fun (t:Bool)=>AV.bool t) t,S)) (k1:Bool):Fit (R NN d 195 [.rsl k0 false (a0.map (Enc.cs k0)),c1 k1] []) (cB a0 a1) PI:=by
  obtain ⟨d,rfl,g⟩:=up hd
  refine Ay (t195 NN d _ _) ?_
  unfold lN cB
  refine As<|AU (A:=fun (s:Int×Int)=>[iW s.1,iW s.2]) (B:=fun s=>[]) 0 rr ?_ ?_ ?_
  ·intro s1
   unfold Tv OW
   exact q_p fr<|q_i (A9 rfl fun x1 hx1=>q_p fr<|Qs (mg:=a1 x1) (E:=(fun (t:Bool)=>AV.bool t)) (fun S t ht=>tc1 d (by omega) k1 k0 x1 S t ht) fun y1 hy1=>q_i (Aj 0 rr)<|q_p fr<|Aa 0 rr)<|Am 0 rr
  ·exact fun i1 s2=>q_n (Ad (Ab rfl) rfl)<|Ap
  ·exact fun s2=>Ad (Ab rfl) rfl
def QM (a0:List Ax) (a1:Ax→Option (Bool)):Option (Bool):=(cB a0 a1).bind fun y1=>some (decide (y1 ≥ 0))
theorem eK {Dc:Nat} {d:Nat} (hd:Dc + 2≤d) (k0:Bool) (a0:List Ax) (c1:Bool→AV) (hc1:∀ l,CV 8 [] false (c1 l) c1) (a1:Ax→Option (Bool)) (tc1:∀ (d:Nat),Dc≤d→∀ (l:Bool) (q0:Bool) (x0:Ax) (S:St) (t:Bool),a1 x0 = some t→AQ (cfg NN) (R NN d) 195 (c1 l) [.agg (Enc.cs q0 x0)] S = some ((fun (t:Bool)=>AV.bool t) t,S)) (k1:Bool):Fit (R NN d 173 [.rsl k0 false (a0.map (Enc.cs k0)),c1 k1] []) (QM a0 a1) PB:=by
  obtain ⟨d,rfl,g⟩:=up hd
  refine Ay (t173 NN d _ _) ?_
  unfold mK QM
  exact A7 (aF2 A5 (CV.any (hc1 k1)) fun l0_ l1_=>w195 (by omega) l0_ a0 c1 hc1 a1 tc1 l1_) fun y1 hy1=>q_p fr<|Ad (Ab rfl) rfl
def QS (a0:Int):Bool:=(CE a0 0 20)
theorem aM {d:Nat} (hd:2≤d) (a0:Int):Fit (R NN d 149 [iW a0] []) (some (QS a0)) PB:=by
  obtain ⟨d,rfl,g⟩:=up hd
  refine Ay (t149 NN d _) ?_
  unfold nH QS
  exact AB (aF3 (Ab rfl) (Ab rfl) (Ab rfl) fun l0_ l1_ l2_=>EK (by omega) a0 0 20)<|Ad (Ab rfl) rfl
def QO (a0:Int):Bool:=(CE a0 1 30)
theorem aL {d:Nat} (hd:2≤d) (a0:Int):Fit (R NN d 171 [iW a0] []) (some (QO a0)) PB:=by
  obtain ⟨d,rfl,g⟩:=up hd
  refine Ay (t171 NN d _) ?_
  unfold mM QO
  exact AB (aF3 (Ab rfl) (Ab rfl) (Ab rfl) fun l0_ l1_ l2_=>EK (by omega) a0 1 30)<|Ad (Ab rfl) rfl
def QN (a0:Int):Bool:=(CE a0 0 12)
theorem aK {d:Nat} (hd:2≤d) (a0:Int):Fit (R NN d 172 [iW a0] []) (some (QN a0)) PB:=by
  obtain ⟨d,rfl,g⟩:=up hd
  refine Ay (t172 NN d _) ?_
  unfold mL QN
  exact AB (aF3 (Ab rfl) (Ab rfl) (Ab rfl) fun l0_ l1_ l2_=>EK (by omega) a0 0 12)<|Ad (Ab rfl) rfl
def Vk (a0:Int):Bool:=a0 != a0
theorem d6 {d:Nat} (hd:1≤d) (a0:Int):Fit (R NN d 226 [iW a0] []) (some (Vk a0)) PB:=by
  obtain ⟨d,rfl,g⟩:=up hd
  refine Ay (t226 NN d _) ?_
  unfold kP Vk
  exact q_p fr<|Ad (Ab rfl) rfl
def FO (a0:Int) (a1:Int):Option (Bool):=( bif (Vk a0) then bif !(Vk a1) then some (LO.norm true) else some (LO.norm (decide (a0 < a1))) else some (LO.norm (decide (a0 < a1)))).bind (Ac (fun s2=>some s2) (fun i1 s2=>none) (fun s2=>some s2))
theorem He {d:Nat} (hd:2≤d) (a0:Int) (a1:Int):Fit (R NN d 212 [iW a0,iW a1] []) (FO a0 a1) PB:=by
  obtain ⟨d,rfl,g⟩:=up hd
  refine Ay (t212 NN d _ _) ?_
  unfold kZ FO
  refine AM (A:=fun (s:Bool)=>[.bool s]) (B:=fun s=>[]) ?_ ?_ ?_ ?_
  ·exact AB (aF1 (Ab rfl) fun l0_=>d6 (by omega) a0)<|q_k (AB (aF1 (Ab rfl) fun l0_=>d6 (by omega) a1)<|q_p fr<|q_j (Aa 0 rr)<|q_p fr<|Aa 0 rr)<|q_p fr<|Aa 0 rr
  ·exact fun s2=>Ad (Ab rfl) rfl
  ·exact fun i1 s2=>Ap
  ·exact fun s2=>Ad (Ab rfl) rfl
def H3 (a1:Int) (s2:Int×(List Int)):Option (LO (Int×(List Int))):=( ( bif decide (s2.1 > a1) then (Al s2.2 s2.1).bind fun x1=>(Al s2.2 (wi .i64 (s2.1 - 1))).bind fun x2=>(FO x1 x2).bind fun y1=>some (LO.norm y1) else some (LO.norm false)).bind (Ac (fun s5=>bif s5 then some (LO.norm s5) else some (LO.exit 2 s5)) (fun i1 s5=>some (LO.exit i1 s5)) (fun s5=>some (LO.ret s5)))).bind (Ac (fun s6=>(Al s2.2 (wi .i64 (s2.1 - 1))).bind fun x3=>(Al s2.2 s2.1).bind fun x4=>(Al s2.2 s2.1).bind fun x5=>(Al (s2.2.set (Int.toNat s2.1) x3) (wi .i64 (s2.1 - 1))).bind fun x6=>some (LO.norm (wi .i64 (s2.1 - 1),(s2.2.set (Int.toNat s2.1) x3).set (Int.toNat (wi .i64 (s2.1 - 1))) x4))) (fun i2 s6=>some (LO.exit i2 (s2.1,s2.2))) (fun s6=>some (LO.ret (s2.1,s2.2))))
def H2 (a1:Int) (a2:Int) (s1:Int×(List Int)):Option (LO (Int×(List Int))):=bif decide (s1.1 < a2) then (Ar (H3 a1) NN (s1.1,s1.2)).bind (Ac (fun _=>none) (fun i3 s7=>if i3 = 2 then some (LO.norm (wi .i64 (s1.1 + 1),s7.2)) else if i3 = 1 then some (LO.norm (wi .i64 (s1.1 + 1),s7.2)) else some (LO.exit i3 (s1.1,s7.2))) (fun s7=>some (LO.ret (s1.1,s7.2)))) else some (LO.exit 0 (s1.1,s1.2))
def QF (a0:List Int) (a1:Int) (a2:Int):Option ((List Int)):=(Ar (H2 a1 a2) NN (wi .i64 (a1 + 1),a0)).bind (Ac (fun _=>none) (fun i4 s8=>if i4 = 0 then some s8.2 else none) (fun s8=>some s8.2))
theorem w206 {d:Nat} (hd:3≤d) (L0:List En) (v0_:AV) (a0:List Int) (a1:Int) (a2:Int):Okh (sl false v0_ (a0:List Int)::L0) (fun S=>R NN d 206 [v0_,iW a1,iW a2] S) (QF a0 a1 a2) (P2 (fun (t:(List Int))=>und) (fun (t:(List Int))=>sl false v0_ t::L0)):=by
  obtain ⟨d,rfl,g⟩:=up hd
  refine Dn (t206 NN d _ _ _) ?_
  unfold lF QF
  refine q_p fr<|AU (A:=fun (s:Int×(List Int))=>[iW s.1]) (B:=fun s=>sl false v0_ (s.2:List Int)::L0) 0 rr ?_ ?_ ?_
  ·intro s1
   unfold Tl H2
   refine q_p fr<|q_i ?_ ?_
   ·refine AU (A:=fun (s:Int×(List Int))=>[iW s.1]) (B:=fun s=>sl false v0_ (s.2:List Int)::L0) 0 rr ?_ ?_ ?_
    ·intro s2
     unfold Tm H3
     refine AM (A:=fun (s:Bool)=>[.bool s]) (B:=fun s=>sl false v0_ (s2.2:List Int)::L0) ?_ ?_ ?_ ?_
     ·refine AM (A:=fun (s:Bool)=>[.bool s]) (B:=fun s=>sl false v0_ (s2.2:List Int)::L0) ?_ ?_ ?_ ?_
      ·exact q_p fr<|q_k (AC 0 rfl rfl fun x1 hx1=>AT 0 rfl hx1 rfl<|q_p fr<|AC 0 rfl rfl fun x2 hx2=>AT 0 rfl hx2 rfl<|A7 (aF2 (Ab rfl) (Ab rfl) fun l0_ l1_=>He (by omega) x1 x2) fun y1 hy1=>Aa 0 rr)<|Aa 0 rr
      ·exact fun s5=>q_i (Aa 0 rr)<|Am 0 rr
      ·exact fun i1 s5=>Am 0 rr
      ·exact fun s5=>Aj 0 rr
     ·exact fun s6=>q_p fr<|q_p fr<|AC 0 rfl rfl fun x3 hx3=>AT 0 rfl hx3 rfl<|AC 0 rfl rfl fun x4 hx4=>AT 0 rfl hx4 rfl<|AC 0 rfl rfl fun x5 hx5=>Bi (y:=x3) 0 rfl rfl hx5 rfl (by decide)<|AC 0 rfl rfl fun x6 hx6=>Bi (y:=x4) 0 rfl rfl hx6 rfl (by decide)<|q_p fr<|Aa 0 rr
     ·exact fun i2 s6=>Am 0 rr
     ·exact fun s6=>Aj 0 rr
    ·exact fun i3 s7=>q_n (q_p fr<|Aa 0 rr)<|q_n (q_p fr<|Aa 0 rr)<|Am 0 rr
    ·exact fun s7=>Aj 0 rr
   ·exact Am 0 rr
  ·exact fun i4 s8=>q_n (AW 0 rfl rfl)<|Ap
  ·exact fun s8=>AW 0 rfl rfl
def Hq (a2:Int) (a3:Int) (s1:Int×(List Int)):Option (LO (Int×(List Int))):=bif decide ((wi .i64 ((wi .i64 (2 * s1.1)) + 1)) ≥ a2) then some (LO.exit 0 (s1.1,s1.2)) else ( bif decide ((wi .i64 ((wi .i64 ((wi .i64 (2 * s1.1)) + 1)) + 1)) < a2) then (Al s1.2 (wi .i64 (a3 + (wi .i64 ((wi .i64 (2 * s1.1)) + 1))))).bind fun x1=>(Al s1.2 (wi .i64 ((wi .i64 (a3 + (wi .i64 ((wi .i64 (2 * s1.1)) + 1)))) + 1))).bind fun x2=>(FO x1 x2).bind fun y1=>bif y1 then some (LO.norm (wi .i64 ((wi .i64 ((wi .i64 (2 * s1.1)) + 1)) + 1))) else some (LO.norm (wi .i64 ((wi .i64 (2 * s1.1)) + 1))) else some (LO.norm (wi .i64 ((wi .i64 (2 * s1.1)) + 1)))).bind (Ac (fun s3=>(Al s1.2 (wi .i64 (a3 + s1.1))).bind fun x3=>(Al s1.2 (wi .i64 (a3 + s3))).bind fun x4=>(FO x3 x4).bind fun y2=>bif !y2 then some (LO.ret (s1.1,s1.2)) else (Al s1.2 (wi .i64 (a3 + s3))).bind fun x5=>(Al s1.2 (wi .i64 (a3 + s1.1))).bind fun x6=>(Al s1.2 (wi .i64 (a3 + s1.1))).bind fun x7=>(Al (s1.2.set (Int.toNat (wi .i64 (a3 + s1.1))) x5) (wi .i64 (a3 + s3))).bind fun x8=>some (LO.norm (s3,(s1.2.set (Int.toNat (wi .i64 (a3 + s1.1))) x5).set (Int.toNat (wi .i64 (a3 + s3))) x6))) (fun i1 s3=>if i1 = 1 then some (LO.norm (s1.1,s1.2)) else some (LO.exit i1 (s1.1,s1.2))) (fun s3=>some (LO.ret (s1.1,s1.2))))
def MD (a0:List Int) (a1:Int) (a2:Int) (a3:Int):Option ((List Int)):=(Ar (Hq a2 a3) NN (a1,a0)).bind (Ac (fun _=>none) (fun i2 s4=>if i2 = 0 then some s4.2 else none) (fun s4=>some s4.2))
theorem eB {d:Nat} (hd:3≤d) (L0:List En) (v0_:AV) (a0:List Int) (a1:Int) (a2:Int) (a3:Int):Okh (sl false v0_ (a0:List Int)::L0) (fun S=>R NN d 221 [v0_,iW a1,iW a2,iW a3] S) (MD a0 a1 a2 a3) (P2 (fun (t:(List Int))=>und) (fun (t:(List Int))=>sl false v0_ t::L0)):=by
  obtain ⟨d,rfl,g⟩:=up hd
  refine Dn (t221 NN d _ _ _ _) ?_
  unfold kU MD
  refine AU (A:=fun (s:Int×(List Int))=>[iW s.1]) (B:=fun s=>sl false v0_ (s.2:List Int)::L0) 0 rr ?_ ?_ ?_
  ·intro s1
   unfold SQ Hq
   refine q_p fr<|q_p fr<|q_p fr<|q_i ?_ ?_
   ·exact Am 0 rr
   ·refine AM (A:=fun (s:Int)=>[iW s]) (B:=fun s=>sl false v0_ (s1.2:List Int)::L0) ?_ ?_ ?_ ?_
    ·refine q_p fr<|q_p fr<|q_k ?_ ?_
     ·exact q_p fr<|AC 0 rfl rfl fun x1 hx1=>AT 0 rfl hx1 rfl<|q_p fr<|q_p fr<|AC 0 rfl rfl fun x2 hx2=>AT 0 rfl hx2 rfl<|A7 (aF2 (Ab rfl) (Ab rfl) fun l0_ l1_=>He (by omega) x1 x2) fun y1 hy1=>q_i (q_p fr<|Aa 0 rr)<|Aa 0 rr
     ·first | refine DN ?_ | skip
      exact Aa 0 rr
    ·exact fun s3=>q_p fr<|AC 0 rfl rfl fun x3 hx3=>AT 0 rfl hx3 rfl<|q_p fr<|AC 0 rfl rfl fun x4 hx4=>AT 0 rfl hx4 rfl<|A7 (aF2 (Ab rfl) (Ab rfl) fun l0_ l1_=>He (by omega) x3 x4) fun y2 hy2=>q_p fr<|q_i (Aj 0 rr)<|q_p fr<|q_p fr<|q_p fr<|AC 0 rfl rfl fun x5 hx5=>AT 0 rfl hx5 rfl<|q_p fr<|AC 0 rfl rfl fun x6 hx6=>AT 0 rfl hx6 rfl<|AC 0 rfl rfl fun x7 hx7=>Bi (y:=x5) 0 rfl rfl hx7 rfl (by decide)<|AC 0 rfl rfl fun x8 hx8=>Bi (y:=x6) 0 rfl rfl hx8 rfl (by decide)<|Aa 0 rr
    ·exact fun i1 s3=>q_n (Aa 0 rr)<|Am 0 rr
    ·exact fun s3=>Aj 0 rr
  ·exact fun i2 s4=>q_n (AW 0 rfl rfl)<|Ap
  ·exact fun s4=>AW 0 rfl rfl
def Je (a1:Int) (a2:Int) (s1:Int×(List Int)):Option (LO (Int×(List Int))):=bif decide (s1.1 ≥ 0) then (MD s1.2 s1.1 (wi .i64 (a2 - a1)) a1).bind fun y1=>some (LO.norm (wi .i64 (s1.1 - 1),y1)) else some (LO.exit 0 (s1.1,s1.2))
def Jd (a1:Int) (s3:Int×(List Int)):Option (LO (Int×(List Int))):=bif decide (s3.1 ≥ 0) then (Al s3.2 (wi .i64 (a1 + s3.1))).bind fun x1=>(Al s3.2 a1).bind fun x2=>(Al s3.2 a1).bind fun x3=>(Al (s3.2.set (Int.toNat a1) x1) (wi .i64 (a1 + s3.1))).bind fun x4=>(MD ((s3.2.set (Int.toNat a1) x1).set (Int.toNat (wi .i64 (a1 + s3.1))) x2) 0 s3.1 a1).bind fun y2=>some (LO.norm (wi .i64 (s3.1 - 1),y2)) else some (LO.exit 2 (s3.1,s3.2))
def QE (a0:List Int) (a1:Int) (a2:Int):Option ((List Int)):=(Ar (Je a1 a2) NN (wi .i64 (Int.tdiv (wi .i64 ((wi .i64 (a2 - a1)) - 1)) 2),a0)).bind (Ac (fun _=>none) (fun i1 s2=>if i1 = 0 then (Ar (Jd a1) NN (wi .i64 ((wi .i64 (a2 - a1)) - 1),s2.2)).bind (Ac (fun _=>none) (fun i2 s4=>if i2 = 2 then some s4.2 else none) (fun s4=>some s4.2)) else none) (fun s2=>some s2.2))
theorem w207 {d:Nat} (hd:4≤d) (L0:List En) (v0_:AV) (a0:List Int) (a1:Int) (a2:Int):Okh (sl false v0_ (a0:List Int)::L0) (fun S=>R NN d 207 [v0_,iW a1,iW a2] S) (QE a0 a1 a2) (P2 (fun (t:(List Int))=>und) (fun (t:(List Int))=>sl false v0_ t::L0)):=by
  obtain ⟨d,rfl,g⟩:=up hd
  refine Dn (t207 NN d _ _ _) ?_
  unfold lE QE
  refine q_p fr<|q_p fr<|q_p fr<|AU (A:=fun (s:Int×(List Int))=>[iW s.1]) (B:=fun s=>sl false v0_ (s.2:List Int)::L0) 0 rr ?_ ?_ ?_
  ·intro s1
   unfold Tk Je
   exact q_p fr<|q_i (q_s (mg:=MD s1.2 s1.1 (wi .i64 (a2 - a1)) a1) (eB (by omega) _ _ s1.2 s1.1 (wi .i64 (a2 - a1)) a1) fun y1 hy1=>q_p fr<|Aa 0 rr)<|Am 0 rr
  ·intro i1 s2
   refine q_n ?_ ?_
   ·refine q_p fr<|AU (A:=fun (s:Int×(List Int))=>[iW s.1]) (B:=fun s=>sl false v0_ (s.2:List Int)::L0) 0 rr ?_ ?_ ?_
    ·intro s3
     unfold Tj Jd
     exact q_p fr<|q_i (q_p fr<|q_p fr<|AC 0 rfl rfl fun x1 hx1=>AT 0 rfl hx1 rfl<|AC 0 rfl rfl fun x2 hx2=>AT 0 rfl hx2 rfl<|AC 0 rfl rfl fun x3 hx3=>Bi (y:=x1) 0 rfl rfl hx3 rfl (by decide)<|AC 0 rfl rfl fun x4 hx4=>Bi (y:=x2) 0 rfl rfl hx4 rfl (by decide)<|q_s (mg:=MD ((s3.2.set (Int.toNat a1) x1).set (Int.toNat (wi .i64 (a1 + s3.1))) x2) 0 s3.1 a1) (eB (by omega) _ _ ((s3.2.set (Int.toNat a1) x1).set (Int.toNat (wi .i64 (a1 + s3.1))) x2) 0 s3.1 a1) fun y2 hy2=>q_p fr<|Aa 0 rr)<|Am 0 rr
    ·exact fun i2 s4=>q_n (AW 0 rfl rfl)<|Ap
    ·exact fun s4=>AW 0 rfl rfl
   ·exact Ap
  ·exact fun s2=>AW 0 rfl rfl
def m215 (a0:Int):Option (Int):=( bif decide (a0 ≥ 65536) then some (LO.norm (Kl .u32 a0 16,16)) else some (LO.norm (a0,0))).bind (Ac (fun s2=>( bif decide (s2.1 ≥ 256) then some (LO.norm (Kl .u32 s2.1 8,wi .i64 (s2.2 + 8))) else some (LO.norm (s2.1,s2.2))).bind (Ac (fun s4=>(Al ([0,1,2,2,3,3,3,3,4,4,4,4,4,4,4,4,5,5,5,5,5,5,5,5,5,5,5,5,5,5,5,5,6,6,6,6,6,6,6,6,6,6,6,6,6,6,6,6,6,6,6,6,6,6,6,6,6,6,6,6,6,6,6,6,7,7,7,7,7,7,7,7,7,7,7,7,7,7,7,7,7,7,7,7,7,7,7,7,7,7,7,7,7,7,7,7,7,7,7,7,7,7,7,7,7,7,7,7,7,7,7,7,7,7,7,7,7,7,7,7,7,7,7,7,7,7,7,7,8,8,8,8,8,8,8,8,8,8,8,8,8,8,8,8,8,8,8,8,8,8,8,8,8,8,8,8,8,8,8,8,8,8,8,8,8,8,8,8,8,8,8,8,8,8,8,8,8,8,8,8,8,8,8,8,8,8,8,8,8,8,8,8,8,8,8,8,8,8,8,8,8,8,8,8,8,8,8,8,8,8,8,8,8,8,8,8,8,8,8,8,8,8,8,8,8,8,8,8,8,8,8,8,8,8,8,8,8,8,8,8,8,8,8,8,8,8,8,8,8,8,8,8,8,8,8,8]:Str) (wi .u8 s4.1)).bind fun c1=>some (wi .i64 (s4.2 + (wi .i64 (c1.toNat:Int))))) (fun i2 s4=>none) (fun s4=>some s4.2))) (fun i1 s2=>none) (fun s2=>some s2.2))
def bZ (a0:Int):Option (Int):=( bif decide (a0 ≥ 4294967296) then some (LO.norm (Kl .u64 a0 32,32)) else some (LO.norm (a0,0))).bind (Ac (fun s2=>( bif decide (s2.1 ≥ 65536) then some (LO.norm (Kl .u64 s2.1 16,wi .i64 (s2.2 + 16))) else some (LO.norm (s2.1,s2.2))).bind (Ac (fun s4=>( bif decide (s4.1 ≥ 256) then some (LO.norm (Kl .u64 s4.1 8,wi .i64 (s4.2 + 8))) else some (LO.norm (s4.1,s4.2))).bind (Ac (fun s6=>(Al ([0,1,2,2,3,3,3,3,4,4,4,4,4,4,4,4,5,5,5,5,5,5,5,5,5,5,5,5,5,5,5,5,6,6,6,6,6,6,6,6,6,6,6,6,6,6,6,6,6,6,6,6,6,6,6,6,6,6,6,6,6,6,6,6,7,7,7,7,7,7,7,7,7,7,7,7,7,7,7,7,7,7,7,7,7,7,7,7,7,7,7,7,7,7,7,7,7,7,7,7,7,7,7,7,7,7,7,7,7,7,7,7,7,7,7,7,7,7,7,7,7,7,7,7,7,7,7,7,8,8,8,8,8,8,8,8,8,8,8,8,8,8,8,8,8,8,8,8,8,8,8,8,8,8,8,8,8,8,8,8,8,8,8,8,8,8,8,8,8,8,8,8,8,8,8,8,8,8,8,8,8,8,8,8,8,8,8,8,8,8,8,8,8,8,8,8,8,8,8,8,8,8,8,8,8,8,8,8,8,8,8,8,8,8,8,8,8,8,8,8,8,8,8,8,8,8,8,8,8,8,8,8,8,8,8,8,8,8,8,8,8,8,8,8,8,8,8,8,8,8,8,8,8,8,8,8]:Str) (wi .u8 s6.1)).bind fun c1=>some (wi .i64 (s6.2 + (wi .i64 (c1.toNat:Int))))) (fun i3 s6=>none) (fun s6=>some s6.2))) (fun i2 s4=>none) (fun s4=>some s4.2))) (fun i1 s2=>none) (fun s2=>some s2.2))
theorem w216 {d:Nat} (hd:1≤d) (a0:Int):Fit (R NN d 216 [.int .u64 a0] []) (bZ a0) PI:=by
  obtain ⟨d,rfl,g⟩:=up hd
  refine Ay (t216 NN d _) ?_
  unfold kW bZ
  refine AM (A:=fun (s:Int×Int)=>[.int .u64 s.1,iW s.2]) (B:=fun s=>[]) ?_ ?_ ?_ ?_
  ·exact q_p fr<|q_i (q_p fr<|Aa 0 rr)<|Aa 0 rr
  ·intro s2
   refine AM (A:=fun (s:Int×Int)=>[.int .u64 s.1,iW s.2]) (B:=fun s=>[]) ?_ ?_ ?_ ?_
   ·exact q_p fr<|q_i (q_p fr<|q_p fr<|Aa 0 rr)<|Aa 0 rr
   ·intro s4
    refine AM (A:=fun (s:Int×Int)=>[.int .u64 s.1,iW s.2]) (B:=fun s=>[]) ?_ ?_ ?_ ?_
    ·exact q_p fr<|q_i (q_p fr<|q_p fr<|Aa 0 rr)<|Aa 0 rr
    ·exact fun s6=>q_p (fun _=>WE _ _)<|Hj fun c1 hc1=>q_p (fun _=>cT _ _)<|q_p fr<|Ad (Ab rfl) rfl
    ·exact fun i3 s6=>Ap
    ·exact fun s6=>Ad (Ab rfl) rfl
   ·exact fun i2 s4=>Ap
   ·exact fun s4=>Ad (Ab rfl) rfl
  ·exact fun i1 s2=>Ap
  ·exact fun s2=>Ad (Ab rfl) rfl
def Vr (a0:Int):Option (Int):=(bZ a0).bind fun y1=>some y1
theorem eE {d:Nat} (hd:2≤d) (a0:Int):Fit (R NN d 200 [.int .u64 a0] []) (Vr a0) PI:=by
  obtain ⟨d,rfl,g⟩:=up hd
  refine Ay (t200 NN d _) ?_
  unfold lI Vr
  first | refine DN ?_ | skip
  exact A7 (aF1 (Ab rfl) fun l0_=>w216 (by omega) a0) fun y1 hy1=>Ad (Ab rfl) rfl
def Vm (a0:Int):Option (Int):=(Vr (wi .u64 a0)).bind fun y1=>(X8 .u64 1 y1).bind fun q1=>some q1
theorem w222 {d:Nat} (hd:3≤d) (a0:Int):Fit (R NN d 222 [iW a0] []) (Vm a0) (P0 (fun (t:Int)=>AV.int .u64 t)):=by
  obtain ⟨d,rfl,g⟩:=up hd
  refine Ay (t222 NN d _) ?_
  unfold kT Vm
  exact q_p (fun _=>Nn _ _)<|A7 (aF1 (Ab rfl) fun l0_=>eE (by omega) (wi .u64 a0)) fun y1 hy1=>f8 fun q1 hq1=>Ad (Ab rfl) rfl
def Vl (a0:Int):Int×Int:=(Hb .u64 (Hb .u64 (Hb .u64 a0 (IO .u64 a0 13)) (Kl .u64 (Hb .u64 a0 (IO .u64 a0 13)) 7)) (IO .u64 (Hb .u64 (Hb .u64 a0 (IO .u64 a0 13)) (Kl .u64 (Hb .u64 a0 (IO .u64 a0 13)) 7)) 17),Hb .u64 (Hb .u64 (Hb .u64 a0 (IO .u64 a0 13)) (Kl .u64 (Hb .u64 a0 (IO .u64 a0 13)) 7)) (IO .u64 (Hb .u64 (Hb .u64 a0 (IO .u64 a0 13)) (Kl .u64 (Hb .u64 a0 (IO .u64 a0 13)) 7)) 17))
theorem w223 {d:Nat} (hd:1≤d) (L0:List En) (b0_:Nat) (a0:Int):Okh (bx b0_ [.int .u64 a0]::L0) (fun S=>R NN d 223 [.bp b0_ 0 0 1 1] S) (some (Vl a0)) (P2 (fun (t:Int×Int)=>AV.int .u64 t.1) (fun (t:Int×Int)=>bx b0_ [.int .u64 t.2]::L0)):=by
  obtain ⟨d,rfl,g⟩:=up hd
  refine Dn (t223 NN d _) ?_
  unfold kS Vl
  exact q_q fr<|Ao 0 rfl rfl<|q_q fr<|Ao 0 rfl rfl<|q_p fr<|q_p fr<|q_q fr<|Bb 0 rfl rfl rfl (by decide) rfl<|q_q fr<|Ao 0 rfl rfl<|q_q fr<|Ao 0 rfl rfl<|q_p fr<|q_p fr<|q_q fr<|Bb 0 rfl rfl rfl (by decide) rfl<|q_q fr<|Ao 0 rfl rfl<|q_q fr<|Ao 0 rfl rfl<|q_p fr<|q_p fr<|q_q fr<|Bb 0 rfl rfl rfl (by decide) rfl<|q_q fr<|Ao 0 rfl rfl<|AW 0 rfl rfl
def Jc (a1:Int) (a2:Int) (y1:Int) (s1:Int×Int×(List Int)):Option (LO (Int×Int×(List Int))):=bif decide (s1.1≤(wi .i64 ((wi .i64 (a1 + (wi .i64 ((wi .i64 (Int.tdiv (wi .i64 (a2 - a1)) 4)) * 2)))) + 1))) then ( (some (Vl s1.2.1)).bind fun y2=>( bif decide ((wi .i64 (LY .u64 y2.1 (wi .u64 (y1 - 1)))) ≥ (wi .i64 (a2 - a1))) then some (LO.norm (wi .i64 ((wi .i64 (LY .u64 y2.1 (wi .u64 (y1 - 1)))) - (wi .i64 (a2 - a1))))) else some (LO.norm (wi .i64 (LY .u64 y2.1 (wi .u64 (y1 - 1)))))).bind (Ac (fun s4=>(Al s1.2.2 (wi .i64 (a1 + s4))).bind fun x1=>(Al s1.2.2 s1.1).bind fun x2=>(Al s1.2.2 s1.1).bind fun x3=>(Al (s1.2.2.set (Int.toNat s1.1) x1) (wi .i64 (a1 + s4))).bind fun x4=>some (LO.norm (y2.2,(s1.2.2.set (Int.toNat s1.1) x1).set (Int.toNat (wi .i64 (a1 + s4))) x2))) (fun i1 s4=>if i1 = 1 then some (LO.norm (y2.2,s1.2.2)) else some (LO.exit i1 (y2.2,s1.2.2))) (fun s4=>some (LO.ret (y2.2,s1.2.2))))).bind (Ac (fun s5=>some (LO.norm (wi .i64 (s1.1 + 1),s5.1,s5.2))) (fun i2 s5=>some (LO.exit i2 (s1.1,s5.1,s5.2))) (fun s5=>some (LO.ret (s1.1,s5.1,s5.2)))) else some (LO.exit 0 (s1.1,s1.2.1,s1.2.2))
def QD (a0:List Int) (a1:Int) (a2:Int):Option ((List Int)):=bif decide ((wi .i64 (a2 - a1)) ≥ 8) then (Vm (wi .i64 (a2 - a1))).bind fun y1=>(Ar (Jc a1 a2 y1) NN (wi .i64 ((wi .i64 (a1 + (wi .i64 ((wi .i64 (Int.tdiv (wi .i64 (a2 - a1)) 4)) * 2)))) - 1),wi .u64 (wi .i64 (a2 - a1)),a0)).bind (Ac (fun _=>none) (fun i3 s6=>if i3 = 0 then some s6.2.2 else none) (fun s6=>some s6.2.2)) else some a0
theorem w208 {d:Nat} (hd:4≤d) (L0:List En) (v0_:AV) (a0:List Int) (a1:Int) (a2:Int):Okh (sl false v0_ (a0:List Int)::L0) (fun S=>R NN d 208 [v0_,iW a1,iW a2] S) (QD a0 a1 a2) (P2 (fun (t:(List Int))=>und) (fun (t:(List Int))=>sl false v0_ t::L0)):=by
  obtain ⟨d,rfl,g⟩:=up hd
  refine Dn (t208 NN d _ _ _) ?_
  unfold lD QD
  refine q_p fr<|q_p fr<|q_i ?_ ?_
  ·refine q_p (fun _=>WC _ _)<|Bc rfl fun b1=>Bb 0 rfl rfl rfl (by decide) rfl<|A7 (aF1 (Ab rfl) fun l0_=>w222 (by omega) (wi .i64 (a2 - a1))) fun y1 hy1=>q_p fr<|q_p fr<|q_p fr<|q_p fr<|AU (A:=fun (s:Int×Int×(List Int))=>[iW s.1]) (B:=fun s=>bx b1 [.int .u64 s.2.1]::sl false v0_ (s.2.2:List Int)::L0) 0 rr ?_ ?_ ?_
   ·intro s1
    unfold Ti Jc
    refine q_p fr<|q_p fr<|q_p fr<|q_p fr<|q_p fr<|q_i ?_ ?_
    ·refine AM (A:=fun (s:Int×(List Int))=>[]) (B:=fun s=>bx b1 [.int .u64 s.1]::sl false v0_ (s.2:List Int)::L0) ?_ ?_ ?_ ?_
     ·refine q_s (mg:=some (Vl s1.2.1)) (w223 (by omega) _ _ s1.2.1) fun y2 hy2=>q_p fr<|q_p fr<|q_p (fun _=>WF _ _)<|AM (A:=fun (s:Int)=>[iW s]) (B:=fun s=>bx b1 [.int .u64 y2.2]::sl false v0_ (s1.2.2:List Int)::L0) ?_ ?_ ?_ ?_
      ·exact q_p fr<|q_i (q_p fr<|Aa 0 rr)<|Aa 0 rr
      ·exact fun s4=>q_p fr<|q_p fr<|AC 1 rfl rfl fun x1 hx1=>AT 1 rfl hx1 rfl<|AC 1 rfl rfl fun x2 hx2=>AT 1 rfl hx2 rfl<|AC 1 rfl rfl fun x3 hx3=>Bi (y:=x1) 1 rfl rfl hx3 rfl (by decide)<|AC 1 rfl rfl fun x4 hx4=>Bi (y:=x2) 1 rfl rfl hx4 rfl (by decide)<|Aa 0 rr
      ·exact fun i1 s4=>q_n (Aa 0 rr)<|Am 0 rr
      ·exact fun s4=>Aj 0 rr
     ·exact fun s5=>q_p fr<|Aa 0 rr
     ·exact fun i2 s5=>Am 0 rr
     ·exact fun s5=>Aj 0 rr
    ·exact Am 0 rr
   ·exact fun i3 s6=>q_n (AW 1 rfl rfl)<|Ap
   ·exact fun s6=>AW 1 rfl rfl
  ·exact AW 0 rfl rfl
def Ko (a0:List Int) (a1:Int) (a2:Int) (a3:Int):Option (Int×Int×Int):=(Al a0 a2).bind fun x1=>(Al a0 a1).bind fun x2=>(FO x1 x2).bind fun y1=>bif y1 then some (a2,a1,wi .i64 (a3 + 1)) else some (a1,a2,a3)
theorem aI {d:Nat} (hd:3≤d) (L0:List En) (k0:Bool) (f0_:Bool) (a0:List Int) (a1:Int) (a2:Int) (b3_:Nat) (a3:Int):Okh (bx b3_ [iW a3]::L0) (fun S=>R NN d 232 [.rsl k0 f0_ (a0.map (Enc.cs k0)),iW a1,iW a2,.bp b3_ 0 0 1 1] S) (Ko a0 a1 a2 a3) (P2 (fun (t:Int×Int×Int)=>AV.tup [iW t.1,iW t.2.1]) (fun (t:Int×Int×Int)=>bx b3_ [iW t.2.2]::L0)):=by
  obtain ⟨d,rfl,g⟩:=up hd
  refine Dn (t232 NN d _ _ _ _) ?_
  unfold kO Ko
  exact A9 rfl fun x1 hx1=>q_p fr<|A9 rfl fun x2 hx2=>q_p fr<|A7 (aF2 (Ab rfl) (Ab rfl) fun l0_ l1_=>He (by omega) x1 x2) fun y1 hy1=>q_i (q_q fr<|Ao 0 rfl rfl<|q_p fr<|q_q fr<|Bb 0 rfl rfl rfl (by decide) rfl<|AW 0 rfl rfl)<|AW 0 rfl rfl
def MB (a0:List Int) (a1:Int) (a2:Int) (a3:Int) (a4:Int):Option (Int×Int):=(Ko a0 a1 a2 a4).bind fun y1=>(Ko a0 y1.2.1 a3 y1.2.2).bind fun y2=>(Ko a0 y1.1 y2.1 y2.2.2).bind fun y3=>some (y3.2.1,y3.2.2)
theorem eA {d:Nat} (hd:4≤d) (L0:List En) (k0:Bool) (f0_:Bool) (a0:List Int) (a1:Int) (a2:Int) (a3:Int) (b4_:Nat) (a4:Int):Okh (bx b4_ [iW a4]::L0) (fun S=>R NN d 225 [.rsl k0 f0_ (a0.map (Enc.cs k0)),iW a1,iW a2,iW a3,.bp b4_ 0 0 1 1] S) (MB a0 a1 a2 a3 a4) (P2 (fun (t:Int×Int)=>AV.int .i64 t.1) (fun (t:Int×Int)=>bx b4_ [iW t.2]::L0)):=by
  obtain ⟨d,rfl,g⟩:=up hd
  refine Dn (t225 NN d _ _ _ _ _) ?_
  unfold kQ MB
  exact q_s (mg:=Ko a0 a1 a2 a4) (aI (by omega) _ _ _ a0 a1 a2 _ a4) fun y1 hy1=>q_q fr<|q_q fr<|q_s (mg:=Ko a0 y1.2.1 a3 y1.2.2) (aI (by omega) _ _ _ a0 y1.2.1 a3 _ y1.2.2) fun y2 hy2=>q_q fr<|q_q fr<|q_s (mg:=Ko a0 y1.1 y2.1 y2.2.2) (aI (by omega) _ _ _ a0 y1.1 y2.1 _ y2.2.2) fun y3 hy3=>q_q fr<|q_q fr<|AW 0 rfl rfl
def MC (a0:List Int) (a1:Int) (a2:Int):Option (Int×Int):=(MB a0 (wi .i64 (a1 - 1)) a1 (wi .i64 (a1 + 1)) a2).bind fun y1=>some (y1.1,y1.2)
theorem aJ {d:Nat} (hd:5≤d) (L0:List En) (k0:Bool) (f0_:Bool) (a0:List Int) (a1:Int) (b2_:Nat) (a2:Int):Okh (bx b2_ [iW a2]::L0) (fun S=>R NN d 224 [.rsl k0 f0_ (a0.map (Enc.cs k0)),iW a1,.bp b2_ 0 0 1 1] S) (MC a0 a1 a2) (P2 (fun (t:Int×Int)=>AV.int .i64 t.1) (fun (t:Int×Int)=>bx b2_ [iW t.2]::L0)):=by
  obtain ⟨d,rfl,g⟩:=up hd
  refine Dn (t224 NN d _ _ _) ?_
  unfold kR MC
  exact q_p fr<|q_p fr<|q_s (mg:=MB a0 (wi .i64 (a1 - 1)) a1 (wi .i64 (a1 + 1)) a2) (eA (by omega) _ _ _ a0 (wi .i64 (a1 - 1)) a1 (wi .i64 (a1 + 1)) _ a2) fun y1 hy1=>AW 0 rfl rfl
def Vn (a0:List Int) (a1:Int) (a2:Int):Option (Int×Int):=( bif decide ((wi .i64 (a2 - a1)) ≥ 8) then ( bif decide ((wi .i64 (a2 - a1)) ≥ 50) then (MC a0 (wi .i64 (a1 + (wi .i64 ((wi .i64 (Int.tdiv (wi .i64 (a2 - a1)) 4)) * 1)))) 0).bind fun y1=>(MC a0 (wi .i64 (a1 + (wi .i64 ((wi .i64 (Int.tdiv (wi .i64 (a2 - a1)) 4)) * 2)))) y1.2).bind fun y2=>(MC a0 (wi .i64 (a1 + (wi .i64 ((wi .i64 (Int.tdiv (wi .i64 (a2 - a1)) 4)) * 3)))) y2.2).bind fun y3=>some (LO.norm (y1.1,y2.1,y3.1,y3.2)) else some (LO.norm (wi .i64 (a1 + (wi .i64 ((wi .i64 (Int.tdiv (wi .i64 (a2 - a1)) 4)) * 1))),wi .i64 (a1 + (wi .i64 ((wi .i64 (Int.tdiv (wi .i64 (a2 - a1)) 4)) * 2))),wi .i64 (a1 + (wi .i64 ((wi .i64 (Int.tdiv (wi .i64 (a2 - a1)) 4)) * 3))),0))).bind (Ac (fun s3=>(MB a0 s3.1 s3.2.1 s3.2.2.1 s3.2.2.2).bind fun y4=>some (LO.norm (y4.1,y4.2))) (fun i1 s3=>some (LO.exit i1 (s3.2.1,s3.2.2.2))) (fun s3=>some (LO.ret (s3.2.1,s3.2.2.2)))) else some (LO.norm (wi .i64 (a1 + (wi .i64 ((wi .i64 (Int.tdiv (wi .i64 (a2 - a1)) 4)) * 2))),0))).bind (Ac (fun s4=>bif s4.2 == 0 then some (s4.1,1) else bif s4.2 == 12 then some (s4.1,2) else some (s4.1,0)) (fun i2 s4=>none) (fun s4=>some (0,0)))
theorem w209 {d:Nat} (hd:6≤d) (k0:Bool) (a0:List Int) (a1:Int) (a2:Int):Fit (R NN d 209 [.rsl k0 false (a0.map (Enc.cs k0)),iW a1,iW a2] []) (Vn a0 a1 a2) (P0 (fun (t:Int×Int)=>AV.tup [iW t.1,iW t.2])):=by
  obtain ⟨d,rfl,g⟩:=up hd
  refine Ay (t209 NN d _ _ _) ?_
  unfold lC Vn
  refine q_p fr<|Bc rfl fun b1=>q_p fr<|q_p fr<|q_p fr<|q_p fr<|q_p fr<|q_p fr<|q_p fr<|q_p fr<|q_p fr<|AM (A:=fun (s:Int×Int)=>[iW s.1]) (B:=fun s=>[bx b1 [iW s.2]]) ?_ ?_ ?_ ?_
  ·refine q_p fr<|q_i ?_ ?_
   ·refine AM (A:=fun (s:Int×Int×Int×Int)=>[iW s.1,iW s.2.1,iW s.2.2.1]) (B:=fun s=>[bx b1 [iW s.2.2.2]]) ?_ ?_ ?_ ?_
    ·exact q_p fr<|q_i (q_s (mg:=MC a0 (wi .i64 (a1 + (wi .i64 ((wi .i64 (Int.tdiv (wi .i64 (a2 - a1)) 4)) * 1)))) 0) (aJ (by omega) _ _ _ a0 (wi .i64 (a1 + (wi .i64 ((wi .i64 (Int.tdiv (wi .i64 (a2 - a1)) 4)) * 1)))) _ 0) fun y1 hy1=>q_s (mg:=MC a0 (wi .i64 (a1 + (wi .i64 ((wi .i64 (Int.tdiv (wi .i64 (a2 - a1)) 4)) * 2)))) y1.2) (aJ (by omega) _ _ _ a0 (wi .i64 (a1 + (wi .i64 ((wi .i64 (Int.tdiv (wi .i64 (a2 - a1)) 4)) * 2)))) _ y1.2) fun y2 hy2=>q_s (mg:=MC a0 (wi .i64 (a1 + (wi .i64 ((wi .i64 (Int.tdiv (wi .i64 (a2 - a1)) 4)) * 3)))) y2.2) (aJ (by omega) _ _ _ a0 (wi .i64 (a1 + (wi .i64 ((wi .i64 (Int.tdiv (wi .i64 (a2 - a1)) 4)) * 3)))) _ y2.2) fun y3 hy3=>Aa 0 rr)<|Aa 0 rr
    ·exact fun s3=>q_s (mg:=MB a0 s3.1 s3.2.1 s3.2.2.1 s3.2.2.2) (eA (by omega) _ _ _ a0 s3.1 s3.2.1 s3.2.2.1 _ s3.2.2.2) fun y4 hy4=>Aa 0 rr
    ·exact fun i1 s3=>Am 0 rr
    ·exact fun s3=>Aj 0 rr
   ·exact Aa 0 rr
  ·exact fun s4=>Ao 0 rfl rfl<|q_p fr<|q_i (Ad (DR (Ag (Ab rfl) (Ag (Ab rfl) Az))) rfl)<|q_p fr<|q_i (Ad (DR (Ag (Ab rfl) (Ag (Ab rfl) Az))) rfl)<|Ad (DR (Ag (Ab rfl) (Ag (Ab rfl) Az))) rfl
  ·exact fun i2 s4=>Ap
  ·exact fun s4=>Ad (DR (Ag (Ab rfl) (Ag (Ab rfl) Az))) rfl
def Hz (s1:Int×Int×(List Int)):Option (LO (Int×Int×(List Int))):=bif decide (s1.1 < s1.2.1) then (Al s1.2.2 s1.2.1).bind fun x1=>(Al s1.2.2 s1.1).bind fun x2=>(Al s1.2.2 s1.1).bind fun x3=>(Al (s1.2.2.set (Int.toNat s1.1) x1) s1.2.1).bind fun x4=>some (LO.norm (wi .i64 (s1.1 + 1),wi .i64 (s1.2.1 - 1),(s1.2.2.set (Int.toNat s1.1) x1).set (Int.toNat s1.2.1) x2)) else some (LO.exit 0 (s1.1,s1.2.1,s1.2.2))
def QC (a0:List Int) (a1:Int) (a2:Int):Option ((List Int)):=(Ar (Hz) NN (a1,wi .i64 (a2 - 1),a0)).bind (Ac (fun _=>none) (fun i1 s2=>if i1 = 0 then some s2.2.2 else none) (fun s2=>some s2.2.2))
theorem w210 {d:Nat} (hd:1≤d) (L0:List En) (v0_:AV) (a0:List Int) (a1:Int) (a2:Int):Okh (sl false v0_ (a0:List Int)::L0) (fun S=>R NN d 210 [v0_,iW a1,iW a2] S) (QC a0 a1 a2) (P2 (fun (t:(List Int))=>und) (fun (t:(List Int))=>sl false v0_ t::L0)):=by
  obtain ⟨d,rfl,g⟩:=up hd
  refine Dn (t210 NN d _ _ _) ?_
  unfold lB QC
  refine q_p fr<|AU (A:=fun (s:Int×Int×(List Int))=>[iW s.1,iW s.2.1]) (B:=fun s=>sl false v0_ (s.2.2:List Int)::L0) 0 rr ?_ ?_ ?_
  ·intro s1
   unfold Tg Hz
   exact q_p fr<|q_i (AC 0 rfl rfl fun x1 hx1=>AT 0 rfl hx1 rfl<|AC 0 rfl rfl fun x2 hx2=>AT 0 rfl hx2 rfl<|AC 0 rfl rfl fun x3 hx3=>Bi (y:=x1) 0 rfl rfl hx3 rfl (by decide)<|AC 0 rfl rfl fun x4 hx4=>Bi (y:=x2) 0 rfl rfl hx4 rfl (by decide)<|q_p fr<|q_p fr<|Aa 0 rr)<|Am 0 rr
  ·exact fun i1 s2=>q_n (AW 0 rfl rfl)<|Ap
  ·exact fun s2=>AW 0 rfl rfl
end
end Go.Proofs.YtdlleiaejipncaaGreatDoor
