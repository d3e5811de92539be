/- Plain functions, and that the evaluator computes them. -/
import Derived.Test.YtgjljhchmokhfaaGreatT
import Derived.Test.YtgjljhchmokhfaaGreatRh6
import Derived.Test.YtgjljhchmokhfaaGreatRh10
import Derived.Test.YtgjljhchmokhfaaGreatRh18
import Derived.Test.YtgjljhchmokhfaaGreatRh21
namespace Go.Proofs.YtgjljhchmokhfaaGreat
open Go Go.Rf
set_option linter.unusedVariables false
set_option linter.unusedSimpArgs false
noncomputable section
structure Af where
  Code:List U8
  At:Int
  deriving DecidableEq
instance:Enc Af:=(Enc.of fun x:Af=>(x.Code,x.At)).copy (fun l x=>[.rsl l false (x.Code.map (Enc.cs l)),iW x.At]) (fun _ _=>rfl) 2 1 rfl rfl
instance:Tr Af:=Tr.of (fun x:Af=>(x.Code,x.At)) (fun _ _=>rfl) rfl rfl
structure Ar where
  Slot:Int
  View:Int
  Value:Int
  deriving DecidableEq
instance:Enc Ar:=(Enc.of fun x:Ar=>(x.Slot,x.View,x.Value)).copy (fun l x=>[iW x.Slot,iW x.View,iW x.Value]) (fun _ _=>rfl) 3 0 rfl rfl
instance:Tr Ar:=Tr.of (fun x:Ar=>(x.Slot,x.View,x.Value)) (fun _ _=>rfl) rfl rfl
structure Ad where
  Kind:Int
  View:Int
  From:Int
  Slot:Int
  Value:Int
  Certs:List Ar
  Refs:List Int
  deriving DecidableEq
instance:Enc Ad:=(Enc.of fun x:Ad=>(x.Kind,x.View,x.From,x.Slot,x.Value,x.Certs,x.Refs)).copy (fun l x=>[iW x.Kind,iW x.View,iW x.From,iW x.Slot,iW x.Value,.rsl l false (x.Certs.map (Enc.cs l)),.rsl l false (x.Refs.map (Enc.cs l))]) (fun _ _=>rfl) 7 1 rfl rfl
instance:Tr Ad:=Tr.of (fun x:Ad=>(x.Kind,x.View,x.From,x.Slot,x.Value,x.Certs,x.Refs)) (fun _ _=>rfl) rfl rfl
structure Aj where
  Id:Int
  View:Int
  Start:Int
  Done:Int
  deriving DecidableEq
instance:Enc Aj:=(Enc.of fun x:Aj=>(x.Id,x.View,x.Start,x.Done)).copy (fun l x=>[iW x.Id,iW x.View,iW x.Start,iW x.Done]) (fun _ _=>rfl) 4 0 rfl rfl
instance:Tr Aj:=Tr.of (fun x:Aj=>(x.Id,x.View,x.Start,x.Done)) (fun _ _=>rfl) rfl rfl
theorem La {x0 x1 x2 x3 r:AV} (hr:(DC (plc [(0,1),(1,1),(2,1),(3,1)]) [iW 0,iW 0,iW 0,iW 0] [(0,x0),(1,x1),(2,x2),(3,x3)]).map AV.agg = some r):AW Tryz.prog 26 [(0,x0),(1,x1),(2,x2),(3,x3)] = some r:=Eq.trans (by kernel_rfl) hr
theorem bd37 { r:AV} (hr:(DC (plc [(0,1),(1,1),(2,1),(3,1),(4,1),(5,1),(6,1)]) [iW 0,iW 0,iW 0,iW 0,iW 0,.rsl false true [],.rsl false true []] []).map AV.agg = some r):AW Tryz.prog 37 [] = some r:=Eq.trans (by kernel_rfl) hr
theorem Js {x0 x1 x2 r:AV} (hr:(DC (plc [(0,1),(1,1),(2,1),(3,1),(4,1),(5,1),(6,1)]) [iW 0,iW 0,iW 0,iW 0,iW 0,.rsl false true [],.rsl false true []] [(0,x0),(1,x1),(2,x2)]).map AV.agg = some r):AW Tryz.prog 37 [(0,x0),(1,x1),(2,x2)] = some r:=Eq.trans (by kernel_rfl) hr
theorem FA {x0 x1 x2 x3 x4 r:AV} (hr:(DC (plc [(0,1),(1,1),(2,1),(3,1),(4,1),(5,1),(6,1)]) [iW 0,iW 0,iW 0,iW 0,iW 0,.rsl false true [],.rsl false true []] [(0,x0),(1,x1),(2,x2),(3,x3),(4,x4)]).map AV.agg = some r):AW Tryz.prog 37 [(0,x0),(1,x1),(2,x2),(3,x3),(4,x4)] = some r:=Eq.trans (by kernel_rfl) hr
theorem KZ {x0 x1 x2 x5 r:AV} (hr:(DC (plc [(0,1),(1,1),(2,1),(3,1),(4,1),(5,1),(6,1)]) [iW 0,iW 0,iW 0,iW 0,iW 0,.rsl false true [],.rsl false true []] [(0,x0),(1,x1),(2,x2),(5,x5)]).map AV.agg = some r):AW Tryz.prog 37 [(0,x0),(1,x1),(2,x2),(5,x5)] = some r:=Eq.trans (by kernel_rfl) hr
theorem Hl {x0 x2 x3 x4 r:AV} (hr:(DC (plc [(0,1),(1,1),(2,1),(3,1),(4,1),(5,1),(6,1)]) [iW 0,iW 0,iW 0,iW 0,iW 0,.rsl false true [],.rsl false true []] [(0,x0),(2,x2),(3,x3),(4,x4)]).map AV.agg = some r):AW Tryz.prog 37 [(0,x0),(2,x2),(3,x3),(4,x4)] = some r:=Eq.trans (by kernel_rfl) hr
theorem SC {x0 x1 r:AV} (hr:(DC (plc [(0,1),(1,1),(2,1)]) [iW 0,iW 0,iW 0] [(0,x0),(1,x1)]).map AV.agg = some r):AW Tryz.prog 41 [(0,x0),(1,x1)] = some r:=Eq.trans (by kernel_rfl) hr
theorem Dy {x0 x1 x2 r:AV} (hr:(DC (plc [(0,1),(1,1),(2,1)]) [iW 0,iW 0,iW 0] [(0,x0),(1,x1),(2,x2)]).map AV.agg = some r):AW Tryz.prog 41 [(0,x0),(1,x1),(2,x2)] = some r:=Eq.trans (by kernel_rfl) hr
theorem SB {x0 x2 r:AV} (hr:(DC (plc [(0,1),(1,1),(2,1)]) [iW 0,iW 0,iW 0] [(0,x0),(2,x2)]).map AV.agg = some r):AW Tryz.prog 41 [(0,x0),(2,x2)] = some r:=Eq.trans (by kernel_rfl) hr
theorem SA {x0 x1 r:AV} (hr:(DC (plc [(0,1),(1,1)]) [.rsl false true [],iW 0] [(0,x0),(1,x1)]).map AV.agg = some r):AW Tryz.prog 65 [(0,x0),(1,x1)] = some r:=Eq.trans (by kernel_rfl) hr
theorem Wu {x0 r:AV} (hr:(DC (plc [(0,1),(1,1)]) [.rsl false true [],iW 0] [(0,x0)]).map AV.agg = some r):AW Tryz.prog 65 [(0,x0)] = some r:=Eq.trans (by kernel_rfl) hr
theorem DU {x0:Int} {S:St}:A7 (An Tryz.prog 35 1 [(0,iW x0)] S) S = some (.rsl false true [[iW x0]],S):=by kernel_rfl
theorem VE {x0 x1:Int} {S:St}:A7 (An Tryz.prog 35 2 [(0,iW x0),(1,iW x1)] S) S = some (.rsl false true [[iW x0],[iW x1]],S):=by kernel_rfl
theorem Gj {x0 x1 x2:Int} {S:St}:A7 (An Tryz.prog 35 3 [(0,iW x0),(1,iW x1),(2,iW x2)] S) S = some (.rsl false true [[iW x0],[iW x1],[iW x2]],S):=by kernel_rfl
theorem MH {x0 x1 x2 x3:Int} {S:St}:A7 (An Tryz.prog 35 4 [(0,iW x0),(1,iW x1),(2,iW x2),(3,iW x3)] S) S = some (.rsl false true [[iW x0],[iW x1],[iW x2],[iW x3]],S):=by kernel_rfl
theorem K8 {x0 x1 x2 x3 x4:Int} {S:St}:A7 (An Tryz.prog 35 5 [(0,iW x0),(1,iW x1),(2,iW x2),(3,iW x3),(4,iW x4)] S) S = some (.rsl false true [[iW x0],[iW x1],[iW x2],[iW x3],[iW x4]],S):=by kernel_rfl
theorem Q0 {x0 x1 x2 x3 x4 x5 x6:Int} {S:St}:A7 (An Tryz.prog 35 7 [(0,iW x0),(1,iW x1),(2,iW x2),(3,iW x3),(4,iW x4),(5,iW x5),(6,iW x6)] S) S = some (.rsl false true [[iW x0],[iW x1],[iW x2],[iW x3],[iW x4],[iW x5],[iW x6]],S):=by kernel_rfl
theorem VD {x0 x1 x2 x3 x4 x5 x6 x7 x8:Int} {S:St}:A7 (An Tryz.prog 35 9 [(0,iW x0),(1,iW x1),(2,iW x2),(3,iW x3),(4,iW x4),(5,iW x5),(6,iW x6),(7,iW x7),(8,iW x8)] S) S = some (.rsl false true [[iW x0],[iW x1],[iW x2],[iW x3],[iW x4],[iW x5],[iW x6],[iW x7],[iW x8]],S):=by kernel_rfl
theorem Qz {S:St}:A7 (An Tryz.prog 24 0 [] S) S = some (.rsl false true [],S):=by kernel_rfl
theorem VC {S:St}:A7 (An Tryz.prog 34 0 [] S) S = some (.rsl false true [],S):=by kernel_rfl
theorem EM {S:St}:A7 (An Tryz.prog 35 0 [] S) S = some (.rsl false true [],S):=by kernel_rfl
theorem Ne {x0 r:AV} {S:St} (hr:(Ef 3 0 [(0,x0)]).map (fun es=>mkS 3 es S) = some (r,S)):An Tryz.prog 34 1 [(0,x0)] S = some (r,S):=Eq.trans (by kernel_rfl) hr
theorem Nc {a:AV} {S:St}:An Tryz.prog 24 1 [(0,a)] S = (Ef 7 0 [(0,a)]).map fun es=>mkS 7 es S:=by kernel_rfl
theorem bt34 {a:AV} {S:St}:An Tryz.prog 34 1 [(0,a)] S = (Ef 3 0 [(0,a)]).map fun es=>mkS 3 es S:=by kernel_rfl
theorem MY (run:FuncId→List AV→St→Option (AV×St)) (cap args:List AV) (S:St):Dm (cfg NN) run 96 (.fn 65 cap) args S = BN run 65 (args++cap) S:=by kernel_rfl
theorem O7 (run:FuncId→List AV→St→Option (AV×St)) (cap args:List AV) (S:St):Dm (cfg NN) run 106 (.fn 110 cap) args S = BN run 110 (args++cap) S:=by kernel_rfl
theorem RY (run:FuncId→List AV→St→Option (AV×St)) (cap args:List AV) (S:St):Dm (cfg NN) run 106 (.fn 83 cap) args S = BN run 83 (args++cap) S:=by kernel_rfl
theorem RX (run:FuncId→List AV→St→Option (AV×St)) (cap args:List AV) (S:St):Dm (cfg NN) run 107 (.fn 85 cap) args S = BN run 85 (args++cap) S:=by kernel_rfl
theorem RV (run:FuncId→List AV→St→Option (AV×St)) (cap args:List AV) (S:St):Dm (cfg NN) run 107 (.fn 86 cap) args S = BN run 86 (args++cap) S:=by kernel_rfl
theorem MX (run:FuncId→List AV→St→Option (AV×St)) (cap args:List AV) (S:St):Dm (cfg NN) run 87 (.fn 96 cap) args S = BN run 96 (args++cap) S:=by kernel_rfl
theorem Ui (run:FuncId→List AV→St→Option (AV×St)) (cap args:List AV) (S:St):Dm (cfg NN) run 87 (.fn 88 cap) args S = BN run 88 (args++cap) S:=by kernel_rfl
theorem Uh (run:FuncId→List AV→St→Option (AV×St)) (cap args:List AV) (S:St):Dm (cfg NN) run 87 (.fn 96 cap) args S = BN run 96 (args++cap) S:=by kernel_rfl
theorem Ug (run:FuncId→List AV→St→Option (AV×St)) (cap args:List AV) (S:St):Dm (cfg NN) run 96 (.fn 70 cap) args S = BN run 70 (args++cap) S:=by kernel_rfl
theorem RU (n:Int) (S:St):Do Tryz.prog 114 3 (.int .u64 n) S = some (iW (wi .i64 n)):=by kernel_rfl
theorem RS (n:Int) (S:St):Do Tryz.prog 132 5 (.int .u64 n) S = some (.int .u8 (wi .u8 n)):=by kernel_rfl
theorem LV (n:Int) (S:St):Do Tryz.prog 3 114 (iW n) S = some (.int .u64 (wi .u64 n)):=by kernel_rfl
theorem RR (n:Int) (S:St):Do Tryz.prog 3 133 (iW n) S = some (.int .u64 (wi .u64 n)):=by kernel_rfl
theorem RQ (n:Int) (S:St):Do Tryz.prog 5 2 (.int .u8 n) S = some (iW (wi .i64 n)):=by kernel_rfl
theorem Wm (n:Int) (S:St):Do Tryz.prog 5 3 (.int .u8 n) S = some (iW (wi .i64 n)):=by kernel_rfl
theorem mk24 (S:St) (n:Nat) (h:(n + 1) * (88 + 1)≤70368744177664):Gg Tryz.prog 24 (iW n) (iW n) S = some (.bsl S.length 0 n n true,S++[⟨7,List.replicate n [iW 0,iW 0,iW 0,iW 0,iW 0,.rsl false false [],.rsl false false []],false⟩]):=
  SK (e:=37) (sz:=7) (by_:=88) (z:=[iW 0,iW 0,iW 0,iW 0,iW 0,.rsl false false [],.rsl false false []]) (z0:=[iW 0,iW 0,iW 0,iW 0,iW 0,.rsl false true [],.rsl false true []]) (by kernel_rfl) (by kernel_rfl) (by kernel_rfl) rfl rfl (by omega) rfl rfl h
theorem VQ {l:Bool} (S:St) (x:Int):Tr.ow S [] (Enc.cs l x) x:=EP x
theorem QB {S:St} {l:Bool} (x:Ar):Tr.ow S [] (Enc.cs l x) x:=(N1 EP (N1 EP EP) _:Tr.ow (α:=Int×Int×Int) S [] (Enc.cs l _) (x.Slot,x.View,x.Value))
theorem QA {l:Bool} (S:St) (x:Ar):Tr.ow S [] (Enc.cs l x) x:=QB x
theorem Nr (x0:Int) (x1:Int) (x2:Int) (y0:Int) (y1:Int) (y2:Int):LX Tryz.prog .neq 41 (.agg [iW x0,iW x1,iW x2]) (.agg [iW y0,iW y1,iW y2]) = some (.bool (!((x0 == y0) && ((x1 == y1) && ((x2 == y2) && true))))):=by kernel_rfl
theorem W7 (S:St):Tr.ow S [] [AV.int .i64 0,AV.int .i64 0,AV.int .i64 0,AV.int .i64 0,AV.int .i64 0,AV.rsl false false [],AV.rsl false false []] (⟨0,0,0,0,0,[],[]⟩:Ad):=((FF (EP (l:=false) 0) (FF (EP (l:=false) 0) (FF (EP (l:=false) 0) (FF (EP (l:=false) 0) (FF (EP (l:=false) 0) (FF (OL (α:=Ar) (fl:=false)) (OL (α:=Int) (fl:=false)))))))):Tr.ow (α:=Int×Int×Int×Int×Int×(List Ar)×(List Int)) S [] _ (0,0,0,0,0,[],[]))
def m4 (a0:List U8):Bool:=decide ((a0.length:Int) > 1048576)
theorem w4 {d:Nat} (hd:1≤d) (k0:Bool) (a0:List U8):Fit (R NN d 4 [.rsl k0 false (a0.map (Enc.cs k0))] []) (some (m4 a0)) PB:=by
  obtain ⟨d,rfl,g⟩:=up hd
  refine AC (t4 NN d _) ?_
  unfold b4 m4
  exact AB<|q_p fr<|Ah (Ab rfl) rfl
def m34 (a0:Af) (a1:Int):Option (Int×Af):=bif decide (a1 < 1) then some (0,(⟨a0.Code,wi .i64 (a0.At + 1)⟩:Af)) else bif (a0.Code.length:Int) == 0 then (G6 (wi .i64 ((wi .i64 ((wi .i64 (a0.At + 1)) - 1)) * 7)) a1).bind fun q1=>some (q1,(⟨a0.Code,wi .i64 (a0.At + 1)⟩:Af)) else (G6 (wi .i64 ((wi .i64 (a0.At + 1)) - 1)) (a0.Code.length:Int)).bind fun q2=>(Am a0.Code q2).bind fun x1=>(MG .i64 (wi .i64 ((wi .i64 (a0.At + 1)) - 1)) (a0.Code.length:Int)).bind fun q3=>( bif decide (a1 > 200) then (G6 (wi .i64 ((wi .i64 ((wi .i64 (a0.At + 1)) - 1)) + 1)) (a0.Code.length:Int)).bind fun q4=>(Am a0.Code q4).bind fun x2=>some (LO.norm (wi .i64 ((wi .i64 ((wi .i64 ((wi .i64 ((wi .i64 x1.v) + (wi .i64 (q3 * 37)))) * 251)) + (wi .i64 ((wi .i64 x2.v) * 13)))) + (wi .i64 ((wi .i64 (a0.At + 1)) - 1))))) else some (LO.norm (wi .i64 ((wi .i64 x1.v) + (wi .i64 (q3 * 37)))))).bind (Ac (fun s2=>(G6 s2 a1).bind fun q5=>some (q5,(⟨a0.Code,wi .i64 (a0.At + 1)⟩:Af))) (fun i1 s2=>none) (fun s2=>some (0,(⟨a0.Code,wi .i64 (a0.At + 1)⟩:Af))))
theorem w34 {d:Nat} (hd:1≤d) (L0:List En) (b0_:Nat) (k0:Bool) (a0:Af) (a1:Int):Okh (bx b0_ [.rsl k0 false (a0.Code.map (Enc.cs k0)),iW a0.At]::L0) (fun S=>R NN d 34 [.bp b0_ 0 0 2 1,iW a1] S) (m34 a0 a1) (P2 (fun (t:Int×Af)=>AV.int .i64 t.1) (fun (t:Int×Af)=>bx b0_ [.rsl k0 false (t.2.Code.map (Enc.cs k0)),iW t.2.At]::L0)):=by
  obtain ⟨d,rfl,g⟩:=up hd
  refine Df (t34 NN d _ _) ?_
  unfold b34 m34
  refine q_q fr<|q_p fr<|Av 0 rfl rfl<|q_p fr<|q_q fr<|q_p fr<|Bj 0 rfl rfl rfl (by decide) rfl<|q_p fr<|q_i ?_ ?_
  ·exact AK 0 rfl rfl
  ·refine q_q fr<|q_p fr<|Av 0 rfl rfl<|q_p fr<|q_q fr<|q_p fr<|Av 0 rfl rfl<|AB<|q_p fr<|q_i ?_ ?_
   ·exact q_p fr<|Hu fun q1 hq1=>AK 0 rfl rfl
   ·refine q_q fr<|q_p fr<|Av 0 rfl rfl<|Hu fun q2 hq2=>AL rfl fun x1 hx1=>q_p fr<|q_p (fun _=>RQ _ _)<|VH fun q3 hq3=>q_p fr<|q_p fr<|AD (A:=fun (s:Int)=>[iW s]) (B:=fun s=>bx b0_ [.rsl k0 false (a0.Code.map (Enc.cs k0)),iW (wi .i64 (a0.At + 1))]::L0) ?_ ?_ ?_ ?_
    ·exact q_p fr<|q_i (q_p fr<|q_q fr<|q_p fr<|Av 0 rfl rfl<|q_p fr<|Hu fun q4 hq4=>AL rfl fun x2 hx2=>q_p fr<|q_p (fun _=>RQ _ _)<|q_p fr<|q_p fr<|q_p fr<|Aa 0 rr)<|Aa 0 rr
    ·exact fun s2=>Hu fun q5 hq5=>AK 0 rfl rfl
    ·exact fun i1 s2=>Ao
    ·exact fun s2=>AK 0 rfl rfl
def m21 (a0:Af) (a1:List Int):Option (Int×Af):=(m34 a0 (a1.length:Int)).bind fun y1=>(Am a1 y1.1).bind fun x1=>some (x1,y1.2)
theorem w21 {d:Nat} (hd:2≤d) (L0:List En) (b0_:Nat) (k0:Bool) (a0:Af) (k1:Bool) (f1_:Bool) (a1:List Int):Okh (bx b0_ [.rsl k0 false (a0.Code.map (Enc.cs k0)),iW a0.At]::L0) (fun S=>R NN d 21 [.bp b0_ 0 0 2 1,.rsl k1 f1_ (a1.map (Enc.cs k1))] S) (m21 a0 a1) (P2 (fun (t:Int×Af)=>AV.int .i64 t.1) (fun (t:Int×Af)=>bx b0_ [.rsl k0 false (t.2.Code.map (Enc.cs k0)),iW t.2.At]::L0)):=by
  obtain ⟨d,rfl,g⟩:=up hd
  refine Df (t21 NN d _ _) ?_
  unfold b21 m21
  exact AB<|q_s (mg:=m34 a0 (a1.length:Int)) (w34 (by omega) _ _ k0 a0 (a1.length:Int)) fun y1 hy1=>AL rfl fun x1 hx1=>q_p fr<|AK 0 rfl rfl
def m37 (a0:List U8):Option (Af):=some (⟨a0,0⟩:Af)
theorem w37 {d:Nat} (hd:1≤d) (L0:List En) (k0:Bool) (a0:List U8):Okh L0 (fun S=>R NN d 37 [.rsl k0 false (a0.map (Enc.cs k0))] S) (m37 a0) (P5 (fun (x:Nat) (t:Af)=>AV.bp x 0 0 2 1) (fun (x:Nat) (t:Af)=>bx x [.rsl k0 false (t.Code.map (Enc.cs k0)),iW t.At]::L0)):=by
  obtain ⟨d,rfl,g⟩:=up hd
  refine Df (t37 NN d _) ?_
  unfold b37 m37
  exact q_p (fun _=>Wu rfl)<|Bg (n:=2) rfl rfl (by decide) fun b1=>Dv b1 0 rfl rfl
def m38 (a0:Af):Option (Int×Af):=(m21 a0 [1,1,1,1,2,0,1,1,3]).bind fun y1=>some (y1.1,y1.2)
theorem w38 {d:Nat} (hd:3≤d) (L0:List En) (b0_:Nat) (k0:Bool) (a0:Af):Okh (bx b0_ [.rsl k0 false (a0.Code.map (Enc.cs k0)),iW a0.At]::L0) (fun S=>R NN d 38 [.bp b0_ 0 0 2 1] S) (m38 a0) (P2 (fun (t:Int×Af)=>AV.int .i64 t.1) (fun (t:Int×Af)=>bx b0_ [.rsl k0 false (t.2.Code.map (Enc.cs k0)),iW t.2.At]::L0)):=by
  obtain ⟨d,rfl,g⟩:=up hd
  refine Df (t38 NN d _) ?_
  unfold b38 m38
  exact q_q (fun _=>VD)<|q_s (mg:=m21 a0 [1,1,1,1,2,0,1,1,3]) (w21 (by omega) _ _ k0 a0 _ _ [1,1,1,1,2,0,1,1,3]) fun y1 hy1=>AK 0 rfl rfl
def m31 (a0:Af) (a1:Int):Option (Bool×Af):=(m34 a0 a1).bind fun y1=>some (y1.1 == 0,y1.2)
theorem w31 {d:Nat} (hd:2≤d) (L0:List En) (b0_:Nat) (k0:Bool) (a0:Af) (a1:Int):Okh (bx b0_ [.rsl k0 false (a0.Code.map (Enc.cs k0)),iW a0.At]::L0) (fun S=>R NN d 31 [.bp b0_ 0 0 2 1,iW a1] S) (m31 a0 a1) (P2 (fun (t:Bool×Af)=>AV.bool t.1) (fun (t:Bool×Af)=>bx b0_ [.rsl k0 false (t.2.Code.map (Enc.cs k0)),iW t.2.At]::L0)):=by
  obtain ⟨d,rfl,g⟩:=up hd
  refine Df (t31 NN d _ _) ?_
  unfold b31 m31
  exact q_s (mg:=m34 a0 a1) (w34 (by omega) _ _ k0 a0 a1) fun y1 hy1=>q_p fr<|AK 0 rfl rfl
def Ir (a0:Ad) (a1:Ad) (s5:Bool×Int):Option (LO (Bool×Int)):=bif decide (s5.2 < (a0.Certs.length:Int)) then (Am a0.Certs s5.2).bind fun x1=>(Am a1.Certs s5.2).bind fun x2=>bif !(((x1.Slot == x2.Slot) && ((x1.View == x2.View) && ((x1.Value == x2.Value) && true)))) then some (LO.ret (false,s5.2)) else some (LO.norm (s5.1,wi .i64 (s5.2 + 1))) else some (LO.exit 0 (s5.1,s5.2))
def Iq (a0:Ad) (a1:Ad) (s7:Bool×Int):Option (LO (Bool×Int)):=bif decide (s7.2 < (a0.Refs.length:Int)) then (Am a0.Refs s7.2).bind fun x3=>(Am a1.Refs s7.2).bind fun x4=>bif x3 != x4 then some (LO.ret (false,s7.2)) else some (LO.norm (s7.1,wi .i64 (s7.2 + 1))) else some (LO.exit 2 (s7.1,s7.2))
def Oy (a0:Ad) (a1:Ad):Option (Bool):=( ( bif a0.Kind != a1.Kind then some (LO.norm true) else bif a0.View != a1.View then some (LO.norm true) else bif a0.From != a1.From then some (LO.norm true) else bif a0.Slot != a1.Slot then some (LO.norm true) else bif a0.Value != a1.Value then some (LO.norm true) else bif (a0.Certs.length:Int) != (a1.Certs.length:Int) then some (LO.norm true) else some (LO.norm ((a0.Refs.length:Int) != (a1.Refs.length:Int)))).bind (Ac (fun s3=>bif s3 then some (LO.ret false) else some (LO.norm false)) (fun i1 s3=>some (LO.exit i1 false)) (fun s3=>some (LO.ret false)))).bind (Ac (fun s4=>(Aq (Ir a0 a1) NN (s4,0)).bind (Ac (fun _=>none) (fun i3 s6=>if i3 = 0 then (Aq (Iq a0 a1) NN (s6.1,0)).bind (Ac (fun _=>none) (fun i4 s8=>if i4 = 2 then some true else none) (fun s8=>some s8.1)) else none) (fun s6=>some s6.1))) (fun i2 s4=>none) (fun s4=>some s4))
theorem w118 {d:Nat} (hd:1≤d) (k0:Bool) (a0:Ad) (k1:Bool) (a1:Ad):Fit (R NN d 118 [.rp k0 (Enc.cs k0 a0),.rp k1 (Enc.cs k1 a1)] []) (Oy a0 a1) PB:=by
  obtain ⟨d,rfl,g⟩:=up hd
  refine AC (t118 NN d _ _) ?_
  unfold XH Oy
  refine AD (A:=fun (s:Bool)=>[.bool s]) (B:=fun s=>[]) ?_ ?_ ?_ ?_
  ·refine AD (A:=fun (s:Bool)=>[.bool s]) (B:=fun s=>[]) ?_ ?_ ?_ ?_
   ·exact q_q fr<|q_p fr<|q_p fr<|q_q fr<|q_p fr<|q_p fr<|q_p fr<|q_j (Aa 0 rr)<|q_q fr<|q_p fr<|q_p fr<|q_q fr<|q_p fr<|q_p fr<|q_p fr<|q_j (Aa 0 rr)<|q_q fr<|q_p fr<|q_p fr<|q_q fr<|q_p fr<|q_p fr<|q_p fr<|q_j (Aa 0 rr)<|q_q fr<|q_p fr<|q_p fr<|q_q fr<|q_p fr<|q_p fr<|q_p fr<|q_j (Aa 0 rr)<|q_q fr<|q_p fr<|q_p fr<|q_q fr<|q_p fr<|q_p fr<|q_p fr<|q_j (Aa 0 rr)<|q_q fr<|q_p fr<|q_p fr<|AB<|q_q fr<|q_p fr<|q_p fr<|AB<|q_p fr<|q_j (Aa 0 rr)<|q_q fr<|q_p fr<|q_p fr<|AB<|q_q fr<|q_p fr<|q_p fr<|AB<|q_p fr<|Aa 0 rr
   ·exact fun s3=>q_i (Ag 0 rr)<|Aa 0 rr
   ·exact fun i1 s3=>Ai 0 rr
   ·exact fun s3=>Ag 0 rr
  ·intro s4
   refine BE (A:=fun (s:Bool×Int)=>[.bool s.1,iW s.2]) (B:=fun s=>[]) 0 rr ?_ ?_ ?_
   ·intro s5
    unfold PY Ir
    exact q_q fr<|q_p fr<|q_p fr<|AB<|q_p fr<|q_i (q_q fr<|q_p fr<|q_p fr<|AL rfl fun x1 hx1=>q_p fr<|q_q fr<|q_p fr<|q_p fr<|AL rfl fun x2 hx2=>q_p fr<|q_p (fun _=>Nr _ _ _ _ _ _)<|q_i (Ag 0 rr)<|q_p fr<|Aa 0 rr)<|Ai 0 rr
   ·intro i3 s6
    refine q_n ?_ ?_
    ·refine BE (A:=fun (s:Bool×Int)=>[.bool s.1,iW s.2]) (B:=fun s=>[]) 0 rr ?_ ?_ ?_
     ·intro s7
      unfold PX Iq
      exact q_q fr<|q_p fr<|q_p fr<|AB<|q_p fr<|q_i (q_q fr<|q_p fr<|q_p fr<|AL rfl fun x3 hx3=>q_p fr<|q_q fr<|q_p fr<|q_p fr<|AL rfl fun x4 hx4=>q_p fr<|q_p fr<|q_i (Ag 0 rr)<|q_p fr<|Aa 0 rr)<|Ai 0 rr
     ·exact fun i4 s8=>q_n (Ah (Ab rfl) rfl)<|Ao
     ·exact fun s8=>Ah (Ab rfl) rfl
    ·exact Ao
   ·exact fun s6=>Ah (Ab rfl) rfl
  ·exact fun i2 s4=>Ao
  ·exact fun s4=>Ah (Ab rfl) rfl
def NB (a0:List Ad) (a1:Ad) (s1:Int×Int):Option (LO (Int×Int)):=bif decide (s1.2 < (a0.length:Int)) then (Am a0 s1.2).bind fun x1=>(Oy x1 a1).bind fun y1=>bif y1 then some (LO.ret (s1.2,s1.2)) else some (LO.norm (s1.1,wi .i64 (s1.2 + 1))) else some (LO.exit 0 (s1.1,s1.2))
def O0 (a0:List Ad) (a1:Ad):Option (Int):=(Aq (NB a0 a1) NN (0,0)).bind (Ac (fun _=>none) (fun i1 s2=>if i1 = 0 then some (-1) else none) (fun s2=>some s2.1))
theorem Vy {d:Nat} (hd:2≤d) (k0:Bool) (a0:List Ad) (k1:Bool) (a1:Ad):Fit (R NN d 103 [.rsl k0 false (a0.map (Enc.cs k0)),.rp k1 (Enc.cs k1 a1)] []) (O0 a0 a1) PI:=by
  obtain ⟨d,rfl,g⟩:=up hd
  refine AC (t103 NN d _ _) ?_
  unfold XV O0
  refine BE (A:=fun (s:Int×Int)=>[iW s.1,iW s.2]) (B:=fun s=>[]) 0 rr ?_ ?_ ?_
  ·intro s1
   unfold Qr NB
   exact AB<|q_p fr<|q_i (AL rfl fun x1 hx1=>A4 (aF2 (AP (A3 (l0:=k0) (x:=x1)) (fun _ _ _ h=>Enc.frz k0 x1 _ _ _ h)) (AP (A3 (l0:=k1) (x:=a1)) (fun _ _ _ h=>Enc.frz k1 a1 _ _ _ h)) fun l0_ l1_=>w118 (by omega) l0_ x1 l1_ a1) fun y1 hy1=>q_i (Ag 0 rr)<|q_p fr<|Aa 0 rr)<|Ai 0 rr
  ·exact fun i1 s2=>q_n (Ah (Ab rfl) rfl)<|Ao
  ·exact fun s2=>Ah (Ab rfl) rfl
def GR (y2:Int×Af) (s2:Int×(List Ar)×(List U8)×Int):Option (LO (Int×(List Ar)×(List U8)×Int)):=( ( bif decide (s2.1 < 4) then some (LO.norm (decide (y2.1 > 0))) else some (LO.norm false)).bind (Ac (fun s5=>bif s5 then some (LO.norm s5) else some (LO.exit 1 s5)) (fun i1 s5=>some (LO.exit i1 s5)) (fun s5=>some (LO.ret s5)))).bind (Ac (fun s6=>( (m31 (⟨s2.2.2.1,s2.2.2.2⟩:Af) 3).bind fun y4=>bif y4.1 then (m34 y4.2 y2.1).bind fun y5=>(m34 y5.2 3).bind fun y6=>(BV 24 s2.2.1 [(⟨s2.1,y5.1,y6.1⟩:Ar)]).bind fun z1=>some (LO.norm (z1,y6.2.Code,y6.2.At)) else some (LO.norm (s2.2.1,y4.2.Code,y4.2.At))).bind (Ac (fun s8=>some (LO.norm (wi .i64 (s2.1 + 1),s8.1,s8.2.1,s8.2.2))) (fun i3 s8=>some (LO.exit i3 (s2.1,s8.1,s8.2.1,s8.2.2))) (fun s8=>some (LO.ret (s2.1,s8.1,s8.2.1,s8.2.2))))) (fun i2 s6=>some (LO.exit i2 (s2.1,s2.2.1,s2.2.2.1,s2.2.2.2))) (fun s6=>some (LO.ret (s2.1,s2.2.1,s2.2.2.1,s2.2.2.2))))
def GQ (a1:Int) (s10:Int×(List Int)×(List U8)×Int):Option (LO (Int×(List Int)×(List U8)×Int)):=( ( bif decide (s10.1 < a1) then some (LO.norm (decide ((s10.2.1.length:Int) < 4))) else some (LO.norm false)).bind (Ac (fun s13=>bif s13 then some (LO.norm s13) else some (LO.exit 3 s13)) (fun i5 s13=>some (LO.exit i5 s13)) (fun s13=>some (LO.ret s13)))).bind (Ac (fun s14=>( (m31 (⟨s10.2.2.1,s10.2.2.2⟩:Af) 3).bind fun y7=>bif y7.1 then (BV 8 s10.2.1 [s10.1]).bind fun z2=>some (LO.norm (z2,y7.2.Code,y7.2.At)) else some (LO.norm (s10.2.1,y7.2.Code,y7.2.At))).bind (Ac (fun s16=>some (LO.norm (wi .i64 (s10.1 + 1),s16.1,s16.2.1,s16.2.2))) (fun i7 s16=>some (LO.exit i7 (s10.1,s16.1,s16.2.1,s16.2.2))) (fun s16=>some (LO.ret (s10.1,s16.1,s16.2.1,s16.2.2))))) (fun i6 s14=>some (LO.exit i6 (s10.1,s10.2.1,s10.2.2.1,s10.2.2.2))) (fun s14=>some (LO.ret (s10.1,s10.2.1,s10.2.2.1,s10.2.2.2))))
def KG (a0:Af) (a1:Int):Option (Ad×Af):=(m21 a0 [1,2,2,3,3,4,5]).bind fun y1=>(m34 y1.2 3).bind fun y2=>(m34 y2.2 4).bind fun y3=>( bif y1.1 == 4 then (Aq (GR y2) NN (1,[],y3.2.Code,y3.2.At)).bind (Ac (fun _=>none) (fun i4 s9=>if i4 = 1 then some (LO.norm ([],s9.2.1,0,0,s9.2.2.1,s9.2.2.2)) else if i4 = 0 then some (LO.norm ([],s9.2.1,0,0,s9.2.2.1,s9.2.2.2)) else some (LO.exit i4 ([],s9.2.1,0,0,s9.2.2.1,s9.2.2.2))) (fun s9=>some (LO.ret ([],s9.2.1,0,0,s9.2.2.1,s9.2.2.2)))) else bif y1.1 == 5 then (Aq (GQ a1) NN (0,[],y3.2.Code,y3.2.At)).bind (Ac (fun _=>none) (fun i8 s17=>if i8 = 3 then some (LO.norm (s17.2.1,[],0,0,s17.2.2.1,s17.2.2.2)) else if i8 = 0 then some (LO.norm (s17.2.1,[],0,0,s17.2.2.1,s17.2.2.2)) else some (LO.exit i8 (s17.2.1,[],0,0,s17.2.2.1,s17.2.2.2))) (fun s17=>some (LO.ret (s17.2.1,[],0,0,s17.2.2.1,s17.2.2.2)))) else (m34 y3.2 2).bind fun y8=>(m34 y8.2 3).bind fun y9=>some (LO.norm ([],[],wi .i64 (1 + y8.1),y9.1,y9.2.Code,y9.2.At))).bind (Ac (fun s18=>some ((⟨y1.1,y2.1,wi .i64 (1 + y3.1),s18.2.2.1,s18.2.2.2.1,s18.2.1,s18.1⟩:Ad),(⟨s18.2.2.2.2.1,s18.2.2.2.2.2⟩:Af))) (fun i9 s18=>none) (fun s18=>some ((⟨0,0,0,0,0,[],[]⟩:Ad),(⟨s18.2.2.2.2.1,s18.2.2.2.2.2⟩:Af))))
theorem WE {d:Nat} (hd:3≤d) (L0:List En) (b0_:Nat) (k0:Bool) (a0:Af) (a1:Int):Okh (bx b0_ [.rsl k0 false (a0.Code.map (Enc.cs k0)),iW a0.At]::L0) (fun S=>R NN d 115 [.bp b0_ 0 0 2 1,iW a1] S) (KG a0 a1) (P5 (fun (x:AV×AV) (t:Ad×Af)=>AV.agg [iW t.1.Kind,iW t.1.View,iW t.1.From,iW t.1.Slot,iW t.1.Value,x.1,x.2]) (fun (x:AV×AV) (t:Ad×Af)=>sl false x.1 t.1.Certs::sl false x.2 t.1.Refs::bx b0_ [.rsl k0 false (t.2.Code.map (Enc.cs k0)),iW t.2.At]::L0)):=by
  obtain ⟨d,rfl,g⟩:=up hd
  refine Df (t115 NN d _ _) ?_
  unfold XK KG
  refine Bt rfl fun b1=>q_q (fun _=>Q0)<|A6 2 [1,0] (by decide) (by decide)<|q_s (mg:=m21 a0 [1,2,2,3,3,4,5]) (w21 (by omega) _ _ k0 a0 _ _ [1,2,2,3,3,4,5]) fun y1 hy1=>q_s (mg:=m34 y1.2 3) (w34 (by omega) _ _ k0 y1.2 3) fun y2 hy2=>q_s (mg:=m34 y2.2 4) (w34 (by omega) _ _ k0 y2.2 4) fun y3 hy3=>q_p fr<|q_p (fun _=>Js rfl)<|Bt rfl fun b2=>Bj 0 rfl rfl rfl (by decide) rfl<|D5 (α:=Ar) false<|D5 (α:=Int) false<|C9 (I:=(fun (s:(List Int)×(List Ar)×Int×Int×(List U8)×Int) l L=>∃ (v1:AV) (v2:AV),l = []∧L = sl false v1 (s.1:List Int)::sl false v2 (s.2.1:List Ar)::bx b2 [iW y1.1,iW y2.1,iW (wi .i64 (1 + y3.1)),iW s.2.2.1,iW s.2.2.2.1,v2,v1]::bx b0_ [.rsl k0 false (s.2.2.2.2.1.map (Enc.cs k0)),iW s.2.2.2.2.2]::bx b1 [iW 0,iW 0,iW 0,iW 0,iW 0,.rsl false true [],.rsl false true []]::L0)) ?_ ?_ ?_ ?_
  ·refine q_p fr<|Av 2 rfl rfl<|q_p fr<|q_i ?_ ?_
   ·refine BI (I:=(fun (s:Int×(List Ar)×(List U8)×Int) l L=>∃ (v1:AV),l = [iW s.1]∧L = sl false (.rsl false true []) ([]:List Int)::sl false v1 (s.2.1:List Ar)::bx b2 [iW y1.1,iW y2.1,iW (wi .i64 (1 + y3.1)),iW 0,iW 0,v1,.rsl false true []]::bx b0_ [.rsl k0 false (s.2.2.1.map (Enc.cs k0)),iW s.2.2.2]::bx b1 [iW 0,iW 0,iW 0,iW 0,iW 0,.rsl false true [],.rsl false true []]::L0)) 0 ⟨(.rsl false true []),rfl,rfl⟩ ?_ ?_ ?_
    ·rintro s2 _ _ ⟨v1,rfl,rfl⟩
     unfold Qf GR
     refine AD (A:=fun (s:Bool)=>[.bool s]) (B:=fun s=>sl false (.rsl false true []) ([]:List Int)::sl false v1 (s2.2.1:List Ar)::bx b2 [iW y1.1,iW y2.1,iW (wi .i64 (1 + y3.1)),iW 0,iW 0,v1,.rsl false true []]::bx b0_ [.rsl k0 false (s2.2.2.1.map (Enc.cs k0)),iW s2.2.2.2]::bx b1 [iW 0,iW 0,iW 0,iW 0,iW 0,.rsl false true [],.rsl false true []]::L0) ?_ ?_ ?_ ?_
     ·refine AD (A:=fun (s:Bool)=>[.bool s]) (B:=fun s=>sl false (.rsl false true []) ([]:List Int)::sl false v1 (s2.2.1:List Ar)::bx b2 [iW y1.1,iW y2.1,iW (wi .i64 (1 + y3.1)),iW 0,iW 0,v1,.rsl false true []]::bx b0_ [.rsl k0 false (s2.2.2.1.map (Enc.cs k0)),iW s2.2.2.2]::bx b1 [iW 0,iW 0,iW 0,iW 0,iW 0,.rsl false true [],.rsl false true []]::L0) ?_ ?_ ?_ ?_
      ·exact q_p fr<|q_k (q_p fr<|Av 2 rfl rfl<|q_p fr<|Aa 0 rr)<|Aa 0 rr
      ·exact fun s5=>q_i (Aa 0 rr)<|Ai 0 rr
      ·exact fun i1 s5=>Ai 0 rr
      ·exact fun s5=>Ag 0 rr
     ·intro s6
      refine C9 (I:=(fun (s:(List Ar)×(List U8)×Int) l L=>∃ (v2:AV),l = []∧L = sl false (.rsl false true []) ([]:List Int)::sl false v2 (s.1:List Ar)::bx b2 [iW y1.1,iW y2.1,iW (wi .i64 (1 + y3.1)),iW 0,iW 0,v2,.rsl false true []]::bx b0_ [.rsl k0 false (s.2.1.map (Enc.cs k0)),iW s.2.2]::bx b1 [iW 0,iW 0,iW 0,iW 0,iW 0,.rsl false true [],.rsl false true []]::L0)) ?_ ?_ ?_ ?_
      ·exact A6 5 [3,0,1,2,4] (by decide) (by decide)<|q_s (mg:=m31 (⟨s2.2.2.1,s2.2.2.2⟩:Af) 3) (w31 (by omega) _ _ k0 (⟨s2.2.2.1,s2.2.2.2⟩:Af) 3) fun y4 hy4=>q_i (q_p fr<|Av 3 rfl rfl<|q_p fr<|Av 3 rfl rfl<|q_s (mg:=m34 y4.2 y2.1) (w34 (by omega) _ _ k0 y4.2 y2.1) fun y5 hy5=>Q2 3 rfl rfl<|q_s (mg:=m34 y5.2 3) (w34 (by omega) _ _ k0 y5.2 3) fun y6 hy6=>Q2 3 rfl rfl<|q_p (fun _=>Dy rfl)<|q_e (fun _=>Ne rfl)<|Ek (ys:=[(⟨s2.1,y5.1,y6.1⟩:Ar)]) 2 rfl rfl (fun _ _=>rfl) fun v2 z1 hz1=>q_p fr<|IC 3 rfl (fun S hS=>(HP.cell1 hS 2 rfl)) rfl<|A6 5 [1,2,3,0,4] (by decide) (by decide)<|Aa 0 ⟨v2,rfl,rfl⟩)<|A6 5 [1,2,3,0,4] (by decide) (by decide)<|Aa 0 ⟨v1,rfl,rfl⟩
      ·rintro s8 _ _ ⟨v3,rfl,rfl⟩
       exact q_p fr<|Aa 0 ⟨v3,rfl,rfl⟩
      ·rintro i3 s8 _ _ ⟨v4,rfl,rfl⟩
       exact Ai 0 ⟨v4,rfl,rfl⟩
      ·rintro s8 _ _ ⟨v5,rfl,rfl⟩
       exact Ag 0 ⟨v5,rfl,rfl⟩
     ·exact fun i2 s6=>Ai 0 ⟨v1,rfl,rfl⟩
     ·exact fun s6=>Ag 0 ⟨v1,rfl,rfl⟩
    ·rintro i4 s9 _ _ ⟨v6,rfl,rfl⟩
     exact q_n (Aa 0 ⟨(.rsl false true []),v6,rfl,rfl⟩)<|q_n (Aa 0 ⟨(.rsl false true []),v6,rfl,rfl⟩)<|Ai 0 ⟨(.rsl false true []),v6,rfl,rfl⟩
    ·rintro s9 _ _ ⟨v7,rfl,rfl⟩
     exact Ag 0 ⟨(.rsl false true []),v7,rfl,rfl⟩
   ·refine q_p fr<|q_i ?_ ?_
    ·refine BI (I:=(fun (s:Int×(List Int)×(List U8)×Int) l L=>∃ (v8:AV),l = [iW s.1]∧L = sl false v8 (s.2.1:List Int)::sl false (.rsl false true []) ([]:List Ar)::bx b2 [iW y1.1,iW y2.1,iW (wi .i64 (1 + y3.1)),iW 0,iW 0,.rsl false true [],v8]::bx b0_ [.rsl k0 false (s.2.2.1.map (Enc.cs k0)),iW s.2.2.2]::bx b1 [iW 0,iW 0,iW 0,iW 0,iW 0,.rsl false true [],.rsl false true []]::L0)) 0 ⟨(.rsl false true []),rfl,rfl⟩ ?_ ?_ ?_
     ·rintro s10 _ _ ⟨v8,rfl,rfl⟩
      unfold Qe GQ
      refine AD (A:=fun (s:Bool)=>[.bool s]) (B:=fun s=>sl false v8 (s10.2.1:List Int)::sl false (.rsl false true []) ([]:List Ar)::bx b2 [iW y1.1,iW y2.1,iW (wi .i64 (1 + y3.1)),iW 0,iW 0,.rsl false true [],v8]::bx b0_ [.rsl k0 false (s10.2.2.1.map (Enc.cs k0)),iW s10.2.2.2]::bx b1 [iW 0,iW 0,iW 0,iW 0,iW 0,.rsl false true [],.rsl false true []]::L0) ?_ ?_ ?_ ?_
      ·refine AD (A:=fun (s:Bool)=>[.bool s]) (B:=fun s=>sl false v8 (s10.2.1:List Int)::sl false (.rsl false true []) ([]:List Ar)::bx b2 [iW y1.1,iW y2.1,iW (wi .i64 (1 + y3.1)),iW 0,iW 0,.rsl false true [],v8]::bx b0_ [.rsl k0 false (s10.2.2.1.map (Enc.cs k0)),iW s10.2.2.2]::bx b1 [iW 0,iW 0,iW 0,iW 0,iW 0,.rsl false true [],.rsl false true []]::L0) ?_ ?_ ?_ ?_
       ·exact q_p fr<|q_k (q_p fr<|Av 2 rfl rfl<|Gk 0 rfl<|q_p fr<|Aa 0 rr)<|Aa 0 rr
       ·exact fun s13=>q_i (Aa 0 rr)<|Ai 0 rr
       ·exact fun i5 s13=>Ai 0 rr
       ·exact fun s13=>Ag 0 rr
      ·intro s14
       refine C9 (I:=(fun (s:(List Int)×(List U8)×Int) l L=>∃ (v9:AV),l = []∧L = sl false v9 (s.1:List Int)::sl false (.rsl false true []) ([]:List Ar)::bx b2 [iW y1.1,iW y2.1,iW (wi .i64 (1 + y3.1)),iW 0,iW 0,.rsl false true [],v9]::bx b0_ [.rsl k0 false (s.2.1.map (Enc.cs k0)),iW s.2.2]::bx b1 [iW 0,iW 0,iW 0,iW 0,iW 0,.rsl false true [],.rsl false true []]::L0)) ?_ ?_ ?_ ?_
       ·exact A6 5 [3,0,1,2,4] (by decide) (by decide)<|q_s (mg:=m31 (⟨s10.2.2.1,s10.2.2.2⟩:Af) 3) (w31 (by omega) _ _ k0 (⟨s10.2.2.1,s10.2.2.2⟩:Af) 3) fun y7 hy7=>q_i (q_p fr<|Av 3 rfl rfl<|q_q (fun _=>DU)<|Ek (ys:=[s10.1]) 1 rfl rfl (fun _ _=>rfl) fun v9 z2 hz2=>q_p fr<|IC 3 rfl (fun S hS=>(HP.cell1 hS 1 rfl)) rfl<|A6 5 [1,2,3,0,4] (by decide) (by decide)<|Aa 0 ⟨v9,rfl,rfl⟩)<|A6 5 [1,2,3,0,4] (by decide) (by decide)<|Aa 0 ⟨v8,rfl,rfl⟩
       ·rintro s16 _ _ ⟨v10,rfl,rfl⟩
        exact q_p fr<|Aa 0 ⟨v10,rfl,rfl⟩
       ·rintro i7 s16 _ _ ⟨v11,rfl,rfl⟩
        exact Ai 0 ⟨v11,rfl,rfl⟩
       ·rintro s16 _ _ ⟨v12,rfl,rfl⟩
        exact Ag 0 ⟨v12,rfl,rfl⟩
      ·exact fun i6 s14=>Ai 0 ⟨v8,rfl,rfl⟩
      ·exact fun s14=>Ag 0 ⟨v8,rfl,rfl⟩
     ·rintro i8 s17 _ _ ⟨v13,rfl,rfl⟩
      exact q_n (Aa 0 ⟨v13,(.rsl false true []),rfl,rfl⟩)<|q_n (Aa 0 ⟨v13,(.rsl false true []),rfl,rfl⟩)<|Ai 0 ⟨v13,(.rsl false true []),rfl,rfl⟩
     ·rintro s17 _ _ ⟨v14,rfl,rfl⟩
      exact Ag 0 ⟨v14,(.rsl false true []),rfl,rfl⟩
    ·exact A6 5 [3,0,1,2,4] (by decide) (by decide)<|q_s (mg:=m34 y3.2 2) (w34 (by omega) _ _ k0 y3.2 2) fun y8 hy8=>q_p fr<|q_p fr<|Bj 3 rfl rfl rfl (by decide) rfl<|q_s (mg:=m34 y8.2 3) (w34 (by omega) _ _ k0 y8.2 3) fun y9 hy9=>q_p fr<|Bj 3 rfl rfl rfl (by decide) rfl<|A6 5 [1,2,3,0,4] (by decide) (by decide)<|Aa 0 ⟨(.rsl false true []),(.rsl false true []),rfl,rfl⟩
  ·rintro s18 _ _ ⟨v15,v16,rfl,rfl⟩
   exact B0 2 rfl rfl rfl<|Bj 4 rfl rfl rfl (by decide) rfl<|A6 5 [2,4,1,0,3] (by decide) (by decide)<|Ii (v16,v15) 2 (fun S hS=>hS.lda 1 rfl rfl) rfl rfl
  ·rintro i9 s18 _ _ ⟨v17,v18,rfl,rfl⟩
   exact Ao
  ·rintro s18 _ _ ⟨v19,v20,rfl,rfl⟩
   exact D5 (α:=Ar) false<|D5 (α:=Int) false<|A6 7 [2,3,4,6,1,0,5] (by decide) (by decide)<|Ii (.rsl false true [],.rsl false true []) 4 (fun S hS=>hS.lda 3 rfl rfl) rfl rfl
def KD (s1:Int×(List Ad)×(List U8)×Int):Option (LO (Int×(List Ad)×(List U8)×Int)):=bif decide (s1.1 > 0) then ( (KG (⟨s1.2.2.1,s1.2.2.2⟩:Af) (s1.2.1.length:Int)).bind fun y2=>(O0 s1.2.1 y2.1).bind fun y3=>bif decide (y3 < 0) then (BV 88 s1.2.1 [y2.1]).bind fun z1=>some (LO.norm (z1,y2.2.Code,y2.2.At)) else some (LO.norm (s1.2.1,y2.2.Code,y2.2.At))).bind (Ac (fun s3=>some (LO.norm (wi .i64 (s1.1 - 1),s3.1,s3.2.1,s3.2.2))) (fun i4 s3=>some (LO.exit i4 (s1.1,s3.1,s3.2.1,s3.2.2))) (fun s3=>some (LO.ret (s1.1,s3.1,s3.2.1,s3.2.2)))) else some (LO.exit 0 (s1.1,s1.2.1,s1.2.2.1,s1.2.2.2))
def m98 (a0:Af):Option ((List Ad)×Af):=(m34 a0 16).bind fun y1=>(Aq (KD) NN (y1.1,[],y1.2.Code,y1.2.At)).bind (Ac (fun _=>none) (fun i8 s4=>if i8 = 0 then some (s4.2.1,(⟨s4.2.2.1,s4.2.2.2⟩:Af)) else none) (fun s4=>some ([],(⟨s4.2.2.1,s4.2.2.2⟩:Af))))
theorem w98 {d:Nat} (hd:4≤d) (L0:List En) (b0_:Nat) (k0:Bool) (a0:Af):Okh (bx b0_ [.rsl k0 false (a0.Code.map (Enc.cs k0)),iW a0.At]::L0) (fun S=>R NN d 98 [.bp b0_ 0 0 2 1] S) (m98 a0) (P5 (fun (x:List Nat×AV) (t:(List Ad)×Af)=>x.2) (fun (x:List Nat×AV) (t:(List Ad)×Af)=>tra x.1 x.2 t.1::bx b0_ [.rsl k0 false (t.2.Code.map (Enc.cs k0)),iW t.2.At]::L0)):=by
  obtain ⟨d,rfl,g⟩:=up hd
  refine Df (t98 NN d _) ?_
  unfold b98 m98
  refine q_q (fun _=>Qz)<|q_s (mg:=m34 a0 16) (w34 (by omega) _ _ k0 a0 16) fun y1 hy1=>EN (α:=Ad)<|BI (I:=(fun (s:Int×(List Ad)×(List U8)×Int) l L=>∃ (i1:List Nat) (v1:AV),l = [v1,iW s.1]∧L = tra i1 v1 (s.2.1:List Ad)::bx b0_ [.rsl k0 false (s.2.2.1.map (Enc.cs k0)),iW s.2.2.2]::L0)) 0 ⟨[],(.rsl false true []),rfl,rfl⟩ ?_ ?_ ?_
  ·rintro s1 _ _ ⟨i1,v1,rfl,rfl⟩
   unfold U5 KD
   refine q_p fr<|q_i ?_ ?_
   ·refine C9 (I:=(fun (s:(List Ad)×(List U8)×Int) l L=>∃ (i2:List Nat) (v2:AV),l = [v2]∧L = tra i2 v2 (s.1:List Ad)::bx b0_ [.rsl k0 false (s.2.1.map (Enc.cs k0)),iW s.2.2]::L0)) ?_ ?_ ?_ ?_
    ·exact MI 0 rfl<|A6 2 [1,0] (by decide) (by decide)<|ID (mg:=KG (⟨s1.2.2.1,s1.2.2.2⟩:Af) (s1.2.1.length:Int)) (fun S=>rfl) (WE (by omega) _ _ k0 (⟨s1.2.2.1,s1.2.2.2⟩:Af) (s1.2.1.length:Int)) fun y2 hy2 ⟨v2,v3⟩=>Bt rfl fun b1=>Bj 0 rfl rfl rfl (by decide) rfl<|A4 (aF2 (MW 4 rfl) (DK 0 rfl (Ae (Ab rfl) (Ae (Ab rfl) (Ae (Ab rfl) (Ae (Ab rfl) (Ae (Ab rfl) (Ae (Jl 1 rfl) (Ae (Jl 2 rfl) As)))))))) fun l0_ l1_=>Vy (by omega) l0_ s1.2.1 l1_ y2.1) fun y3 hy3=>q_p fr<|q_i (B0 0 rfl rfl rfl<|A6 5 [1,2,0,3,4] (by decide) (by decide)<|HI 3 (HG (α:=Ad) (β:=Int×Int×Int×Int×Int×(List Ar)×(List Int)) (f:=fun x=>(x.Kind,x.View,x.From,x.Slot,x.Value,x.Certs,x.Refs)) (x:=y2.1) rfl (AA (AN (n:=y2.1.Kind)) (AA (AN (n:=y2.1.View)) (AA (AN (n:=y2.1.From)) (AA (AN (n:=y2.1.Slot)) (AA (AN (n:=y2.1.Value)) (AA (Lm 0 rfl QA) (Lm 1 rfl VQ)))))))) (by decide) fun i2=>A6 3 [0,2,1] (by decide) (by decide)<|HJ rfl (fun _=>Nc) rfl fun z1 hz1 v4 i3=>Aa 0 ⟨i3,v4,rfl,rfl⟩)<|A6 5 [0,1,2,4,3] (by decide) (by decide)<|Aa 3 ⟨i1,v1,rfl,rfl⟩
    ·rintro s3 _ _ ⟨i5,v5,rfl,rfl⟩
     exact q_p fr<|Aa 0 ⟨i5,v5,rfl,rfl⟩
    ·rintro i4 s3 _ _ ⟨i6,v6,rfl,rfl⟩
     exact Ai 0 ⟨i6,v6,rfl,rfl⟩
    ·rintro s3 _ _ ⟨i7,v7,rfl,rfl⟩
     exact Ag 0 ⟨i7,v7,rfl,rfl⟩
   ·exact Ai 0 ⟨i1,v1,rfl,rfl⟩
  ·rintro i8 s4 _ _ ⟨i9,v8,rfl,rfl⟩
   exact q_n (Dv (i9,v8) 0 rfl rfl)<|Ao
  ·rintro s4 _ _ ⟨i10,v9,rfl,rfl⟩
   exact EN (α:=Ad)<|A6 3 [1,0,2] (by decide) (by decide)<|Dv ([],.rsl false true []) 1 rfl rfl
def m99 (a0:Af):Option (Ad×Af):=(KG a0 6).bind fun y1=>( (m34 y1.2 12).bind fun y2=>bif y2.1 == 0 then (m21 y2.2 [0,1,4,6]).bind fun y3=>some (LO.norm (y3.1,y1.1.View,y1.1.From,y1.1.Slot,y1.1.Value,y1.1.Certs,y3.2.Code,y3.2.At)) else bif y2.1 == 1 then (m21 y2.2 [(-1),20,21]).bind fun y4=>some (LO.norm (y1.1.Kind,y4.1,y1.1.From,y1.1.Slot,y1.1.Value,y1.1.Certs,y4.2.Code,y4.2.At)) else bif y2.1 == 2 then (m21 y2.2 [0,4,7,8]).bind fun y5=>some (LO.norm (y1.1.Kind,y1.1.View,y5.1,y1.1.Slot,y1.1.Value,y1.1.Certs,y5.2.Code,y5.2.At)) else bif y2.1 == 3 then (m21 y2.2 [0,30,31]).bind fun y6=>some (LO.norm (y1.1.Kind,y1.1.View,y1.1.From,y6.1,y1.1.Value,y1.1.Certs,y6.2.Code,y6.2.At)) else bif y2.1 == 4 then (m21 y2.2 [(-1),12,13]).bind fun y7=>some (LO.norm (y1.1.Kind,y1.1.View,y1.1.From,y1.1.Slot,y7.1,y1.1.Certs,y7.2.Code,y7.2.At)) else bif y2.1 == 5 then (BV 24 y1.1.Certs [(⟨1,0,1⟩:Ar)]).bind fun z1=>some (LO.norm (y1.1.Kind,y1.1.View,y1.1.From,y1.1.Slot,y1.1.Value,z1,y2.2.Code,y2.2.At)) else some (LO.norm (y1.1.Kind,y1.1.View,y1.1.From,y1.1.Slot,y1.1.Value,y1.1.Certs,y2.2.Code,y2.2.At))).bind (Ac (fun s2=>some ((⟨s2.1,s2.2.1,s2.2.2.1,s2.2.2.2.1,s2.2.2.2.2.1,s2.2.2.2.2.2.1,y1.1.Refs⟩:Ad),(⟨s2.2.2.2.2.2.2.1,s2.2.2.2.2.2.2.2⟩:Af))) (fun i1 s2=>none) (fun s2=>some ((⟨0,0,0,0,0,[],[]⟩:Ad),(⟨s2.2.2.2.2.2.2.1,s2.2.2.2.2.2.2.2⟩:Af))))
theorem w99 {d:Nat} (hd:4≤d) (L0:List En) (b0_:Nat) (k0:Bool) (a0:Af):Okh (bx b0_ [.rsl k0 false (a0.Code.map (Enc.cs k0)),iW a0.At]::L0) (fun S=>R NN d 99 [.bp b0_ 0 0 2 1] S) (m99 a0) (P5 (fun (x:AV×AV) (t:Ad×Af)=>AV.agg [iW t.1.Kind,iW t.1.View,iW t.1.From,iW t.1.Slot,iW t.1.Value,x.1,x.2]) (fun (x:AV×AV) (t:Ad×Af)=>sl false x.1 t.1.Certs::sl false x.2 t.1.Refs::bx b0_ [.rsl k0 false (t.2.Code.map (Enc.cs k0)),iW t.2.At]::L0)):=by
  obtain ⟨d,rfl,g⟩:=up hd
  refine Df (t99 NN d _) ?_
  unfold b99 m99
  refine Bt rfl fun b1=>A6 2 [1,0] (by decide) (by decide)<|ID (mg:=KG a0 6) (fun S=>rfl) (WE (by omega) _ _ k0 a0 6) fun y1 hy1 ⟨v1,v2⟩=>Bt rfl fun b2=>Bj 0 rfl rfl rfl (by decide) rfl<|C9 (I:=(fun (s:Int×Int×Int×Int×Int×(List Ar)×(List U8)×Int) l L=>∃ (v3:AV),l = []∧L = bx b2 [iW s.1,iW s.2.1,iW s.2.2.1,iW s.2.2.2.1,iW s.2.2.2.2.1,v3,v2]::sl false v3 (s.2.2.2.2.2.1:List Ar)::sl false v2 (y1.1.Refs:List Int)::bx b0_ [.rsl k0 false (s.2.2.2.2.2.2.1.map (Enc.cs k0)),iW s.2.2.2.2.2.2.2]::bx b1 [iW 0,iW 0,iW 0,iW 0,iW 0,.rsl false true [],.rsl false true []]::L0)) ?_ ?_ ?_ ?_
  ·exact A6 5 [3,0,1,2,4] (by decide) (by decide)<|q_s (mg:=m34 y1.2 12) (w34 (by omega) _ _ k0 y1.2 12) fun y2 hy2=>q_p fr<|q_i (q_q (fun _=>MH)<|q_s (mg:=m21 y2.2 [0,1,4,6]) (w21 (by omega) _ _ k0 y2.2 _ _ [0,1,4,6]) fun y3 hy3=>q_p fr<|Bj 1 rfl rfl rfl (by decide) rfl<|A6 5 [1,2,3,0,4] (by decide) (by decide)<|Aa 0 ⟨v1,rfl,rfl⟩)<|q_p fr<|q_i (q_q (fun _=>Gj)<|q_s (mg:=m21 y2.2 [(-1),20,21]) (w21 (by omega) _ _ k0 y2.2 _ _ [(-1),20,21]) fun y4 hy4=>q_p fr<|Bj 1 rfl rfl rfl (by decide) rfl<|A6 5 [1,2,3,0,4] (by decide) (by decide)<|Aa 0 ⟨v1,rfl,rfl⟩)<|q_p fr<|q_i (q_q (fun _=>MH)<|q_s (mg:=m21 y2.2 [0,4,7,8]) (w21 (by omega) _ _ k0 y2.2 _ _ [0,4,7,8]) fun y5 hy5=>q_p fr<|Bj 1 rfl rfl rfl (by decide) rfl<|A6 5 [1,2,3,0,4] (by decide) (by decide)<|Aa 0 ⟨v1,rfl,rfl⟩)<|q_p fr<|q_i (q_q (fun _=>Gj)<|q_s (mg:=m21 y2.2 [0,30,31]) (w21 (by omega) _ _ k0 y2.2 _ _ [0,30,31]) fun y6 hy6=>q_p fr<|Bj 1 rfl rfl rfl (by decide) rfl<|A6 5 [1,2,3,0,4] (by decide) (by decide)<|Aa 0 ⟨v1,rfl,rfl⟩)<|q_p fr<|q_i (q_q (fun _=>Gj)<|q_s (mg:=m21 y2.2 [(-1),12,13]) (w21 (by omega) _ _ k0 y2.2 _ _ [(-1),12,13]) fun y7 hy7=>q_p fr<|Bj 1 rfl rfl rfl (by decide) rfl<|A6 5 [1,2,3,0,4] (by decide) (by decide)<|Aa 0 ⟨v1,rfl,rfl⟩)<|q_p fr<|q_i (q_p fr<|Av 1 rfl rfl<|q_p (fun _=>Dy rfl)<|q_e (fun _=>Ne rfl)<|Ek (ys:=[(⟨1,0,1⟩:Ar)]) 2 rfl rfl (fun _ _=>rfl) fun v3 z1 hz1=>q_p fr<|IC 1 rfl (fun S hS=>(HP.cell1 hS 2 rfl)) rfl<|A6 5 [1,2,3,0,4] (by decide) (by decide)<|Aa 0 ⟨v3,rfl,rfl⟩)<|A6 5 [1,2,3,0,4] (by decide) (by decide)<|Aa 0 ⟨v1,rfl,rfl⟩
  ·rintro s2 _ _ ⟨v4,rfl,rfl⟩
   exact B0 0 rfl rfl rfl<|Bj 4 rfl rfl rfl (by decide) rfl<|A6 5 [0,4,1,2,3] (by decide) (by decide)<|Ii (v4,v2) 2 (fun S hS=>hS.lda 1 rfl rfl) rfl rfl
  ·rintro i1 s2 _ _ ⟨v5,rfl,rfl⟩
   exact Ao
  ·rintro s2 _ _ ⟨v6,rfl,rfl⟩
   exact D5 (α:=Ar) false<|D5 (α:=Int) false<|A6 7 [2,3,4,6,1,0,5] (by decide) (by decide)<|Ii (.rsl false true [],.rsl false true []) 4 (fun S hS=>hS.lda 3 rfl rfl) rfl rfl
def m68 (a0:Af):Option ((List Ad)×Af):=(m98 a0).bind fun y1=>( (m34 y1.2 12).bind fun y2=>bif y2.1 == 0 then (m99 y2.2).bind fun y3=>(BV 88 y1.1 [y3.1]).bind fun z1=>some (LO.norm (z1,y3.2.Code,y3.2.At)) else bif y2.1 == 1 then (mkO 88 241 (⟨0,0,0,0,0,[],[]⟩:Ad)).bind fun z2=>some (LO.norm (z2,y2.2.Code,y2.2.At)) else some (LO.norm (y1.1,y2.2.Code,y2.2.At))).bind (Ac (fun s2=>some (s2.1,(⟨s2.2.1,s2.2.2⟩:Af))) (fun i5 s2=>none) (fun s2=>some ([],(⟨s2.2.1,s2.2.2⟩:Af))))
theorem w68 {d:Nat} (hd:5≤d) (L0:List En) (b0_:Nat) (k0:Bool) (a0:Af):Okh (bx b0_ [.rsl k0 false (a0.Code.map (Enc.cs k0)),iW a0.At]::L0) (fun S=>R NN d 68 [.bp b0_ 0 0 2 1] S) (m68 a0) (P5 (fun (x:List Nat×AV) (t:(List Ad)×Af)=>x.2) (fun (x:List Nat×AV) (t:(List Ad)×Af)=>tra x.1 x.2 t.1::bx b0_ [.rsl k0 false (t.2.Code.map (Enc.cs k0)),iW t.2.At]::L0)):=by
  obtain ⟨d,rfl,g⟩:=up hd
  refine Df (t68 NN d _) ?_
  unfold b68 m68
  refine ID (mg:=m98 a0) (fun S=>rfl) (w98 (by omega) _ _ k0 a0) fun y1 hy1 ⟨i1,v1⟩=>C9 (I:=(fun (s:(List Ad)×(List U8)×Int) l L=>∃ (i2:List Nat) (v2:AV),l = [v2]∧L = tra i2 v2 (s.1:List Ad)::bx b0_ [.rsl k0 false (s.2.1.map (Enc.cs k0)),iW s.2.2]::L0)) ?_ ?_ ?_ ?_
  ·exact A6 2 [1,0] (by decide) (by decide)<|q_s (mg:=m34 y1.2 12) (w34 (by omega) _ _ k0 y1.2 12) fun y2 hy2=>q_p fr<|q_i (ID (mg:=m99 y2.2) (fun S=>rfl) (w99 (by omega) _ _ k0 y2.2) fun y3 hy3 ⟨v2,v3⟩=>HI 2 (HG (α:=Ad) (β:=Int×Int×Int×Int×Int×(List Ar)×(List Int)) (f:=fun x=>(x.Kind,x.View,x.From,x.Slot,x.Value,x.Certs,x.Refs)) (x:=y3.1) rfl (AA (AN (n:=y3.1.Kind)) (AA (AN (n:=y3.1.View)) (AA (AN (n:=y3.1.From)) (AA (AN (n:=y3.1.Slot)) (AA (AN (n:=y3.1.Value)) (AA (Lm 0 rfl QA) (Lm 1 rfl VQ)))))))) (by decide) fun i2=>A6 3 [0,2,1] (by decide) (by decide)<|HJ rfl (fun _=>Nc) rfl fun z1 hz1 v4 i3=>Aa 0 ⟨i3,v4,rfl,rfl⟩)<|q_p fr<|q_i (WV (z:=(⟨0,0,0,0,0,[],[]⟩:Ad)) mk24 W7 fun z2 hz2 v5 i4=>A6 3 [0,2,1] (by decide) (by decide)<|A6 3 [1,0,2] (by decide) (by decide)<|Aa 1 ⟨i4,v5,rfl,rfl⟩)<|A6 2 [1,0] (by decide) (by decide)<|Aa 0 ⟨i1,v1,rfl,rfl⟩
  ·rintro s2 _ _ ⟨i6,v6,rfl,rfl⟩
   exact Dv (i6,v6) 0 rfl rfl
  ·rintro i5 s2 _ _ ⟨i7,v7,rfl,rfl⟩
   exact Ao
  ·rintro s2 _ _ ⟨i8,v8,rfl,rfl⟩
   exact EN (α:=Ad)<|A6 3 [1,0,2] (by decide) (by decide)<|Dv ([],.rsl false true []) 1 rfl rfl
def FT (a0:List Ad) (a1:Int) (a2:Int) (s1:Int×(List Ar)) (s3:Int×Int×Int):Option (LO (Int×Int×Int)):=bif decide (s3.1 < (a0.length:Int)) then ( (Am a0 s3.1).bind fun x1=>( bif x1.Kind == 3 then bif x1.From == a1 then bif x1.Slot == s1.1 then bif decide (x1.View < a2) then some (LO.norm (decide (x1.View > s3.2.1))) else some (LO.norm false) else some (LO.norm false) else some (LO.norm false) else some (LO.norm false)).bind (Ac (fun s6=>bif s6 then some (LO.norm (x1.View,x1.Value)) else some (LO.norm (s3.2.1,s3.2.2))) (fun i1 s6=>if i1 = 3 then some (LO.norm (s3.2.1,s3.2.2)) else some (LO.exit i1 (s3.2.1,s3.2.2))) (fun s6=>some (LO.ret (s3.2.1,s3.2.2))))).bind (Ac (fun s7=>some (LO.norm (wi .i64 (s3.1 + 1),s7.1,s7.2))) (fun i2 s7=>some (LO.exit i2 (s3.1,s7.1,s7.2))) (fun s7=>some (LO.ret (s3.1,s7.1,s7.2)))) else some (LO.exit 2 (s3.1,s3.2.1,s3.2.2))
def It (a0:List Ad) (a1:Int) (a2:Int) (s1:Int×(List Ar)):Option (LO (Int×(List Ar))):=bif decide (s1.1≤30) then ( (Aq (FT a0 a1 a2 s1) NN (0,(-1),0)).bind (Ac (fun _=>none) (fun i3 s8=>if i3 = 2 then bif decide (s8.2.1 ≥ 0) then (BV 24 s1.2 [(⟨s1.1,s8.2.1,s8.2.2⟩:Ar)]).bind fun z1=>some (LO.norm z1) else some (LO.norm s1.2) else if i3 = 1 then some (LO.norm s1.2) else some (LO.exit i3 s1.2)) (fun s8=>some (LO.ret s1.2)))).bind (Ac (fun s9=>some (LO.norm (wi .i64 (s1.1 + 1),s9))) (fun i4 s9=>some (LO.exit i4 (s1.1,s9))) (fun s9=>some (LO.ret (s1.1,s9)))) else some (LO.exit 0 (s1.1,s1.2))
def O1 (a0:List Ad) (a1:Int) (a2:Int):Option ((List Ar)):=(Aq (It a0 a1 a2) NN (1,[])).bind (Ac (fun _=>none) (fun i5 s10=>if i5 = 0 then some s10.2 else none) (fun s10=>some []))
theorem w100 {d:Nat} (hd:1≤d) (k0:Bool) (a0:List Ad) (a1:Int) (a2:Int):Fit (R NN d 100 [.rsl k0 false (a0.map (Enc.cs k0)),iW a1,iW a2] []) (O1 a0 a1 a2) P1a:=by
  obtain ⟨d,rfl,g⟩:=up hd
  refine AC (t100 NN d _ _ _) ?_
  unfold XY O1
  refine q_q (fun _=>VC)<|D5 (α:=Ar) false<|BI (I:=(fun (s:Int×(List Ar)) l L=>∃ (v1:AV),l = [v1,iW s.1]∧L = [sl false v1 (s.2:List Ar)])) 0 ⟨(.rsl false true []),rfl,rfl⟩ ?_ ?_ ?_
  ·rintro s1 _ _ ⟨v1,rfl,rfl⟩
   unfold Qu It
   refine q_p fr<|q_i ?_ ?_
   ·refine C9 (I:=(fun (s:(List Ar)) l L=>∃ (v2:AV),l = [v2]∧L = [sl false v2 (s:List Ar)])) ?_ ?_ ?_ ?_
    ·refine q_p (fun _=>SC rfl)<|Bt rfl fun b1=>Bj 0 rfl rfl rfl (by decide) rfl<|BE (A:=fun (s:Int×Int×Int)=>[iW s.1]) (B:=fun s=>[bx b1 [iW s1.1,iW s.2.1,iW s.2.2],sl false v1 (s1.2:List Ar)]) 0 rr ?_ ?_ ?_
     ·intro s3
      unfold Qv FT
      refine AB<|q_p fr<|q_i ?_ ?_
      ·refine AD (A:=fun (s:Int×Int)=>[]) (B:=fun s=>[bx b1 [iW s1.1,iW s.1,iW s.2],sl false v1 (s1.2:List Ar)]) ?_ ?_ ?_ ?_
       ·refine AL rfl fun x1 hx1=>AD (A:=fun (s:Bool)=>[.bool s]) (B:=fun s=>[bx b1 [iW s1.1,iW s3.2.1,iW s3.2.2],sl false v1 (s1.2:List Ar)]) ?_ ?_ ?_ ?_
        ·exact q_q fr<|q_p fr<|q_p fr<|q_p fr<|q_k (q_q fr<|q_p fr<|q_p fr<|q_p fr<|q_k (q_q fr<|q_p fr<|q_p fr<|q_p fr<|q_k (q_q fr<|q_p fr<|q_p fr<|q_p fr<|q_k (q_q fr<|q_p fr<|q_p fr<|q_p fr<|Av 0 rfl rfl<|q_p fr<|Aa 0 rr)<|Aa 0 rr)<|Aa 0 rr)<|Aa 0 rr)<|Aa 0 rr
        ·exact fun s6=>q_i (q_q fr<|q_p fr<|q_p fr<|q_p fr<|Bj 0 rfl rfl rfl (by decide) rfl<|q_q fr<|q_p fr<|q_p fr<|q_p fr<|Bj 0 rfl rfl rfl (by decide) rfl<|Aa 0 rr)<|Aa 0 rr
        ·exact fun i1 s6=>q_n (Aa 0 rr)<|Ai 0 rr
        ·exact fun s6=>Ag 0 rr
       ·exact fun s7=>q_p fr<|Aa 0 rr
       ·exact fun i2 s7=>Ai 0 rr
       ·exact fun s7=>Ag 0 rr
      ·exact Ai 0 rr
     ·exact fun i3 s8=>q_n (q_p fr<|Av 0 rfl rfl<|q_p fr<|q_i (B0 0 rfl rfl rfl<|q_e (fun _=>Ne rfl)<|Ek (ys:=[(⟨s1.1,s8.2.1,s8.2.2⟩:Ar)]) 1 rfl rfl (fun _ _=>rfl) fun v2 z1 hz1=>Aa 1 ⟨v2,rfl,rfl⟩)<|Aa 1 ⟨v1,rfl,rfl⟩)<|q_n (Aa 1 ⟨v1,rfl,rfl⟩)<|Ai 1 ⟨v1,rfl,rfl⟩
     ·exact fun s8=>Ag 1 ⟨v1,rfl,rfl⟩
    ·rintro s9 _ _ ⟨v3,rfl,rfl⟩
     exact q_p fr<|Aa 0 ⟨v3,rfl,rfl⟩
    ·rintro i4 s9 _ _ ⟨v4,rfl,rfl⟩
     exact Ai 0 ⟨v4,rfl,rfl⟩
    ·rintro s9 _ _ ⟨v5,rfl,rfl⟩
     exact Ag 0 ⟨v5,rfl,rfl⟩
   ·exact Ai 0 ⟨v1,rfl,rfl⟩
  ·rintro i5 s10 _ _ ⟨v6,rfl,rfl⟩
   exact q_n (TG 0 rfl fun S x=>QA S x)<|Ao
  ·rintro s10 _ _ ⟨v7,rfl,rfl⟩
   exact EN (α:=Ar)<|VI 0 rfl
def H2 (s1:Int×(List Ad)×(List U8)×Int) (y1:Int×Af) (s2:Int×(List U8)×Int×(List Ad)):Option (LO (Int×(List U8)×Int×(List Ad))):=bif decide (s2.1≤4) then ( ( (m31 (⟨s2.2.1,s2.2.2.1⟩:Af) 8).bind fun y2=>bif !y2.1 then (BV 88 s2.2.2.2 [(⟨2,0,s2.1,s1.1,wi .i64 (1 + y1.1),[],[]⟩:Ad)]).bind fun z1=>some (LO.norm (y2.2.Code,y2.2.At,z1)) else some (LO.norm (y2.2.Code,y2.2.At,s2.2.2.2))).bind (Ac (fun s5=>(m31 (⟨s5.1,s5.2.1⟩:Af) 2).bind fun y3=>bif y3.1 then (BV 88 s5.2.2 [(⟨3,0,s2.1,s1.1,wi .i64 (1 + y1.1),[],[]⟩:Ad)]).bind fun z2=>some (LO.norm (y3.2.Code,y3.2.At,z2)) else some (LO.norm (y3.2.Code,y3.2.At,s5.2.2))) (fun i5 s5=>if i5 = 3 then some (LO.norm (s5.1,s5.2.1,s5.2.2)) else some (LO.exit i5 (s5.1,s5.2.1,s5.2.2))) (fun s5=>some (LO.ret (s5.1,s5.2.1,s5.2.2))))).bind (Ac (fun s6=>some (LO.norm (wi .i64 (s2.1 + 1),s6.1,s6.2.1,s6.2.2))) (fun i11 s6=>some (LO.exit i11 (s2.1,s6.1,s6.2.1,s6.2.2))) (fun s6=>some (LO.ret (s2.1,s6.1,s6.2.1,s6.2.2)))) else some (LO.exit 2 (s2.1,s2.2.1,s2.2.2.1,s2.2.2.2))
def IS (s1:Int×(List Ad)×(List U8)×Int):Option (LO (Int×(List Ad)×(List U8)×Int)):=bif decide (s1.1≤2) then (m34 (⟨s1.2.2.1,s1.2.2.2⟩:Af) 2).bind fun y1=>(Aq (H2 s1 y1) NN (1,y1.2.Code,y1.2.At,s1.2.1)).bind (Ac (fun _=>none) (fun i15 s7=>if i15 = 2 then some (LO.norm (wi .i64 (s1.1 + 1),s7.2.2.2,s7.2.1,s7.2.2.1)) else if i15 = 1 then some (LO.norm (wi .i64 (s1.1 + 1),s7.2.2.2,s7.2.1,s7.2.2.1)) else some (LO.exit i15 (s1.1,s7.2.2.2,s7.2.1,s7.2.2.1))) (fun s7=>some (LO.ret (s1.1,s7.2.2.2,s7.2.1,s7.2.2.1)))) else some (LO.exit 0 (s1.1,s1.2.1,s1.2.2.1,s1.2.2.2))
def IR (s9:Int×(List Ad)×(List U8)×Int):Option (LO (Int×(List Ad)×(List U8)×Int)):=bif decide (s9.1≤4) then ( (m31 (⟨s9.2.2.1,s9.2.2.2⟩:Af) 6).bind fun y4=>bif !y4.1 then (O1 s9.2.1 s9.1 1).bind fun y5=>( (m31 y4.2 8).bind fun y6=>bif y6.1 then (BV 24 y5 [(⟨9,0,1⟩:Ar)]).bind fun z3=>some (LO.norm (z3,y6.2.Code,y6.2.At)) else some (LO.norm (y5,y6.2.Code,y6.2.At))).bind (Ac (fun s12=>(BV 88 s9.2.1 [(⟨4,1,s9.1,0,0,s12.1,[]⟩:Ad)]).bind fun z4=>some (LO.norm (z4,s12.2.1,s12.2.2))) (fun i24 s12=>if i24 = 5 then some (LO.norm (s9.2.1,s12.2.1,s12.2.2)) else some (LO.exit i24 (s9.2.1,s12.2.1,s12.2.2))) (fun s12=>some (LO.ret (s9.2.1,s12.2.1,s12.2.2)))) else some (LO.norm (s9.2.1,y4.2.Code,y4.2.At))).bind (Ac (fun s13=>some (LO.norm (wi .i64 (s9.1 + 1),s13.1,s13.2.1,s13.2.2))) (fun i30 s13=>some (LO.exit i30 (s9.1,s13.1,s13.2.1,s13.2.2))) (fun s13=>some (LO.ret (s9.1,s13.1,s13.2.1,s13.2.2)))) else some (LO.exit 4 (s9.1,s9.2.1,s9.2.2.1,s9.2.2.2))
def IQ (s14:Int×(List Ad)×(List U8)×Int) (s15:Int×(List Int)):Option (LO (Int×(List Int))):=bif decide (s15.1 < (s14.2.1.length:Int)) then (BV 8 s15.2 [s15.1]).bind fun z5=>some (LO.norm (wi .i64 (s15.1 + 1),z5)) else some (LO.exit 6 (s15.1,s15.2))
def IP (s17:Int×(List Ad)×(List U8)×Int):Option (LO (Int×(List Ad)×(List U8)×Int)):=bif decide (s17.1≤3) then (m21 (⟨s17.2.2.1,s17.2.2.2⟩:Af) [1,1,0]).bind fun y8=>(m21 y8.2 [2,2,1]).bind fun y9=>(m34 y9.2 3).bind fun y10=>(BV 88 s17.2.1 [(⟨1,y8.1,y9.1,s17.1,y10.1,[],[]⟩:Ad)]).bind fun z7=>some (LO.norm (wi .i64 (s17.1 + 1),z7,y10.2.Code,y10.2.At)) else some (LO.exit 8 (s17.1,s17.2.1,s17.2.2.1,s17.2.2.2))
def m69 (a0:Af):Option ((List Ad)×Af):=(Aq (IS) NN (1,[],a0.Code,a0.At)).bind (Ac (fun _=>none) (fun i18 s8=>if i18 = 0 then (Aq (IR) NN (1,s8.2.1,s8.2.2.1,s8.2.2.2)).bind (Ac (fun _=>none) (fun i34 s14=>if i34 = 4 then (m21 (⟨s14.2.2.1,s14.2.2.2⟩:Af) [2,2,2,1]).bind fun y7=>(Aq (IQ s14) NN ((s8.2.1.length:Int),[])).bind (Ac (fun _=>none) (fun i36 s16=>if i36 = 6 then (BV 88 s14.2.1 [(⟨5,1,y7.1,0,0,[],s16.2⟩:Ad)]).bind fun z6=>(Aq (IP) NN (1,z6,y7.2.Code,y7.2.At)).bind (Ac (fun _=>none) (fun i42 s18=>if i42 = 8 then some (s18.2.1,(⟨s18.2.2.1,s18.2.2.2⟩:Af)) else none) (fun s18=>some ([],(⟨s18.2.2.1,s18.2.2.2⟩:Af)))) else none) (fun s16=>some ([],y7.2))) else none) (fun s14=>some ([],(⟨s14.2.2.1,s14.2.2.2⟩:Af)))) else none) (fun s8=>some ([],(⟨s8.2.2.1,s8.2.2.2⟩:Af))))
theorem w69 {d:Nat} (hd:3≤d) (L0:List En) (b0_:Nat) (k0:Bool) (a0:Af):Okh (bx b0_ [.rsl k0 false (a0.Code.map (Enc.cs k0)),iW a0.At]::L0) (fun S=>R NN d 69 [.bp b0_ 0 0 2 1] S) (m69 a0) (P5 (fun (x:List Nat×AV) (t:(List Ad)×Af)=>x.2) (fun (x:List Nat×AV) (t:(List Ad)×Af)=>tra x.1 x.2 t.1::bx b0_ [.rsl k0 false (t.2.Code.map (Enc.cs k0)),iW t.2.At]::L0)):=by
  obtain ⟨d,rfl,g⟩:=up hd
  refine Df (t69 NN d _) ?_
  unfold b69 m69
  refine q_q (fun _=>Qz)<|EN (α:=Ad)<|BI (I:=(fun (s:Int×(List Ad)×(List U8)×Int) l L=>∃ (i1:List Nat) (v1:AV),l = [v1,iW s.1]∧L = tra i1 v1 (s.2.1:List Ad)::bx b0_ [.rsl k0 false (s.2.2.1.map (Enc.cs k0)),iW s.2.2.2]::L0)) 0 ⟨[],(.rsl false true []),rfl,rfl⟩ ?_ ?_ ?_
  ·rintro s1 _ _ ⟨i1,v1,rfl,rfl⟩
   unfold UH IS
   refine q_p fr<|q_i ?_ ?_
   ·refine A6 2 [1,0] (by decide) (by decide)<|q_s (mg:=m34 (⟨s1.2.2.1,s1.2.2.2⟩:Af) 2) (w34 (by omega) _ _ k0 (⟨s1.2.2.1,s1.2.2.2⟩:Af) 2) fun y1 hy1=>q_p fr<|BI (I:=(fun (s:Int×(List U8)×Int×(List Ad)) l L=>∃ (i2:List Nat) (v2:AV),l = [v2,iW s.1]∧L = bx b0_ [.rsl k0 false (s.2.1.map (Enc.cs k0)),iW s.2.2.1]::tra i2 v2 (s.2.2.2:List Ad)::L0)) 0 ⟨i1,v1,rfl,rfl⟩ ?_ ?_ ?_
    ·rintro s2 _ _ ⟨i2,v2,rfl,rfl⟩
     unfold UI H2
     refine q_p fr<|q_i ?_ ?_
     ·refine C9 (I:=(fun (s:(List U8)×Int×(List Ad)) l L=>∃ (i3:List Nat) (v3:AV),l = [v3]∧L = bx b0_ [.rsl k0 false (s.1.map (Enc.cs k0)),iW s.2.1]::tra i3 v3 (s.2.2:List Ad)::L0)) ?_ ?_ ?_ ?_
      ·refine C9 (I:=(fun (s:(List U8)×Int×(List Ad)) l L=>∃ (i3:List Nat) (v3:AV),l = [v3]∧L = bx b0_ [.rsl k0 false (s.1.map (Enc.cs k0)),iW s.2.1]::tra i3 v3 (s.2.2:List Ad)::L0)) ?_ ?_ ?_ ?_
       ·exact q_s (mg:=m31 (⟨s2.2.1,s2.2.2.1⟩:Af) 8) (w31 (by omega) _ _ k0 (⟨s2.2.1,s2.2.2.1⟩:Af) 8) fun y2 hy2=>q_p fr<|q_i (q_p (fun _=>Hl rfl)<|HI 0 (HG (α:=Ad) (β:=Int×Int×Int×Int×Int×(List Ar)×(List Int)) (f:=fun x=>(x.Kind,x.View,x.From,x.Slot,x.Value,x.Certs,x.Refs)) (x:=(⟨2,0,s2.1,s1.1,wi .i64 (1 + y1.1),[],[]⟩:Ad)) rfl (AA (AN (n:=2)) (AA (AN (n:=0)) (AA (AN (n:=s2.1)) (AA (AN (n:=s1.1)) (AA (AN (n:=wi .i64 (1 + y1.1))) (AA (Ft (α:=Ar) (fl:=true)) (Ft (α:=Int) (fl:=true))))))))) (by decide) fun i3=>A6 3 [0,2,1] (by decide) (by decide)<|HJ rfl (fun _=>Nc) rfl fun z1 hz1 v3 i4=>A6 2 [1,0] (by decide) (by decide)<|Aa 0 ⟨i4,v3,rfl,rfl⟩)<|Aa 0 ⟨i2,v2,rfl,rfl⟩
       ·rintro s5 _ _ ⟨i6,v4,rfl,rfl⟩
        exact q_s (mg:=m31 (⟨s5.1,s5.2.1⟩:Af) 2) (w31 (by omega) _ _ k0 (⟨s5.1,s5.2.1⟩:Af) 2) fun y3 hy3=>q_i (q_p (fun _=>Hl rfl)<|HI 0 (HG (α:=Ad) (β:=Int×Int×Int×Int×Int×(List Ar)×(List Int)) (f:=fun x=>(x.Kind,x.View,x.From,x.Slot,x.Value,x.Certs,x.Refs)) (x:=(⟨3,0,s2.1,s1.1,wi .i64 (1 + y1.1),[],[]⟩:Ad)) rfl (AA (AN (n:=3)) (AA (AN (n:=0)) (AA (AN (n:=s2.1)) (AA (AN (n:=s1.1)) (AA (AN (n:=wi .i64 (1 + y1.1))) (AA (Ft (α:=Ar) (fl:=true)) (Ft (α:=Int) (fl:=true))))))))) (by decide) fun i7=>A6 3 [0,2,1] (by decide) (by decide)<|HJ rfl (fun _=>Nc) rfl fun z2 hz2 v5 i8=>A6 2 [1,0] (by decide) (by decide)<|Aa 0 ⟨i8,v5,rfl,rfl⟩)<|Aa 0 ⟨i6,v4,rfl,rfl⟩
       ·rintro i5 s5 _ _ ⟨i9,v6,rfl,rfl⟩
        exact q_n (Aa 0 ⟨i9,v6,rfl,rfl⟩)<|Ai 0 ⟨i9,v6,rfl,rfl⟩
       ·rintro s5 _ _ ⟨i10,v7,rfl,rfl⟩
        exact Ag 0 ⟨i10,v7,rfl,rfl⟩
      ·rintro s6 _ _ ⟨i12,v8,rfl,rfl⟩
       exact q_p fr<|Aa 0 ⟨i12,v8,rfl,rfl⟩
      ·rintro i11 s6 _ _ ⟨i13,v9,rfl,rfl⟩
       exact Ai 0 ⟨i13,v9,rfl,rfl⟩
      ·rintro s6 _ _ ⟨i14,v10,rfl,rfl⟩
       exact Ag 0 ⟨i14,v10,rfl,rfl⟩
     ·exact Ai 0 ⟨i2,v2,rfl,rfl⟩
    ·rintro i15 s7 _ _ ⟨i16,v11,rfl,rfl⟩
     exact q_n (q_p fr<|A6 2 [1,0] (by decide) (by decide)<|Aa 0 ⟨i16,v11,rfl,rfl⟩)<|q_n (q_p fr<|A6 2 [1,0] (by decide) (by decide)<|Aa 0 ⟨i16,v11,rfl,rfl⟩)<|A6 2 [1,0] (by decide) (by decide)<|Ai 0 ⟨i16,v11,rfl,rfl⟩
    ·rintro s7 _ _ ⟨i17,v12,rfl,rfl⟩
     exact A6 2 [1,0] (by decide) (by decide)<|Ag 0 ⟨i17,v12,rfl,rfl⟩
   ·exact Ai 0 ⟨i1,v1,rfl,rfl⟩
  ·rintro i18 s8 _ _ ⟨i19,v13,rfl,rfl⟩
   refine q_n ?_ ?_
   ·refine MI 0 rfl<|BI (I:=(fun (s:Int×(List Ad)×(List U8)×Int) l L=>∃ (i20:List Nat) (v14:AV),l = [v14,iW s.1]∧L = tra i20 v14 (s.2.1:List Ad)::bx b0_ [.rsl k0 false (s.2.2.1.map (Enc.cs k0)),iW s.2.2.2]::L0)) 0 ⟨i19,v13,rfl,rfl⟩ ?_ ?_ ?_
    ·rintro s9 _ _ ⟨i20,v14,rfl,rfl⟩
     unfold UG IR
     refine q_p fr<|q_i ?_ ?_
     ·refine C9 (I:=(fun (s:(List Ad)×(List U8)×Int) l L=>∃ (i21:List Nat) (v15:AV),l = [v15]∧L = tra i21 v15 (s.1:List Ad)::bx b0_ [.rsl k0 false (s.2.1.map (Enc.cs k0)),iW s.2.2]::L0)) ?_ ?_ ?_ ?_
      ·refine A6 2 [1,0] (by decide) (by decide)<|q_s (mg:=m31 (⟨s9.2.2.1,s9.2.2.2⟩:Af) 6) (w31 (by omega) _ _ k0 (⟨s9.2.2.1,s9.2.2.2⟩:Af) 6) fun y4 hy4=>q_p fr<|q_i ?_ ?_
       ·refine WY (mg:=O1 s9.2.1 s9.1 1) (aF3 (MW 1 rfl) (Ab rfl) (Ab rfl) fun l0_ l1_ l2_=>w100 (by omega) l0_ s9.2.1 s9.1 1) fun y5 hy5 i21 v15=>Lq (fun S hS=>KZ (by simp only [DC,plc,gd,List.getD_cons_zero,List.getD_cons_succ,List.getElem?_cons_zero,List.getElem?_cons_succ,hS.cella 0 rfl]; rfl)) ?_
        refine Bt rfl fun b1=>Bj 0 rfl rfl rfl (by decide) rfl<|C9 (I:=(fun (s:(List Ar)×(List U8)×Int) l L=>∃ (i22:List Nat) (v16:AV),l = []∧L = bx b1 [iW 4,iW 1,iW s9.1,iW 0,iW 0,v16,.rsl false true []]::tra i22 v16 (s.1:List Ar)::bx b0_ [.rsl k0 false (s.2.1.map (Enc.cs k0)),iW s.2.2]::tra i20 v14 (s9.2.1:List Ad)::L0)) ?_ ?_ ?_ ?_
        ·exact A6 4 [2,0,1,3] (by decide) (by decide)<|q_s (mg:=m31 y4.2 8) (w31 (by omega) _ _ k0 y4.2 8) fun y6 hy6=>q_i (q_p fr<|Av 1 rfl rfl<|q_p (fun _=>SB rfl)<|HI 0 (HG (α:=Ar) (β:=Int×Int×Int) (f:=fun x=>(x.Slot,x.View,x.Value)) (x:=(⟨9,0,1⟩:Ar)) rfl (AA (AN (n:=9)) (AA (AN (n:=0)) (AN (n:=1))))) (by decide) fun i22=>A6 5 [0,3,1,2,4] (by decide) (by decide)<|HJ rfl (fun _=>bt34) rfl fun z3 hz3 v16 i23=>q_p fr<|IC 2 rfl (fun S hS=>(HP.cella hS 0 rfl)) rfl<|A6 4 [2,0,1,3] (by decide) (by decide)<|Aa 0 ⟨i23,v16,rfl,rfl⟩)<|A6 4 [1,2,0,3] (by decide) (by decide)<|Aa 0 ⟨i21,v15,rfl,rfl⟩
        ·rintro s12 _ _ ⟨i25,v17,rfl,rfl⟩
         exact B0 0 rfl rfl rfl<|A6 4 [1,0,2,3] (by decide) (by decide)<|HI 2 (HG (α:=Ad) (β:=Int×Int×Int×Int×Int×(List Ar)×(List Int)) (f:=fun x=>(x.Kind,x.View,x.From,x.Slot,x.Value,x.Certs,x.Refs)) (x:=(⟨4,1,s9.1,0,0,s12.1,[]⟩:Ad)) rfl (AA (AN (n:=4)) (AA (AN (n:=1)) (AA (AN (n:=s9.1)) (AA (AN (n:=0)) (AA (AN (n:=0)) (AA (V5 0 rfl) (Ft (α:=Int) (fl:=true))))))))) (by decide) fun i26=>A6 3 [0,2,1] (by decide) (by decide)<|HJ rfl (fun _=>Nc) rfl fun z4 hz4 v18 i27=>Aa 0 ⟨i27,v18,rfl,rfl⟩
        ·rintro i24 s12 _ _ ⟨i28,v19,rfl,rfl⟩
         exact q_n (A6 4 [0,1,3,2] (by decide) (by decide)<|Aa 2 ⟨i20,v14,rfl,rfl⟩)<|A6 4 [0,1,3,2] (by decide) (by decide)<|Ai 2 ⟨i20,v14,rfl,rfl⟩
        ·rintro s12 _ _ ⟨i29,v20,rfl,rfl⟩
         exact A6 4 [0,1,3,2] (by decide) (by decide)<|Ag 2 ⟨i20,v14,rfl,rfl⟩
       ·exact A6 2 [1,0] (by decide) (by decide)<|Aa 0 ⟨i20,v14,rfl,rfl⟩
      ·rintro s13 _ _ ⟨i31,v21,rfl,rfl⟩
       exact q_p fr<|Aa 0 ⟨i31,v21,rfl,rfl⟩
      ·rintro i30 s13 _ _ ⟨i32,v22,rfl,rfl⟩
       exact Ai 0 ⟨i32,v22,rfl,rfl⟩
      ·rintro s13 _ _ ⟨i33,v23,rfl,rfl⟩
       exact Ag 0 ⟨i33,v23,rfl,rfl⟩
     ·exact Ai 0 ⟨i20,v14,rfl,rfl⟩
    ·rintro i34 s14 _ _ ⟨i35,v24,rfl,rfl⟩
     refine q_n ?_ ?_
     ·refine q_q (fun _=>MH)<|A6 2 [1,0] (by decide) (by decide)<|q_s (mg:=m21 (⟨s14.2.2.1,s14.2.2.2⟩:Af) [2,2,2,1]) (w21 (by omega) _ _ k0 (⟨s14.2.2.1,s14.2.2.2⟩:Af) _ _ [2,2,2,1]) fun y7 hy7=>q_p (fun _=>Js rfl)<|Bt rfl fun b2=>Bj 0 rfl rfl rfl (by decide) rfl<|D5 (α:=Int) false<|BI (I:=(fun (s:Int×(List Int)) l L=>∃ (v25:AV),l = [iW s.1]∧L = sl false v25 (s.2:List Int)::bx b2 [iW 5,iW 1,iW y7.1,iW 0,iW 0,.rsl false true [],v25]::bx b0_ [.rsl k0 false (y7.2.Code.map (Enc.cs k0)),iW y7.2.At]::tra i35 v24 (s14.2.1:List Ad)::L0)) 0 ⟨(.rsl false true []),rfl,rfl⟩ ?_ ?_ ?_
      ·rintro s15 _ _ ⟨v25,rfl,rfl⟩
       unfold UF IQ
       exact MI 3 rfl<|q_p fr<|q_i (q_p fr<|Av 1 rfl rfl<|q_q (fun _=>DU)<|Ek (ys:=[s15.1]) 0 rfl rfl (fun _ _=>rfl) fun v26 z5 hz5=>q_p fr<|IC 1 rfl (fun S hS=>(HP.cell1 hS 0 rfl)) rfl<|q_p fr<|Aa 0 ⟨v26,rfl,rfl⟩)<|Ai 0 ⟨v25,rfl,rfl⟩
      ·rintro i36 s16 _ _ ⟨v27,rfl,rfl⟩
       refine q_n ?_ ?_
       ·refine B0 1 rfl rfl rfl<|HI 2 (HG (α:=Ad) (β:=Int×Int×Int×Int×Int×(List Ar)×(List Int)) (f:=fun x=>(x.Kind,x.View,x.From,x.Slot,x.Value,x.Certs,x.Refs)) (x:=(⟨5,1,y7.1,0,0,[],s16.2⟩:Ad)) rfl (AA (AN (n:=5)) (AA (AN (n:=1)) (AA (AN (n:=y7.1)) (AA (AN (n:=0)) (AA (AN (n:=0)) (AA (Ft (α:=Ar) (fl:=true)) (Lm 0 rfl VQ)))))))) (by decide) fun i37=>A6 3 [0,2,1] (by decide) (by decide)<|HJ rfl (fun _=>Nc) rfl fun z6 hz6 v28 i38=>BI (I:=(fun (s:Int×(List Ad)×(List U8)×Int) l L=>∃ (i39:List Nat) (v29:AV),l = [v29,iW s.1]∧L = tra i39 v29 (s.2.1:List Ad)::bx b0_ [.rsl k0 false (s.2.2.1.map (Enc.cs k0)),iW s.2.2.2]::L0)) 0 ⟨i38,v28,rfl,rfl⟩ ?_ ?_ ?_
        ·rintro s17 _ _ ⟨i39,v29,rfl,rfl⟩
         unfold UE IP
         exact q_p fr<|q_i (q_q (fun _=>Gj)<|A6 2 [1,0] (by decide) (by decide)<|q_s (mg:=m21 (⟨s17.2.2.1,s17.2.2.2⟩:Af) [1,1,0]) (w21 (by omega) _ _ k0 (⟨s17.2.2.1,s17.2.2.2⟩:Af) _ _ [1,1,0]) fun y8 hy8=>q_q (fun _=>Gj)<|q_s (mg:=m21 y8.2 [2,2,1]) (w21 (by omega) _ _ k0 y8.2 _ _ [2,2,1]) fun y9 hy9=>q_s (mg:=m34 y9.2 3) (w34 (by omega) _ _ k0 y9.2 3) fun y10 hy10=>q_p (fun _=>FA rfl)<|HI 0 (HG (α:=Ad) (β:=Int×Int×Int×Int×Int×(List Ar)×(List Int)) (f:=fun x=>(x.Kind,x.View,x.From,x.Slot,x.Value,x.Certs,x.Refs)) (x:=(⟨1,y8.1,y9.1,s17.1,y10.1,[],[]⟩:Ad)) rfl (AA (AN (n:=1)) (AA (AN (n:=y8.1)) (AA (AN (n:=y9.1)) (AA (AN (n:=s17.1)) (AA (AN (n:=y10.1)) (AA (Ft (α:=Ar) (fl:=true)) (Ft (α:=Int) (fl:=true))))))))) (by decide) fun i40=>A6 3 [0,2,1] (by decide) (by decide)<|HJ rfl (fun _=>Nc) rfl fun z7 hz7 v30 i41=>q_p fr<|Aa 0 ⟨i41,v30,rfl,rfl⟩)<|Ai 0 ⟨i39,v29,rfl,rfl⟩
        ·rintro i42 s18 _ _ ⟨i43,v31,rfl,rfl⟩
         exact q_n (Dv (i43,v31) 0 rfl rfl)<|Ao
        ·rintro s18 _ _ ⟨i44,v32,rfl,rfl⟩
         exact EN (α:=Ad)<|A6 3 [1,0,2] (by decide) (by decide)<|Dv ([],.rsl false true []) 1 rfl rfl
       ·exact Ao
      ·rintro s16 _ _ ⟨v33,rfl,rfl⟩
       exact EN (α:=Ad)<|A6 5 [1,2,4,0,3] (by decide) (by decide)<|Dv ([],.rsl false true []) 3 rfl rfl
     ·exact Ao
    ·rintro s14 _ _ ⟨i45,v34,rfl,rfl⟩
     exact EN (α:=Ad)<|A6 3 [1,0,2] (by decide) (by decide)<|Dv ([],.rsl false true []) 1 rfl rfl
   ·exact Ao
  ·rintro s8 _ _ ⟨i46,v35,rfl,rfl⟩
   exact EN (α:=Ad)<|A6 3 [1,0,2] (by decide) (by decide)<|Dv ([],.rsl false true []) 1 rfl rfl
def m39 (a0:Af):Option ((List Ad)×Af):=(m31 a0 10).bind fun y1=>bif y1.1 then (m68 y1.2).bind fun y2=>some (y2.1,y2.2) else (m69 y1.2).bind fun y3=>some (y3.1,y3.2)
theorem w39 {d:Nat} (hd:6≤d) (L0:List En) (b0_:Nat) (k0:Bool) (a0:Af):Okh (bx b0_ [.rsl k0 false (a0.Code.map (Enc.cs k0)),iW a0.At]::L0) (fun S=>R NN d 39 [.bp b0_ 0 0 2 1] S) (m39 a0) (P5 (fun (x:List Nat×AV) (t:(List Ad)×Af)=>x.2) (fun (x:List Nat×AV) (t:(List Ad)×Af)=>tra x.1 x.2 t.1::bx b0_ [.rsl k0 false (t.2.Code.map (Enc.cs k0)),iW t.2.At]::L0)):=by
  obtain ⟨d,rfl,g⟩:=up hd
  refine Df (t39 NN d _) ?_
  unfold b39 m39
  exact q_s (mg:=m31 a0 10) (w31 (by omega) _ _ k0 a0 10) fun y1 hy1=>q_i (ID (mg:=m68 y1.2) (fun S=>rfl) (w68 (by omega) _ _ k0 y1.2) fun y2 hy2 ⟨i1,v1⟩=>Dv (i1,v1) 0 rfl rfl)<|ID (mg:=m69 y1.2) (fun S=>rfl) (w69 (by omega) _ _ k0 y1.2) fun y3 hy3 ⟨i2,v2⟩=>Dv (i2,v2) 0 rfl rfl
def KF (a1:List Ad) (a2:Int) (s1:Int×(List Int)):Option (LO (Int×(List Int))):=bif decide (s1.1 < (a1.length:Int)) then ( (Am a1 s1.1).bind fun x1=>bif x1.Kind == a2 then (BV 8 s1.2 [s1.1]).bind fun z1=>some (LO.norm z1) else some (LO.norm s1.2)).bind (Ac (fun s3=>some (LO.norm (wi .i64 (s1.1 + 1),s3))) (fun i1 s3=>some (LO.exit i1 (s1.1,s3))) (fun s3=>some (LO.ret (s1.1,s3)))) else some (LO.exit 0 (s1.1,s1.2))
def m19 (a0:Af) (a1:List Ad) (a2:Int):Option (Int×Af):=(Aq (KF a1 a2) NN (0,[])).bind (Ac (fun _=>none) (fun i2 s4=>if i2 = 0 then ( bif (s4.2.length:Int) == 0 then (m34 a0 30).bind fun y3=>some (LO.ret (wi .i64 (y3.1 - 1),y3.2.Code,y3.2.At)) else (m31 a0 8).bind fun y1=>bif y1.1 then (m34 y1.2 30).bind fun y2=>some (LO.ret (wi .i64 (y2.1 - 1),y2.2.Code,y2.2.At)) else some (LO.norm (0,y1.2.Code,y1.2.At))).bind (Ac (fun s6=>(m34 (⟨s6.2.1,s6.2.2⟩:Af) (s4.2.length:Int)).bind fun y4=>(Am s4.2 y4.1).bind fun x2=>some (x2,y4.2)) (fun i3 s6=>none) (fun s6=>some (s6.1,(⟨s6.2.1,s6.2.2⟩:Af)))) else none) (fun s4=>some (0,a0)))
theorem w19 {d:Nat} (hd:3≤d) (L0:List En) (b0_:Nat) (k0:Bool) (a0:Af) (e1_:En) (v1_:AV) (a1:List Ad) (hv1_:View e1_ v1_ a1) (a2:Int):Okh (bx b0_ [.rsl k0 false (a0.Code.map (Enc.cs k0)),iW a0.At]::e1_::L0) (fun S=>R NN d 19 [.bp b0_ 0 0 2 1,v1_,iW a2] S) (m19 a0 a1 a2) (P2 (fun (t:Int×Af)=>AV.int .i64 t.1) (fun (t:Int×Af)=>bx b0_ [.rsl k0 false (t.2.Code.map (Enc.cs k0)),iW t.2.At]::e1_::L0)):=by
  obtain ⟨d,rfl,g⟩:=up hd
  refine Df (t19 NN d _ _ _) ?_
  unfold b19 m19
  refine q_q (fun _=>EM)<|D5 (α:=Int) false<|BI (I:=(fun (s:Int×(List Int)) l L=>∃ (v1:AV),l = [v1,iW s.1]∧L = sl false v1 (s.2:List Int)::bx b0_ [.rsl k0 false (a0.Code.map (Enc.cs k0)),iW a0.At]::e1_::L0)) 0 ⟨(.rsl false true []),rfl,rfl⟩ ?_ ?_ ?_
  ·rintro s1 _ _ ⟨v1,rfl,rfl⟩
   unfold UR KF
   refine TI hv1_ 2 rfl<|q_p fr<|q_i ?_ ?_
   ·refine C9 (I:=(fun (s:(List Int)) l L=>∃ (v2:AV),l = [v2]∧L = sl false v2 (s:List Int)::bx b0_ [.rsl k0 false (a0.Code.map (Enc.cs k0)),iW a0.At]::e1_::L0)) ?_ ?_ ?_ ?_
    ·exact VK hv1_ 2 rfl rfl fun x1 hx1=>VM hv1_ 2 rfl rfl hx1 (by decide)<|VJ hv1_ 2 rfl rfl hx1 (by decide) rfl<|q_p fr<|q_i (q_q (fun _=>DU)<|Ek (ys:=[s1.1]) 0 rfl rfl (fun _ _=>rfl) fun v2 z1 hz1=>Aa 0 ⟨v2,rfl,rfl⟩)<|Aa 0 ⟨v1,rfl,rfl⟩
    ·rintro s3 _ _ ⟨v3,rfl,rfl⟩
     exact q_p fr<|Aa 0 ⟨v3,rfl,rfl⟩
    ·rintro i1 s3 _ _ ⟨v4,rfl,rfl⟩
     exact Ai 0 ⟨v4,rfl,rfl⟩
    ·rintro s3 _ _ ⟨v5,rfl,rfl⟩
     exact Ag 0 ⟨v5,rfl,rfl⟩
   ·exact Ai 0 ⟨v1,rfl,rfl⟩
  ·rintro i2 s4 _ _ ⟨v6,rfl,rfl⟩
   refine q_n ?_ ?_
   ·refine AD (A:=fun (s:Int×(List U8)×Int)=>[iW s.1]) (B:=fun s=>sl false v6 (s4.2:List Int)::bx b0_ [.rsl k0 false (s.2.1.map (Enc.cs k0)),iW s.2.2]::e1_::L0) ?_ ?_ ?_ ?_
    ·refine Gk 0 rfl<|q_p fr<|q_j ?_ ?_
     ·first | refine Dh ?_ | skip
      exact A6 3 [1,0,2] (by decide) (by decide)<|q_s (mg:=m34 a0 30) (w34 (by omega) _ _ k0 a0 30) fun y3 hy3=>q_p fr<|A6 3 [1,0,2] (by decide) (by decide)<|Ag 0 rr
     ·exact A6 3 [1,0,2] (by decide) (by decide)<|q_s (mg:=m31 a0 8) (w31 (by omega) _ _ k0 a0 8) fun y1 hy1=>q_i (q_s (mg:=m34 y1.2 30) (w34 (by omega) _ _ k0 y1.2 30) fun y2 hy2=>q_p fr<|A6 3 [1,0,2] (by decide) (by decide)<|Ag 0 rr)<|A6 3 [1,0,2] (by decide) (by decide)<|Aa 0 rr
    ·exact fun s6=>Gk 0 rfl<|A6 3 [1,0,2] (by decide) (by decide)<|q_s (mg:=m34 (⟨s6.2.1,s6.2.2⟩:Af) (s4.2.length:Int)) (w34 (by omega) _ _ k0 (⟨s6.2.1,s6.2.2⟩:Af) (s4.2.length:Int)) fun y4 hy4=>Ax 1 rfl rfl fun x2 hx2=>AI 1 rfl hx2 rfl<|A6 3 [1,0,2] (by decide) (by decide)<|AK 1 rfl rfl
    ·exact fun i3 s6=>Ao
    ·exact fun s6=>AK 1 rfl rfl
   ·exact Ao
  ·rintro s4 _ _ ⟨v7,rfl,rfl⟩
   exact AK 1 rfl rfl
def m40 (a0:Af) (a1:List Ad):Option (Aj×Af):=(m34 a0 4).bind fun y1=>(m34 y1.2 2).bind fun y2=>(m21 y2.2 [0,0,0,1,30]).bind fun y3=>( bif decide (y2.1 > 0) then (m31 y3.2 4).bind fun y4=>bif !y4.1 then (m19 y4.2 a1 5).bind fun y5=>some (LO.norm (y5.1,y5.2.Code,y5.2.At)) else some (LO.norm ((-1),y4.2.Code,y4.2.At)) else some (LO.norm ((-1),y3.2.Code,y3.2.At))).bind (Ac (fun s2=>( (m34 (⟨s2.2.1,s2.2.2⟩:Af) 14).bind fun y6=>bif y6.1 == 0 then (m21 y6.2 [0,8,2]).bind fun y7=>some (LO.norm (y7.1,y2.1,s2.1,y7.2.Code,y7.2.At)) else bif y6.1 == 1 then (m21 y6.2 [(-1),21,2]).bind fun y8=>some (LO.norm (wi .i64 (1 + y1.1),y8.1,s2.1,y8.2.Code,y8.2.At)) else bif y6.1 == 2 then (m21 y6.2 [0,3]).bind fun y9=>some (LO.norm (wi .i64 (1 + y1.1),y2.1,y9.1,y9.2.Code,y9.2.At)) else some (LO.norm (wi .i64 (1 + y1.1),y2.1,s2.1,y6.2.Code,y6.2.At))).bind (Ac (fun s4=>some ((⟨s4.1,s4.2.1,s4.2.2.1,y3.1⟩:Aj),(⟨s4.2.2.2.1,s4.2.2.2.2⟩:Af))) (fun i2 s4=>none) (fun s4=>some ((⟨0,0,0,0⟩:Aj),(⟨s4.2.2.2.1,s4.2.2.2.2⟩:Af))))) (fun i1 s2=>none) (fun s2=>some ((⟨0,0,0,0⟩:Aj),(⟨s2.2.1,s2.2.2⟩:Af))))
theorem w40 {d:Nat} (hd:4≤d) (L0:List En) (b0_:Nat) (k0:Bool) (a0:Af) (e1_:En) (v1_:AV) (a1:List Ad) (hv1_:View e1_ v1_ a1):Okh (bx b0_ [.rsl k0 false (a0.Code.map (Enc.cs k0)),iW a0.At]::e1_::L0) (fun S=>R NN d 40 [.bp b0_ 0 0 2 1,v1_] S) (m40 a0 a1) (P2 (fun (t:Aj×Af)=>AV.agg (Enc.cs false t.1)) (fun (t:Aj×Af)=>bx b0_ [.rsl k0 false (t.2.Code.map (Enc.cs k0)),iW t.2.At]::e1_::L0)):=by
  obtain ⟨d,rfl,g⟩:=up hd
  refine Df (t40 NN d _ _) ?_
  unfold b40 m40
  refine Bt rfl fun b1=>A6 3 [1,0,2] (by decide) (by decide)<|q_s (mg:=m34 a0 4) (w34 (by omega) _ _ k0 a0 4) fun y1 hy1=>q_p fr<|q_s (mg:=m34 y1.2 2) (w34 (by omega) _ _ k0 y1.2 2) fun y2 hy2=>q_q (fun _=>K8)<|q_s (mg:=m21 y2.2 [0,0,0,1,30]) (w21 (by omega) _ _ k0 y2.2 _ _ [0,0,0,1,30]) fun y3 hy3=>q_p (fun _=>La rfl)<|Bt rfl fun b2=>Bj 0 rfl rfl rfl (by decide) rfl<|AD (A:=fun (s:Int×(List U8)×Int)=>[]) (B:=fun s=>bx b2 [iW (wi .i64 (1 + y1.1)),iW y2.1,iW s.1,iW y3.1]::bx b0_ [.rsl k0 false (s.2.1.map (Enc.cs k0)),iW s.2.2]::bx b1 [iW 0,iW 0,iW 0,iW 0]::e1_::L0) ?_ ?_ ?_ ?_
  ·refine q_p fr<|Av 0 rfl rfl<|q_p fr<|q_k ?_ ?_
   ·exact A6 4 [1,0,2,3] (by decide) (by decide)<|q_s (mg:=m31 y3.2 4) (w31 (by omega) _ _ k0 y3.2 4) fun y4 hy4=>q_p fr<|q_i (A6 4 [0,3,1,2] (by decide) (by decide)<|q_s (mg:=m19 y4.2 a1 5) (w19 (by omega) _ _ k0 y4.2 _ _ a1 hv1_ 5) fun y5 hy5=>q_p fr<|Bj 2 rfl rfl rfl (by decide) rfl<|A6 4 [2,0,3,1] (by decide) (by decide)<|Aa 0 rr)<|A6 4 [1,0,2,3] (by decide) (by decide)<|Aa 0 rr
   ·first | refine DF ?_ | skip
    exact Aa 0 rr
  ·intro s2
   refine AD (A:=fun (s:Int×Int×Int×(List U8)×Int)=>[]) (B:=fun s=>bx b2 [iW s.1,iW s.2.1,iW s.2.2.1,iW y3.1]::bx b0_ [.rsl k0 false (s.2.2.2.1.map (Enc.cs k0)),iW s.2.2.2.2]::bx b1 [iW 0,iW 0,iW 0,iW 0]::e1_::L0) ?_ ?_ ?_ ?_
   ·exact A6 4 [1,0,2,3] (by decide) (by decide)<|q_s (mg:=m34 (⟨s2.2.1,s2.2.2⟩:Af) 14) (w34 (by omega) _ _ k0 (⟨s2.2.1,s2.2.2⟩:Af) 14) fun y6 hy6=>q_p fr<|q_i (q_q (fun _=>Gj)<|q_s (mg:=m21 y6.2 [0,8,2]) (w21 (by omega) _ _ k0 y6.2 _ _ [0,8,2]) fun y7 hy7=>q_p fr<|Bj 1 rfl rfl rfl (by decide) rfl<|A6 4 [1,0,2,3] (by decide) (by decide)<|Aa 0 rr)<|q_p fr<|q_i (q_q (fun _=>Gj)<|q_s (mg:=m21 y6.2 [(-1),21,2]) (w21 (by omega) _ _ k0 y6.2 _ _ [(-1),21,2]) fun y8 hy8=>q_p fr<|Bj 1 rfl rfl rfl (by decide) rfl<|A6 4 [1,0,2,3] (by decide) (by decide)<|Aa 0 rr)<|q_p fr<|q_i (q_q (fun _=>VE)<|q_s (mg:=m21 y6.2 [0,3]) (w21 (by omega) _ _ k0 y6.2 _ _ [0,3]) fun y9 hy9=>q_p fr<|Bj 1 rfl rfl rfl (by decide) rfl<|A6 4 [1,0,2,3] (by decide) (by decide)<|Aa 0 rr)<|A6 4 [1,0,2,3] (by decide) (by decide)<|Aa 0 rr
   ·exact fun s4=>B0 0 rfl rfl rfl<|Bj 2 rfl rfl rfl (by decide) rfl<|A6 4 [0,2,1,3] (by decide) (by decide)<|KA 2 (fun S hS=>hS.lda 1 rfl rfl) rfl rfl
   ·exact fun i2 s4=>Ao
   ·exact fun s4=>A6 4 [0,2,1,3] (by decide) (by decide)<|KA 2 (fun S hS=>hS.lda 1 rfl rfl) rfl rfl
  ·exact fun i1 s2=>Ao
  ·exact fun s2=>A6 4 [0,2,1,3] (by decide) (by decide)<|KA 2 (fun S hS=>hS.lda 1 rfl rfl) rfl rfl
def m17 (a0:List U8):Option (Int×(List Ad)×Aj):=(m37 a0).bind fun y1=>(m38 y1).bind fun y2=>(m21 y2.2 [1,1,1,1,1,1,y2.1]).bind fun y3=>(m39 y3.2).bind fun y4=>(m40 y4.2 y4.1).bind fun y5=>some (y3.1,y4.1,y5.1)
theorem w17 {d:Nat} (hd:7≤d) (k0:Bool) (a0:List U8):Fit (R NN d 17 [.rsl k0 false (a0.map (Enc.cs k0))] []) (m17 a0) (P0 (fun (t:Int×(List Ad)×Aj)=>AV.tup [iW t.1,.rsl false false (t.2.1.map (Enc.cs false)),.agg (Enc.cs false t.2.2)])):=by
  obtain ⟨d,rfl,g⟩:=up hd
  refine AC (t17 NN d _) ?_
  unfold b17 m17
  exact Bt rfl fun b1=>ID (mg:=m37 a0) (fun S=>rfl) (w37 (by omega) _ k0 a0) fun y1 hy1 b2=>q_s (mg:=m38 y1) (w38 (by omega) _ _ k0 y1) fun y2 hy2=>q_q (fun _=>Q0)<|q_s (mg:=m21 y2.2 [1,1,1,1,1,1,y2.1]) (w21 (by omega) _ _ k0 y2.2 _ _ [1,1,1,1,1,1,y2.1]) fun y3 hy3=>ID (mg:=m39 y3.2) (fun S=>rfl) (w39 (by omega) _ _ k0 y3.2) fun y4 hy4 ⟨i1,v1⟩=>A6 3 [1,0,2] (by decide) (by decide)<|q_s (mg:=m40 y4.2 y4.1) (w40 (by omega) _ _ k0 y4.2 _ _ y4.1 vw_a) fun y5 hy5=>Bj 2 rfl rfl rfl (by decide) rfl<|IF (fun S hS=>TD rfl rfl (hS.lda 2 rfl rfl)) (Jk (Ae (Ab rfl) (Ae (MW 1 rfl) (Ae (Cd (A3 (l0:=false) (x:=y5.1))) As)))) rfl
def m18 (a0:List U8) (a1:Int):Option (Af):=some (⟨a0,wi .i64 (5 + (wi .i64 (7 * a1)))⟩:Af)
theorem w18 {d:Nat} (hd:1≤d) (L0:List En) (k0:Bool) (a0:List U8) (a1:Int):Okh L0 (fun S=>R NN d 18 [.rsl k0 false (a0.map (Enc.cs k0)),iW a1] S) (m18 a0 a1) (P5 (fun (x:Nat) (t:Af)=>AV.bp x 0 0 2 1) (fun (x:Nat) (t:Af)=>bx x [.rsl k0 false (t.Code.map (Enc.cs k0)),iW t.At]::L0)):=by
  obtain ⟨d,rfl,g⟩:=up hd
  refine Df (t18 NN d _ _) ?_
  unfold b18 m18
  exact q_p fr<|q_p fr<|q_p (fun _=>SA rfl)<|Bg (n:=2) rfl rfl (by decide) fun b1=>Dv b1 0 rfl rfl
def m5 (a0:List U8):Option (Int×(List Ad)×Aj×Int):=(m17 a0).bind fun y1=>(m18 a0 3).bind fun y2=>(m19 y2 y1.2.1 1).bind fun y3=>some (y1.1,y1.2.1,y1.2.2,y3.1)
theorem w5 {d:Nat} (hd:8≤d) (k0:Bool) (a0:List U8):Fit (R NN d 5 [.rsl k0 false (a0.map (Enc.cs k0))] []) (m5 a0) (P0 (fun (t:Int×(List Ad)×Aj×Int)=>AV.tup [iW t.1,.rsl false false (t.2.1.map (Enc.cs false)),.agg (Enc.cs false t.2.2.1),iW t.2.2.2])):=by
  obtain ⟨d,rfl,g⟩:=up hd
  refine AC (t5 NN d _) ?_
  unfold b5 m5
  exact Bt rfl fun b1=>A4 (aF1 A8 fun l0_=>w17 (by omega) l0_ a0) fun y1 hy1=>q_q fr<|q_q fr<|q_q fr<|Bt rfl fun b2=>Bj 0 rfl rfl rfl (by decide) rfl<|ID (mg:=m18 a0 3) (fun S=>rfl) (w18 (by omega) _ k0 a0 3) fun y2 hy2 b3=>B0 1 rfl rfl rfl<|q_wf<|A6 4 [1,0,2,3] (by decide) (by decide)<|q_s (mg:=m19 y2 y1.2.1 1) (w19 (by omega) _ _ k0 y2 _ _ y1.2.1 vw_s 1) fun y3 hy3=>G7 2 rfl rfl<|Bj 3 rfl rfl rfl (by decide) rfl<|IF (fun S hS=>TC rfl rfl (hS.lda 3 rfl rfl) rfl) (Jk (Ae (Ab rfl) (Ae A8 (Ae (Cd (A3 (l0:=false) (x:=y1.2.2))) (Ae (Ab rfl) As))))) rfl
def m56 (a0:Int) (a1:Int) (a2:Int):Bool:=bif decide (a1≤a0) then decide (a0≤a2) else false
theorem w56 {d:Nat} (hd:1≤d) (a0:Int) (a1:Int) (a2:Int):Fit (R NN d 56 [iW a0,iW a1,iW a2] []) (some (m56 a0 a1 a2)) PB:=by
  obtain ⟨d,rfl,g⟩:=up hd
  refine AC (t56 NN d _ _ _) ?_
  unfold b56 m56
  exact q_p fr<|Q3 (fun h1=>q_p fr<|Ah (Ab rfl) rfl) fun h1=>Ah (Ab rfl) rfl
def m52 (a0:Int):Bool:=(m56 a0 1 2)
theorem w52 {d:Nat} (hd:2≤d) (a0:Int):Fit (R NN d 52 [iW a0] []) (some (m52 a0)) PB:=by
  obtain ⟨d,rfl,g⟩:=up hd
  refine AC (t52 NN d _) ?_
  unfold b52 m52
  exact AH (aF3 (Ab rfl) (Ab rfl) (Ab rfl) fun l0_ l1_ l2_=>w56 (by omega) a0 1 2)<|Ah (Ab rfl) rfl
def m42 (a0:Int):Bool:=(m56 a0 1 30)
theorem w42 {d:Nat} (hd:2≤d) (a0:Int):Fit (R NN d 42 [iW a0] []) (some (m42 a0)) PB:=by
  obtain ⟨d,rfl,g⟩:=up hd
  refine AC (t42 NN d _) ?_
  unfold b42 m42
  exact AH (aF3 (Ab rfl) (Ab rfl) (Ab rfl) fun l0_ l1_ l2_=>w56 (by omega) a0 1 30)<|Ah (Ab rfl) rfl
def m43 (a0:Int):Bool:=(m56 a0 0 12)
theorem w43 {d:Nat} (hd:2≤d) (a0:Int):Fit (R NN d 43 [iW a0] []) (some (m43 a0)) PB:=by
  obtain ⟨d,rfl,g⟩:=up hd
  refine AC (t43 NN d _) ?_
  unfold b43 m43
  exact AH (aF3 (Ab rfl) (Ab rfl) (Ab rfl) fun l0_ l1_ l2_=>w56 (by omega) a0 0 12)<|Ah (Ab rfl) rfl
def m81 (a0:Int):Int:=wi .i64 ((wi .i64 (3 * a0)) + 1)
theorem w81 {d:Nat} (hd:1≤d) (a0:Int):Fit (R NN d 81 [iW a0] []) (some (m81 a0)) PI:=by
  obtain ⟨d,rfl,g⟩:=up hd
  refine AC (t81 NN d _) ?_
  unfold b81 m81
  exact q_p fr<|q_p fr<|Ah (Ab rfl) rfl
def m60 (a0:Int) (a1:Int):Bool:=(m56 a1 1 (m81 a0))
theorem w60 {d:Nat} (hd:2≤d) (a0:Int) (a1:Int):Fit (R NN d 60 [iW a0,iW a1] []) (some (m60 a0 a1)) PB:=by
  obtain ⟨d,rfl,g⟩:=up hd
  refine AC (t60 NN d _ _) ?_
  unfold b60 m60
  exact AH (aF1 (Ab rfl) fun l0_=>w81 (by omega) a0)<|AH (aF3 (Ab rfl) (Ab rfl) (Ab rfl) fun l0_ l1_ l2_=>w56 (by omega) a1 1 (m81 a0))<|Ah (Ab rfl) rfl
def m61 (a0:Int):Bool:=(m56 a0 0 20)
theorem w61 {d:Nat} (hd:2≤d) (a0:Int):Fit (R NN d 61 [iW a0] []) (some (m61 a0)) PB:=by
  obtain ⟨d,rfl,g⟩:=up hd
  refine AC (t61 NN d _) ?_
  unfold b61 m61
  exact AH (aF3 (Ab rfl) (Ab rfl) (Ab rfl) fun l0_ l1_ l2_=>w56 (by omega) a0 0 20)<|Ah (Ab rfl) rfl
def m80 (a0:Int):Bool:=(m56 a0 1 3)
theorem w80 {d:Nat} (hd:2≤d) (a0:Int):Fit (R NN d 80 [iW a0] []) (some (m80 a0)) PB:=by
  obtain ⟨d,rfl,g⟩:=up hd
  refine AC (t80 NN d _) ?_
  unfold b80 m80
  exact AH (aF3 (Ab rfl) (Ab rfl) (Ab rfl) fun l0_ l1_ l2_=>w56 (by omega) a0 1 3)<|Ah (Ab rfl) rfl
def NA (a0:List Ar) (a1:Ar→Option (Bool)) (s1:Int×Int):Option (LO (Int×Int)):=bif decide (s1.2 < (a0.length:Int)) then (Am a0 s1.2).bind fun x1=>(a1 x1).bind fun y1=>bif y1 then some (LO.ret (s1.2,s1.2)) else some (LO.norm (s1.1,wi .i64 (s1.2 + 1))) else some (LO.exit 0 (s1.1,s1.2))
def Wg (a0:List Ar) (a1:Ar→Option (Bool)):Option (Int):=(Aq (NA a0 a1) NN (0,0)).bind (Ac (fun _=>none) (fun i1 s2=>if i1 = 0 then some (-1) else none) (fun s2=>some s2.1))
theorem w106 {Dc:Nat} {d:Nat} (hd:Dc + 1≤d) (k0:Bool) (a0:List Ar) (c1:Bool→AV) (hc1:∀ l,CV 8 [] false (c1 l) c1) (a1:Ar→Option (Bool)) (tc1:∀ (d:Nat),Dc≤d→∀ (l:Bool) (q0:Bool) (x0:Ar) (S:St) (t:Bool),a1 x0 = some t→Dm (cfg NN) (R NN d) 106 (c1 l) [.agg (Enc.cs q0 x0)] S = some ((fun (t:Bool)=>AV.bool t) t,S)) (k1:Bool):Fit (R NN d 106 [.rsl k0 false (a0.map (Enc.cs k0)),c1 k1] []) (Wg a0 a1) PI:=by
  obtain ⟨d,rfl,g⟩:=up hd
  refine AC (t106 NN d _ _) ?_
  unfold XS Wg
  refine AB<|BE (A:=fun (s:Int×Int)=>[iW s.1,iW s.2]) (B:=fun s=>[]) 0 rr ?_ ?_ ?_
  ·intro s1
   unfold Qn NA
   exact q_p fr<|q_i (AL rfl fun x1 hx1=>q_p fr<|VO (mg:=a1 x1) (E:=(fun (t:Bool)=>AV.bool t)) (fun S t ht=>tc1 d (by omega) k1 k0 x1 S t ht) fun y1 hy1=>q_i (Ag 0 rr)<|q_p fr<|Aa 0 rr)<|Ai 0 rr
  ·exact fun i1 s2=>q_n (Ah (Ab rfl) rfl)<|Ao
  ·exact fun s2=>Ah (Ab rfl) rfl
def m82 (a0:List Ar) (a1:Ar→Option (Bool)):Option (Bool):=(Wg a0 a1).bind fun y1=>some (decide (y1 ≥ 0))
theorem w82 {Dc:Nat} {d:Nat} (hd:Dc + 2≤d) (k0:Bool) (a0:List Ar) (c1:Bool→AV) (hc1:∀ l,CV 8 [] false (c1 l) c1) (a1:Ar→Option (Bool)) (tc1:∀ (d:Nat),Dc≤d→∀ (l:Bool) (q0:Bool) (x0:Ar) (S:St) (t:Bool),a1 x0 = some t→Dm (cfg NN) (R NN d) 106 (c1 l) [.agg (Enc.cs q0 x0)] S = some ((fun (t:Bool)=>AV.bool t) t,S)) (k1:Bool):Fit (R NN d 82 [.rsl k0 false (a0.map (Enc.cs k0)),c1 k1] []) (m82 a0 a1) PB:=by
  obtain ⟨d,rfl,g⟩:=up hd
  refine AC (t82 NN d _ _) ?_
  unfold b82 m82
  exact A4 (aF2 A8 (CV.any (hc1 k1)) fun l0_ l1_=>w106 (by omega) l0_ a0 c1 hc1 a1 tc1 l1_) fun y1 hy1=>q_p fr<|Ah (Ab rfl) rfl
def m83 (a0:Ar) (a1:Ad):Option (Bool):=( bif !(m42 a0.Slot) then some (LO.norm true) else bif !(m56 a0.View 0 (wi .i64 (a1.View - 1))) then some (LO.norm true) else some (LO.norm (!(m43 a0.Value)))).bind (Ac (fun s2=>some s2) (fun i1 s2=>none) (fun s2=>some s2))
theorem w83 {d:Nat} (hd:3≤d) (k0:Bool) (a0:Ar) (k1:Bool) (a1:Ad):Fit (R NN d 83 [.agg (Enc.cs k0 a0),.rp k1 (Enc.cs k1 a1)] []) (m83 a0 a1) PB:=by
  obtain ⟨d,rfl,g⟩:=up hd
  refine AC (t83 NN d _ _) ?_
  unfold b83 m83
  refine Bg (n:=3) rfl rfl (by decide) fun b1=>AD (A:=fun (s:Bool)=>[.bool s]) (B:=fun s=>[bx b1 [iW a0.Slot,iW a0.View,iW a0.Value]]) ?_ ?_ ?_ ?_
  ·exact q_p fr<|Av 0 rfl rfl<|AH (aF1 (Ab rfl) fun l0_=>w42 (by omega) a0.Slot)<|q_p fr<|q_j (Aa 0 rr)<|q_p fr<|Av 0 rfl rfl<|q_p fr<|q_p fr<|q_p fr<|AH (aF3 (Ab rfl) (Ab rfl) (Ab rfl) fun l0_ l1_ l2_=>w56 (by omega) a0.View 0 (wi .i64 (a1.View - 1)))<|q_p fr<|q_j (Aa 0 rr)<|q_p fr<|Av 0 rfl rfl<|AH (aF1 (Ab rfl) fun l0_=>w43 (by omega) a0.Value)<|q_p fr<|Aa 0 rr
  ·exact fun s2=>Ah (Ab rfl) rfl
  ·exact fun i1 s2=>Ao
  ·exact fun s2=>Ah (Ab rfl) rfl
def N9 (a0:List Int) (a1:Int→Option (Bool)) (s1:Int×Int):Option (LO (Int×Int)):=bif decide (s1.2 < (a0.length:Int)) then (Am a0 s1.2).bind fun x1=>(a1 x1).bind fun y1=>bif y1 then some (LO.ret (s1.2,s1.2)) else some (LO.norm (s1.1,wi .i64 (s1.2 + 1))) else some (LO.exit 0 (s1.1,s1.2))
def We (a0:List Int) (a1:Int→Option (Bool)):Option (Int):=(Aq (N9 a0 a1) NN (0,0)).bind (Ac (fun _=>none) (fun i1 s2=>if i1 = 0 then some (-1) else none) (fun s2=>some s2.1))
theorem w107 {Dc:Nat} {d:Nat} (hd:Dc + 1≤d) (k0:Bool) (a0:List Int) (c1:Bool→AV) (hc1:∀ l,CV 8 [] false (c1 l) c1) (a1:Int→Option (Bool)) (tc1:∀ (d:Nat),Dc≤d→∀ (l:Bool) (x0:Int) (S:St) (t:Bool),a1 x0 = some t→Dm (cfg NN) (R NN d) 107 (c1 l) [iW x0] S = some ((fun (t:Bool)=>AV.bool t) t,S)) (k1:Bool):Fit (R NN d 107 [.rsl k0 false (a0.map (Enc.cs k0)),c1 k1] []) (We a0 a1) PI:=by
  obtain ⟨d,rfl,g⟩:=up hd
  refine AC (t107 NN d _ _) ?_
  unfold XR We
  refine AB<|BE (A:=fun (s:Int×Int)=>[iW s.1,iW s.2]) (B:=fun s=>[]) 0 rr ?_ ?_ ?_
  ·intro s1
   unfold Qm N9
   exact q_p fr<|q_i (AL rfl fun x1 hx1=>q_p fr<|VO (mg:=a1 x1) (E:=(fun (t:Bool)=>AV.bool t)) (fun S t ht=>tc1 d (by omega) k1 x1 S t ht) fun y1 hy1=>q_i (Ag 0 rr)<|q_p fr<|Aa 0 rr)<|Ai 0 rr
  ·exact fun i1 s2=>q_n (Ah (Ab rfl) rfl)<|Ao
  ·exact fun s2=>Ah (Ab rfl) rfl
def m84 (a0:List Int) (a1:Int→Option (Bool)):Option (Bool):=(We a0 a1).bind fun y1=>some (decide (y1 ≥ 0))
theorem w84 {Dc:Nat} {d:Nat} (hd:Dc + 2≤d) (k0:Bool) (a0:List Int) (c1:Bool→AV) (hc1:∀ l,CV 8 [] false (c1 l) c1) (a1:Int→Option (Bool)) (tc1:∀ (d:Nat),Dc≤d→∀ (l:Bool) (x0:Int) (S:St) (t:Bool),a1 x0 = some t→Dm (cfg NN) (R NN d) 107 (c1 l) [iW x0] S = some ((fun (t:Bool)=>AV.bool t) t,S)) (k1:Bool):Fit (R NN d 84 [.rsl k0 false (a0.map (Enc.cs k0)),c1 k1] []) (m84 a0 a1) PB:=by
  obtain ⟨d,rfl,g⟩:=up hd
  refine AC (t84 NN d _ _) ?_
  unfold b84 m84
  exact A4 (aF2 A8 (CV.any (hc1 k1)) fun l0_ l1_=>w107 (by omega) l0_ a0 c1 hc1 a1 tc1 l1_) fun y1 hy1=>q_p fr<|Ah (Ab rfl) rfl
def m85 (a0:Int):Bool:=!(m56 a0 0 239)
theorem w85 {d:Nat} (hd:2≤d) (a0:Int):Fit (R NN d 85 [iW a0] []) (some (m85 a0)) PB:=by
  obtain ⟨d,rfl,g⟩:=up hd
  refine AC (t85 NN d _) ?_
  unfold b85 m85
  exact AH (aF3 (Ab rfl) (Ab rfl) (Ab rfl) fun l0_ l1_ l2_=>w56 (by omega) a0 0 239)<|q_p fr<|Ah (Ab rfl) rfl
def Gn (a1:Ad) (s7:Int×Int):Option (LO (Int×Int)):=bif decide (s7.2 < (a1.Certs.length:Int)) then ( (Am a1.Certs s7.2).bind fun x1=>bif decide (s7.2 > 0) then (Am a1.Certs (wi .i64 (s7.2 - 1))).bind fun x2=>bif decide (x1.Slot≤x2.Slot) then some (LO.ret 1) else some (LO.norm s7.1) else some (LO.norm s7.1)).bind (Ac (fun s9=>some (LO.norm (s9,wi .i64 (s7.2 + 1)))) (fun i4 s9=>some (LO.exit i4 (s9,s7.2))) (fun s9=>some (LO.ret (s9,s7.2)))) else some (LO.exit 1 (s7.1,s7.2))
def Gm (a1:Ad) (s11:Int×Int):Option (LO (Int×Int)):=bif decide (s11.2 < (a1.Refs.length:Int)) then ( (Am a1.Refs s11.2).bind fun x3=>bif decide (s11.2 > 0) then (Am a1.Refs (wi .i64 (s11.2 - 1))).bind fun x4=>bif decide (x3≤x4) then some (LO.ret 1) else some (LO.norm s11.1) else some (LO.norm s11.1)).bind (Ac (fun s13=>some (LO.norm (s13,wi .i64 (s11.2 + 1)))) (fun i6 s13=>some (LO.exit i6 (s13,s11.2))) (fun s13=>some (LO.ret (s13,s11.2)))) else some (LO.exit 3 (s11.1,s11.2))
def m53 (a0:Int) (a1:Ad):Option (Int):=( ( bif !(m56 a1.Kind 1 5) then some (LO.norm true) else bif !(m80 a1.Kind) then bif a1.Slot != 0 then some (LO.norm true) else bif a1.Value != 0 then some (LO.norm true) else bif a1.Kind != 4 then bif decide ((a1.Certs.length:Int) > 0) then some (LO.norm true) else bif a1.Kind != 5 then some (LO.norm (decide ((a1.Refs.length:Int) > 0))) else some (LO.norm false) else bif a1.Kind != 5 then some (LO.norm (decide ((a1.Refs.length:Int) > 0))) else some (LO.norm false) else bif a1.Kind != 4 then bif decide ((a1.Certs.length:Int) > 0) then some (LO.norm true) else bif a1.Kind != 5 then some (LO.norm (decide ((a1.Refs.length:Int) > 0))) else some (LO.norm false) else bif a1.Kind != 5 then some (LO.norm (decide ((a1.Refs.length:Int) > 0))) else some (LO.norm false)).bind (Ac (fun s3=>bif s3 then some (LO.ret 1) else ( bif !(m61 a1.View) then some (LO.norm true) else bif !(m60 a0 a1.From) then some (LO.norm true) else bif (m80 a1.Kind) then bif !(m42 a1.Slot) then some (LO.norm true) else some (LO.norm (!(m43 a1.Value))) else some (LO.norm false)).bind (Ac (fun s5=>bif s5 then some (LO.ret 3) else bif decide ((a1.Certs.length:Int) > 30) then some (LO.ret 2) else bif decide ((a1.Refs.length:Int) > (m81 a0)) then some (LO.ret 2) else some (LO.norm 0)) (fun i2 s5=>if i2 = 0 then some (LO.norm 0) else some (LO.exit i2 0)) (fun s5=>some (LO.ret 0)))) (fun i1 s3=>if i1 = 0 then some (LO.norm 0) else some (LO.exit i1 0)) (fun s3=>some (LO.ret 0)))).bind (Ac (fun s6=>(Aq (Gn a1) NN (s6,0)).bind (Ac (fun _=>none) (fun i5 s10=>if i5 = 1 then (Aq (Gm a1) NN (s10.1,0)).bind (Ac (fun _=>none) (fun i7 s14=>if i7 = 3 then (m82 a1.Certs (fun x0_=>m83 x0_ a1)).bind fun y1=>bif y1 then some 3 else (m84 a1.Refs (fun x0_=>some (m85 x0_))).bind fun y2=>bif y2 then some 3 else some 0 else none) (fun s14=>some s14.1)) else none) (fun s10=>some s10.1))) (fun i3 s6=>none) (fun s6=>some s6))
theorem w53 {d:Nat} (hd:6≤d) (a0:Int) (k1:Bool) (a1:Ad):Fit (R NN d 53 [iW a0,.agg (Enc.cs k1 a1)] []) (m53 a0 a1) PI:=by
  obtain ⟨d,rfl,g⟩:=up hd
  refine AC (t53 NN d _ _) ?_
  unfold b53 m53
  refine Bg (n:=7) rfl rfl (by decide) fun b1=>q_p fr<|Av 0 rfl rfl<|AH (aF1 (Ab rfl) fun l0_=>w80 (by omega) a1.Kind)<|AD (A:=fun (s:Int)=>[iW s]) (B:=fun s=>[bx b1 [iW a1.Kind,iW a1.View,iW a1.From,iW a1.Slot,iW a1.Value,.rsl k1 false (a1.Certs.map (Enc.cs k1)),.rsl k1 false (a1.Refs.map (Enc.cs k1))]]) ?_ ?_ ?_ ?_
  ·refine AD (A:=fun (s:Bool)=>[.bool s]) (B:=fun s=>[bx b1 [iW a1.Kind,iW a1.View,iW a1.From,iW a1.Slot,iW a1.Value,.rsl k1 false (a1.Certs.map (Enc.cs k1)),.rsl k1 false (a1.Refs.map (Enc.cs k1))]]) ?_ ?_ ?_ ?_
   ·exact q_p fr<|Av 0 rfl rfl<|AH (aF3 (Ab rfl) (Ab rfl) (Ab rfl) fun l0_ l1_ l2_=>w56 (by omega) a1.Kind 1 5)<|q_p fr<|q_j (Aa 0 rr)<|q_p fr<|q_k (q_p fr<|Av 0 rfl rfl<|q_p fr<|q_j (Aa 0 rr)<|q_p fr<|Av 0 rfl rfl<|q_p fr<|q_j (Aa 0 rr)<|q_p fr<|Av 0 rfl rfl<|q_p fr<|q_k (q_p fr<|Av 0 rfl rfl<|AB<|q_p fr<|q_j (Aa 0 rr)<|q_p fr<|Av 0 rfl rfl<|q_p fr<|q_k (q_p fr<|Av 0 rfl rfl<|AB<|q_p fr<|Aa 0 rr)<|Aa 0 rr)<|q_p fr<|Av 0 rfl rfl<|q_p fr<|q_k (q_p fr<|Av 0 rfl rfl<|AB<|q_p fr<|Aa 0 rr)<|Aa 0 rr)<|q_p fr<|Av 0 rfl rfl<|q_p fr<|q_k (q_p fr<|Av 0 rfl rfl<|AB<|q_p fr<|q_j (Aa 0 rr)<|q_p fr<|Av 0 rfl rfl<|q_p fr<|q_k (q_p fr<|Av 0 rfl rfl<|AB<|q_p fr<|Aa 0 rr)<|Aa 0 rr)<|q_p fr<|Av 0 rfl rfl<|q_p fr<|q_k (q_p fr<|Av 0 rfl rfl<|AB<|q_p fr<|Aa 0 rr)<|Aa 0 rr
   ·intro s3
    refine q_i ?_ ?_
    ·exact Ag 0 rr
    ·refine AD (A:=fun (s:Bool)=>[.bool s]) (B:=fun s=>[bx b1 [iW a1.Kind,iW a1.View,iW a1.From,iW a1.Slot,iW a1.Value,.rsl k1 false (a1.Certs.map (Enc.cs k1)),.rsl k1 false (a1.Refs.map (Enc.cs k1))]]) ?_ ?_ ?_ ?_
     ·exact q_p fr<|Av 0 rfl rfl<|AH (aF1 (Ab rfl) fun l0_=>w61 (by omega) a1.View)<|q_p fr<|q_j (Aa 0 rr)<|q_p fr<|Av 0 rfl rfl<|AH (aF2 (Ab rfl) (Ab rfl) fun l0_ l1_=>w60 (by omega) a0 a1.From)<|q_p fr<|q_j (Aa 0 rr)<|q_k (q_p fr<|Av 0 rfl rfl<|AH (aF1 (Ab rfl) fun l0_=>w42 (by omega) a1.Slot)<|q_p fr<|q_j (Aa 0 rr)<|q_p fr<|Av 0 rfl rfl<|AH (aF1 (Ab rfl) fun l0_=>w43 (by omega) a1.Value)<|q_p fr<|Aa 0 rr)<|Aa 0 rr
     ·intro s5
      refine q_i ?_ ?_
      ·exact Ag 0 rr
      ·refine q_p fr<|Av 0 rfl rfl<|AB<|q_p fr<|q_j ?_ ?_
       ·first | refine Dh ?_ | skip
        exact Ag 0 rr
       ·exact q_p fr<|Av 0 rfl rfl<|AB<|AH (aF1 (Ab rfl) fun l0_=>w81 (by omega) a0)<|q_p fr<|q_i (Ag 0 rr)<|Aa 0 rr
     ·exact fun i2 s5=>q_n (Aa 0 rr)<|Ai 0 rr
     ·exact fun s5=>Ag 0 rr
   ·exact fun i1 s3=>q_n (Aa 0 rr)<|Ai 0 rr
   ·exact fun s3=>Ag 0 rr
  ·intro s6
   refine q_p fr<|Av 0 rfl rfl<|AB<|BE (A:=fun (s:Int×Int)=>[iW s.1,iW s.2]) (B:=fun s=>[bx b1 [iW a1.Kind,iW a1.View,iW a1.From,iW a1.Slot,iW a1.Value,.rsl k1 false (a1.Certs.map (Enc.cs k1)),.rsl k1 false (a1.Refs.map (Enc.cs k1))]]) 0 rr ?_ ?_ ?_
   ·intro s7
    unfold UN Gn
    refine q_p fr<|q_i ?_ ?_
    ·refine AD (A:=fun (s:Int)=>[iW s]) (B:=fun s=>[bx b1 [iW a1.Kind,iW a1.View,iW a1.From,iW a1.Slot,iW a1.Value,.rsl k1 false (a1.Certs.map (Enc.cs k1)),.rsl k1 false (a1.Refs.map (Enc.cs k1))]]) ?_ ?_ ?_ ?_
     ·refine AL rfl fun x1 hx1=>q_p fr<|Bt rfl fun b2=>Bj 0 rfl rfl rfl (by decide) rfl<|q_p fr<|q_k ?_ ?_
      ·exact q_p fr<|Av 0 rfl rfl<|q_p fr<|Av 1 rfl rfl<|q_p fr<|AL rfl fun x2 hx2=>q_p fr<|q_p fr<|q_p fr<|q_i (Ag 1 rr)<|Aa 1 rr
      ·first | refine DF ?_ | skip
       exact Aa 1 rr
     ·exact fun s9=>q_p fr<|Aa 0 rr
     ·exact fun i4 s9=>Ai 0 rr
     ·exact fun s9=>Ag 0 rr
    ·exact Ai 0 rr
   ·intro i5 s10
    refine q_n ?_ ?_
    ·refine q_p fr<|Av 0 rfl rfl<|AB<|BE (A:=fun (s:Int×Int)=>[iW s.1,iW s.2]) (B:=fun s=>[bx b1 [iW a1.Kind,iW a1.View,iW a1.From,iW a1.Slot,iW a1.Value,.rsl k1 false (a1.Certs.map (Enc.cs k1)),.rsl k1 false (a1.Refs.map (Enc.cs k1))]]) 0 rr ?_ ?_ ?_
     ·intro s11
      unfold UM Gm
      refine q_p fr<|q_i ?_ ?_
      ·refine AD (A:=fun (s:Int)=>[iW s]) (B:=fun s=>[bx b1 [iW a1.Kind,iW a1.View,iW a1.From,iW a1.Slot,iW a1.Value,.rsl k1 false (a1.Certs.map (Enc.cs k1)),.rsl k1 false (a1.Refs.map (Enc.cs k1))]]) ?_ ?_ ?_ ?_
       ·refine AL rfl fun x3 hx3=>q_p fr<|q_p fr<|q_k ?_ ?_
        ·exact q_p fr<|Av 0 rfl rfl<|q_p fr<|AL rfl fun x4 hx4=>q_p fr<|q_p fr<|q_i (Ag 0 rr)<|Aa 0 rr
        ·first | refine DF ?_ | skip
         exact Aa 0 rr
       ·exact fun s13=>q_p fr<|Aa 0 rr
       ·exact fun i6 s13=>Ai 0 rr
       ·exact fun s13=>Ag 0 rr
      ·exact Ai 0 rr
     ·exact fun i7 s14=>q_n (q_p fr<|Av 0 rfl rfl<|A4 (aF2 A8 (Eg (Ae (DK 0 rfl (A3 (l0:=k1) (x:=a1))) As)) fun l0_ l1_=>w82 (Dc:=3) (by omega) l0_ a1.Certs (fun l=>.fn 83 [.rp l (Enc.cs l a1)]) (fun l=>Eg (Ae (AP (A3 (l0:=l) (x:=a1)) (fun _ _ _ h=>Enc.frz _ a1 _ _ _ h)) As)) (fun x0_=>m83 x0_ a1) (fun d hd l q0_ x0_ S t ht=>(RY _ _ _ _).trans (D9 (E:=(fun (t:Bool)=>AV.bool t)) (mg:=m83 x0_ a1) (NT (M:=fun a=>Fit (R NN d 83 a []) _ _) (Cd (A3 (l0:=q0_) (x:=x0_))) (AP (A3 (l0:=l) (x:=a1)) (fun _ _ _ h=>Enc.frz _ a1 _ _ _ h)) HP.nil fun u0_ v0_=>w83 hd u0_ x0_ v0_ a1) ht)) l1_) fun y1 hy1=>q_i (Ah (Ab rfl) rfl)<|q_p fr<|Av 0 rfl rfl<|A4 (aF2 A8 (Eg As) fun l0_ l1_=>w84 (Dc:=2) (by omega) l0_ a1.Refs (fun l=>.fn 85 []) (fun l=>Eg As) (fun x0_=>some (m85 x0_)) (fun d hd l x0_ S t ht=>(RX _ _ _ _).trans (D9 (E:=(fun (t:Bool)=>AV.bool t)) (mg:=some (m85 x0_)) (Vg (M:=fun a=>Fit (R NN d 85 a []) _ _) (Ab rfl) HP.nil fun u0_=>w85 hd x0_) ht)) l1_) fun y2 hy2=>q_i (Ah (Ab rfl) rfl)<|Ah (Ab rfl) rfl)<|Ao
     ·exact fun s14=>Ah (Ab rfl) rfl
    ·exact Ao
   ·exact fun s10=>Ah (Ab rfl) rfl
  ·exact fun i3 s6=>Ao
  ·exact fun s6=>Ah (Ab rfl) rfl
def m86 (a0:Int) (a1:Int):Bool:=decide (a0 ≥ a1)
theorem w86 {d:Nat} (hd:1≤d) (a0:Int) (k1:Bool) (a1:Int):Fit (R NN d 86 [iW a0,.rp k1 (Enc.cs k1 a1)] []) (some (m86 a0 a1)) PB:=by
  obtain ⟨d,rfl,g⟩:=up hd
  refine AC (t86 NN d _ _) ?_
  unfold b86 m86
  exact q_p fr<|q_p fr<|Ah (Ab rfl) rfl
def m54 (a0:Ad) (a1:Int):Option (Bool):=(m84 a0.Refs (fun x0_=>some (m86 x0_ a1))).bind fun y1=>some (!y1)
theorem w54 {d:Nat} (hd:4≤d) (k0:Bool) (a0:Ad) (a1:Int):Fit (R NN d 54 [.agg (Enc.cs k0 a0),iW a1] []) (m54 a0 a1) PB:=by
  obtain ⟨d,rfl,g⟩:=up hd
  refine AC (t54 NN d _ _) ?_
  unfold b54 m54
  exact Bg (n:=7) rfl rfl (by decide) fun b1=>Bg (n:=1) rfl rfl (by decide) fun b2=>q_p fr<|Av 1 rfl rfl<|A4 (aF2 A8 (Eg (Ae (DK 0 rfl (A3 (l0:=false) (x:=a1))) As)) fun l0_ l1_=>w84 (Dc:=1) (by omega) l0_ a0.Refs (fun l=>.fn 86 [.rp l (Enc.cs l a1)]) (fun l=>Eg (Ae (AP (A3 (l0:=l) (x:=a1)) (fun _ _ _ h=>Enc.frz _ a1 _ _ _ h)) As)) (fun x0_=>some (m86 x0_ a1)) (fun d hd l x0_ S t ht=>(RV _ _ _ _).trans (D9 (E:=(fun (t:Bool)=>AV.bool t)) (mg:=some (m86 x0_ a1)) (NT (M:=fun a=>Fit (R NN d 86 a []) _ _) (Ab rfl) (AP (A3 (l0:=l) (x:=a1)) (fun _ _ _ h=>Enc.frz _ a1 _ _ _ h)) HP.nil fun u0_ v0_=>w86 hd x0_ v0_ a1) ht)) l1_) fun y1 hy1=>q_p fr<|Ah (Ab rfl) rfl
def QQ (a0:List Ad) (a1:Ad→Option (Bool)) (s1:Int×Int):Option (LO (Int×Int)):=bif decide (s1.2 < (a0.length:Int)) then (Am a0 s1.2).bind fun x1=>(a1 x1).bind fun y1=>bif y1 then some (LO.ret (s1.2,s1.2)) else some (LO.norm (s1.1,wi .i64 (s1.2 + 1))) else some (LO.exit 0 (s1.1,s1.2))
def m87 (a0:List Ad) (a1:Ad→Option (Bool)):Option (Int):=(Aq (QQ a0 a1) NN (0,0)).bind (Ac (fun _=>none) (fun i1 s2=>if i1 = 0 then some (-1) else none) (fun s2=>some s2.1))
theorem w87 {Dc:Nat} {d:Nat} (hd:Dc + 1≤d) (k0:Bool) (a0:List Ad) (c1:Bool→AV) (hc1:∀ l,CV 8 [] false (c1 l) c1) (a1:Ad→Option (Bool)) (tc1:∀ (d:Nat),Dc≤d→∀ (l:Bool) (q0:Bool) (x0:Ad) (S:St) (t:Bool),a1 x0 = some t→Dm (cfg NN) (R NN d) 87 (c1 l) [.agg (Enc.cs q0 x0)] S = some ((fun (t:Bool)=>AV.bool t) t,S)) (k1:Bool):Fit (R NN d 87 [.rsl k0 false (a0.map (Enc.cs k0)),c1 k1] []) (m87 a0 a1) PI:=by
  obtain ⟨d,rfl,g⟩:=up hd
  refine AC (t87 NN d _ _) ?_
  unfold b87 m87
  refine AB<|BE (A:=fun (s:Int×Int)=>[iW s.1,iW s.2]) (B:=fun s=>[]) 0 rr ?_ ?_ ?_
  ·intro s1
   unfold UA QQ
   exact q_p fr<|q_i (AL rfl fun x1 hx1=>q_p fr<|VO (mg:=a1 x1) (E:=(fun (t:Bool)=>AV.bool t)) (fun S t ht=>tc1 d (by omega) k1 k0 x1 S t ht) fun y1 hy1=>q_i (Ag 0 rr)<|q_p fr<|Aa 0 rr)<|Ai 0 rr
  ·exact fun i1 s2=>q_n (Ah (Ab rfl) rfl)<|Ao
  ·exact fun s2=>Ah (Ab rfl) rfl
def N8 (a0:List Ar) (a1:List Ar) (s1:Bool×Int):Option (LO (Bool×Int)):=bif decide (s1.2 < (a0.length:Int)) then (Am a0 s1.2).bind fun x1=>(Am a1 s1.2).bind fun x2=>bif !(((x1.Slot == x2.Slot) && ((x1.View == x2.View) && ((x1.Value == x2.Value) && true)))) then some (LO.ret (false,s1.2)) else some (LO.norm (s1.1,wi .i64 (s1.2 + 1))) else some (LO.exit 0 (s1.1,s1.2))
def TT (a0:List Ar) (a1:List Ar):Option (Bool):=bif (a0.length:Int) != (a1.length:Int) then some false else (Aq (N8 a0 a1) NN (false,0)).bind (Ac (fun _=>none) (fun i1 s2=>if i1 = 0 then some true else none) (fun s2=>some s2.1))
theorem w108 {d:Nat} (hd:1≤d) (k0:Bool) (a0:List Ar) (k1:Bool) (a1:List Ar):Fit (R NN d 108 [.rsl k0 false (a0.map (Enc.cs k0)),.rsl k1 false (a1.map (Enc.cs k1))] []) (TT a0 a1) PB:=by
  obtain ⟨d,rfl,g⟩:=up hd
  refine AC (t108 NN d _ _) ?_
  unfold XQ TT
  refine AB<|AB<|q_p fr<|q_i ?_ ?_
  ·exact Ah (Ab rfl) rfl
  ·refine AB<|BE (A:=fun (s:Bool×Int)=>[.bool s.1,iW s.2]) (B:=fun s=>[]) 0 rr ?_ ?_ ?_
   ·intro s1
    unfold Ql N8
    exact q_p fr<|q_i (AL rfl fun x1 hx1=>q_p fr<|AL rfl fun x2 hx2=>q_p fr<|q_p (fun _=>Nr _ _ _ _ _ _)<|q_i (Ag 0 rr)<|q_p fr<|Aa 0 rr)<|Ai 0 rr
   ·exact fun i1 s2=>q_n (Ah (Ab rfl) rfl)<|Ao
   ·exact fun s2=>Ah (Ab rfl) rfl
def N7 (a0:List Int) (a1:List Int) (s1:Bool×Int):Option (LO (Bool×Int)):=bif decide (s1.2 < (a0.length:Int)) then (Am a0 s1.2).bind fun x1=>(Am a1 s1.2).bind fun x2=>bif x1 != x2 then some (LO.ret (false,s1.2)) else some (LO.norm (s1.1,wi .i64 (s1.2 + 1))) else some (LO.exit 0 (s1.1,s1.2))
def TS (a0:List Int) (a1:List Int):Option (Bool):=bif (a0.length:Int) != (a1.length:Int) then some false else (Aq (N7 a0 a1) NN (false,0)).bind (Ac (fun _=>none) (fun i1 s2=>if i1 = 0 then some true else none) (fun s2=>some s2.1))
theorem w109 {d:Nat} (hd:1≤d) (k0:Bool) (a0:List Int) (k1:Bool) (a1:List Int):Fit (R NN d 109 [.rsl k0 false (a0.map (Enc.cs k0)),.rsl k1 false (a1.map (Enc.cs k1))] []) (TS a0 a1) PB:=by
  obtain ⟨d,rfl,g⟩:=up hd
  refine AC (t109 NN d _ _) ?_
  unfold XP TS
  refine AB<|AB<|q_p fr<|q_i ?_ ?_
  ·exact Ah (Ab rfl) rfl
  ·refine AB<|BE (A:=fun (s:Bool×Int)=>[.bool s.1,iW s.2]) (B:=fun s=>[]) 0 rr ?_ ?_ ?_
   ·intro s1
    unfold Qk N7
    exact q_p fr<|q_i (AL rfl fun x1 hx1=>q_p fr<|AL rfl fun x2 hx2=>q_p fr<|q_p fr<|q_i (Ag 0 rr)<|q_p fr<|Aa 0 rr)<|Ai 0 rr
   ·exact fun i1 s2=>q_n (Ah (Ab rfl) rfl)<|Ao
   ·exact fun s2=>Ah (Ab rfl) rfl
def m89 (a0:Ad) (a1:Ad):Option (Bool):=( bif a0.Kind == a1.Kind then bif a0.View == a1.View then bif a0.From == a1.From then bif a0.Slot == a1.Slot then bif a0.Value == a1.Value then (TT a0.Certs a1.Certs).bind fun y1=>bif y1 then (TS a0.Refs a1.Refs).bind fun y2=>some (LO.norm y2) else some (LO.norm false) else some (LO.norm false) else some (LO.norm false) else some (LO.norm false) else some (LO.norm false) else some (LO.norm false)).bind (Ac (fun s2=>some s2) (fun i1 s2=>none) (fun s2=>some s2))
theorem w89 {d:Nat} (hd:2≤d) (k0:Bool) (a0:Ad) (k1:Bool) (a1:Ad):Fit (R NN d 89 [.agg (Enc.cs k0 a0),.agg (Enc.cs k1 a1)] []) (m89 a0 a1) PB:=by
  obtain ⟨d,rfl,g⟩:=up hd
  refine AC (t89 NN d _ _) ?_
  unfold b89 m89
  refine Bg (n:=7) rfl rfl (by decide) fun b1=>Bg (n:=7) rfl rfl (by decide) fun b2=>AD (A:=fun (s:Bool)=>[.bool s]) (B:=fun s=>[bx b2 [iW a1.Kind,iW a1.View,iW a1.From,iW a1.Slot,iW a1.Value,.rsl k1 false (a1.Certs.map (Enc.cs k1)),.rsl k1 false (a1.Refs.map (Enc.cs k1))],bx b1 [iW a0.Kind,iW a0.View,iW a0.From,iW a0.Slot,iW a0.Value,.rsl k0 false (a0.Certs.map (Enc.cs k0)),.rsl k0 false (a0.Refs.map (Enc.cs k0))]]) ?_ ?_ ?_ ?_
  ·exact q_p fr<|Av 1 rfl rfl<|q_p fr<|Av 0 rfl rfl<|q_p fr<|q_k (q_p fr<|Av 1 rfl rfl<|q_p fr<|Av 0 rfl rfl<|q_p fr<|q_k (q_p fr<|Av 1 rfl rfl<|q_p fr<|Av 0 rfl rfl<|q_p fr<|q_k (q_p fr<|Av 1 rfl rfl<|q_p fr<|Av 0 rfl rfl<|q_p fr<|q_k (q_p fr<|Av 1 rfl rfl<|q_p fr<|Av 0 rfl rfl<|q_p fr<|q_k (q_p fr<|Av 1 rfl rfl<|q_p fr<|Av 0 rfl rfl<|A4 (aF2 A8 A8 fun l0_ l1_=>w108 (by omega) l0_ a0.Certs l1_ a1.Certs) fun y1 hy1=>q_k (q_p fr<|Av 1 rfl rfl<|q_p fr<|Av 0 rfl rfl<|A4 (aF2 A8 A8 fun l0_ l1_=>w109 (by omega) l0_ a0.Refs l1_ a1.Refs) fun y2 hy2=>Aa 0 rr)<|Aa 0 rr)<|Aa 0 rr)<|Aa 0 rr)<|Aa 0 rr)<|Aa 0 rr)<|Aa 0 rr
  ·exact fun s2=>Ah (Ab rfl) rfl
  ·exact fun i1 s2=>Ao
  ·exact fun s2=>Ah (Ab rfl) rfl
def m88 (a0:Ad) (a1:Ad):Option (Bool):=(m89 a0 a1).bind fun y1=>some y1
theorem w88 {d:Nat} (hd:3≤d) (k0:Bool) (a0:Ad) (k1:Bool) (a1:Ad):Fit (R NN d 88 [.agg (Enc.cs k0 a0),.rp k1 (Enc.cs k1 a1)] []) (m88 a0 a1) PB:=by
  obtain ⟨d,rfl,g⟩:=up hd
  refine AC (t88 NN d _ _) ?_
  unfold b88 m88
  exact Bg (n:=7) rfl rfl (by decide) fun b1=>B0 0 rfl rfl rfl<|q_p fr<|A4 (aF2 (Cd (A3 (l0:=k0) (x:=a0))) (Cd (A3 (l0:=k1) (x:=a1))) fun l0_ l1_=>w89 (by omega) l0_ a0 l1_ a1) fun y1 hy1=>Ah (Ab rfl) rfl
def m55 (a0:List Ad) (a1:Ad):Option (Int):=(m87 a0 (fun x0_=>m88 x0_ a1)).bind fun y1=>some y1
theorem w55 {d:Nat} (hd:5≤d) (k0:Bool) (a0:List Ad) (k1:Bool) (a1:Ad):Fit (R NN d 55 [.rsl k0 false (a0.map (Enc.cs k0)),.agg (Enc.cs k1 a1)] []) (m55 a0 a1) PI:=by
  obtain ⟨d,rfl,g⟩:=up hd
  refine AC (t55 NN d _ _) ?_
  unfold b55 m55
  exact Bg (n:=7) rfl rfl (by decide) fun b1=>A4 (aF2 A8 (Eg (Ae (DK 0 rfl (A3 (l0:=k1) (x:=a1))) As)) fun l0_ l1_=>w87 (Dc:=3) (by omega) l0_ a0 (fun l=>.fn 88 [.rp l (Enc.cs l a1)]) (fun l=>Eg (Ae (AP (A3 (l0:=l) (x:=a1)) (fun _ _ _ h=>Enc.frz _ a1 _ _ _ h)) As)) (fun x0_=>m88 x0_ a1) (fun d hd l q0_ x0_ S t ht=>(Ui _ _ _ _).trans (D9 (E:=(fun (t:Bool)=>AV.bool t)) (mg:=m88 x0_ a1) (NT (M:=fun a=>Fit (R NN d 88 a []) _ _) (Cd (A3 (l0:=q0_) (x:=x0_))) (AP (A3 (l0:=l) (x:=a1)) (fun _ _ _ h=>Enc.frz _ a1 _ _ _ h)) HP.nil fun u0_ v0_=>w88 hd u0_ x0_ v0_ a1) ht)) l1_) fun y1 hy1=>Ah (Ab rfl) rfl
def H4 (a0:Int) (a1:List Ad) (s1:Int×Int):Option (LO (Int×Int)):=bif decide (s1.2 < (a1.length:Int)) then (Am a1 s1.2).bind fun x1=>(m53 a0 x1).bind fun y1=>bif y1 != 0 then some (LO.ret (y1,s1.2)) else (m54 x1 s1.2).bind fun y2=>bif !y2 then some (LO.ret (4,s1.2)) else (Ib a1 0 s1.2).bind fun ys1=>(m55 ys1 x1).bind fun y3=>bif decide (y3 ≥ 0) then some (LO.ret (6,s1.2)) else some (LO.norm (s1.1,wi .i64 (s1.2 + 1))) else some (LO.exit 1 (s1.1,s1.2))
def m26 (a0:Int) (a1:List Ad):Option (Int):=bif !(m52 a0) then some 3 else bif decide ((a1.length:Int) > 240) then some 2 else (Aq (H4 a0 a1) NN (0,0)).bind (Ac (fun _=>none) (fun i1 s2=>if i1 = 1 then some 0 else none) (fun s2=>some s2.1))
theorem w26 {d:Nat} (hd:7≤d) (a0:Int) (k1:Bool) (a1:List Ad):Fit (R NN d 26 [iW a0,.rsl k1 false (a1.map (Enc.cs k1))] []) (m26 a0 a1) PI:=by
  obtain ⟨d,rfl,g⟩:=up hd
  refine AC (t26 NN d _ _) ?_
  unfold b26 m26
  refine AH (aF1 (Ab rfl) fun l0_=>w52 (by omega) a0)<|q_p fr<|q_i ?_ ?_
  ·exact Ah (Ab rfl) rfl
  ·refine AB<|q_p fr<|q_i ?_ ?_
   ·exact Ah (Ab rfl) rfl
   ·refine AB<|BE (A:=fun (s:Int×Int)=>[iW s.1,iW s.2]) (B:=fun s=>[]) 0 rr ?_ ?_ ?_
    ·intro s1
     unfold UQ H4
     exact q_p fr<|q_i (AL rfl fun x1 hx1=>q_p fr<|Bt rfl fun b1=>Bj 0 rfl rfl rfl (by decide) rfl<|B0 0 rfl rfl rfl<|A4 (aF2 (Ab rfl) (Cd (A3 (l0:=k1) (x:=x1))) fun l0_ l1_=>w53 (by omega) a0 l1_ x1) fun y1 hy1=>q_p fr<|q_i (Ag 1 rr)<|B0 0 rfl rfl rfl<|A4 (aF2 (Cd (A3 (l0:=k1) (x:=x1))) (Ab rfl) fun l0_ l1_=>w54 (by omega) l0_ x1 s1.2) fun y2 hy2=>q_p fr<|q_i (Ag 1 rr)<|UT rfl (.inr ⟨rfl,rfl⟩) (.inl rfl) fun fl1 ys1 hys1=>B0 0 rfl rfl rfl<|A4 (aF2 A8 (Cd (A3 (l0:=k1) (x:=x1))) fun l0_ l1_=>w55 (by omega) l0_ ys1 l1_ x1) fun y3 hy3=>q_p fr<|q_i (Ag 1 rr)<|q_p fr<|Aa 1 rr)<|Ai 0 rr
    ·exact fun i1 s2=>q_n (Ah (Ab rfl) rfl)<|Ao
    ·exact fun s2=>Ah (Ab rfl) rfl
def m57 (a0:Int) (a1:Int):Option (Int):=(G6 a1 (m81 a0)).bind fun q1=>some (wi .i64 (1 + q1))
theorem w57 {d:Nat} (hd:2≤d) (a0:Int) (a1:Int):Fit (R NN d 57 [iW a0,iW a1] []) (m57 a0 a1) PI:=by
  obtain ⟨d,rfl,g⟩:=up hd
  refine AC (t57 NN d _ _) ?_
  unfold b57 m57
  exact AH (aF1 (Ab rfl) fun l0_=>w81 (by omega) a0)<|Hu fun q1 hq1=>q_p fr<|Ah (Ab rfl) rfl
def m90 (a0:List Ad) (a1:Int) (a2:Int):Option (Ad×Bool):=bif !(m56 a1 0 (wi .i64 ((a0.length:Int) - 1))) then some ((⟨0,0,0,0,0,[],[]⟩:Ad),false) else (Am a0 a1).bind fun x1=>bif x1.Kind == a2 then some (x1,decide (x1.View > 0)) else some (x1,false)
theorem w90 {d:Nat} (hd:2≤d) (L0:List En) (k0:Bool) (f0_:Bool) (a0:List Ad) (a1:Int) (a2:Int):Okh (L0) (fun S=>R NN d 90 [.rsl k0 f0_ (a0.map (Enc.cs k0)),iW a1,iW a2] S) (m90 a0 a1 a2) (P3 (fun (x:Bool×Bool×Bool×Bool) (t:Ad×Bool)=>AV.tup [AV.agg [iW t.1.Kind,iW t.1.View,iW t.1.From,iW t.1.Slot,iW t.1.Value,.rsl x.1 x.2.1 (t.1.Certs.map (Enc.cs x.1)),.rsl x.2.2.1 x.2.2.2 (t.1.Refs.map (Enc.cs x.2.2.1))],AV.bool t.2]) (fun (_:Ad×Bool)=>L0)):=by
  obtain ⟨d,rfl,g⟩:=up hd
  refine Df (t90 NN d _ _ _) ?_
  unfold b90 m90
  exact Bt rfl fun b1=>AB<|q_p fr<|AH (aF3 (Ab rfl) (Ab rfl) (Ab rfl) fun l0_ l1_ l2_=>w56 (by omega) a1 0 (wi .i64 ((a0.length:Int) - 1)))<|q_p fr<|q_i (q_p (fun _=>bd37 rfl)<|Bj 0 rfl rfl rfl (by decide) rfl<|K9 (false,true,false,true) 1 (fun S hS=>K7 (hS.lda 0 rfl rfl) rfl) rfl rfl)<|AL rfl fun x1 hx1=>q_p fr<|Bt rfl fun b2=>Bj 0 rfl rfl rfl (by decide) rfl<|B0 0 rfl rfl rfl<|q_p fr<|Av 0 rfl rfl<|q_p fr<|q_k (q_p fr<|Av 0 rfl rfl<|q_p fr<|Bj 1 rfl rfl rfl (by decide) rfl<|WZ (fun S hS=>(Vi (hS.ap 0 1 rfl rfl (by decide)) rfl))<|K9 (k0,false,k0,false) 2 (fun S hS=>K7 (hS.lda 1 rfl rfl) rfl) rfl rfl)<|Bj 1 rfl rfl rfl (by decide) rfl<|WZ (fun S hS=>(Vi rfl rfl))<|K9 (k0,false,k0,false) 2 (fun S hS=>K7 (hS.lda 1 rfl rfl) rfl) rfl rfl
def QU (a0:Int):Bool:=a0 != a0
theorem WA {d:Nat} (hd:1≤d) (a0:Int):Fit (R NN d 137 [iW a0] []) (some (QU a0)) PB:=by
  obtain ⟨d,rfl,g⟩:=up hd
  refine AC (t137 NN d _) ?_
  unfold Xy QU
  exact q_p fr<|Ah (Ab rfl) rfl
def Fh (a0:Int) (a1:Int):Option (Bool):=( bif (QU a0) then bif !(QU a1) then some (LO.norm true) else some (LO.norm (decide (a0 < a1))) else some (LO.norm (decide (a0 < a1)))).bind (Ac (fun s2=>some s2) (fun i1 s2=>none) (fun s2=>some s2))
theorem G1 {d:Nat} (hd:2≤d) (a0:Int) (a1:Int):Fit (R NN d 127 [iW a0,iW a1] []) (Fh a0 a1) PB:=by
  obtain ⟨d,rfl,g⟩:=up hd
  refine AC (t127 NN d _ _) ?_
  unfold X8 Fh
  refine AD (A:=fun (s:Bool)=>[.bool s]) (B:=fun s=>[]) ?_ ?_ ?_ ?_
  ·exact AH (aF1 (Ab rfl) fun l0_=>WA (by omega) a0)<|q_k (AH (aF1 (Ab rfl) fun l0_=>WA (by omega) a1)<|q_p fr<|q_j (Aa 0 rr)<|q_p fr<|Aa 0 rr)<|q_p fr<|Aa 0 rr
  ·exact fun s2=>Ah (Ab rfl) rfl
  ·exact fun i1 s2=>Ao
  ·exact fun s2=>Ah (Ab rfl) rfl
def GP (a1:Int) (s2:Int×(List Int)):Option (LO (Int×(List Int))):=( ( bif decide (s2.1 > a1) then (Am s2.2 s2.1).bind fun x1=>(Am s2.2 (wi .i64 (s2.1 - 1))).bind fun x2=>(Fh x1 x2).bind fun y1=>some (LO.norm y1) else some (LO.norm false)).bind (Ac (fun s5=>bif s5 then some (LO.norm s5) else some (LO.exit 2 s5)) (fun i1 s5=>some (LO.exit i1 s5)) (fun s5=>some (LO.ret s5)))).bind (Ac (fun s6=>(Am s2.2 (wi .i64 (s2.1 - 1))).bind fun x3=>(Am s2.2 s2.1).bind fun x4=>(Am s2.2 s2.1).bind fun x5=>(Am (s2.2.set (Int.toNat s2.1) x3) (wi .i64 (s2.1 - 1))).bind fun x6=>some (LO.norm (wi .i64 (s2.1 - 1),(s2.2.set (Int.toNat s2.1) x3).set (Int.toNat (wi .i64 (s2.1 - 1))) x4))) (fun i2 s6=>some (LO.exit i2 (s2.1,s2.2))) (fun s6=>some (LO.ret (s2.1,s2.2))))
def GO (a1:Int) (a2:Int) (s1:Int×(List Int)):Option (LO (Int×(List Int))):=bif decide (s1.1 < a2) then (Aq (GP a1) NN (s1.1,s1.2)).bind (Ac (fun _=>none) (fun i3 s7=>if i3 = 2 then some (LO.norm (wi .i64 (s1.1 + 1),s7.2)) else if i3 = 1 then some (LO.norm (wi .i64 (s1.1 + 1),s7.2)) else some (LO.exit i3 (s1.1,s7.2))) (fun s7=>some (LO.ret (s1.1,s7.2)))) else some (LO.exit 0 (s1.1,s1.2))
def Ox (a0:List Int) (a1:Int) (a2:Int):Option ((List Int)):=(Aq (GO a1 a2) NN (wi .i64 (a1 + 1),a0)).bind (Ac (fun _=>none) (fun i4 s8=>if i4 = 0 then some s8.2 else none) (fun s8=>some s8.2))
theorem w121 {d:Nat} (hd:3≤d) (L0:List En) (v0_:AV) (a0:List Int) (a1:Int) (a2:Int):Okh (sl false v0_ (a0:List Int)::L0) (fun S=>R NN d 121 [v0_,iW a1,iW a2] S) (Ox a0 a1 a2) (P2 (fun (t:(List Int))=>und) (fun (t:(List Int))=>sl false v0_ t::L0)):=by
  obtain ⟨d,rfl,g⟩:=up hd
  refine Df (t121 NN d _ _ _) ?_
  unfold XE Ox
  refine q_p fr<|BE (A:=fun (s:Int×(List Int))=>[iW s.1]) (B:=fun s=>sl false v0_ (s.2:List Int)::L0) 0 rr ?_ ?_ ?_
  ·intro s1
   unfold PT GO
   refine q_p fr<|q_i ?_ ?_
   ·refine BE (A:=fun (s:Int×(List Int))=>[iW s.1]) (B:=fun s=>sl false v0_ (s.2:List Int)::L0) 0 rr ?_ ?_ ?_
    ·intro s2
     unfold PU GP
     refine AD (A:=fun (s:Bool)=>[.bool s]) (B:=fun s=>sl false v0_ (s2.2:List Int)::L0) ?_ ?_ ?_ ?_
     ·refine AD (A:=fun (s:Bool)=>[.bool s]) (B:=fun s=>sl false v0_ (s2.2:List Int)::L0) ?_ ?_ ?_ ?_
      ·exact q_p fr<|q_k (Ax 0 rfl rfl fun x1 hx1=>AI 0 rfl hx1 rfl<|q_p fr<|Ax 0 rfl rfl fun x2 hx2=>AI 0 rfl hx2 rfl<|A4 (aF2 (Ab rfl) (Ab rfl) fun l0_ l1_=>G1 (by omega) x1 x2) fun y1 hy1=>Aa 0 rr)<|Aa 0 rr
      ·exact fun s5=>q_i (Aa 0 rr)<|Ai 0 rr
      ·exact fun i1 s5=>Ai 0 rr
      ·exact fun s5=>Ag 0 rr
     ·exact fun s6=>q_p fr<|q_p fr<|Ax 0 rfl rfl fun x3 hx3=>AI 0 rfl hx3 rfl<|Ax 0 rfl rfl fun x4 hx4=>AI 0 rfl hx4 rfl<|Ax 0 rfl rfl fun x5 hx5=>Ba (y:=x3) 0 rfl rfl hx5 rfl (by decide)<|Ax 0 rfl rfl fun x6 hx6=>Ba (y:=x4) 0 rfl rfl hx6 rfl (by decide)<|q_p fr<|Aa 0 rr
     ·exact fun i2 s6=>Ai 0 rr
     ·exact fun s6=>Ag 0 rr
    ·exact fun i3 s7=>q_n (q_p fr<|Aa 0 rr)<|q_n (q_p fr<|Aa 0 rr)<|Ai 0 rr
    ·exact fun s7=>Ag 0 rr
   ·exact Ai 0 rr
  ·exact fun i4 s8=>q_n (AK 0 rfl rfl)<|Ao
  ·exact fun s8=>AK 0 rfl rfl
def GE (a2:Int) (a3:Int) (s1:Int×(List Int)):Option (LO (Int×(List Int))):=bif decide ((wi .i64 ((wi .i64 (2 * s1.1)) + 1)) ≥ a2) then some (LO.exit 0 (s1.1,s1.2)) else ( bif decide ((wi .i64 ((wi .i64 ((wi .i64 (2 * s1.1)) + 1)) + 1)) < a2) then (Am s1.2 (wi .i64 (a3 + (wi .i64 ((wi .i64 (2 * s1.1)) + 1))))).bind fun x1=>(Am s1.2 (wi .i64 ((wi .i64 (a3 + (wi .i64 ((wi .i64 (2 * s1.1)) + 1)))) + 1))).bind fun x2=>(Fh x1 x2).bind fun y1=>bif y1 then some (LO.norm (wi .i64 ((wi .i64 ((wi .i64 (2 * s1.1)) + 1)) + 1))) else some (LO.norm (wi .i64 ((wi .i64 (2 * s1.1)) + 1))) else some (LO.norm (wi .i64 ((wi .i64 (2 * s1.1)) + 1)))).bind (Ac (fun s3=>(Am s1.2 (wi .i64 (a3 + s1.1))).bind fun x3=>(Am s1.2 (wi .i64 (a3 + s3))).bind fun x4=>(Fh x3 x4).bind fun y2=>bif !y2 then some (LO.ret (s1.1,s1.2)) else (Am s1.2 (wi .i64 (a3 + s3))).bind fun x5=>(Am s1.2 (wi .i64 (a3 + s1.1))).bind fun x6=>(Am s1.2 (wi .i64 (a3 + s1.1))).bind fun x7=>(Am (s1.2.set (Int.toNat (wi .i64 (a3 + s1.1))) x5) (wi .i64 (a3 + s3))).bind fun x8=>some (LO.norm (s3,(s1.2.set (Int.toNat (wi .i64 (a3 + s1.1))) x5).set (Int.toNat (wi .i64 (a3 + s3))) x6))) (fun i1 s3=>if i1 = 1 then some (LO.norm (s1.1,s1.2)) else some (LO.exit i1 (s1.1,s1.2))) (fun s3=>some (LO.ret (s1.1,s1.2))))
def LD (a0:List Int) (a1:Int) (a2:Int) (a3:Int):Option ((List Int)):=(Aq (GE a2 a3) NN (a1,a0)).bind (Ac (fun _=>none) (fun i2 s4=>if i2 = 0 then some s4.2 else none) (fun s4=>some s4.2))
theorem WC {d:Nat} (hd:3≤d) (L0:List En) (v0_:AV) (a0:List Int) (a1:Int) (a2:Int) (a3:Int):Okh (sl false v0_ (a0:List Int)::L0) (fun S=>R NN d 132 [v0_,iW a1,iW a2,iW a3] S) (LD a0 a1 a2 a3) (P2 (fun (t:(List Int))=>und) (fun (t:(List Int))=>sl false v0_ t::L0)):=by
  obtain ⟨d,rfl,g⟩:=up hd
  refine Df (t132 NN d _ _ _ _) ?_
  unfold X4 LD
  refine BE (A:=fun (s:Int×(List Int))=>[iW s.1]) (B:=fun s=>sl false v0_ (s.2:List Int)::L0) 0 rr ?_ ?_ ?_
  ·intro s1
   unfold Py GE
   refine q_p fr<|q_p fr<|q_p fr<|q_i ?_ ?_
   ·exact Ai 0 rr
   ·refine AD (A:=fun (s:Int)=>[iW s]) (B:=fun s=>sl false v0_ (s1.2:List Int)::L0) ?_ ?_ ?_ ?_
    ·refine q_p fr<|q_p fr<|q_k ?_ ?_
     ·exact q_p fr<|Ax 0 rfl rfl fun x1 hx1=>AI 0 rfl hx1 rfl<|q_p fr<|q_p fr<|Ax 0 rfl rfl fun x2 hx2=>AI 0 rfl hx2 rfl<|A4 (aF2 (Ab rfl) (Ab rfl) fun l0_ l1_=>G1 (by omega) x1 x2) fun y1 hy1=>q_i (q_p fr<|Aa 0 rr)<|Aa 0 rr
     ·first | refine DF ?_ | skip
      exact Aa 0 rr
    ·exact fun s3=>q_p fr<|Ax 0 rfl rfl fun x3 hx3=>AI 0 rfl hx3 rfl<|q_p fr<|Ax 0 rfl rfl fun x4 hx4=>AI 0 rfl hx4 rfl<|A4 (aF2 (Ab rfl) (Ab rfl) fun l0_ l1_=>G1 (by omega) x3 x4) fun y2 hy2=>q_p fr<|q_i (Ag 0 rr)<|q_p fr<|q_p fr<|q_p fr<|Ax 0 rfl rfl fun x5 hx5=>AI 0 rfl hx5 rfl<|q_p fr<|Ax 0 rfl rfl fun x6 hx6=>AI 0 rfl hx6 rfl<|Ax 0 rfl rfl fun x7 hx7=>Ba (y:=x5) 0 rfl rfl hx7 rfl (by decide)<|Ax 0 rfl rfl fun x8 hx8=>Ba (y:=x6) 0 rfl rfl hx8 rfl (by decide)<|Aa 0 rr
    ·exact fun i1 s3=>q_n (Aa 0 rr)<|Ai 0 rr
    ·exact fun s3=>Ag 0 rr
  ·exact fun i2 s4=>q_n (AK 0 rfl rfl)<|Ao
  ·exact fun s4=>AK 0 rfl rfl
def Ip (a1:Int) (a2:Int) (s1:Int×(List Int)):Option (LO (Int×(List Int))):=bif decide (s1.1 ≥ 0) then (LD s1.2 s1.1 (wi .i64 (a2 - a1)) a1).bind fun y1=>some (LO.norm (wi .i64 (s1.1 - 1),y1)) else some (LO.exit 0 (s1.1,s1.2))
def Io (a1:Int) (s3:Int×(List Int)):Option (LO (Int×(List Int))):=bif decide (s3.1 ≥ 0) then (Am s3.2 (wi .i64 (a1 + s3.1))).bind fun x1=>(Am s3.2 a1).bind fun x2=>(Am s3.2 a1).bind fun x3=>(Am (s3.2.set (Int.toNat a1) x1) (wi .i64 (a1 + s3.1))).bind fun x4=>(LD ((s3.2.set (Int.toNat a1) x1).set (Int.toNat (wi .i64 (a1 + s3.1))) x2) 0 s3.1 a1).bind fun y2=>some (LO.norm (wi .i64 (s3.1 - 1),y2)) else some (LO.exit 2 (s3.1,s3.2))
def Ov (a0:List Int) (a1:Int) (a2:Int):Option ((List Int)):=(Aq (Ip a1 a2) NN (wi .i64 (Int.tdiv (wi .i64 ((wi .i64 (a2 - a1)) - 1)) 2),a0)).bind (Ac (fun _=>none) (fun i1 s2=>if i1 = 0 then (Aq (Io a1) NN (wi .i64 ((wi .i64 (a2 - a1)) - 1),s2.2)).bind (Ac (fun _=>none) (fun i2 s4=>if i2 = 2 then some s4.2 else none) (fun s4=>some s4.2)) else none) (fun s2=>some s2.2))
theorem w122 {d:Nat} (hd:4≤d) (L0:List En) (v0_:AV) (a0:List Int) (a1:Int) (a2:Int):Okh (sl false v0_ (a0:List Int)::L0) (fun S=>R NN d 122 [v0_,iW a1,iW a2] S) (Ov a0 a1 a2) (P2 (fun (t:(List Int))=>und) (fun (t:(List Int))=>sl false v0_ t::L0)):=by
  obtain ⟨d,rfl,g⟩:=up hd
  refine Df (t122 NN d _ _ _) ?_
  unfold XD Ov
  refine q_p fr<|q_p fr<|q_p fr<|BE (A:=fun (s:Int×(List Int))=>[iW s.1]) (B:=fun s=>sl false v0_ (s.2:List Int)::L0) 0 rr ?_ ?_ ?_
  ·intro s1
   unfold PR Ip
   exact q_p fr<|q_i (q_s (mg:=LD s1.2 s1.1 (wi .i64 (a2 - a1)) a1) (WC (by omega) _ _ s1.2 s1.1 (wi .i64 (a2 - a1)) a1) fun y1 hy1=>q_p fr<|Aa 0 rr)<|Ai 0 rr
  ·intro i1 s2
   refine q_n ?_ ?_
   ·refine q_p fr<|BE (A:=fun (s:Int×(List Int))=>[iW s.1]) (B:=fun s=>sl false v0_ (s.2:List Int)::L0) 0 rr ?_ ?_ ?_
    ·intro s3
     unfold PQ Io
     exact q_p fr<|q_i (q_p fr<|q_p fr<|Ax 0 rfl rfl fun x1 hx1=>AI 0 rfl hx1 rfl<|Ax 0 rfl rfl fun x2 hx2=>AI 0 rfl hx2 rfl<|Ax 0 rfl rfl fun x3 hx3=>Ba (y:=x1) 0 rfl rfl hx3 rfl (by decide)<|Ax 0 rfl rfl fun x4 hx4=>Ba (y:=x2) 0 rfl rfl hx4 rfl (by decide)<|q_s (mg:=LD ((s3.2.set (Int.toNat a1) x1).set (Int.toNat (wi .i64 (a1 + s3.1))) x2) 0 s3.1 a1) (WC (by omega) _ _ ((s3.2.set (Int.toNat a1) x1).set (Int.toNat (wi .i64 (a1 + s3.1))) x2) 0 s3.1 a1) fun y2 hy2=>q_p fr<|Aa 0 rr)<|Ai 0 rr
    ·exact fun i2 s4=>q_n (AK 0 rfl rfl)<|Ao
    ·exact fun s4=>AK 0 rfl rfl
   ·exact Ao
  ·exact fun s2=>AK 0 rfl rfl
def m130 (a0:Int):Option (Int):=( bif decide (a0 ≥ 65536) then some (LO.norm (Jv .u32 a0 16,16)) else some (LO.norm (a0,0))).bind (Ac (fun s2=>( bif decide (s2.1 ≥ 256) then some (LO.norm (Jv .u32 s2.1 8,wi .i64 (s2.2 + 8))) else some (LO.norm (s2.1,s2.2))).bind (Ac (fun s4=>(Am ([0,1,2,2,3,3,3,3,4,4,4,4,4,4,4,4,5,5,5,5,5,5,5,5,5,5,5,5,5,5,5,5,6,6,6,6,6,6,6,6,6,6,6,6,6,6,6,6,6,6,6,6,6,6,6,6,6,6,6,6,6,6,6,6,7,7,7,7,7,7,7,7,7,7,7,7,7,7,7,7,7,7,7,7,7,7,7,7,7,7,7,7,7,7,7,7,7,7,7,7,7,7,7,7,7,7,7,7,7,7,7,7,7,7,7,7,7,7,7,7,7,7,7,7,7,7,7,7,8,8,8,8,8,8,8,8,8,8,8,8,8,8,8,8,8,8,8,8,8,8,8,8,8,8,8,8,8,8,8,8,8,8,8,8,8,8,8,8,8,8,8,8,8,8,8,8,8,8,8,8,8,8,8,8,8,8,8,8,8,8,8,8,8,8,8,8,8,8,8,8,8,8,8,8,8,8,8,8,8,8,8,8,8,8,8,8,8,8,8,8,8,8,8,8,8,8,8,8,8,8,8,8,8,8,8,8,8,8,8,8,8,8,8,8,8,8,8,8,8,8,8,8,8,8,8,8]:Str) (wi .u8 s4.1)).bind fun c1=>some (wi .i64 (s4.2 + (wi .i64 (c1.toNat:Int))))) (fun i2 s4=>none) (fun s4=>some s4.2))) (fun i1 s2=>none) (fun s2=>some s2.2))
def Wb (a0:Int):Option (Int):=( bif decide (a0 ≥ 4294967296) then some (LO.norm (Jv .u64 a0 32,32)) else some (LO.norm (a0,0))).bind (Ac (fun s2=>( bif decide (s2.1 ≥ 65536) then some (LO.norm (Jv .u64 s2.1 16,wi .i64 (s2.2 + 16))) else some (LO.norm (s2.1,s2.2))).bind (Ac (fun s4=>( bif decide (s4.1 ≥ 256) then some (LO.norm (Jv .u64 s4.1 8,wi .i64 (s4.2 + 8))) else some (LO.norm (s4.1,s4.2))).bind (Ac (fun s6=>(Am ([0,1,2,2,3,3,3,3,4,4,4,4,4,4,4,4,5,5,5,5,5,5,5,5,5,5,5,5,5,5,5,5,6,6,6,6,6,6,6,6,6,6,6,6,6,6,6,6,6,6,6,6,6,6,6,6,6,6,6,6,6,6,6,6,7,7,7,7,7,7,7,7,7,7,7,7,7,7,7,7,7,7,7,7,7,7,7,7,7,7,7,7,7,7,7,7,7,7,7,7,7,7,7,7,7,7,7,7,7,7,7,7,7,7,7,7,7,7,7,7,7,7,7,7,7,7,7,7,8,8,8,8,8,8,8,8,8,8,8,8,8,8,8,8,8,8,8,8,8,8,8,8,8,8,8,8,8,8,8,8,8,8,8,8,8,8,8,8,8,8,8,8,8,8,8,8,8,8,8,8,8,8,8,8,8,8,8,8,8,8,8,8,8,8,8,8,8,8,8,8,8,8,8,8,8,8,8,8,8,8,8,8,8,8,8,8,8,8,8,8,8,8,8,8,8,8,8,8,8,8,8,8,8,8,8,8,8,8,8,8,8,8,8,8,8,8,8,8,8,8,8,8,8,8,8,8]:Str) (wi .u8 s6.1)).bind fun c1=>some (wi .i64 (s6.2 + (wi .i64 (c1.toNat:Int))))) (fun i3 s6=>none) (fun s6=>some s6.2))) (fun i2 s4=>none) (fun s4=>some s4.2))) (fun i1 s2=>none) (fun s2=>some s2.2))
theorem w131 {d:Nat} (hd:1≤d) (a0:Int):Fit (R NN d 131 [.int .u64 a0] []) (Wb a0) PI:=by
  obtain ⟨d,rfl,g⟩:=up hd
  refine AC (t131 NN d _) ?_
  unfold X5 Wb
  refine AD (A:=fun (s:Int×Int)=>[.int .u64 s.1,iW s.2]) (B:=fun s=>[]) ?_ ?_ ?_ ?_
  ·exact q_p fr<|q_i (q_p fr<|Aa 0 rr)<|Aa 0 rr
  ·intro s2
   refine AD (A:=fun (s:Int×Int)=>[.int .u64 s.1,iW s.2]) (B:=fun s=>[]) ?_ ?_ ?_ ?_
   ·exact q_p fr<|q_i (q_p fr<|q_p fr<|Aa 0 rr)<|Aa 0 rr
   ·intro s4
    refine AD (A:=fun (s:Int×Int)=>[.int .u64 s.1,iW s.2]) (B:=fun s=>[]) ?_ ?_ ?_ ?_
    ·exact q_p fr<|q_i (q_p fr<|q_p fr<|Aa 0 rr)<|Aa 0 rr
    ·exact fun s6=>q_p (fun _=>RS _ _)<|q_sx fun c1 hc1=>q_p (fun _=>Wm _ _)<|q_p fr<|Ah (Ab rfl) rfl
    ·exact fun i3 s6=>Ao
    ·exact fun s6=>Ah (Ab rfl) rfl
   ·exact fun i2 s4=>Ao
   ·exact fun s4=>Ah (Ab rfl) rfl
  ·exact fun i1 s2=>Ao
  ·exact fun s2=>Ah (Ab rfl) rfl
def Rh (a0:Int):Option (Int):=(Wb a0).bind fun y1=>some y1
theorem WF {d:Nat} (hd:2≤d) (a0:Int):Fit (R NN d 113 [.int .u64 a0] []) (Rh a0) PI:=by
  obtain ⟨d,rfl,g⟩:=up hd
  refine AC (t113 NN d _) ?_
  unfold XL Rh
  first | refine DF ?_ | skip
  exact A4 (aF1 (Ab rfl) fun l0_=>w131 (by omega) a0) fun y1 hy1=>Ah (Ab rfl) rfl
def QW (a0:Int):Option (Int):=(Rh (wi .u64 a0)).bind fun y1=>(T9 .u64 1 y1).bind fun q1=>some q1
theorem w133 {d:Nat} (hd:3≤d) (a0:Int):Fit (R NN d 133 [iW a0] []) (QW a0) (P0 (fun (t:Int)=>AV.int .u64 t)):=by
  obtain ⟨d,rfl,g⟩:=up hd
  refine AC (t133 NN d _) ?_
  unfold X3 QW
  exact q_p (fun _=>LV _ _)<|A4 (aF1 (Ab rfl) fun l0_=>WF (by omega) (wi .u64 a0)) fun y1 hy1=>WQ fun q1 hq1=>Ah (Ab rfl) rfl
def QV (a0:Int):Int×Int:=(G0 .u64 (G0 .u64 (G0 .u64 a0 (Ic .u64 a0 13)) (Jv .u64 (G0 .u64 a0 (Ic .u64 a0 13)) 7)) (Ic .u64 (G0 .u64 (G0 .u64 a0 (Ic .u64 a0 13)) (Jv .u64 (G0 .u64 a0 (Ic .u64 a0 13)) 7)) 17),G0 .u64 (G0 .u64 (G0 .u64 a0 (Ic .u64 a0 13)) (Jv .u64 (G0 .u64 a0 (Ic .u64 a0 13)) 7)) (Ic .u64 (G0 .u64 (G0 .u64 a0 (Ic .u64 a0 13)) (Jv .u64 (G0 .u64 a0 (Ic .u64 a0 13)) 7)) 17))
theorem w134 {d:Nat} (hd:1≤d) (L0:List En) (b0_:Nat) (a0:Int):Okh (bx b0_ [.int .u64 a0]::L0) (fun S=>R NN d 134 [.bp b0_ 0 0 1 1] S) (some (QV a0)) (P2 (fun (t:Int×Int)=>AV.int .u64 t.1) (fun (t:Int×Int)=>bx b0_ [.int .u64 t.2]::L0)):=by
  obtain ⟨d,rfl,g⟩:=up hd
  refine Df (t134 NN d _) ?_
  unfold X1 QV
  exact q_q fr<|Av 0 rfl rfl<|q_q fr<|Av 0 rfl rfl<|q_p fr<|q_p fr<|q_q fr<|Bj 0 rfl rfl rfl (by decide) rfl<|q_q fr<|Av 0 rfl rfl<|q_q fr<|Av 0 rfl rfl<|q_p fr<|q_p fr<|q_q fr<|Bj 0 rfl rfl rfl (by decide) rfl<|q_q fr<|Av 0 rfl rfl<|q_q fr<|Av 0 rfl rfl<|q_p fr<|q_p fr<|q_q fr<|Bj 0 rfl rfl rfl (by decide) rfl<|q_q fr<|Av 0 rfl rfl<|AK 0 rfl rfl
def Im (a1:Int) (a2:Int) (y1:Int) (s1:Int×Int×(List Int)):Option (LO (Int×Int×(List Int))):=bif decide (s1.1≤(wi .i64 ((wi .i64 (a1 + (wi .i64 ((wi .i64 (Int.tdiv (wi .i64 (a2 - a1)) 4)) * 2)))) + 1))) then ( (some (QV s1.2.1)).bind fun y2=>( bif decide ((wi .i64 (Lh .u64 y2.1 (wi .u64 (y1 - 1)))) ≥ (wi .i64 (a2 - a1))) then some (LO.norm (wi .i64 ((wi .i64 (Lh .u64 y2.1 (wi .u64 (y1 - 1)))) - (wi .i64 (a2 - a1))))) else some (LO.norm (wi .i64 (Lh .u64 y2.1 (wi .u64 (y1 - 1)))))).bind (Ac (fun s4=>(Am s1.2.2 (wi .i64 (a1 + s4))).bind fun x1=>(Am s1.2.2 s1.1).bind fun x2=>(Am s1.2.2 s1.1).bind fun x3=>(Am (s1.2.2.set (Int.toNat s1.1) x1) (wi .i64 (a1 + s4))).bind fun x4=>some (LO.norm (y2.2,(s1.2.2.set (Int.toNat s1.1) x1).set (Int.toNat (wi .i64 (a1 + s4))) x2))) (fun i1 s4=>if i1 = 1 then some (LO.norm (y2.2,s1.2.2)) else some (LO.exit i1 (y2.2,s1.2.2))) (fun s4=>some (LO.ret (y2.2,s1.2.2))))).bind (Ac (fun s5=>some (LO.norm (wi .i64 (s1.1 + 1),s5.1,s5.2))) (fun i2 s5=>some (LO.exit i2 (s1.1,s5.1,s5.2))) (fun s5=>some (LO.ret (s1.1,s5.1,s5.2)))) else some (LO.exit 0 (s1.1,s1.2.1,s1.2.2))
def Ou (a0:List Int) (a1:Int) (a2:Int):Option ((List Int)):=bif decide ((wi .i64 (a2 - a1)) ≥ 8) then (QW (wi .i64 (a2 - a1))).bind fun y1=>(Aq (Im a1 a2 y1) NN (wi .i64 ((wi .i64 (a1 + (wi .i64 ((wi .i64 (Int.tdiv (wi .i64 (a2 - a1)) 4)) * 2)))) - 1),wi .u64 (wi .i64 (a2 - a1)),a0)).bind (Ac (fun _=>none) (fun i3 s6=>if i3 = 0 then some s6.2.2 else none) (fun s6=>some s6.2.2)) else some a0
theorem w123 {d:Nat} (hd:4≤d) (L0:List En) (v0_:AV) (a0:List Int) (a1:Int) (a2:Int):Okh (sl false v0_ (a0:List Int)::L0) (fun S=>R NN d 123 [v0_,iW a1,iW a2] S) (Ou a0 a1 a2) (P2 (fun (t:(List Int))=>und) (fun (t:(List Int))=>sl false v0_ t::L0)):=by
  obtain ⟨d,rfl,g⟩:=up hd
  refine Df (t123 NN d _ _ _) ?_
  unfold XC Ou
  refine q_p fr<|q_p fr<|q_i ?_ ?_
  ·refine q_p (fun _=>RR _ _)<|Bt rfl fun b1=>Bj 0 rfl rfl rfl (by decide) rfl<|A4 (aF1 (Ab rfl) fun l0_=>w133 (by omega) (wi .i64 (a2 - a1))) fun y1 hy1=>q_p fr<|q_p fr<|q_p fr<|q_p fr<|BE (A:=fun (s:Int×Int×(List Int))=>[iW s.1]) (B:=fun s=>bx b1 [.int .u64 s.2.1]::sl false v0_ (s.2.2:List Int)::L0) 0 rr ?_ ?_ ?_
   ·intro s1
    unfold PO Im
    refine q_p fr<|q_p fr<|q_p fr<|q_p fr<|q_p fr<|q_i ?_ ?_
    ·refine AD (A:=fun (s:Int×(List Int))=>[]) (B:=fun s=>bx b1 [.int .u64 s.1]::sl false v0_ (s.2:List Int)::L0) ?_ ?_ ?_ ?_
     ·refine q_s (mg:=some (QV s1.2.1)) (w134 (by omega) _ _ s1.2.1) fun y2 hy2=>q_p fr<|q_p fr<|q_p (fun _=>RU _ _)<|AD (A:=fun (s:Int)=>[iW s]) (B:=fun s=>bx b1 [.int .u64 y2.2]::sl false v0_ (s1.2.2:List Int)::L0) ?_ ?_ ?_ ?_
      ·exact q_p fr<|q_i (q_p fr<|Aa 0 rr)<|Aa 0 rr
      ·exact fun s4=>q_p fr<|q_p fr<|Ax 1 rfl rfl fun x1 hx1=>AI 1 rfl hx1 rfl<|Ax 1 rfl rfl fun x2 hx2=>AI 1 rfl hx2 rfl<|Ax 1 rfl rfl fun x3 hx3=>Ba (y:=x1) 1 rfl rfl hx3 rfl (by decide)<|Ax 1 rfl rfl fun x4 hx4=>Ba (y:=x2) 1 rfl rfl hx4 rfl (by decide)<|Aa 0 rr
      ·exact fun i1 s4=>q_n (Aa 0 rr)<|Ai 0 rr
      ·exact fun s4=>Ag 0 rr
     ·exact fun s5=>q_p fr<|Aa 0 rr
     ·exact fun i2 s5=>Ai 0 rr
     ·exact fun s5=>Ag 0 rr
    ·exact Ai 0 rr
   ·exact fun i3 s6=>q_n (AK 1 rfl rfl)<|Ao
   ·exact fun s6=>AK 1 rfl rfl
  ·exact AK 0 rfl rfl
def Jx (a0:List Int) (a1:Int) (a2:Int) (a3:Int):Option (Int×Int×Int):=(Am a0 a2).bind fun x1=>(Am a0 a1).bind fun x2=>(Fh x1 x2).bind fun y1=>bif y1 then some (a2,a1,wi .i64 (a3 + 1)) else some (a1,a2,a3)
theorem Vw {d:Nat} (hd:3≤d) (L0:List En) (k0:Bool) (f0_:Bool) (a0:List Int) (a1:Int) (a2:Int) (b3_:Nat) (a3:Int):Okh (bx b3_ [iW a3]::L0) (fun S=>R NN d 138 [.rsl k0 f0_ (a0.map (Enc.cs k0)),iW a1,iW a2,.bp b3_ 0 0 1 1] S) (Jx a0 a1 a2 a3) (P2 (fun (t:Int×Int×Int)=>AV.tup [iW t.1,iW t.2.1]) (fun (t:Int×Int×Int)=>bx b3_ [iW t.2.2]::L0)):=by
  obtain ⟨d,rfl,g⟩:=up hd
  refine Df (t138 NN d _ _ _ _) ?_
  unfold Xx Jx
  exact AL rfl fun x1 hx1=>q_p fr<|AL rfl fun x2 hx2=>q_p fr<|A4 (aF2 (Ab rfl) (Ab rfl) fun l0_ l1_=>G1 (by omega) x1 x2) fun y1 hy1=>q_i (q_q fr<|Av 0 rfl rfl<|q_p fr<|q_q fr<|Bj 0 rfl rfl rfl (by decide) rfl<|AK 0 rfl rfl)<|AK 0 rfl rfl
def LA (a0:List Int) (a1:Int) (a2:Int) (a3:Int) (a4:Int):Option (Int×Int):=(Jx a0 a1 a2 a4).bind fun y1=>(Jx a0 y1.2.1 a3 y1.2.2).bind fun y2=>(Jx a0 y1.1 y2.1 y2.2.2).bind fun y3=>some (y3.2.1,y3.2.2)
theorem WB {d:Nat} (hd:4≤d) (L0:List En) (k0:Bool) (f0_:Bool) (a0:List Int) (a1:Int) (a2:Int) (a3:Int) (b4_:Nat) (a4:Int):Okh (bx b4_ [iW a4]::L0) (fun S=>R NN d 136 [.rsl k0 f0_ (a0.map (Enc.cs k0)),iW a1,iW a2,iW a3,.bp b4_ 0 0 1 1] S) (LA a0 a1 a2 a3 a4) (P2 (fun (t:Int×Int)=>AV.int .i64 t.1) (fun (t:Int×Int)=>bx b4_ [iW t.2]::L0)):=by
  obtain ⟨d,rfl,g⟩:=up hd
  refine Df (t136 NN d _ _ _ _ _) ?_
  unfold Xz LA
  exact q_s (mg:=Jx a0 a1 a2 a4) (Vw (by omega) _ _ _ a0 a1 a2 _ a4) fun y1 hy1=>q_q fr<|q_q fr<|q_s (mg:=Jx a0 y1.2.1 a3 y1.2.2) (Vw (by omega) _ _ _ a0 y1.2.1 a3 _ y1.2.2) fun y2 hy2=>q_q fr<|q_q fr<|q_s (mg:=Jx a0 y1.1 y2.1 y2.2.2) (Vw (by omega) _ _ _ a0 y1.1 y2.1 _ y2.2.2) fun y3 hy3=>q_q fr<|q_q fr<|AK 0 rfl rfl
def LC (a0:List Int) (a1:Int) (a2:Int):Option (Int×Int):=(LA a0 (wi .i64 (a1 - 1)) a1 (wi .i64 (a1 + 1)) a2).bind fun y1=>some (y1.1,y1.2)
theorem Vx {d:Nat} (hd:5≤d) (L0:List En) (k0:Bool) (f0_:Bool) (a0:List Int) (a1:Int) (b2_:Nat) (a2:Int):Okh (bx b2_ [iW a2]::L0) (fun S=>R NN d 135 [.rsl k0 f0_ (a0.map (Enc.cs k0)),iW a1,.bp b2_ 0 0 1 1] S) (LC a0 a1 a2) (P2 (fun (t:Int×Int)=>AV.int .i64 t.1) (fun (t:Int×Int)=>bx b2_ [iW t.2]::L0)):=by
  obtain ⟨d,rfl,g⟩:=up hd
  refine Df (t135 NN d _ _ _) ?_
  unfold X0 LC
  exact q_p fr<|q_p fr<|q_s (mg:=LA a0 (wi .i64 (a1 - 1)) a1 (wi .i64 (a1 + 1)) a2) (WB (by omega) _ _ _ a0 (wi .i64 (a1 - 1)) a1 (wi .i64 (a1 + 1)) _ a2) fun y1 hy1=>AK 0 rfl rfl
def QX (a0:List Int) (a1:Int) (a2:Int):Option (Int×Int):=( bif decide ((wi .i64 (a2 - a1)) ≥ 8) then ( bif decide ((wi .i64 (a2 - a1)) ≥ 50) then (LC a0 (wi .i64 (a1 + (wi .i64 ((wi .i64 (Int.tdiv (wi .i64 (a2 - a1)) 4)) * 1)))) 0).bind fun y1=>(LC a0 (wi .i64 (a1 + (wi .i64 ((wi .i64 (Int.tdiv (wi .i64 (a2 - a1)) 4)) * 2)))) y1.2).bind fun y2=>(LC a0 (wi .i64 (a1 + (wi .i64 ((wi .i64 (Int.tdiv (wi .i64 (a2 - a1)) 4)) * 3)))) y2.2).bind fun y3=>some (LO.norm (y1.1,y2.1,y3.1,y3.2)) else some (LO.norm (wi .i64 (a1 + (wi .i64 ((wi .i64 (Int.tdiv (wi .i64 (a2 - a1)) 4)) * 1))),wi .i64 (a1 + (wi .i64 ((wi .i64 (Int.tdiv (wi .i64 (a2 - a1)) 4)) * 2))),wi .i64 (a1 + (wi .i64 ((wi .i64 (Int.tdiv (wi .i64 (a2 - a1)) 4)) * 3))),0))).bind (Ac (fun s3=>(LA a0 s3.1 s3.2.1 s3.2.2.1 s3.2.2.2).bind fun y4=>some (LO.norm (y4.1,y4.2))) (fun i1 s3=>some (LO.exit i1 (s3.2.1,s3.2.2.2))) (fun s3=>some (LO.ret (s3.2.1,s3.2.2.2)))) else some (LO.norm (wi .i64 (a1 + (wi .i64 ((wi .i64 (Int.tdiv (wi .i64 (a2 - a1)) 4)) * 2))),0))).bind (Ac (fun s4=>bif s4.2 == 0 then some (s4.1,1) else bif s4.2 == 12 then some (s4.1,2) else some (s4.1,0)) (fun i2 s4=>none) (fun s4=>some (0,0)))
theorem w124 {d:Nat} (hd:6≤d) (k0:Bool) (a0:List Int) (a1:Int) (a2:Int):Fit (R NN d 124 [.rsl k0 false (a0.map (Enc.cs k0)),iW a1,iW a2] []) (QX a0 a1 a2) (P0 (fun (t:Int×Int)=>AV.tup [iW t.1,iW t.2])):=by
  obtain ⟨d,rfl,g⟩:=up hd
  refine AC (t124 NN d _ _ _) ?_
  unfold XB QX
  refine q_p fr<|Bt rfl fun b1=>q_p fr<|q_p fr<|q_p fr<|q_p fr<|q_p fr<|q_p fr<|q_p fr<|q_p fr<|q_p fr<|AD (A:=fun (s:Int×Int)=>[iW s.1]) (B:=fun s=>[bx b1 [iW s.2]]) ?_ ?_ ?_ ?_
  ·refine q_p fr<|q_i ?_ ?_
   ·refine AD (A:=fun (s:Int×Int×Int×Int)=>[iW s.1,iW s.2.1,iW s.2.2.1]) (B:=fun s=>[bx b1 [iW s.2.2.2]]) ?_ ?_ ?_ ?_
    ·exact q_p fr<|q_i (q_s (mg:=LC a0 (wi .i64 (a1 + (wi .i64 ((wi .i64 (Int.tdiv (wi .i64 (a2 - a1)) 4)) * 1)))) 0) (Vx (by omega) _ _ _ a0 (wi .i64 (a1 + (wi .i64 ((wi .i64 (Int.tdiv (wi .i64 (a2 - a1)) 4)) * 1)))) _ 0) fun y1 hy1=>q_s (mg:=LC a0 (wi .i64 (a1 + (wi .i64 ((wi .i64 (Int.tdiv (wi .i64 (a2 - a1)) 4)) * 2)))) y1.2) (Vx (by omega) _ _ _ a0 (wi .i64 (a1 + (wi .i64 ((wi .i64 (Int.tdiv (wi .i64 (a2 - a1)) 4)) * 2)))) _ y1.2) fun y2 hy2=>q_s (mg:=LC a0 (wi .i64 (a1 + (wi .i64 ((wi .i64 (Int.tdiv (wi .i64 (a2 - a1)) 4)) * 3)))) y2.2) (Vx (by omega) _ _ _ a0 (wi .i64 (a1 + (wi .i64 ((wi .i64 (Int.tdiv (wi .i64 (a2 - a1)) 4)) * 3)))) _ y2.2) fun y3 hy3=>Aa 0 rr)<|Aa 0 rr
    ·exact fun s3=>q_s (mg:=LA a0 s3.1 s3.2.1 s3.2.2.1 s3.2.2.2) (WB (by omega) _ _ _ a0 s3.1 s3.2.1 s3.2.2.1 _ s3.2.2.2) fun y4 hy4=>Aa 0 rr
    ·exact fun i1 s3=>Ai 0 rr
    ·exact fun s3=>Ag 0 rr
   ·exact Aa 0 rr
  ·exact fun s4=>Av 0 rfl rfl<|q_p fr<|q_i (Ah (Jk (Ae (Ab rfl) (Ae (Ab rfl) As))) rfl)<|q_p fr<|q_i (Ah (Jk (Ae (Ab rfl) (Ae (Ab rfl) As))) rfl)<|Ah (Jk (Ae (Ab rfl) (Ae (Ab rfl) As))) rfl
  ·exact fun i2 s4=>Ao
  ·exact fun s4=>Ah (Jk (Ae (Ab rfl) (Ae (Ab rfl) As))) rfl
def GN (s1:Int×Int×(List Int)):Option (LO (Int×Int×(List Int))):=bif decide (s1.1 < s1.2.1) then (Am s1.2.2 s1.2.1).bind fun x1=>(Am s1.2.2 s1.1).bind fun x2=>(Am s1.2.2 s1.1).bind fun x3=>(Am (s1.2.2.set (Int.toNat s1.1) x1) s1.2.1).bind fun x4=>some (LO.norm (wi .i64 (s1.1 + 1),wi .i64 (s1.2.1 - 1),(s1.2.2.set (Int.toNat s1.1) x1).set (Int.toNat s1.2.1) x2)) else some (LO.exit 0 (s1.1,s1.2.1,s1.2.2))
def Ot (a0:List Int) (a1:Int) (a2:Int):Option ((List Int)):=(Aq (GN) NN (a1,wi .i64 (a2 - 1),a0)).bind (Ac (fun _=>none) (fun i1 s2=>if i1 = 0 then some s2.2.2 else none) (fun s2=>some s2.2.2))
theorem w125 {d:Nat} (hd:1≤d) (L0:List En) (v0_:AV) (a0:List Int) (a1:Int) (a2:Int):Okh (sl false v0_ (a0:List Int)::L0) (fun S=>R NN d 125 [v0_,iW a1,iW a2] S) (Ot a0 a1 a2) (P2 (fun (t:(List Int))=>und) (fun (t:(List Int))=>sl false v0_ t::L0)):=by
  obtain ⟨d,rfl,g⟩:=up hd
  refine Df (t125 NN d _ _ _) ?_
  unfold XA Ot
  refine q_p fr<|BE (A:=fun (s:Int×Int×(List Int))=>[iW s.1,iW s.2.1]) (B:=fun s=>sl false v0_ (s.2.2:List Int)::L0) 0 rr ?_ ?_ ?_
  ·intro s1
   unfold PN GN
   exact q_p fr<|q_i (Ax 0 rfl rfl fun x1 hx1=>AI 0 rfl hx1 rfl<|Ax 0 rfl rfl fun x2 hx2=>AI 0 rfl hx2 rfl<|Ax 0 rfl rfl fun x3 hx3=>Ba (y:=x1) 0 rfl rfl hx3 rfl (by decide)<|Ax 0 rfl rfl fun x4 hx4=>Ba (y:=x2) 0 rfl rfl hx4 rfl (by decide)<|q_p fr<|q_p fr<|Aa 0 rr)<|Ai 0 rr
  ·exact fun i1 s2=>q_n (AK 0 rfl rfl)<|Ao
  ·exact fun s2=>AK 0 rfl rfl
def GM (a2:Int) (s1:Bool×Int×Int×(List Int)) (s3:Int):Option (LO (Int)):=( ( bif decide (s3 < a2) then (Am s1.2.2.2 s3).bind fun x1=>(Am s1.2.2.2 (wi .i64 (s3 - 1))).bind fun x2=>(Fh x1 x2).bind fun y1=>some (LO.norm (!y1)) else some (LO.norm false)).bind (Ac (fun s6=>bif s6 then some (LO.norm s6) else some (LO.exit 2 s6)) (fun i1 s6=>some (LO.exit i1 s6)) (fun s6=>some (LO.ret s6)))).bind (Ac (fun s7=>some (LO.norm (wi .i64 (s3 + 1)))) (fun i2 s7=>some (LO.exit i2 s3)) (fun s7=>some (LO.ret s3)))
def N5 (s10:Int×(List Int)):Option (LO (Int×(List Int))):=bif decide (s10.1 ≥ 1) then (Am s10.2 s10.1).bind fun x7=>(Am s10.2 (wi .i64 (s10.1 - 1))).bind fun x8=>(Fh x7 x8).bind fun y2=>bif !y2 then some (LO.exit 4 (s10.1,s10.2)) else (Am s10.2 (wi .i64 (s10.1 - 1))).bind fun x9=>(Am s10.2 s10.1).bind fun x10=>(Am s10.2 s10.1).bind fun x11=>(Am (s10.2.set (Int.toNat s10.1) x9) (wi .i64 (s10.1 - 1))).bind fun x12=>some (LO.norm (wi .i64 (s10.1 - 1),(s10.2.set (Int.toNat s10.1) x9).set (Int.toNat (wi .i64 (s10.1 - 1))) x10)) else some (LO.exit 4 (s10.1,s10.2))
def N4 (a2:Int) (s13:Int×(List Int)):Option (LO (Int×(List Int))):=bif decide (s13.1 < a2) then (Am s13.2 s13.1).bind fun x13=>(Am s13.2 (wi .i64 (s13.1 - 1))).bind fun x14=>(Fh x13 x14).bind fun y3=>bif !y3 then some (LO.exit 6 (s13.1,s13.2)) else (Am s13.2 (wi .i64 (s13.1 - 1))).bind fun x15=>(Am s13.2 s13.1).bind fun x16=>(Am s13.2 s13.1).bind fun x17=>(Am (s13.2.set (Int.toNat s13.1) x15) (wi .i64 (s13.1 - 1))).bind fun x18=>some (LO.norm (wi .i64 (s13.1 + 1),(s13.2.set (Int.toNat s13.1) x15).set (Int.toNat (wi .i64 (s13.1 - 1))) x16)) else some (LO.exit 6 (s13.1,s13.2))
def Il (a1:Int) (a2:Int) (s1:Bool×Int×Int×(List Int)):Option (LO (Bool×Int×Int×(List Int))):=bif decide (s1.2.2.1 < 5) then ( (Aq (GM a2 s1) NN s1.2.1).bind (Ac (fun _=>none) (fun i3 s8=>if i3 = 2 then bif s8 == a2 then some (LO.ret (true,s8,s1.2.2.2)) else bif decide ((wi .i64 (a2 - a1)) < 50) then some (LO.ret (false,s8,s1.2.2.2)) else (Am s1.2.2.2 (wi .i64 (s8 - 1))).bind fun x3=>(Am s1.2.2.2 s8).bind fun x4=>(Am s1.2.2.2 s8).bind fun x5=>(Am (s1.2.2.2.set (Int.toNat s8) x3) (wi .i64 (s8 - 1))).bind fun x6=>( bif decide ((wi .i64 (s8 - a1)) ≥ 2) then (Aq (N5) NN (wi .i64 (s8 - 1),(s1.2.2.2.set (Int.toNat s8) x3).set (Int.toNat (wi .i64 (s8 - 1))) x4)).bind (Ac (fun _=>none) (fun i4 s11=>if i4 = 4 then some (LO.norm s11.2) else some (LO.exit i4 s11.2)) (fun s11=>some (LO.ret s11.2))) else some (LO.norm ((s1.2.2.2.set (Int.toNat s8) x3).set (Int.toNat (wi .i64 (s8 - 1))) x4))).bind (Ac (fun s12=>bif decide ((wi .i64 (a2 - s8)) ≥ 2) then (Aq (N4 a2) NN (wi .i64 (s8 + 1),s12)).bind (Ac (fun _=>none) (fun i6 s14=>if i6 = 6 then some (LO.norm (s1.1,s8,s14.2)) else if i6 = 1 then some (LO.norm (s1.1,s8,s14.2)) else some (LO.exit i6 (s1.1,s8,s14.2))) (fun s14=>some (LO.ret (s1.1,s8,s14.2)))) else some (LO.norm (s1.1,s8,s12))) (fun i5 s12=>if i5 = 1 then some (LO.norm (s1.1,s8,s12)) else some (LO.exit i5 (s1.1,s8,s12))) (fun s12=>some (LO.ret (s1.1,s8,s12)))) else if i3 = 1 then some (LO.norm (s1.1,s8,s1.2.2.2)) else some (LO.exit i3 (s1.1,s8,s1.2.2.2))) (fun s8=>some (LO.ret (s1.1,s8,s1.2.2.2))))).bind (Ac (fun s15=>some (LO.norm (s15.1,s15.2.1,wi .i64 (s1.2.2.1 + 1),s15.2.2))) (fun i7 s15=>some (LO.exit i7 (s15.1,s15.2.1,s1.2.2.1,s15.2.2))) (fun s15=>some (LO.ret (s15.1,s15.2.1,s1.2.2.1,s15.2.2)))) else some (LO.exit 0 (s1.1,s1.2.1,s1.2.2.1,s1.2.2.2))
def Oq (a0:List Int) (a1:Int) (a2:Int):Option (Bool×(List Int)):=(Aq (Il a1 a2) NN (false,wi .i64 (a1 + 1),0,a0)).bind (Ac (fun _=>none) (fun i8 s16=>if i8 = 0 then some (false,s16.2.2.2) else none) (fun s16=>some (s16.1,s16.2.2.2)))
theorem w126 {d:Nat} (hd:3≤d) (L0:List En) (v0_:AV) (a0:List Int) (a1:Int) (a2:Int):Okh (sl false v0_ (a0:List Int)::L0) (fun S=>R NN d 126 [v0_,iW a1,iW a2] S) (Oq a0 a1 a2) (P2 (fun (t:Bool×(List Int))=>AV.bool t.1) (fun (t:Bool×(List Int))=>sl false v0_ t.2::L0)):=by
  obtain ⟨d,rfl,g⟩:=up hd
  refine Df (t126 NN d _ _ _) ?_
  unfold X9 Oq
  refine q_p fr<|BE (A:=fun (s:Bool×Int×Int×(List Int))=>[.bool s.1,iW s.2.1,iW s.2.2.1]) (B:=fun s=>sl false v0_ (s.2.2.2:List Int)::L0) 0 rr ?_ ?_ ?_
  ·intro s1
   unfold PH Il
   refine q_p fr<|q_i ?_ ?_
   ·refine AD (A:=fun (s:Bool×Int×(List Int))=>[.bool s.1,iW s.2.1]) (B:=fun s=>sl false v0_ (s.2.2:List Int)::L0) ?_ ?_ ?_ ?_
    ·refine BE (A:=fun (s:Int)=>[iW s]) (B:=fun s=>sl false v0_ (s1.2.2.2:List Int)::L0) 0 rr ?_ ?_ ?_
     ·intro s3
      unfold PM GM
      refine AD (A:=fun (s:Bool)=>[.bool s]) (B:=fun s=>sl false v0_ (s1.2.2.2:List Int)::L0) ?_ ?_ ?_ ?_
      ·refine AD (A:=fun (s:Bool)=>[.bool s]) (B:=fun s=>sl false v0_ (s1.2.2.2:List Int)::L0) ?_ ?_ ?_ ?_
       ·exact q_p fr<|q_k (Ax 0 rfl rfl fun x1 hx1=>AI 0 rfl hx1 rfl<|q_p fr<|Ax 0 rfl rfl fun x2 hx2=>AI 0 rfl hx2 rfl<|A4 (aF2 (Ab rfl) (Ab rfl) fun l0_ l1_=>G1 (by omega) x1 x2) fun y1 hy1=>q_p fr<|Aa 0 rr)<|Aa 0 rr
       ·exact fun s6=>q_i (Aa 0 rr)<|Ai 0 rr
       ·exact fun i1 s6=>Ai 0 rr
       ·exact fun s6=>Ag 0 rr
      ·exact fun s7=>q_p fr<|Aa 0 rr
      ·exact fun i2 s7=>Ai 0 rr
      ·exact fun s7=>Ag 0 rr
     ·intro i3 s8
      refine q_n ?_ ?_
      ·refine q_p fr<|q_i ?_ ?_
       ·exact Ag 0 rr
       ·refine q_p fr<|q_p fr<|q_i ?_ ?_
        ·exact Ag 0 rr
        ·refine q_p fr<|q_p fr<|Ax 0 rfl rfl fun x3 hx3=>AI 0 rfl hx3 rfl<|Ax 0 rfl rfl fun x4 hx4=>AI 0 rfl hx4 rfl<|Ax 0 rfl rfl fun x5 hx5=>Ba (y:=x3) 0 rfl rfl hx5 rfl (by decide)<|Ax 0 rfl rfl fun x6 hx6=>Ba (y:=x4) 0 rfl rfl hx6 rfl (by decide)<|AD (A:=fun (s:(List Int))=>[]) (B:=fun s=>sl false v0_ (s:List Int)::L0) ?_ ?_ ?_ ?_
         ·refine q_p fr<|q_p fr<|q_i ?_ ?_
          ·refine q_p fr<|BE (A:=fun (s:Int×(List Int))=>[iW s.1]) (B:=fun s=>sl false v0_ (s.2:List Int)::L0) 0 rr ?_ ?_ ?_
           ·intro s10
            unfold PL N5
            exact q_p fr<|q_i (Ax 0 rfl rfl fun x7 hx7=>AI 0 rfl hx7 rfl<|q_p fr<|Ax 0 rfl rfl fun x8 hx8=>AI 0 rfl hx8 rfl<|A4 (aF2 (Ab rfl) (Ab rfl) fun l0_ l1_=>G1 (by omega) x7 x8) fun y2 hy2=>q_p fr<|q_i (Ai 0 rr)<|q_p fr<|q_p fr<|Ax 0 rfl rfl fun x9 hx9=>AI 0 rfl hx9 rfl<|Ax 0 rfl rfl fun x10 hx10=>AI 0 rfl hx10 rfl<|Ax 0 rfl rfl fun x11 hx11=>Ba (y:=x9) 0 rfl rfl hx11 rfl (by decide)<|Ax 0 rfl rfl fun x12 hx12=>Ba (y:=x10) 0 rfl rfl hx12 rfl (by decide)<|q_p fr<|Aa 0 rr)<|Ai 0 rr
           ·exact fun i4 s11=>q_n (Aa 0 rr)<|Ai 0 rr
           ·exact fun s11=>Ag 0 rr
          ·exact Aa 0 rr
         ·intro s12
          refine q_p fr<|q_p fr<|q_i ?_ ?_
          ·refine q_p fr<|BE (A:=fun (s:Int×(List Int))=>[iW s.1]) (B:=fun s=>sl false v0_ (s.2:List Int)::L0) 0 rr ?_ ?_ ?_
           ·intro s13
            unfold PK N4
            exact q_p fr<|q_i (Ax 0 rfl rfl fun x13 hx13=>AI 0 rfl hx13 rfl<|q_p fr<|Ax 0 rfl rfl fun x14 hx14=>AI 0 rfl hx14 rfl<|A4 (aF2 (Ab rfl) (Ab rfl) fun l0_ l1_=>G1 (by omega) x13 x14) fun y3 hy3=>q_p fr<|q_i (Ai 0 rr)<|q_p fr<|q_p fr<|Ax 0 rfl rfl fun x15 hx15=>AI 0 rfl hx15 rfl<|Ax 0 rfl rfl fun x16 hx16=>AI 0 rfl hx16 rfl<|Ax 0 rfl rfl fun x17 hx17=>Ba (y:=x15) 0 rfl rfl hx17 rfl (by decide)<|Ax 0 rfl rfl fun x18 hx18=>Ba (y:=x16) 0 rfl rfl hx18 rfl (by decide)<|q_p fr<|Aa 0 rr)<|Ai 0 rr
           ·exact fun i6 s14=>q_n (Aa 0 rr)<|q_n (Aa 0 rr)<|Ai 0 rr
           ·exact fun s14=>Ag 0 rr
          ·exact Aa 0 rr
         ·exact fun i5 s12=>q_n (Aa 0 rr)<|Ai 0 rr
         ·exact fun s12=>Ag 0 rr
      ·exact q_n (Aa 0 rr)<|Ai 0 rr
     ·exact fun s8=>Ag 0 rr
    ·exact fun s15=>q_p fr<|Aa 0 rr
    ·exact fun i7 s15=>Ai 0 rr
    ·exact fun s15=>Ag 0 rr
   ·exact Ai 0 rr
  ·exact fun i8 s16=>q_n (AK 0 rfl rfl)<|Ao
  ·exact fun s16=>AK 0 rfl rfl
def GL (a1:Int) (s1:Int×Int×(List Int)) (s2:Int):Option (LO (Int)):=( ( bif decide (s2≤s1.2.1) then (Am s1.2.2 a1).bind fun x5=>(Am s1.2.2 s2).bind fun x6=>(Fh x5 x6).bind fun y1=>some (LO.norm (!y1)) else some (LO.norm false)).bind (Ac (fun s5=>bif s5 then some (LO.norm s5) else some (LO.exit 2 s5)) (fun i1 s5=>some (LO.exit i1 s5)) (fun s5=>some (LO.ret s5)))).bind (Ac (fun s6=>some (LO.norm (wi .i64 (s2 + 1)))) (fun i2 s6=>some (LO.exit i2 s2)) (fun s6=>some (LO.ret s2)))
def GK (a1:Int) (s1:Int×Int×(List Int)) (s7:Int) (s8:Int):Option (LO (Int)):=( ( bif decide (s7≤s8) then (Am s1.2.2 a1).bind fun x7=>(Am s1.2.2 s8).bind fun x8=>(Fh x7 x8).bind fun y2=>some (LO.norm y2) else some (LO.norm false)).bind (Ac (fun s11=>bif s11 then some (LO.norm s11) else some (LO.exit 4 s11)) (fun i4 s11=>some (LO.exit i4 s11)) (fun s11=>some (LO.ret s11)))).bind (Ac (fun s12=>some (LO.norm (wi .i64 (s8 - 1)))) (fun i5 s12=>some (LO.exit i5 s8)) (fun s12=>some (LO.ret s8)))
def FO (a1:Int) (s1:Int×Int×(List Int)):Option (LO (Int×Int×(List Int))):=(Aq (GL a1 s1) NN s1.1).bind (Ac (fun _=>none) (fun i3 s7=>if i3 = 2 then (Aq (GK a1 s1 s7) NN s1.2.1).bind (Ac (fun _=>none) (fun i6 s13=>if i6 = 4 then bif decide (s7 > s13) then some (LO.exit 0 (s7,s13,s1.2.2)) else (Am s1.2.2 s13).bind fun x9=>(Am s1.2.2 s7).bind fun x10=>(Am s1.2.2 s7).bind fun x11=>(Am (s1.2.2.set (Int.toNat s7) x9) s13).bind fun x12=>some (LO.norm (wi .i64 (s7 + 1),wi .i64 (s13 - 1),(s1.2.2.set (Int.toNat s7) x9).set (Int.toNat s13) x10)) else if i6 = 1 then some (LO.norm (s7,s13,s1.2.2)) else some (LO.exit i6 (s7,s13,s1.2.2))) (fun s13=>some (LO.ret (s7,s13,s1.2.2)))) else if i3 = 1 then some (LO.norm (s7,s1.2.1,s1.2.2)) else some (LO.exit i3 (s7,s1.2.1,s1.2.2))) (fun s7=>some (LO.ret (s7,s1.2.1,s1.2.2))))
def Oo (a0:List Int) (a1:Int) (a2:Int) (a3:Int):Option (Int×(List Int)):=(Am a0 a3).bind fun x1=>(Am a0 a1).bind fun x2=>(Am a0 a1).bind fun x3=>(Am (a0.set (Int.toNat a1) x1) a3).bind fun x4=>(Aq (FO a1) NN (wi .i64 (a1 + 1),wi .i64 (a2 - 1),(a0.set (Int.toNat a1) x1).set (Int.toNat a3) x2)).bind (Ac (fun _=>none) (fun i7 s14=>if i7 = 0 then some (s14.1,s14.2.2) else none) (fun s14=>some (0,s14.2.2)))
theorem w128 {d:Nat} (hd:3≤d) (L0:List En) (v0_:AV) (a0:List Int) (a1:Int) (a2:Int) (a3:Int):Okh (sl false v0_ (a0:List Int)::L0) (fun S=>R NN d 128 [v0_,iW a1,iW a2,iW a3] S) (Oo a0 a1 a2 a3) (P2 (fun (t:Int×(List Int))=>AV.int .i64 t.1) (fun (t:Int×(List Int))=>sl false v0_ t.2::L0)):=by
  obtain ⟨d,rfl,g⟩:=up hd
  refine Df (t128 NN d _ _ _ _) ?_
  unfold X7 Oo
  refine Ax 0 rfl rfl fun x1 hx1=>AI 0 rfl hx1 rfl<|Ax 0 rfl rfl fun x2 hx2=>AI 0 rfl hx2 rfl<|Ax 0 rfl rfl fun x3 hx3=>Ba (y:=x1) 0 rfl rfl hx3 rfl (by decide)<|Ax 0 rfl rfl fun x4 hx4=>Ba (y:=x2) 0 rfl rfl hx4 rfl (by decide)<|q_p fr<|q_p fr<|BE (A:=fun (s:Int×Int×(List Int))=>[iW s.1,iW s.2.1]) (B:=fun s=>sl false v0_ (s.2.2:List Int)::L0) 0 rr ?_ ?_ ?_
  ·intro s1
   unfold PD FO
   refine BE (A:=fun (s:Int)=>[iW s]) (B:=fun s=>sl false v0_ (s1.2.2:List Int)::L0) 0 rr ?_ ?_ ?_
   ·intro s2
    unfold PG GL
    refine AD (A:=fun (s:Bool)=>[.bool s]) (B:=fun s=>sl false v0_ (s1.2.2:List Int)::L0) ?_ ?_ ?_ ?_
    ·refine AD (A:=fun (s:Bool)=>[.bool s]) (B:=fun s=>sl false v0_ (s1.2.2:List Int)::L0) ?_ ?_ ?_ ?_
     ·exact q_p fr<|q_k (Ax 0 rfl rfl fun x5 hx5=>AI 0 rfl hx5 rfl<|Ax 0 rfl rfl fun x6 hx6=>AI 0 rfl hx6 rfl<|A4 (aF2 (Ab rfl) (Ab rfl) fun l0_ l1_=>G1 (by omega) x5 x6) fun y1 hy1=>q_p fr<|Aa 0 rr)<|Aa 0 rr
     ·exact fun s5=>q_i (Aa 0 rr)<|Ai 0 rr
     ·exact fun i1 s5=>Ai 0 rr
     ·exact fun s5=>Ag 0 rr
    ·exact fun s6=>q_p fr<|Aa 0 rr
    ·exact fun i2 s6=>Ai 0 rr
    ·exact fun s6=>Ag 0 rr
   ·intro i3 s7
    refine q_n ?_ ?_
    ·refine BE (A:=fun (s:Int)=>[iW s]) (B:=fun s=>sl false v0_ (s1.2.2:List Int)::L0) 0 rr ?_ ?_ ?_
     ·intro s8
      unfold PE GK
      refine AD (A:=fun (s:Bool)=>[.bool s]) (B:=fun s=>sl false v0_ (s1.2.2:List Int)::L0) ?_ ?_ ?_ ?_
      ·refine AD (A:=fun (s:Bool)=>[.bool s]) (B:=fun s=>sl false v0_ (s1.2.2:List Int)::L0) ?_ ?_ ?_ ?_
       ·exact q_p fr<|q_k (Ax 0 rfl rfl fun x7 hx7=>AI 0 rfl hx7 rfl<|Ax 0 rfl rfl fun x8 hx8=>AI 0 rfl hx8 rfl<|A4 (aF2 (Ab rfl) (Ab rfl) fun l0_ l1_=>G1 (by omega) x7 x8) fun y2 hy2=>Aa 0 rr)<|Aa 0 rr
       ·exact fun s11=>q_i (Aa 0 rr)<|Ai 0 rr
       ·exact fun i4 s11=>Ai 0 rr
       ·exact fun s11=>Ag 0 rr
      ·exact fun s12=>q_p fr<|Aa 0 rr
      ·exact fun i5 s12=>Ai 0 rr
      ·exact fun s12=>Ag 0 rr
     ·exact fun i6 s13=>q_n (q_p fr<|q_i (Ai 0 rr)<|Ax 0 rfl rfl fun x9 hx9=>AI 0 rfl hx9 rfl<|Ax 0 rfl rfl fun x10 hx10=>AI 0 rfl hx10 rfl<|Ax 0 rfl rfl fun x11 hx11=>Ba (y:=x9) 0 rfl rfl hx11 rfl (by decide)<|Ax 0 rfl rfl fun x12 hx12=>Ba (y:=x10) 0 rfl rfl hx12 rfl (by decide)<|q_p fr<|q_p fr<|Aa 0 rr)<|q_n (Aa 0 rr)<|Ai 0 rr
     ·exact fun s13=>Ag 0 rr
    ·exact q_n (Aa 0 rr)<|Ai 0 rr
   ·exact fun s7=>Ag 0 rr
  ·exact fun i7 s14=>q_n (AK 0 rfl rfl)<|Ao
  ·exact fun s14=>AK 0 rfl rfl
def GI (a0:List Int) (a1:Int) (a2:Int) (a3:Int) (x1:Int) (x2:Int) (s1:Int):Option (LO (Int)):=( ( bif decide (s1≤(wi .i64 (a2 - 1))) then (Am ((a0.set (Int.toNat a1) x1).set (Int.toNat a3) x2) s1).bind fun x5=>(Am ((a0.set (Int.toNat a1) x1).set (Int.toNat a3) x2) a1).bind fun x6=>(Fh x5 x6).bind fun y1=>some (LO.norm y1) else some (LO.norm false)).bind (Ac (fun s4=>bif s4 then some (LO.norm s4) else some (LO.exit 0 s4)) (fun i1 s4=>some (LO.exit i1 s4)) (fun s4=>some (LO.ret s4)))).bind (Ac (fun s5=>some (LO.norm (wi .i64 (s1 + 1)))) (fun i2 s5=>some (LO.exit i2 s1)) (fun s5=>some (LO.ret s1)))
def GH (a0:List Int) (a1:Int) (a3:Int) (s6:Int) (x1:Int) (x2:Int) (s7:Int):Option (LO (Int)):=( ( bif decide (s6≤s7) then (Am ((a0.set (Int.toNat a1) x1).set (Int.toNat a3) x2) s7).bind fun x7=>(Am ((a0.set (Int.toNat a1) x1).set (Int.toNat a3) x2) a1).bind fun x8=>(Fh x7 x8).bind fun y2=>some (LO.norm (!y2)) else some (LO.norm false)).bind (Ac (fun s10=>bif s10 then some (LO.norm s10) else some (LO.exit 2 s10)) (fun i4 s10=>some (LO.exit i4 s10)) (fun s10=>some (LO.ret s10)))).bind (Ac (fun s11=>some (LO.norm (wi .i64 (s7 - 1)))) (fun i5 s11=>some (LO.exit i5 s7)) (fun s11=>some (LO.ret s7)))
def GG (a1:Int) (s13:Int×Int×(List Int)) (s14:Int):Option (LO (Int)):=( ( bif decide (s14≤s13.2.1) then (Am s13.2.2 s14).bind fun x17=>(Am s13.2.2 a1).bind fun x18=>(Fh x17 x18).bind fun y3=>some (LO.norm y3) else some (LO.norm false)).bind (Ac (fun s17=>bif s17 then some (LO.norm s17) else some (LO.exit 6 s17)) (fun i7 s17=>some (LO.exit i7 s17)) (fun s17=>some (LO.ret s17)))).bind (Ac (fun s18=>some (LO.norm (wi .i64 (s14 + 1)))) (fun i8 s18=>some (LO.exit i8 s14)) (fun s18=>some (LO.ret s14)))
def GF (a1:Int) (s13:Int×Int×(List Int)) (s19:Int) (s20:Int):Option (LO (Int)):=( ( bif decide (s19≤s20) then (Am s13.2.2 s20).bind fun x19=>(Am s13.2.2 a1).bind fun x20=>(Fh x19 x20).bind fun y4=>some (LO.norm (!y4)) else some (LO.norm false)).bind (Ac (fun s23=>bif s23 then some (LO.norm s23) else some (LO.exit 8 s23)) (fun i10 s23=>some (LO.exit i10 s23)) (fun s23=>some (LO.ret s23)))).bind (Ac (fun s24=>some (LO.norm (wi .i64 (s20 - 1)))) (fun i11 s24=>some (LO.exit i11 s20)) (fun s24=>some (LO.ret s20)))
def FN (a1:Int) (s13:Int×Int×(List Int)):Option (LO (Int×Int×(List Int))):=(Aq (GG a1 s13) NN s13.1).bind (Ac (fun _=>none) (fun i9 s19=>if i9 = 6 then (Aq (GF a1 s13 s19) NN s13.2.1).bind (Ac (fun _=>none) (fun i12 s25=>if i12 = 8 then bif decide (s19 > s25) then some (LO.exit 4 (s19,s25,s13.2.2)) else (Am s13.2.2 s25).bind fun x21=>(Am s13.2.2 s19).bind fun x22=>(Am s13.2.2 s19).bind fun x23=>(Am (s13.2.2.set (Int.toNat s19) x21) s25).bind fun x24=>some (LO.norm (wi .i64 (s19 + 1),wi .i64 (s25 - 1),(s13.2.2.set (Int.toNat s19) x21).set (Int.toNat s25) x22)) else if i12 = 5 then some (LO.norm (s19,s25,s13.2.2)) else some (LO.exit i12 (s19,s25,s13.2.2))) (fun s25=>some (LO.ret (s19,s25,s13.2.2)))) else if i9 = 5 then some (LO.norm (s19,s13.2.1,s13.2.2)) else some (LO.exit i9 (s19,s13.2.1,s13.2.2))) (fun s19=>some (LO.ret (s19,s13.2.1,s13.2.2))))
def On (a0:List Int) (a1:Int) (a2:Int) (a3:Int):Option (Int×Bool×(List Int)):=(Am a0 a3).bind fun x1=>(Am a0 a1).bind fun x2=>(Am a0 a1).bind fun x3=>(Am (a0.set (Int.toNat a1) x1) a3).bind fun x4=>(Aq (GI a0 a1 a2 a3 x1 x2) NN (wi .i64 (a1 + 1))).bind (Ac (fun _=>none) (fun i3 s6=>if i3 = 0 then (Aq (GH a0 a1 a3 s6 x1 x2) NN (wi .i64 (a2 - 1))).bind (Ac (fun _=>none) (fun i6 s12=>if i6 = 2 then bif decide (s6 > s12) then (Am ((a0.set (Int.toNat a1) x1).set (Int.toNat a3) x2) a1).bind fun x9=>(Am ((a0.set (Int.toNat a1) x1).set (Int.toNat a3) x2) s12).bind fun x10=>(Am ((a0.set (Int.toNat a1) x1).set (Int.toNat a3) x2) s12).bind fun x11=>(Am (((a0.set (Int.toNat a1) x1).set (Int.toNat a3) x2).set (Int.toNat s12) x9) a1).bind fun x12=>some (s12,true,(((a0.set (Int.toNat a1) x1).set (Int.toNat a3) x2).set (Int.toNat s12) x9).set (Int.toNat a1) x10) else (Am ((a0.set (Int.toNat a1) x1).set (Int.toNat a3) x2) s12).bind fun x13=>(Am ((a0.set (Int.toNat a1) x1).set (Int.toNat a3) x2) s6).bind fun x14=>(Am ((a0.set (Int.toNat a1) x1).set (Int.toNat a3) x2) s6).bind fun x15=>(Am (((a0.set (Int.toNat a1) x1).set (Int.toNat a3) x2).set (Int.toNat s6) x13) s12).bind fun x16=>(Aq (FN a1) NN (wi .i64 (s6 + 1),wi .i64 (s12 - 1),(((a0.set (Int.toNat a1) x1).set (Int.toNat a3) x2).set (Int.toNat s6) x13).set (Int.toNat s12) x14)).bind (Ac (fun _=>none) (fun i13 s26=>if i13 = 4 then (Am s26.2.2 a1).bind fun x25=>(Am s26.2.2 s26.2.1).bind fun x26=>(Am s26.2.2 s26.2.1).bind fun x27=>(Am (s26.2.2.set (Int.toNat s26.2.1) x25) a1).bind fun x28=>some (s26.2.1,false,(s26.2.2.set (Int.toNat s26.2.1) x25).set (Int.toNat a1) x26) else none) (fun s26=>some (0,false,s26.2.2))) else none) (fun s12=>some (0,false,(a0.set (Int.toNat a1) x1).set (Int.toNat a3) x2))) else none) (fun s6=>some (0,false,(a0.set (Int.toNat a1) x1).set (Int.toNat a3) x2)))
theorem w129 {d:Nat} (hd:3≤d) (L0:List En) (v0_:AV) (a0:List Int) (a1:Int) (a2:Int) (a3:Int):Okh (sl false v0_ (a0:List Int)::L0) (fun S=>R NN d 129 [v0_,iW a1,iW a2,iW a3] S) (On a0 a1 a2 a3) (P2 (fun (t:Int×Bool×(List Int))=>AV.tup [iW t.1,.bool t.2.1]) (fun (t:Int×Bool×(List Int))=>sl false v0_ t.2.2::L0)):=by
  obtain ⟨d,rfl,g⟩:=up hd
  refine Df (t129 NN d _ _ _ _) ?_
  unfold X6 On
  refine Ax 0 rfl rfl fun x1 hx1=>AI 0 rfl hx1 rfl<|Ax 0 rfl rfl fun x2 hx2=>AI 0 rfl hx2 rfl<|Ax 0 rfl rfl fun x3 hx3=>Ba (y:=x1) 0 rfl rfl hx3 rfl (by decide)<|Ax 0 rfl rfl fun x4 hx4=>Ba (y:=x2) 0 rfl rfl hx4 rfl (by decide)<|q_p fr<|q_p fr<|BE (A:=fun (s:Int)=>[iW s]) (B:=fun s=>sl false v0_ ((a0.set (Int.toNat a1) x1).set (Int.toNat a3) x2:List Int)::L0) 0 rr ?_ ?_ ?_
  ·intro s1
   unfold PC GI
   refine AD (A:=fun (s:Bool)=>[.bool s]) (B:=fun s=>sl false v0_ ((a0.set (Int.toNat a1) x1).set (Int.toNat a3) x2:List Int)::L0) ?_ ?_ ?_ ?_
   ·refine AD (A:=fun (s:Bool)=>[.bool s]) (B:=fun s=>sl false v0_ ((a0.set (Int.toNat a1) x1).set (Int.toNat a3) x2:List Int)::L0) ?_ ?_ ?_ ?_
    ·exact q_p fr<|q_k (Ax 0 rfl rfl fun x5 hx5=>AI 0 rfl hx5 rfl<|Ax 0 rfl rfl fun x6 hx6=>AI 0 rfl hx6 rfl<|A4 (aF2 (Ab rfl) (Ab rfl) fun l0_ l1_=>G1 (by omega) x5 x6) fun y1 hy1=>Aa 0 rr)<|Aa 0 rr
    ·exact fun s4=>q_i (Aa 0 rr)<|Ai 0 rr
    ·exact fun i1 s4=>Ai 0 rr
    ·exact fun s4=>Ag 0 rr
   ·exact fun s5=>q_p fr<|Aa 0 rr
   ·exact fun i2 s5=>Ai 0 rr
   ·exact fun s5=>Ag 0 rr
  ·intro i3 s6
   refine q_n ?_ ?_
   ·refine BE (A:=fun (s:Int)=>[iW s]) (B:=fun s=>sl false v0_ ((a0.set (Int.toNat a1) x1).set (Int.toNat a3) x2:List Int)::L0) 0 rr ?_ ?_ ?_
    ·intro s7
     unfold P9 GH
     refine AD (A:=fun (s:Bool)=>[.bool s]) (B:=fun s=>sl false v0_ ((a0.set (Int.toNat a1) x1).set (Int.toNat a3) x2:List Int)::L0) ?_ ?_ ?_ ?_
     ·refine AD (A:=fun (s:Bool)=>[.bool s]) (B:=fun s=>sl false v0_ ((a0.set (Int.toNat a1) x1).set (Int.toNat a3) x2:List Int)::L0) ?_ ?_ ?_ ?_
      ·exact q_p fr<|q_k (Ax 0 rfl rfl fun x7 hx7=>AI 0 rfl hx7 rfl<|Ax 0 rfl rfl fun x8 hx8=>AI 0 rfl hx8 rfl<|A4 (aF2 (Ab rfl) (Ab rfl) fun l0_ l1_=>G1 (by omega) x7 x8) fun y2 hy2=>q_p fr<|Aa 0 rr)<|Aa 0 rr
      ·exact fun s10=>q_i (Aa 0 rr)<|Ai 0 rr
      ·exact fun i4 s10=>Ai 0 rr
      ·exact fun s10=>Ag 0 rr
     ·exact fun s11=>q_p fr<|Aa 0 rr
     ·exact fun i5 s11=>Ai 0 rr
     ·exact fun s11=>Ag 0 rr
    ·intro i6 s12
     refine q_n ?_ ?_
     ·refine q_p fr<|q_i ?_ ?_
      ·exact Ax 0 rfl rfl fun x9 hx9=>AI 0 rfl hx9 rfl<|Ax 0 rfl rfl fun x10 hx10=>AI 0 rfl hx10 rfl<|Ax 0 rfl rfl fun x11 hx11=>Ba (y:=x9) 0 rfl rfl hx11 rfl (by decide)<|Ax 0 rfl rfl fun x12 hx12=>Ba (y:=x10) 0 rfl rfl hx12 rfl (by decide)<|AK 0 rfl rfl
      ·refine Ax 0 rfl rfl fun x13 hx13=>AI 0 rfl hx13 rfl<|Ax 0 rfl rfl fun x14 hx14=>AI 0 rfl hx14 rfl<|Ax 0 rfl rfl fun x15 hx15=>Ba (y:=x13) 0 rfl rfl hx15 rfl (by decide)<|Ax 0 rfl rfl fun x16 hx16=>Ba (y:=x14) 0 rfl rfl hx16 rfl (by decide)<|q_p fr<|q_p fr<|BE (A:=fun (s:Int×Int×(List Int))=>[iW s.1,iW s.2.1]) (B:=fun s=>sl false v0_ (s.2.2:List Int)::L0) 0 rr ?_ ?_ ?_
       ·intro s13
        unfold Pz FN
        refine BE (A:=fun (s:Int)=>[iW s]) (B:=fun s=>sl false v0_ (s13.2.2:List Int)::L0) 0 rr ?_ ?_ ?_
        ·intro s14
         unfold P6 GG
         refine AD (A:=fun (s:Bool)=>[.bool s]) (B:=fun s=>sl false v0_ (s13.2.2:List Int)::L0) ?_ ?_ ?_ ?_
         ·refine AD (A:=fun (s:Bool)=>[.bool s]) (B:=fun s=>sl false v0_ (s13.2.2:List Int)::L0) ?_ ?_ ?_ ?_
          ·exact q_p fr<|q_k (Ax 0 rfl rfl fun x17 hx17=>AI 0 rfl hx17 rfl<|Ax 0 rfl rfl fun x18 hx18=>AI 0 rfl hx18 rfl<|A4 (aF2 (Ab rfl) (Ab rfl) fun l0_ l1_=>G1 (by omega) x17 x18) fun y3 hy3=>Aa 0 rr)<|Aa 0 rr
          ·exact fun s17=>q_i (Aa 0 rr)<|Ai 0 rr
          ·exact fun i7 s17=>Ai 0 rr
          ·exact fun s17=>Ag 0 rr
         ·exact fun s18=>q_p fr<|Aa 0 rr
         ·exact fun i8 s18=>Ai 0 rr
         ·exact fun s18=>Ag 0 rr
        ·intro i9 s19
         refine q_n ?_ ?_
         ·refine BE (A:=fun (s:Int)=>[iW s]) (B:=fun s=>sl false v0_ (s13.2.2:List Int)::L0) 0 rr ?_ ?_ ?_
          ·intro s20
           unfold P4 GF
           refine AD (A:=fun (s:Bool)=>[.bool s]) (B:=fun s=>sl false v0_ (s13.2.2:List Int)::L0) ?_ ?_ ?_ ?_
           ·refine AD (A:=fun (s:Bool)=>[.bool s]) (B:=fun s=>sl false v0_ (s13.2.2:List Int)::L0) ?_ ?_ ?_ ?_
            ·exact q_p fr<|q_k (Ax 0 rfl rfl fun x19 hx19=>AI 0 rfl hx19 rfl<|Ax 0 rfl rfl fun x20 hx20=>AI 0 rfl hx20 rfl<|A4 (aF2 (Ab rfl) (Ab rfl) fun l0_ l1_=>G1 (by omega) x19 x20) fun y4 hy4=>q_p fr<|Aa 0 rr)<|Aa 0 rr
            ·exact fun s23=>q_i (Aa 0 rr)<|Ai 0 rr
            ·exact fun i10 s23=>Ai 0 rr
            ·exact fun s23=>Ag 0 rr
           ·exact fun s24=>q_p fr<|Aa 0 rr
           ·exact fun i11 s24=>Ai 0 rr
           ·exact fun s24=>Ag 0 rr
          ·exact fun i12 s25=>q_n (q_p fr<|q_i (Ai 0 rr)<|Ax 0 rfl rfl fun x21 hx21=>AI 0 rfl hx21 rfl<|Ax 0 rfl rfl fun x22 hx22=>AI 0 rfl hx22 rfl<|Ax 0 rfl rfl fun x23 hx23=>Ba (y:=x21) 0 rfl rfl hx23 rfl (by decide)<|Ax 0 rfl rfl fun x24 hx24=>Ba (y:=x22) 0 rfl rfl hx24 rfl (by decide)<|q_p fr<|q_p fr<|Aa 0 rr)<|q_n (Aa 0 rr)<|Ai 0 rr
          ·exact fun s25=>Ag 0 rr
         ·exact q_n (Aa 0 rr)<|Ai 0 rr
        ·exact fun s19=>Ag 0 rr
       ·exact fun i13 s26=>q_n (Ax 0 rfl rfl fun x25 hx25=>AI 0 rfl hx25 rfl<|Ax 0 rfl rfl fun x26 hx26=>AI 0 rfl hx26 rfl<|Ax 0 rfl rfl fun x27 hx27=>Ba (y:=x25) 0 rfl rfl hx27 rfl (by decide)<|Ax 0 rfl rfl fun x28 hx28=>Ba (y:=x26) 0 rfl rfl hx28 rfl (by decide)<|AK 0 rfl rfl)<|Ao
       ·exact fun s26=>AK 0 rfl rfl
     ·exact Ao
    ·exact fun s12=>AK 0 rfl rfl
   ·exact Ao
  ·exact fun s6=>AK 0 rfl rfl
def GU (rec_:(List Int)→Int→Int→Int→Option ((List Int))) (s1:Int×Int×Int×Bool×Bool×(List Int)):Option (LO (Int×Int×Int×Bool×Bool×(List Int))):=bif decide ((wi .i64 (s1.2.1 - s1.1))≤12) then (Ox s1.2.2.2.2.2 s1.1 s1.2.1).bind fun y1=>some (LO.ret (s1.1,s1.2.1,s1.2.2.1,s1.2.2.2.1,s1.2.2.2.2.1,y1)) else bif s1.2.2.1 == 0 then (Ov s1.2.2.2.2.2 s1.1 s1.2.1).bind fun y2=>some (LO.ret (s1.1,s1.2.1,s1.2.2.1,s1.2.2.2.1,s1.2.2.2.2.1,y2)) else ( bif !s1.2.2.2.1 then (Ou s1.2.2.2.2.2 s1.1 s1.2.1).bind fun y3=>some (LO.norm (wi .i64 (s1.2.2.1 - 1),y3)) else some (LO.norm (s1.2.2.1,s1.2.2.2.2.2))).bind (Ac (fun s3=>(QX s3.2 s1.1 s1.2.1).bind fun y4=>( bif y4.2 == 2 then (Ot s3.2 s1.1 s1.2.1).bind fun y5=>some (LO.norm (wi .i64 ((wi .i64 (s1.2.1 - 1)) - (wi .i64 (y4.1 - s1.1))),1,y5)) else some (LO.norm (y4.1,y4.2,s3.2))).bind (Ac (fun s5=>( ( bif s1.2.2.2.1 then bif s1.2.2.2.2.1 then some (LO.norm (s5.2.1 == 1)) else some (LO.norm false) else some (LO.norm false)).bind (Ac (fun s8=>bif s8 then (Oq s5.2.2 s1.1 s1.2.1).bind fun y6=>bif y6.1 then some (LO.ret y6.2) else some (LO.norm y6.2) else some (LO.norm s5.2.2)) (fun i3 s8=>some (LO.exit i3 s5.2.2)) (fun s8=>some (LO.ret s5.2.2)))).bind (Ac (fun s9=>( bif decide (s1.1 > 0) then (Am s9 (wi .i64 (s1.1 - 1))).bind fun x1=>(Am s9 s5.1).bind fun x2=>(Fh x1 x2).bind fun y7=>bif !y7 then (Oo s9 s1.1 s1.2.1 s5.1).bind fun y8=>some (LO.exit 1 (y8.1,y8.2)) else some (LO.norm (s1.1,s9)) else some (LO.norm (s1.1,s9))).bind (Ac (fun s11=>(On s11.2 s11.1 s1.2.1 s5.1).bind fun y9=>bif decide ((wi .i64 (y9.1 - s11.1)) < (wi .i64 (s1.2.1 - y9.1))) then (rec_ y9.2.2 s11.1 y9.1 s3.1).bind fun y10=>some (LO.norm (wi .i64 (y9.1 + 1),s1.2.1,s3.1,decide ((wi .i64 (y9.1 - s11.1)) ≥ (wi .i64 (Int.tdiv (wi .i64 (s1.2.1 - s1.1)) 8))),y9.2.1,y10)) else (rec_ y9.2.2 (wi .i64 (y9.1 + 1)) s1.2.1 s3.1).bind fun y11=>some (LO.norm (s11.1,y9.1,s3.1,decide ((wi .i64 (s1.2.1 - y9.1)) ≥ (wi .i64 (Int.tdiv (wi .i64 (s1.2.1 - s1.1)) 8))),y9.2.1,y11))) (fun i5 s11=>if i5 = 1 then some (LO.norm (s11.1,s1.2.1,s3.1,s1.2.2.2.1,s1.2.2.2.2.1,s11.2)) else some (LO.exit i5 (s11.1,s1.2.1,s3.1,s1.2.2.2.1,s1.2.2.2.2.1,s11.2))) (fun s11=>some (LO.ret (s11.1,s1.2.1,s3.1,s1.2.2.2.1,s1.2.2.2.2.1,s11.2))))) (fun i4 s9=>if i4 = 1 then some (LO.norm (s1.1,s1.2.1,s3.1,s1.2.2.2.1,s1.2.2.2.2.1,s9)) else some (LO.exit i4 (s1.1,s1.2.1,s3.1,s1.2.2.2.1,s1.2.2.2.2.1,s9))) (fun s9=>some (LO.ret (s1.1,s1.2.1,s3.1,s1.2.2.2.1,s1.2.2.2.2.1,s9))))) (fun i2 s5=>if i2 = 1 then some (LO.norm (s1.1,s1.2.1,s3.1,s1.2.2.2.1,s1.2.2.2.2.1,s5.2.2)) else some (LO.exit i2 (s1.1,s1.2.1,s3.1,s1.2.2.2.1,s1.2.2.2.2.1,s5.2.2))) (fun s5=>some (LO.ret (s1.1,s1.2.1,s3.1,s1.2.2.2.1,s1.2.2.2.2.1,s5.2.2))))) (fun i1 s3=>if i1 = 1 then some (LO.norm (s1.1,s1.2.1,s3.1,s1.2.2.2.1,s1.2.2.2.2.1,s3.2)) else some (LO.exit i1 (s1.1,s1.2.1,s3.1,s1.2.2.2.1,s1.2.2.2.2.1,s3.2))) (fun s3=>some (LO.ret (s1.1,s1.2.1,s3.1,s1.2.2.2.1,s1.2.2.2.2.1,s3.2))))
def LE (rec_:(List Int)→Int→Int→Int→Option ((List Int))) (a0:List Int) (a1:Int) (a2:Int) (a3:Int):Option ((List Int)):=(Aq (GU rec_) NN (a1,a2,a3,true,true,a0)).bind (Ac (fun _=>none) (fun i6 s12=>if i6 = 0 then some s12.2.2.2.2.2 else none) (fun s12=>some s12.2.2.2.2.2))
def LF (n:Nat):(List Int)→Int→Int→Int→Option ((List Int)):=Nat.rec (fun _ _ _ _=>none) (fun _ ih=>LE ih) n
theorem WG:∀ (n d:Nat) (hd:n + 71≤d) (L0:List En) (v0_:AV) (a0:List Int) (a1:Int) (a2:Int) (a3:Int),Okh (sl false v0_ (a0:List Int)::L0) (fun S=>R NN d 112 [v0_,iW a1,iW a2,iW a3] S) (LF n a0 a1 a2 a3) (P2 (fun (t:(List Int))=>und) (fun (t:(List Int))=>sl false v0_ t::L0))
  | 0,_,_,L0,v0_,a0,a1,a2,a3=>Ao
  | n + 1,d,hd,L0,v0_,a0,a1,a2,a3=>by
    have ih:=WG n
    obtain ⟨d,rfl,g⟩:=up (n:=n + 71) (d:=d) (by omega)
    refine Df (t112 NN d _ _ _ _) ?_
    rw [show LF (n + 1) = LE (LF n) from rfl]
    unfold XM LE
    refine BE (A:=fun (s:Int×Int×Int×Bool×Bool×(List Int))=>[iW s.1,iW s.2.1,iW s.2.2.1,.bool s.2.2.2.1,.bool s.2.2.2.2.1]) (B:=fun s=>sl false v0_ (s.2.2.2.2.2:List Int)::L0) 0 rr ?_ ?_ ?_
    ·intro s1
     unfold Qi GU
     refine q_p fr<|q_p fr<|q_i ?_ ?_
     ·exact q_s (mg:=Ox s1.2.2.2.2.2 s1.1 s1.2.1) (w121 (by omega) _ _ s1.2.2.2.2.2 s1.1 s1.2.1) fun y1 hy1=>Ag 0 rr
     ·refine q_p fr<|q_i ?_ ?_
      ·exact q_s (mg:=Ov s1.2.2.2.2.2 s1.1 s1.2.1) (w122 (by omega) _ _ s1.2.2.2.2.2 s1.1 s1.2.1) fun y2 hy2=>Ag 0 rr
      ·refine AD (A:=fun (s:Int×(List Int))=>[iW s.1]) (B:=fun s=>sl false v0_ (s.2:List Int)::L0) ?_ ?_ ?_ ?_
       ·refine q_p fr<|q_i ?_ ?_
        ·exact q_s (mg:=Ou s1.2.2.2.2.2 s1.1 s1.2.1) (w123 (by omega) _ _ s1.2.2.2.2.2 s1.1 s1.2.1) fun y3 hy3=>q_p fr<|Aa 0 rr
        ·exact Aa 0 rr
       ·intro s3
        refine A4 (aF3 (Jl 0 rfl) (Ab rfl) (Ab rfl) fun l0_ l1_ l2_=>w124 (by omega) l0_ s3.2 s1.1 s1.2.1) fun y4 hy4=>q_q fr<|q_q fr<|AD (A:=fun (s:Int×Int×(List Int))=>[iW s.1,iW s.2.1]) (B:=fun s=>sl false v0_ (s.2.2:List Int)::L0) ?_ ?_ ?_ ?_
        ·refine q_p fr<|q_i ?_ ?_
         ·exact q_s (mg:=Ot s3.2 s1.1 s1.2.1) (w125 (by omega) _ _ s3.2 s1.1 s1.2.1) fun y5 hy5=>q_p fr<|q_p fr<|q_p fr<|Aa 0 rr
         ·exact Aa 0 rr
        ·intro s5
         refine AD (A:=fun (s:(List Int))=>[]) (B:=fun s=>sl false v0_ (s:List Int)::L0) ?_ ?_ ?_ ?_
         ·refine AD (A:=fun (s:Bool)=>[.bool s]) (B:=fun s=>sl false v0_ (s5.2.2:List Int)::L0) ?_ ?_ ?_ ?_
          ·refine q_k ?_ ?_
           ·refine q_k ?_ ?_
            ·exact q_p fr<|Aa 0 rr
            ·exact Aa 0 rr
           ·exact Aa 0 rr
          ·intro s8
           refine q_i ?_ ?_
           ·refine q_s (mg:=Oq s5.2.2 s1.1 s1.2.1) (w126 (by omega) _ _ s5.2.2 s1.1 s1.2.1) fun y6 hy6=>q_i ?_ ?_
            ·exact Ag 0 rr
            ·exact Aa 0 rr
           ·exact Aa 0 rr
          ·intro i3 s8
           exact Ai 0 rr
          ·intro s8
           exact Ag 0 rr
         ·intro s9
          refine AD (A:=fun (s:Int×(List Int))=>[iW s.1]) (B:=fun s=>sl false v0_ (s.2:List Int)::L0) ?_ ?_ ?_ ?_
          ·refine q_p fr<|q_k ?_ ?_
           ·refine q_p fr<|Ax 0 rfl rfl fun x1 hx1=>AI 0 rfl hx1 rfl<|Ax 0 rfl rfl fun x2 hx2=>AI 0 rfl hx2 rfl<|A4 (aF2 (Ab rfl) (Ab rfl) fun l0_ l1_=>G1 (by omega) x1 x2) fun y7 hy7=>q_p fr<|q_i ?_ ?_
            ·exact q_s (mg:=Oo s9 s1.1 s1.2.1 s5.1) (w128 (by omega) _ _ s9 s1.1 s1.2.1 s5.1) fun y8 hy8=>Ai 0 rr
            ·exact Aa 0 rr
           ·first | refine DF ?_ | skip
            exact Aa 0 rr
          ·intro s11
           refine q_s (mg:=On s11.2 s11.1 s1.2.1 s5.1) (w129 (by omega) _ _ s11.2 s11.1 s1.2.1 s5.1) fun y9 hy9=>q_q fr<|q_q fr<|q_p fr<|q_p fr<|q_p fr<|q_p fr<|q_i ?_ ?_
           ·exact q_p fr<|q_s (mg:=(LF n) y9.2.2 s11.1 y9.1 s3.1) (ih d (by omega) _ _ y9.2.2 s11.1 y9.1 s3.1) fun y10 hy10=>q_p fr<|Aa 0 rr
           ·exact q_p fr<|q_p fr<|q_s (mg:=(LF n) y9.2.2 (wi .i64 (y9.1 + 1)) s1.2.1 s3.1) (ih d (by omega) _ _ y9.2.2 (wi .i64 (y9.1 + 1)) s1.2.1 s3.1) fun y11 hy11=>Aa 0 rr
          ·intro i5 s11
           refine q_n ?_ ?_
           ·exact Aa 0 rr
           ·exact Ai 0 rr
          ·intro s11
           exact Ag 0 rr
         ·intro i4 s9
          refine q_n ?_ ?_
          ·exact Aa 0 rr
          ·exact Ai 0 rr
         ·intro s9
          exact Ag 0 rr
        ·intro i2 s5
         refine q_n ?_ ?_
         ·exact Aa 0 rr
         ·exact Ai 0 rr
        ·intro s5
         exact Ag 0 rr
       ·intro i1 s3
        refine q_n ?_ ?_
        ·exact Aa 0 rr
        ·exact Ai 0 rr
       ·intro s3
        exact Ag 0 rr
    ·intro i6 s12
     refine q_n ?_ ?_
     ·exact AK 0 rfl rfl
     ·exact Ao
    ·intro s12
     exact AK 0 rfl rfl
def m93 (a0:List Int):Option ((List Int)):=(Rh (wi .u64 (a0.length:Int))).bind fun y1=>(LF 64 a0 0 (a0.length:Int) y1).bind fun y2=>some y2
theorem w93 {d:Nat} (hd:136≤d) (L0:List En) (v0_:AV) (a0:List Int):Okh (sl false v0_ (a0:List Int)::L0) (fun S=>R NN d 93 [v0_] S) (m93 a0) (P2 (fun (t:(List Int))=>und) (fun (t:(List Int))=>sl false v0_ t::L0)):=by
  obtain ⟨d,rfl,g⟩:=up hd
  refine Df (t93 NN d _) ?_
  unfold b93 m93
  exact Gk 0 rfl<|q_p (fun _=>LV _ _)<|A4 (aF1 (Ab rfl) fun l0_=>WF (by omega) (wi .u64 (a0.length:Int))) fun y1 hy1=>q_s (mg:=LF 64 a0 0 (a0.length:Int) y1) (WG 64 _ (by omega) _ _ a0 0 (a0.length:Int) y1) fun y2 hy2=>AK 0 rfl rfl
def GT (lo n:Int) (s:Int×Int×List Int):Option (LO (Int×Int×List Int)):=bif decide (s.2.1 < n - lo) then ((KO s.2.2 lo n s.2.1).bind fun x1=>(KO s.2.2 lo n (wi .i64 (s.2.1 - 1))).bind fun x2=>bif x1 != x2 then (KO s.2.2 lo n s.2.1).bind fun x3=>(Am s.2.2 s.1).bind fun _=>some (LO.norm (wi .i64 (s.1 + 1),s.2.2.set s.1.toNat x3)) else some (LO.norm (s.1,s.2.2))).bind (Ac (fun s'=>some (LO.norm (s'.1,wi .i64 (s.2.1 + 1),s'.2))) (fun i s'=>some (LO.exit i (s'.1,s.2.1,s'.2))) (fun s'=>some (LO.ret (s'.1,s.2.1,s'.2)))) else some (LO.exit 2 s)
def Is (xs:List Int) (s:Option (List Int)×Int):Option (LO (Option (List Int)×Int)):=
  match s.1 with
  | some _=>none
  | none=>
    bif decide (s.2 < (xs.length:Int)) then
      (Am xs s.2).bind fun x1=>(Am xs (wi .i64 (s.2 - 1))).bind fun x2=>
      bif x1 == x2 then
        (viO xs.length s.2 xs.length).bind fun _=>(Aq (GT s.2 xs.length) NN (s.2,1,xs)).bind (Ac (fun _=>none) (fun i t=>if i = 2 then (viO t.2.2.length t.1 t.2.2.length).bind fun _=>(viO (clr t.2.2 t.1).length 0 t.1).bind fun _=>some (LO.ret (some ((clr t.2.2 t.1).take t.1.toNat),t.1)) else none) (fun _=>none))
      else some (LO.norm (none,wi .i64 (s.2 + 1)))
    else some (LO.exit 0 (none,s.2))
def Oz (xs:List Int):Option (List Int):=
  bif decide ((xs.length:Int) < 2) then some xs
  else (Aq (Is xs) NN (none,1)).bind (Ac (fun _=>none) (fun i s=>if i = 0 then (match s.1 with | none=>some xs | some _=>none) else none) (fun s=>s.1))
theorem V2:Tryz.prog.underlying 35 = some (.slice 2):=by kernel_rfl
theorem Vo:DN Tryz.prog 2 = some (Enc.cs false (0:Int)):=by kernel_rfl
theorem w114 {d:Nat} (hd:1≤d) (L0:List En) (v0_:AV) (a0:List Int):Okh (sl false v0_ a0::L0) (fun S=>R NN d 114 [v0_] S) (Oz a0) (P2 (fun (t:List Int)=>cpv v0_ t.length) (fun (t:List Int)=>cl v0_ t::L0)):=by
  obtain ⟨d,rfl,g⟩:=up hd
  rw [show (fun S=>R NN (d + 1) 114 [v0_] S) = fun S=>Wv (cfg NN) (R NN d) (v0_) S from funext fun S=>t114 NN d v0_ S]
  have hwhole:Okh (sl false v0_ a0::L0) (fun S=>some (v0_,S)) (some a0) (P2 (fun (t:List Int)=>cpv v0_ t.length) (fun (t:List Int)=>cl v0_ t::L0)):=fun S hS t ht=>by
    injection ht with ht; subst ht
    refine ⟨_,rfl,?_,?_⟩
    · rcases hS.get (k:=0) rfl with ⟨rfl,rfl⟩ | ⟨b,fl,pl,rfl,_,_⟩
      · rfl
      · simp [cpv]
    · have h:=q_cl (L0:=L0) (v:=v0_) (xs:=a0) (k:=fun S=>some S) (m:=some ()) (P:=fun _ S'=>HP S' (cl v0_ a0::L0)) (fun S hS t ht=>⟨S,rfl,hS⟩) S hS () rfl
      obtain ⟨S',h1,h2⟩:=h
      injection h1 with h1; subst h1; exact h2
  unfold Wv Oz
  refine Gk 0 rfl ?_
  refine q_p (fun _=>rfl) ?_
  refine VL (fun h1=>?_) (fun h1=>?_)
  · exact hwhole
  · refine BI (I:=(fun (s:Option (List Int)×Int) l L=>match s.1 with | none=>l = [.rsl false true [],iW s.2]∧L = sl false v0_ a0::L0 | some ys=>l = [cpv v0_ ys.length,iW s.2]∧L = cl v0_ ys::L0)) 0 rr ?_ ?_ ?_
    · rintro ⟨s1,k⟩ l L' hI
      cases s1 with
      | some ys=>exact Ao
      | none=>
        obtain ⟨rfl,rfl⟩:=hI
        unfold Qg Is
        refine Gk 0 rfl ?_
        refine q_p (fun _=>rfl) ?_
        refine VL (fun h2=>?_) (fun h2=>?_)
        · refine Ax 0 rfl rfl fun x1 hx1=>?_
          refine AI 0 rfl hx1 rfl ?_
          refine q_p (fun _=>rfl) ?_
          refine Ax 0 rfl rfl fun x2 hx2=>?_
          refine AI 0 rfl hx2 rfl ?_
          refine q_p (fun _=>rfl) ?_
          refine q_i ?_ ?_
          · refine TF 0 rfl rfl (.inl rfl) (.inr ⟨rfl,rfl⟩) fun g1 g2 g3=>?_
            refine BI (I:=(fun (s:Int×Int×List Int) l L=>l = [iW s.1,iW s.2.1]∧L = sl false v0_ s.2.2::L0∧s.2.2.length = a0.length)) 0 ⟨rfl,rfl,rfl⟩ ?_ ?_ ?_
            · rintro ⟨i,k2,ys⟩ _ _ ⟨rfl,rfl,hl⟩
              unfold Qh GT
              refine VF 0 rfl g1 g2 (by dsimp only at hl ⊢; omega) ?_
              refine q_p (fun _=>rfl) ?_
              refine q_i ?_ ?_
              · refine C9 (I:=(fun (s:Int×List Int) l L=>l = [iW s.1]∧L = sl false v0_ s.2::L0∧s.2.length = a0.length)) ?_ ?_ ?_ ?_
                · refine Q1 0 rfl rfl g1 g2 (by dsimp only at hl ⊢; omega) fun x3 hx3=>?_
                  refine AI 0 rfl hx3 rfl ?_
                  refine q_p (fun _=>rfl) ?_
                  refine Q1 0 rfl rfl g1 g2 (by dsimp only at hl ⊢; omega) fun x4 hx4=>?_
                  refine AI 0 rfl hx4 rfl ?_
                  refine q_p (fun _=>rfl) ?_
                  refine q_i ?_ ?_
                  · refine Q1 0 rfl rfl g1 g2 (by dsimp only at hl ⊢; omega) fun x5 hx5=>?_
                    refine AI 0 rfl hx5 rfl ?_
                    refine Ax 0 rfl rfl fun x6 hx6=>?_
                    refine Ba 0 rfl rfl hx6 rfl (by decide) ?_
                    refine q_p (fun _=>rfl) ?_
                    exact Aa 0 ⟨rfl,rfl,by simpa using hl⟩
                  · exact Aa 0 ⟨rfl,rfl,hl⟩
                · rintro ⟨i',ys'⟩ _ _ ⟨rfl,rfl,hl'⟩
                  refine q_p (fun _=>rfl) ?_
                  exact Aa 0 ⟨rfl,rfl,hl'⟩
                · rintro j ⟨i',ys'⟩ _ _ ⟨rfl,rfl,hl'⟩
                  exact Ai 0 ⟨rfl,rfl,hl'⟩
                · rintro ⟨i',ys'⟩ _ _ ⟨rfl,rfl,hl'⟩
                  exact Ag 0 ⟨rfl,rfl,hl'⟩
              · exact Ai 0 ⟨rfl,rfl,hl⟩
            · rintro j ⟨i,k2,ys⟩ _ _ ⟨rfl,rfl,hl⟩
              refine q_n ?_ ?_
              · refine TF 0 rfl rfl (.inl rfl) (.inr ⟨rfl,rfl⟩) fun g4 g5 g6=>?_
                refine VG (te:=2) (z:=(0:Int)) 0 rfl V2 Vo g4 g5 g6 ?_
                refine TF (xs:=clr ys i) (i:=0) 0 rfl rfl (.inr ⟨rfl,rfl⟩) (.inl rfl) fun g7 g8 g9=>?_
                have e1:((clr ys i).take i.toNat).length = i.toNat:=by rw [List.length_take]; omega
                refine Q5 (ys:=(clr ys i).take i.toNat) (by rw [e1]; rfl) ?_
                refine Ag 0 ⟨?_,rfl⟩
                rw [e1]
                show [viA v0_ 0 i.toNat,_] = _
                rw [WH]; rfl
              · exact Ao
            · rintro ⟨i,k2,ys⟩ _ _ ⟨rfl,rfl,hl⟩
              exact Ao
          · refine q_p (fun _=>rfl) ?_
            exact Aa 0 rr
        · exact Ai 0 rr
    · rintro i ⟨s1,k⟩ l L' hI
      refine q_n ?_ ?_
      · cases s1 with
        | some ys=>exact Ao
        | none=>obtain ⟨rfl,rfl⟩:=hI; exact hwhole
      · exact Ao
    · rintro ⟨s1,k⟩ l L' hI
      cases s1 with
      | none=>exact Ao
      | some ys=>
        obtain ⟨rfl,rfl⟩:=hI
        exact AK 0 rfl rfl
def IM (a0:List Ad) (a1:Int) (a2:Int) (a3:Int) (a4:Int) (s1:Int×(List Int)):Option (LO (Int×(List Int))):=bif decide (s1.1 < (a0.length:Int)) then ( (Am a0 s1.1).bind fun x1=>( bif x1.Kind == a1 then bif x1.View == a2 then bif x1.Slot == a3 then some (LO.norm (x1.Value == a4)) else some (LO.norm false) else some (LO.norm false) else some (LO.norm false)).bind (Ac (fun s4=>bif s4 then (BV 8 s1.2 [x1.From]).bind fun z1=>some (LO.norm z1) else some (LO.norm s1.2)) (fun i1 s4=>if i1 = 1 then some (LO.norm s1.2) else some (LO.exit i1 s1.2)) (fun s4=>some (LO.ret s1.2)))).bind (Ac (fun s5=>some (LO.norm (wi .i64 (s1.1 + 1),s5))) (fun i2 s5=>some (LO.exit i2 (s1.1,s5))) (fun s5=>some (LO.ret (s1.1,s5)))) else some (LO.exit 0 (s1.1,s1.2))
def m94 (a0:List Ad) (a1:Int) (a2:Int) (a3:Int) (a4:Int):Option ((List Int)):=(Aq (IM a0 a1 a2 a3 a4) NN (0,[])).bind (Ac (fun _=>none) (fun i3 s6=>if i3 = 0 then (m93 s6.2).bind fun y1=>(Oz y1).bind fun y2=>some y2 else none) (fun s6=>some []))
theorem w94 {d:Nat} (hd:137≤d) (k0:Bool) (a0:List Ad) (a1:Int) (a2:Int) (a3:Int) (a4:Int):Fit (R NN d 94 [.rsl k0 false (a0.map (Enc.cs k0)),iW a1,iW a2,iW a3,iW a4] []) (m94 a0 a1 a2 a3 a4) (P0 (fun (t:List Int)=>AV.rsl false false (t.map (Enc.cs false)))):=by
  obtain ⟨d,rfl,g⟩:=up hd
  refine AC (t94 NN d _ _ _ _ _) ?_
  unfold b94 m94
  refine q_q (fun _=>EM)<|AB<|D5 (α:=Int) false<|BI (I:=(fun (s:Int×(List Int)) l L=>∃ (v1:AV),l = [v1,iW s.1]∧L = [sl false v1 (s.2:List Int)])) 0 ⟨(.rsl false true []),rfl,rfl⟩ ?_ ?_ ?_
  ·rintro s1 _ _ ⟨v1,rfl,rfl⟩
   unfold U9 IM
   refine q_p fr<|q_i ?_ ?_
   ·refine C9 (I:=(fun (s:(List Int)) l L=>∃ (v2:AV),l = [v2]∧L = [sl false v2 (s:List Int)])) ?_ ?_ ?_ ?_
    ·refine AL rfl fun x1 hx1=>q_p fr<|Bt rfl fun b1=>Bj 0 rfl rfl rfl (by decide) rfl<|AD (A:=fun (s:Bool)=>[.bool s]) (B:=fun s=>[bx b1 [iW x1.Kind,iW x1.View,iW x1.From,iW x1.Slot,iW x1.Value,.rsl k0 false (x1.Certs.map (Enc.cs k0)),.rsl k0 false (x1.Refs.map (Enc.cs k0))],sl false v1 (s1.2:List Int)]) ?_ ?_ ?_ ?_
     ·exact q_p fr<|Av 0 rfl rfl<|q_p fr<|q_k (q_p fr<|Av 0 rfl rfl<|q_p fr<|q_k (q_p fr<|Av 0 rfl rfl<|q_p fr<|q_k (q_p fr<|Av 0 rfl rfl<|q_p fr<|Aa 0 rr)<|Aa 0 rr)<|Aa 0 rr)<|Aa 0 rr
     ·exact fun s4=>q_i (q_p fr<|Av 0 rfl rfl<|q_q (fun _=>DU)<|Ek (ys:=[x1.From]) 1 rfl rfl (fun _ _=>rfl) fun v2 z1 hz1=>Aa 1 ⟨v2,rfl,rfl⟩)<|Aa 1 ⟨v1,rfl,rfl⟩
     ·exact fun i1 s4=>q_n (Aa 1 ⟨v1,rfl,rfl⟩)<|Ai 1 ⟨v1,rfl,rfl⟩
     ·exact fun s4=>Ag 1 ⟨v1,rfl,rfl⟩
    ·rintro s5 _ _ ⟨v3,rfl,rfl⟩
     exact q_p fr<|Aa 0 ⟨v3,rfl,rfl⟩
    ·rintro i2 s5 _ _ ⟨v4,rfl,rfl⟩
     exact Ai 0 ⟨v4,rfl,rfl⟩
    ·rintro s5 _ _ ⟨v5,rfl,rfl⟩
     exact Ag 0 ⟨v5,rfl,rfl⟩
   ·exact Ai 0 ⟨v1,rfl,rfl⟩
  ·rintro i3 s6 _ _ ⟨v6,rfl,rfl⟩
   exact q_n (q_s (mg:=m93 s6.2) (w93 (by omega) _ _ s6.2) fun y1 hy1=>q_s (mg:=Oz y1) (w114 (by omega) _ _ y1) fun y2 hy2=>Ah (Ve 0 rfl) rfl)<|Ao
  ·rintro s6 _ _ ⟨v7,rfl,rfl⟩
   exact Ah (A8 (α:=Int) (l0:=false) (fl:=true) (xs:=[])) rfl
def m63 (a0:Int) (a1:List Ad) (a2:Int) (a3:Int) (a4:Int) (a5:Int):Option (Bool):=(m94 a1 a2 a3 a4 a5).bind fun y1=>some (decide ((y1.length:Int) ≥ (wi .i64 ((wi .i64 (2 * a0)) + 1))))
theorem w63 {d:Nat} (hd:138≤d) (a0:Int) (k1:Bool) (a1:List Ad) (a2:Int) (a3:Int) (a4:Int) (a5:Int):Fit (R NN d 63 [iW a0,.rsl k1 false (a1.map (Enc.cs k1)),iW a2,iW a3,iW a4,iW a5] []) (m63 a0 a1 a2 a3 a4 a5) PB:=by
  obtain ⟨d,rfl,g⟩:=up hd
  refine AC (t63 NN d _ _ _ _ _ _) ?_
  unfold b63 m63
  exact A4 (fun S hS=>Et A8 (Ab rfl) (Ab rfl) (Ab rfl) (Ab rfl) hS fun l0_ l1_ l2_ l3_ l4_=>w94 (by omega) l0_ a1 a2 a3 a4 a5) fun y1 hy1=>AB<|q_p fr<|q_p fr<|q_p fr<|Ah (Ab rfl) rfl
def m30 (a0:Int) (a1:List Ad) (a2:Ar):Option (Bool):=( bif (m42 a2.Slot) then bif (m61 a2.View) then bif (m43 a2.Value) then (m63 a0 a1 2 a2.View a2.Slot a2.Value).bind fun y1=>some (LO.norm y1) else some (LO.norm false) else some (LO.norm false) else some (LO.norm false)).bind (Ac (fun s2=>some s2) (fun i1 s2=>none) (fun s2=>some s2))
theorem w30 {d:Nat} (hd:139≤d) (a0:Int) (k1:Bool) (a1:List Ad) (k2:Bool) (a2:Ar):Fit (R NN d 30 [iW a0,.rsl k1 false (a1.map (Enc.cs k1)),.agg (Enc.cs k2 a2)] []) (m30 a0 a1 a2) PB:=by
  obtain ⟨d,rfl,g⟩:=up hd
  refine AC (t30 NN d _ _ _) ?_
  unfold b30 m30
  refine Bg (n:=3) rfl rfl (by decide) fun b1=>AD (A:=fun (s:Bool)=>[.bool s]) (B:=fun s=>[bx b1 [iW a2.Slot,iW a2.View,iW a2.Value]]) ?_ ?_ ?_ ?_
  ·exact q_p fr<|Av 0 rfl rfl<|AH (aF1 (Ab rfl) fun l0_=>w42 (by omega) a2.Slot)<|q_k (q_p fr<|Av 0 rfl rfl<|AH (aF1 (Ab rfl) fun l0_=>w61 (by omega) a2.View)<|q_k (q_p fr<|Av 0 rfl rfl<|AH (aF1 (Ab rfl) fun l0_=>w43 (by omega) a2.Value)<|q_k (q_p fr<|Av 0 rfl rfl<|q_p fr<|Av 0 rfl rfl<|q_p fr<|Av 0 rfl rfl<|A4 (fun S hS=>Vh (Ab rfl) A8 (Ab rfl) (Ab rfl) (Ab rfl) (Ab rfl) hS fun l0_ l1_ l2_ l3_ l4_ l5_=>w63 (by omega) a0 l1_ a1 2 a2.View a2.Slot a2.Value) fun y1 hy1=>Aa 0 rr)<|Aa 0 rr)<|Aa 0 rr)<|Aa 0 rr
  ·exact fun s2=>Ah (Ab rfl) rfl
  ·exact fun i1 s2=>Ao
  ·exact fun s2=>Ah (Ab rfl) rfl
def MO (a0:Ar) (a1:Int) (a2:List Ad):Option (Bool):=(m30 a1 a2 a0).bind fun y1=>some (!y1)
theorem w110 {d:Nat} (hd:140≤d) (k0:Bool) (a0:Ar) (k1:Bool) (a1:Int) (k2:Bool) (a2:List Ad):Fit (R NN d 110 [.agg (Enc.cs k0 a0),.rp k1 (Enc.cs k1 a1),.rp k2 (Enc.cs k2 a2)] []) (MO a0 a1 a2) PB:=by
  obtain ⟨d,rfl,g⟩:=up hd
  refine AC (t110 NN d _ _ _) ?_
  unfold XO MO
  exact Bg (n:=3) rfl rfl (by decide) fun b1=>q_p fr<|q_p fr<|B0 0 rfl rfl rfl<|A4 (aF3 (Ab rfl) A8 (Cd (A3 (l0:=false) (x:=a0))) fun l0_ l1_ l2_=>w30 (by omega) a1 l1_ a2 l2_ a0) fun y1 hy1=>q_p fr<|Ah (Ab rfl) rfl
def m91 (a0:Int) (a1:List Ad) (a2:Int):Option (Bool):=(m90 a1 a2 4).bind fun y1=>bif y1.2 then (m82 y1.1.Certs (fun x0_=>MO x0_ a0 a1)).bind fun y2=>some (!y2) else some false
theorem w91 {d:Nat} (hd:143≤d) (a0:Int) (k1:Bool) (a1:List Ad) (a2:Int):Fit (R NN d 91 [iW a0,.rsl k1 false (a1.map (Enc.cs k1)),iW a2] []) (m91 a0 a1 a2) PB:=by
  obtain ⟨d,rfl,g⟩:=up hd
  refine AC (t91 NN d _ _ _) ?_
  unfold b91 m91
  exact Bg (n:=1) rfl rfl (by decide) fun b1=>Bg (n:=1) rfl rfl (by decide) fun b2=>Av 0 rfl rfl<|WR (mg:=m90 a1 a2 4) (w90 (by omega) _ k1 _ a1 a2 4) fun y1 hy1 x1=>q_q fr<|q_q fr<|Bt rfl fun b3=>Bj 0 rfl rfl rfl (by decide) rfl<|q_k (q_p fr<|Av 0 rfl rfl<|A4 (aF2 A8 (Eg (Ae (DK 2 rfl (A3 (l0:=false) (x:=a0))) (Ae (DK 1 rfl (A3 (l0:=k1) (x:=a1))) As))) fun l0_ l1_=>w82 (Dc:=140) (by omega) l0_ y1.1.Certs (fun l=>.fn 110 [.rp l (Enc.cs l a0),.rp l (Enc.cs l a1)]) (fun l=>Eg (Ae (AP (A3 (l0:=l) (x:=a0)) (fun _ _ _ h=>Enc.frz _ a0 _ _ _ h)) (Ae (AP (A3 (l0:=l) (x:=a1)) (fun _ _ _ h=>Enc.frz _ a1 _ _ _ h)) As))) (fun x0_=>MO x0_ a0 a1) (fun d hd l q0_ x0_ S t ht=>(O7 _ _ _ _).trans (D9 (E:=(fun (t:Bool)=>AV.bool t)) (mg:=MO x0_ a0 a1) (Vf (M:=fun a=>Fit (R NN d 110 a []) _ _) (Cd (A3 (l0:=q0_) (x:=x0_))) (AP (A3 (l0:=l) (x:=a0)) (fun _ _ _ h=>Enc.frz _ a0 _ _ _ h)) (AP (A3 (l0:=l) (x:=a1)) (fun _ _ _ h=>Enc.frz _ a1 _ _ _ h)) HP.nil fun u0_ v0_ v1_=>w110 hd u0_ x0_ v0_ a0 v1_ a1) ht)) l1_) fun y2 hy2=>q_p fr<|Ah (Ab rfl) rfl)<|Ah (Ab rfl) rfl
def N6 (a0:List Int) (a1:Int) (s1:Int×Int):Option (LO (Int×Int)):=bif decide (s1.2 < (a0.length:Int)) then (Am a0 s1.2).bind fun x1=>bif a1 == x1 then some (LO.ret (s1.2,s1.2)) else some (LO.norm (s1.1,wi .i64 (s1.2 + 1))) else some (LO.exit 0 (s1.1,s1.2))
def Wc (a0:List Int) (a1:Int):Option (Int):=(Aq (N6 a0 a1) NN (0,0)).bind (Ac (fun _=>none) (fun i1 s2=>if i1 = 0 then some (-1) else none) (fun s2=>some s2.1))
theorem w111 {d:Nat} (hd:1≤d) (k0:Bool) (a0:List Int) (a1:Int):Fit (R NN d 111 [.rsl k0 false (a0.map (Enc.cs k0)),iW a1] []) (Wc a0 a1) PI:=by
  obtain ⟨d,rfl,g⟩:=up hd
  refine AC (t111 NN d _ _) ?_
  unfold XN Wc
  refine AB<|BE (A:=fun (s:Int×Int)=>[iW s.1,iW s.2]) (B:=fun s=>[]) 0 rr ?_ ?_ ?_
  ·intro s1
   unfold Qj N6
   exact q_p fr<|q_i (AL rfl fun x1 hx1=>q_p fr<|q_p fr<|q_i (Ag 0 rr)<|q_p fr<|Aa 0 rr)<|Ai 0 rr
  ·exact fun i1 s2=>q_n (Ah (Ab rfl) rfl)<|Ao
  ·exact fun s2=>Ah (Ab rfl) rfl
def m92 (a0:List Int) (a1:Int):Option (Bool):=(Wc a0 a1).bind fun y1=>some (decide (y1 ≥ 0))
theorem w92 {d:Nat} (hd:2≤d) (k0:Bool) (a0:List Int) (a1:Int):Fit (R NN d 92 [.rsl k0 false (a0.map (Enc.cs k0)),iW a1] []) (m92 a0 a1) PB:=by
  obtain ⟨d,rfl,g⟩:=up hd
  refine AC (t92 NN d _ _) ?_
  unfold b92 m92
  exact A4 (aF2 A8 (Ab rfl) fun l0_ l1_=>w111 (by omega) l0_ a0 a1) fun y1 hy1=>q_p fr<|Ah (Ab rfl) rfl
def H3 (a0:Int) (a1:List Ad) (y1:Ad×Bool) (s5:Bool×Int×(List Int)):Option (LO (Bool×Int×(List Int))):=bif decide (s5.2.1 < (y1.1.Refs.length:Int)) then ( (Am y1.1.Refs s5.2.1).bind fun x2=>( ( (m91 a0 a1 x2).bind fun y3=>bif !y3 then some (LO.norm true) else (Am a1 x2).bind fun x3=>bif x3.View != y1.1.View then some (LO.norm true) else (Am a1 x2).bind fun x4=>(m92 s5.2.2 x4.From).bind fun y4=>some (LO.norm y4)).bind (Ac (fun s9=>bif s9 then some (LO.ret false) else some (LO.norm s5.1)) (fun i3 s9=>some (LO.exit i3 s5.1)) (fun s9=>some (LO.ret s5.1)))).bind (Ac (fun s10=>(Am a1 x2).bind fun x5=>(BV 8 s5.2.2 [x5.From]).bind fun z1=>some (LO.norm (s10,z1))) (fun i4 s10=>if i4 = 1 then some (LO.norm (s10,s5.2.2)) else some (LO.exit i4 (s10,s5.2.2))) (fun s10=>some (LO.ret (s10,s5.2.2))))).bind (Ac (fun s11=>some (LO.norm (s11.1,wi .i64 (s5.2.1 + 1),s11.2))) (fun i5 s11=>some (LO.exit i5 (s11.1,s5.2.1,s11.2))) (fun s11=>some (LO.ret (s11.1,s5.2.1,s11.2)))) else some (LO.exit 0 (s5.1,s5.2.1,s5.2.2))
def m58 (a0:Int) (a1:List Ad) (a2:Int):Option (Bool):=(m90 a1 a2 5).bind fun y1=>( ( bif !y1.2 then some (LO.norm true) else (m57 a0 y1.1.View).bind fun y2=>bif y1.1.From != y2 then some (LO.norm true) else some (LO.norm (decide ((y1.1.Refs.length:Int) < (wi .i64 ((wi .i64 (2 * a0)) + 1)))))).bind (Ac (fun s3=>bif s3 then some (LO.ret false) else some (LO.norm false)) (fun i1 s3=>some (LO.exit i1 false)) (fun s3=>some (LO.ret false)))).bind (Ac (fun s4=>(Aq (H3 a0 a1 y1) NN (s4,0,[])).bind (Ac (fun _=>none) (fun i6 s12=>if i6 = 0 then some true else none) (fun s12=>some s12.1))) (fun i2 s4=>none) (fun s4=>some s4))
theorem w58 {d:Nat} (hd:144≤d) (a0:Int) (k1:Bool) (a1:List Ad) (a2:Int):Fit (R NN d 58 [iW a0,.rsl k1 false (a1.map (Enc.cs k1)),iW a2] []) (m58 a0 a1 a2) PB:=by
  obtain ⟨d,rfl,g⟩:=up hd
  refine AC (t58 NN d _ _ _) ?_
  unfold b58 m58
  refine WR (mg:=m90 a1 a2 5) (w90 (by omega) _ k1 _ a1 a2 5) fun y1 hy1 x1=>q_q fr<|q_q fr<|Bt rfl fun b1=>Bj 0 rfl rfl rfl (by decide) rfl<|AD (A:=fun (s:Bool)=>[.bool s]) (B:=fun s=>[bx b1 [iW y1.1.Kind,iW y1.1.View,iW y1.1.From,iW y1.1.Slot,iW y1.1.Value,.rsl x1.1 x1.2.1 (y1.1.Certs.map (Enc.cs x1.1)),.rsl x1.2.2.1 x1.2.2.2 (y1.1.Refs.map (Enc.cs x1.2.2.1))]]) ?_ ?_ ?_ ?_
  ·refine AD (A:=fun (s:Bool)=>[.bool s]) (B:=fun s=>[bx b1 [iW y1.1.Kind,iW y1.1.View,iW y1.1.From,iW y1.1.Slot,iW y1.1.Value,.rsl x1.1 x1.2.1 (y1.1.Certs.map (Enc.cs x1.1)),.rsl x1.2.2.1 x1.2.2.2 (y1.1.Refs.map (Enc.cs x1.2.2.1))]]) ?_ ?_ ?_ ?_
   ·exact q_p fr<|q_j (Aa 0 rr)<|q_p fr<|Av 0 rfl rfl<|q_p fr<|Av 0 rfl rfl<|A4 (aF2 (Ab rfl) (Ab rfl) fun l0_ l1_=>w57 (by omega) a0 y1.1.View) fun y2 hy2=>q_p fr<|q_j (Aa 0 rr)<|q_p fr<|Av 0 rfl rfl<|AB<|q_p fr<|q_p fr<|q_p fr<|Aa 0 rr
   ·exact fun s3=>q_i (Ag 0 rr)<|Aa 0 rr
   ·exact fun i1 s3=>Ai 0 rr
   ·exact fun s3=>Ag 0 rr
  ·intro s4
   refine q_q (fun _=>EM)<|q_p fr<|Av 0 rfl rfl<|AB<|D5 (α:=Int) false<|BI (I:=(fun (s:Bool×Int×(List Int)) l L=>∃ (v1:AV),l = [.bool s.1,v1,iW s.2.1]∧L = [sl false v1 (s.2.2:List Int),bx b1 [iW y1.1.Kind,iW y1.1.View,iW y1.1.From,iW y1.1.Slot,iW y1.1.Value,.rsl x1.1 x1.2.1 (y1.1.Certs.map (Enc.cs x1.1)),.rsl x1.2.2.1 x1.2.2.2 (y1.1.Refs.map (Enc.cs x1.2.2.1))]])) 0 ⟨(.rsl false true []),rfl,rfl⟩ ?_ ?_ ?_
   ·rintro s5 _ _ ⟨v1,rfl,rfl⟩
    unfold UL H3
    refine q_p fr<|q_i ?_ ?_
    ·refine C9 (I:=(fun (s:Bool×(List Int)) l L=>∃ (v2:AV),l = [.bool s.1,v2]∧L = [sl false v2 (s.2:List Int),bx b1 [iW y1.1.Kind,iW y1.1.View,iW y1.1.From,iW y1.1.Slot,iW y1.1.Value,.rsl x1.1 x1.2.1 (y1.1.Certs.map (Enc.cs x1.1)),.rsl x1.2.2.1 x1.2.2.2 (y1.1.Refs.map (Enc.cs x1.2.2.1))]])) ?_ ?_ ?_ ?_
     ·refine AL rfl fun x2 hx2=>q_p fr<|AD (A:=fun (s:Bool)=>[.bool s]) (B:=fun s=>[sl false v1 (s5.2.2:List Int),bx b1 [iW y1.1.Kind,iW y1.1.View,iW y1.1.From,iW y1.1.Slot,iW y1.1.Value,.rsl x1.1 x1.2.1 (y1.1.Certs.map (Enc.cs x1.1)),.rsl x1.2.2.1 x1.2.2.2 (y1.1.Refs.map (Enc.cs x1.2.2.1))]]) ?_ ?_ ?_ ?_
      ·refine AD (A:=fun (s:Bool)=>[.bool s]) (B:=fun s=>[sl false v1 (s5.2.2:List Int),bx b1 [iW y1.1.Kind,iW y1.1.View,iW y1.1.From,iW y1.1.Slot,iW y1.1.Value,.rsl x1.1 x1.2.1 (y1.1.Certs.map (Enc.cs x1.1)),.rsl x1.2.2.1 x1.2.2.2 (y1.1.Refs.map (Enc.cs x1.2.2.1))]]) ?_ ?_ ?_ ?_
       ·exact A4 (aF3 (Ab rfl) A8 (Ab rfl) fun l0_ l1_ l2_=>w91 (by omega) a0 l1_ a1 x2) fun y3 hy3=>q_p fr<|q_j (Aa 0 rr)<|AL rfl fun x3 hx3=>q_p fr<|q_p fr<|q_p fr<|Av 1 rfl rfl<|q_p fr<|q_j (Aa 0 rr)<|AL rfl fun x4 hx4=>q_p fr<|q_p fr<|A4 (aF2 (Jl 0 rfl) (Ab rfl) fun l0_ l1_=>w92 (by omega) l0_ s5.2.2 x4.From) fun y4 hy4=>Aa 0 rr
       ·exact fun s9=>q_i (Ag 0 rr)<|Aa 0 rr
       ·exact fun i3 s9=>Ai 0 rr
       ·exact fun s9=>Ag 0 rr
      ·exact fun s10=>AL rfl fun x5 hx5=>q_p fr<|q_p fr<|q_q (fun _=>DU)<|Ek (ys:=[x5.From]) 0 rfl rfl (fun _ _=>rfl) fun v2 z1 hz1=>Aa 0 ⟨v2,rfl,rfl⟩
      ·exact fun i4 s10=>q_n (Aa 0 ⟨v1,rfl,rfl⟩)<|Ai 0 ⟨v1,rfl,rfl⟩
      ·exact fun s10=>Ag 0 ⟨v1,rfl,rfl⟩
     ·rintro s11 _ _ ⟨v3,rfl,rfl⟩
      exact q_p fr<|Aa 0 ⟨v3,rfl,rfl⟩
     ·rintro i5 s11 _ _ ⟨v4,rfl,rfl⟩
      exact Ai 0 ⟨v4,rfl,rfl⟩
     ·rintro s11 _ _ ⟨v5,rfl,rfl⟩
      exact Ag 0 ⟨v5,rfl,rfl⟩
    ·exact Ai 0 ⟨v1,rfl,rfl⟩
   ·rintro i6 s12 _ _ ⟨v6,rfl,rfl⟩
    exact q_n (Ah (Ab rfl) rfl)<|Ao
   ·rintro s12 _ _ ⟨v7,rfl,rfl⟩
    exact Ah (Ab rfl) rfl
  ·exact fun i2 s4=>Ao
  ·exact fun s4=>Ah (Ab rfl) rfl
def m28 (a0:Int) (a1:List Ad) (a2:Aj) (a3:Int):Option (Int):=( ( bif !(m60 a0 a2.Id) then some (LO.norm true) else bif !(m61 a2.View) then some (LO.norm true) else some (LO.norm (!(m56 a2.Done 0 30)))).bind (Ac (fun s3=>bif s3 then some (LO.ret 3) else ( bif a2.Start != (-1) then bif a2.View == 0 then some (LO.norm true) else (m58 a0 a1 a2.Start).bind fun y1=>bif !y1 then some (LO.norm true) else (Am a1 a2.Start).bind fun x1=>some (LO.norm (x1.View != a2.View)) else some (LO.norm false)).bind (Ac (fun s5=>bif s5 then some (LO.ret 1) else bif decide (a2.Done > a3) then some (LO.ret 8) else some (LO.norm 0)) (fun i2 s5=>if i2 = 0 then some (LO.norm 0) else some (LO.exit i2 0)) (fun s5=>some (LO.ret 0)))) (fun i1 s3=>if i1 = 0 then some (LO.norm 0) else some (LO.exit i1 0)) (fun s3=>some (LO.ret 0)))).bind (Ac (fun s6=>some 0) (fun i3 s6=>none) (fun s6=>some s6))
theorem w28 {d:Nat} (hd:145≤d) (a0:Int) (k1:Bool) (a1:List Ad) (k2:Bool) (a2:Aj) (a3:Int):Fit (R NN d 28 [iW a0,.rsl k1 false (a1.map (Enc.cs k1)),.agg (Enc.cs k2 a2),iW a3] []) (m28 a0 a1 a2 a3) PI:=by
  obtain ⟨d,rfl,g⟩:=up hd
  refine AC (t28 NN d _ _ _ _) ?_
  unfold b28 m28
  refine Bg (n:=4) rfl rfl (by decide) fun b1=>AD (A:=fun (s:Int)=>[iW s]) (B:=fun s=>[bx b1 [iW a2.Id,iW a2.View,iW a2.Start,iW a2.Done]]) ?_ ?_ ?_ ?_
  ·refine AD (A:=fun (s:Bool)=>[.bool s]) (B:=fun s=>[bx b1 [iW a2.Id,iW a2.View,iW a2.Start,iW a2.Done]]) ?_ ?_ ?_ ?_
   ·exact q_p fr<|Av 0 rfl rfl<|AH (aF2 (Ab rfl) (Ab rfl) fun l0_ l1_=>w60 (by omega) a0 a2.Id)<|q_p fr<|q_j (Aa 0 rr)<|q_p fr<|Av 0 rfl rfl<|AH (aF1 (Ab rfl) fun l0_=>w61 (by omega) a2.View)<|q_p fr<|q_j (Aa 0 rr)<|q_p fr<|Av 0 rfl rfl<|AH (aF3 (Ab rfl) (Ab rfl) (Ab rfl) fun l0_ l1_ l2_=>w56 (by omega) a2.Done 0 30)<|q_p fr<|Aa 0 rr
   ·intro s3
    refine q_i ?_ ?_
    ·exact Ag 0 rr
    ·refine AD (A:=fun (s:Bool)=>[.bool s]) (B:=fun s=>[bx b1 [iW a2.Id,iW a2.View,iW a2.Start,iW a2.Done]]) ?_ ?_ ?_ ?_
     ·exact q_p fr<|Av 0 rfl rfl<|q_p fr<|q_k (q_p fr<|Av 0 rfl rfl<|q_p fr<|q_j (Aa 0 rr)<|q_p fr<|Av 0 rfl rfl<|A4 (aF3 (Ab rfl) A8 (Ab rfl) fun l0_ l1_ l2_=>w58 (by omega) a0 l1_ a1 a2.Start) fun y1 hy1=>q_p fr<|q_j (Aa 0 rr)<|q_p fr<|Av 0 rfl rfl<|AL rfl fun x1 hx1=>q_p fr<|q_p fr<|q_p fr<|Av 0 rfl rfl<|q_p fr<|Aa 0 rr)<|Aa 0 rr
     ·exact fun s5=>q_i (Ag 0 rr)<|q_p fr<|Av 0 rfl rfl<|q_p fr<|q_i (Ag 0 rr)<|Aa 0 rr
     ·exact fun i2 s5=>q_n (Aa 0 rr)<|Ai 0 rr
     ·exact fun s5=>Ag 0 rr
   ·exact fun i1 s3=>q_n (Aa 0 rr)<|Ai 0 rr
   ·exact fun s3=>Ag 0 rr
  ·exact fun s6=>Ah (Ab rfl) rfl
  ·exact fun i3 s6=>Ao
  ·exact fun s6=>Ah (Ab rfl) rfl
def IT (a0:Int) (a1:List Ad) (a2:Int) (s1:Int×(List Int)):Option (LO (Int×(List Int))):=bif decide (s1.1 < (a1.length:Int)) then ( (Am a1 s1.1).bind fun x1=>( bif x1.Kind == 3 then bif x1.Slot == a2 then (m92 s1.2 x1.Value).bind fun y1=>bif !y1 then (m63 a0 a1 3 x1.View a2 x1.Value).bind fun y2=>some (LO.norm y2) else some (LO.norm false) else some (LO.norm false) else some (LO.norm false)).bind (Ac (fun s4=>bif s4 then (BV 8 s1.2 [x1.Value]).bind fun z1=>some (LO.norm z1) else some (LO.norm s1.2)) (fun i1 s4=>if i1 = 1 then some (LO.norm s1.2) else some (LO.exit i1 s1.2)) (fun s4=>some (LO.ret s1.2)))).bind (Ac (fun s5=>some (LO.norm (wi .i64 (s1.1 + 1),s5))) (fun i2 s5=>some (LO.exit i2 (s1.1,s5))) (fun s5=>some (LO.ret (s1.1,s5)))) else some (LO.exit 0 (s1.1,s1.2))
def m62 (a0:Int) (a1:List Ad) (a2:Int):Option ((List Int)):=(Aq (IT a0 a1 a2) NN (0,[])).bind (Ac (fun _=>none) (fun i3 s6=>if i3 = 0 then (m93 s6.2).bind fun y3=>some y3 else none) (fun s6=>some []))
theorem w62 {d:Nat} (hd:139≤d) (a0:Int) (k1:Bool) (a1:List Ad) (a2:Int):Fit (R NN d 62 [iW a0,.rsl k1 false (a1.map (Enc.cs k1)),iW a2] []) (m62 a0 a1 a2) (P0 (fun (t:List Int)=>AV.rsl false false (t.map (Enc.cs false)))):=by
  obtain ⟨d,rfl,g⟩:=up hd
  refine AC (t62 NN d _ _ _) ?_
  unfold b62 m62
  refine q_q (fun _=>EM)<|AB<|D5 (α:=Int) false<|BI (I:=(fun (s:Int×(List Int)) l L=>∃ (v1:AV),l = [v1,iW s.1]∧L = [sl false v1 (s.2:List Int)])) 0 ⟨(.rsl false true []),rfl,rfl⟩ ?_ ?_ ?_
  ·rintro s1 _ _ ⟨v1,rfl,rfl⟩
   unfold UK IT
   refine q_p fr<|q_i ?_ ?_
   ·refine C9 (I:=(fun (s:(List Int)) l L=>∃ (v2:AV),l = [v2]∧L = [sl false v2 (s:List Int)])) ?_ ?_ ?_ ?_
    ·refine AL rfl fun x1 hx1=>q_p fr<|Bt rfl fun b1=>Bj 0 rfl rfl rfl (by decide) rfl<|AD (A:=fun (s:Bool)=>[.bool s]) (B:=fun s=>[bx b1 [iW x1.Kind,iW x1.View,iW x1.From,iW x1.Slot,iW x1.Value,.rsl k1 false (x1.Certs.map (Enc.cs k1)),.rsl k1 false (x1.Refs.map (Enc.cs k1))],sl false v1 (s1.2:List Int)]) ?_ ?_ ?_ ?_
     ·exact q_p fr<|Av 0 rfl rfl<|q_p fr<|q_k (q_p fr<|Av 0 rfl rfl<|q_p fr<|q_k (q_p fr<|Av 0 rfl rfl<|A4 (aF2 (Jl 1 rfl) (Ab rfl) fun l0_ l1_=>w92 (by omega) l0_ s1.2 x1.Value) fun y1 hy1=>q_p fr<|q_k (q_p fr<|Av 0 rfl rfl<|q_p fr<|Av 0 rfl rfl<|A4 (fun S hS=>Vh (Ab rfl) A8 (Ab rfl) (Ab rfl) (Ab rfl) (Ab rfl) hS fun l0_ l1_ l2_ l3_ l4_ l5_=>w63 (by omega) a0 l1_ a1 3 x1.View a2 x1.Value) fun y2 hy2=>Aa 0 rr)<|Aa 0 rr)<|Aa 0 rr)<|Aa 0 rr
     ·exact fun s4=>q_i (q_p fr<|Av 0 rfl rfl<|q_q (fun _=>DU)<|Ek (ys:=[x1.Value]) 1 rfl rfl (fun _ _=>rfl) fun v2 z1 hz1=>Aa 1 ⟨v2,rfl,rfl⟩)<|Aa 1 ⟨v1,rfl,rfl⟩
     ·exact fun i1 s4=>q_n (Aa 1 ⟨v1,rfl,rfl⟩)<|Ai 1 ⟨v1,rfl,rfl⟩
     ·exact fun s4=>Ag 1 ⟨v1,rfl,rfl⟩
    ·rintro s5 _ _ ⟨v3,rfl,rfl⟩
     exact q_p fr<|Aa 0 ⟨v3,rfl,rfl⟩
    ·rintro i2 s5 _ _ ⟨v4,rfl,rfl⟩
     exact Ai 0 ⟨v4,rfl,rfl⟩
    ·rintro s5 _ _ ⟨v5,rfl,rfl⟩
     exact Ag 0 ⟨v5,rfl,rfl⟩
   ·exact Ai 0 ⟨v1,rfl,rfl⟩
  ·rintro i3 s6 _ _ ⟨v6,rfl,rfl⟩
   exact q_n (q_s (mg:=m93 s6.2) (w93 (by omega) _ _ s6.2) fun y3 hy3=>Ah (Jl 0 rfl) rfl)<|Ao
  ·rintro s6 _ _ ⟨v7,rfl,rfl⟩
   exact Ah (A8 (α:=Int) (l0:=false) (fl:=true) (xs:=[])) rfl
def IU (a0:Int) (a1:List Ad) (s1:Int×(List Int)):Option (LO (Int×(List Int))):=bif decide (s1.1≤30) then (m62 a0 a1 s1.1).bind fun y1=>bif (y1.length:Int) == 0 then some (LO.exit 0 (s1.1,s1.2)) else (Am y1 0).bind fun x1=>(BV 8 s1.2 [x1]).bind fun z1=>some (LO.norm (wi .i64 (s1.1 + 1),z1)) else some (LO.exit 0 (s1.1,s1.2))
def m29 (a0:Int) (a1:List Ad):Option ((List Int)):=(Aq (IU a0 a1) NN (1,[])).bind (Ac (fun _=>none) (fun i1 s2=>if i1 = 0 then some s2.2 else none) (fun s2=>some []))
theorem w29 {d:Nat} (hd:140≤d) (a0:Int) (k1:Bool) (a1:List Ad):Fit (R NN d 29 [iW a0,.rsl k1 false (a1.map (Enc.cs k1))] []) (m29 a0 a1) (P0 (fun (t:List Int)=>AV.rsl false false (t.map (Enc.cs false)))):=by
  obtain ⟨d,rfl,g⟩:=up hd
  refine AC (t29 NN d _ _) ?_
  unfold b29 m29
  refine q_q (fun _=>EM)<|D5 (α:=Int) false<|BI (I:=(fun (s:Int×(List Int)) l L=>∃ (v1:AV),l = [v1,iW s.1]∧L = [sl false v1 (s.2:List Int)])) 0 ⟨(.rsl false true []),rfl,rfl⟩ ?_ ?_ ?_
  ·rintro s1 _ _ ⟨v1,rfl,rfl⟩
   unfold UP IU
   exact q_p fr<|q_i (A4 (aF3 (Ab rfl) A8 (Ab rfl) fun l0_ l1_ l2_=>w62 (by omega) a0 l1_ a1 s1.1) fun y1 hy1=>AB<|q_p fr<|q_i (Ai 0 ⟨v1,rfl,rfl⟩)<|AL rfl fun x1 hx1=>q_p fr<|q_q (fun _=>DU)<|Ek (ys:=[x1]) 0 rfl rfl (fun _ _=>rfl) fun v2 z1 hz1=>q_p fr<|Aa 0 ⟨v2,rfl,rfl⟩)<|Ai 0 ⟨v1,rfl,rfl⟩
  ·rintro i1 s2 _ _ ⟨v3,rfl,rfl⟩
   exact q_n (Ah (Jl 0 rfl) rfl)<|Ao
  ·rintro s2 _ _ ⟨v4,rfl,rfl⟩
   exact Ah (A8 (α:=Int) (l0:=false) (fl:=true) (xs:=[])) rfl
def m12 (a0:Int) (a1:List Ad) (a2:Aj):Option (Int):=(m26 a0 a1).bind fun y1=>bif y1 != 0 then some y1 else (m29 a0 a1).bind fun y2=>(m28 a0 a1 a2 (y2.length:Int)).bind fun y3=>some y3
theorem w12 {d:Nat} (hd:146≤d) (a0:Int) (k1:Bool) (a1:List Ad) (k2:Bool) (a2:Aj):Fit (R NN d 12 [iW a0,.rsl k1 false (a1.map (Enc.cs k1)),.agg (Enc.cs k2 a2)] []) (m12 a0 a1 a2) PI:=by
  obtain ⟨d,rfl,g⟩:=up hd
  refine AC (t12 NN d _ _ _) ?_
  unfold b12 m12
  exact Bg (n:=4) rfl rfl (by decide) fun b1=>A4 (aF2 (Ab rfl) A8 fun l0_ l1_=>w26 (by omega) a0 l1_ a1) fun y1 hy1=>q_p fr<|q_i (Ah (Ab rfl) rfl)<|B0 0 rfl rfl rfl<|A4 (aF2 (Ab rfl) A8 fun l0_ l1_=>w29 (by omega) a0 l1_ a1) fun y2 hy2=>AB<|A4 (fun S hS=>C0 (Ab rfl) A8 (Cd (A3 (l0:=false) (x:=a2))) (Ab rfl) hS fun l0_ l1_ l2_ l3_=>w28 (by omega) a0 l1_ a1 l2_ a2 (y2.length:Int)) fun y3 hy3=>Ah (Ab rfl) rfl
def m59 (a0:List Ad) (a1:List Int):Option (List Int):=JH a1 (EY (fun r=>(Am a0 r).map fun x=>x.Certs.map fun c=>(c.Slot,c.View,c.Value)) a1)
theorem w59 {d:Nat} (hd:1≤d) (k0:Bool) (a0:List Ad) (k1:Bool) (a1:List Int):Fit (R NN d 59 [.rsl k0 false (a0.map (Enc.cs k0)),.rsl k1 false (a1.map (Enc.cs k1))] []) (m59 a0 a1) (P0 (fun (t:List Int)=>AV.rsl false false (t.map (Enc.cs false)))):=by
  obtain ⟨d,rfl,g⟩:=up hd
  exact Wj (R:=R NN (d + 1)) (fun _ _ _=>t59 _ _ _ _ _) (Enc.cs k0) (fun x=>x.Certs.map fun c=>(c.Slot,c.View,c.Value)) (fun x=>⟨rfl,_,_,_,rfl,Ji (f:=RO) (g:=(Enc.cs k0:Ar→List AV)) (k:=fun c=>(c.Slot,c.View,c.Value)) (fun _=>rfl) x.Certs⟩) a0 a1 _ _ _ _
def m27 (a0:Int) (a1:List Ad) (a2:Int) (a3:Int):Option (Bool):=bif !(m56 a2 0 (wi .i64 ((a1.length:Int) - 1))) then some false else (Am a1 a2).bind fun x1=>( bif x1.Kind != 1 then some (LO.ret false) else (m57 a0 x1.View).bind fun y1=>bif x1.From != y1 then some (LO.ret false) else some (LO.norm false)).bind (Ac (fun s2=>bif x1.View == 0 then bif a3 == (-1) then some (decide (x1.Value > 0)) else some false else ( (m58 a0 a1 a3).bind fun y2=>bif !y2 then some (LO.ret false) else (Am a1 a3).bind fun x2=>bif x2.View != x1.View then some (LO.ret false) else some (LO.norm s2)).bind (Ac (fun s4=>(Am a1 a3).bind fun x3=>(m59 a1 x3.Refs).bind fun y3=>bif decide (x1.Slot≤(y3.length:Int)) then (Am y3 (wi .i64 (x1.Slot - 1))).bind fun x4=>some (x1.Value == x4) else some (decide (x1.Value > 0))) (fun i2 s4=>none) (fun s4=>some s4))) (fun i1 s2=>none) (fun s2=>some s2))
theorem w27 {d:Nat} (hd:145≤d) (a0:Int) (k1:Bool) (a1:List Ad) (a2:Int) (a3:Int):Fit (R NN d 27 [iW a0,.rsl k1 false (a1.map (Enc.cs k1)),iW a2,iW a3] []) (m27 a0 a1 a2 a3) PB:=by
  obtain ⟨d,rfl,g⟩:=up hd
  refine AC (t27 NN d _ _ _ _) ?_
  unfold b27 m27
  refine AB<|q_p fr<|AH (aF3 (Ab rfl) (Ab rfl) (Ab rfl) fun l0_ l1_ l2_=>w56 (by omega) a2 0 (wi .i64 ((a1.length:Int) - 1)))<|q_p fr<|q_i ?_ ?_
  ·exact Ah (Ab rfl) rfl
  ·refine AL rfl fun x1 hx1=>q_p fr<|Bt rfl fun b1=>Bj 0 rfl rfl rfl (by decide) rfl<|AD (A:=fun (s:Bool)=>[.bool s]) (B:=fun s=>[bx b1 [iW x1.Kind,iW x1.View,iW x1.From,iW x1.Slot,iW x1.Value,.rsl k1 false (x1.Certs.map (Enc.cs k1)),.rsl k1 false (x1.Refs.map (Enc.cs k1))]]) ?_ ?_ ?_ ?_
   ·refine q_p fr<|Av 0 rfl rfl<|q_p fr<|q_j ?_ ?_
    ·first | refine Dh ?_ | skip
     exact Ag 0 rr
    ·exact q_p fr<|Av 0 rfl rfl<|q_p fr<|Av 0 rfl rfl<|A4 (aF2 (Ab rfl) (Ab rfl) fun l0_ l1_=>w57 (by omega) a0 x1.View) fun y1 hy1=>q_p fr<|q_i (Ag 0 rr)<|Aa 0 rr
   ·intro s2
    refine q_p fr<|Av 0 rfl rfl<|q_p fr<|q_i ?_ ?_
    ·exact q_p fr<|q_k (q_p fr<|Av 0 rfl rfl<|q_p fr<|Ah (Ab rfl) rfl)<|Ah (Ab rfl) rfl
    ·refine AD (A:=fun (s:Bool)=>[.bool s]) (B:=fun s=>[bx b1 [iW x1.Kind,iW x1.View,iW x1.From,iW x1.Slot,iW x1.Value,.rsl k1 false (x1.Certs.map (Enc.cs k1)),.rsl k1 false (x1.Refs.map (Enc.cs k1))]]) ?_ ?_ ?_ ?_
     ·refine A4 (aF3 (Ab rfl) A8 (Ab rfl) fun l0_ l1_ l2_=>w58 (by omega) a0 l1_ a1 a3) fun y2 hy2=>q_p fr<|q_j ?_ ?_
      ·first | refine Dh ?_ | skip
       exact Ag 0 rr
      ·exact AL rfl fun x2 hx2=>q_p fr<|q_p fr<|q_p fr<|Av 0 rfl rfl<|q_p fr<|q_i (Ag 0 rr)<|Aa 0 rr
     ·exact fun s4=>AL rfl fun x3 hx3=>q_p fr<|q_p fr<|A4 (aF2 A8 A8 fun l0_ l1_=>w59 (by omega) l0_ a1 l1_ x3.Refs) fun y3 hy3=>q_p fr<|Av 0 rfl rfl<|AB<|q_p fr<|q_i (q_p fr<|Av 0 rfl rfl<|q_p fr<|Av 0 rfl rfl<|q_p fr<|AL rfl fun x4 hx4=>q_p fr<|q_p fr<|Ah (Ab rfl) rfl)<|q_p fr<|Av 0 rfl rfl<|q_p fr<|Ah (Ab rfl) rfl
     ·exact fun i2 s4=>Ao
     ·exact fun s4=>Ah (Ab rfl) rfl
   ·exact fun i1 s2=>Ao
   ·exact fun s2=>Ah (Ab rfl) rfl
def m95 (a0:List Ad) (a1:Ad→Option (Bool)):Option (Bool):=(m87 a0 a1).bind fun y1=>some (decide (y1 ≥ 0))
theorem w95 {Dc:Nat} {d:Nat} (hd:Dc + 2≤d) (k0:Bool) (a0:List Ad) (c1:Bool→AV) (hc1:∀ l,CV 8 [] false (c1 l) c1) (a1:Ad→Option (Bool)) (tc1:∀ (d:Nat),Dc≤d→∀ (l:Bool) (q0:Bool) (x0:Ad) (S:St) (t:Bool),a1 x0 = some t→Dm (cfg NN) (R NN d) 87 (c1 l) [.agg (Enc.cs q0 x0)] S = some ((fun (t:Bool)=>AV.bool t) t,S)) (k1:Bool):Fit (R NN d 95 [.rsl k0 false (a0.map (Enc.cs k0)),c1 k1] []) (m95 a0 a1) PB:=by
  obtain ⟨d,rfl,g⟩:=up hd
  refine AC (t95 NN d _ _) ?_
  unfold b95 m95
  exact A4 (aF2 A8 (CV.any (hc1 k1)) fun l0_ l1_=>w87 (by omega) l0_ a0 c1 hc1 a1 tc1 l1_) fun y1 hy1=>q_p fr<|Ah (Ab rfl) rfl
end
end Go.Proofs.YtgjljhchmokhfaaGreat
