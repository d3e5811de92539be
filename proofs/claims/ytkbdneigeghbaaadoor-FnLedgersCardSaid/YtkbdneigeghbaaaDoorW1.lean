/- Plain functions, and that the evaluator computes them. -/
import Derived.Test.YtkbdneigeghbaaaDoorT
import Derived.Test.YtkbdneigeghbaaaDoorRh6
import Derived.Test.YtkbdneigeghbaaaDoorRh10
import Derived.Test.YtkbdneigeghbaaaDoorRh11
import Derived.Test.YtkbdneigeghbaaaDoorRh14
import Derived.Test.YtkbdneigeghbaaaDoorRh18
namespace Go.Proofs.YtkbdneigeghbaaaDoor
open Go Go.Rf
set_option linter.unusedVariables false
set_option linter.unusedSimpArgs false
noncomputable section
structure Tl1Src where
  Code:List U8
  At:Int
  deriving DecidableEq
instance:Enc Tl1Src:=(Enc.of fun x:Tl1Src=>(x.Code,x.At)).copy (fun l x=>[.rsl l false (x.Code.map (Enc.cs l)),.int .i64 x.At]) (fun _ _=>rfl) 2 1 rfl rfl
instance:Tr Tl1Src:=Tr.of (fun x:Tl1Src=>(x.Code,x.At)) (fun _ _=>rfl) rfl rfl
structure TCert where
  Slot:Int
  View:Int
  Value:Int
  deriving DecidableEq
instance:Enc TCert:=(Enc.of fun x:TCert=>(x.Slot,x.View,x.Value)).copy (fun l x=>[.int .i64 x.Slot,.int .i64 x.View,.int .i64 x.Value]) (fun _ _=>rfl) 3 0 rfl rfl
instance:Tr TCert:=Tr.of (fun x:TCert=>(x.Slot,x.View,x.Value)) (fun _ _=>rfl) rfl rfl
structure TMsg where
  Kind:Int
  View:Int
  From:Int
  Slot:Int
  Value:Int
  Certs:List TCert
  Refs:List Int
  deriving DecidableEq
instance:Enc TMsg:=(Enc.of fun x:TMsg=>(x.Kind,x.View,x.From,x.Slot,x.Value,x.Certs,x.Refs)).copy (fun l x=>[.int .i64 x.Kind,.int .i64 x.View,.int .i64 x.From,.int .i64 x.Slot,.int .i64 x.Value,.rsl l false (x.Certs.map (Enc.cs l)),.rsl l false (x.Refs.map (Enc.cs l))]) (fun _ _=>rfl) 7 1 rfl rfl
instance:Tr TMsg:=Tr.of (fun x:TMsg=>(x.Kind,x.View,x.From,x.Slot,x.Value,x.Certs,x.Refs)) (fun _ _=>rfl) rfl rfl
structure TLedgerResult where
  Code:Int
  Ledger:List TMsg
  deriving DecidableEq
instance:Enc TLedgerResult:=(Enc.of fun x:TLedgerResult=>(x.Code,x.Ledger)).copy (fun l x=>[.int .i64 x.Code,.rsl l false (x.Ledger.map (Enc.cs l))]) (fun _ _=>rfl) 2 2 rfl rfl
instance:Tr TLedgerResult:=Tr.of (fun x:TLedgerResult=>(x.Code,x.Ledger)) (fun _ _=>rfl) rfl rfl
structure TIntsResult where
  Code:Int
  List:List Int
  deriving DecidableEq
instance:Enc TIntsResult:=(Enc.of fun x:TIntsResult=>(x.Code,x.List)).copy (fun l x=>[.int .i64 x.Code,.rsl l false (x.List.map (Enc.cs l))]) (fun _ _=>rfl) 2 1 rfl rfl
instance:Tr TIntsResult:=Tr.of (fun x:TIntsResult=>(x.Code,x.List)) (fun _ _=>rfl) rfl rfl
structure TTextResult where
  Code:Int
  Text:Str
  deriving DecidableEq
instance:Enc TTextResult:=(Enc.of fun x:TTextResult=>(x.Code,x.Text)).copy (fun l x=>[.int .i64 x.Code,encS x.Text]) (fun _ _=>rfl) 2 0 rfl rfl
instance:Tr TTextResult:=Tr.of (fun x:TTextResult=>(x.Code,x.Text)) (fun _ _=>rfl) rfl rfl
theorem bd28_0_1_2 {x0 x1 x2 r:AV} (hr:(afill (plc [(0,1),(1,1),(2,1),(3,1),(4,1),(5,1),(6,1)]) [.int .i64 0,.int .i64 0,.int .i64 0,.int .i64 0,.int .i64 0,.rsl false true [],.rsl false true []] [(0,x0),(1,x1),(2,x2)]).map AV.agg = some r):abuild Tryd.prog 28 [(0,x0),(1,x1),(2,x2)] = some r:=Eq.trans (by kernel_rfl) hr
theorem bd32_0_1 {x0 x1 r:AV} (hr:(afill (plc [(0,1),(1,1)]) [.int .i64 0,.rsl false true []] [(0,x0),(1,x1)]).map AV.agg = some r):abuild Tryd.prog 32 [(0,x0),(1,x1)] = some r:=Eq.trans (by kernel_rfl) hr
theorem bd32_0 {x0 r:AV} (hr:(afill (plc [(0,1),(1,1)]) [.int .i64 0,.rsl false true []] [(0,x0)]).map AV.agg = some r):abuild Tryd.prog 32 [(0,x0)] = some r:=Eq.trans (by kernel_rfl) hr
theorem bd32_1 {x1 r:AV} (hr:(afill (plc [(0,1),(1,1)]) [.int .i64 0,.rsl false true []] [(1,x1)]).map AV.agg = some r):abuild Tryd.prog 32 [(1,x1)] = some r:=Eq.trans (by kernel_rfl) hr
theorem bd36_0 {x0 r:AV} (hr:(afill (plc [(0,1),(1,1)]) [.int .i64 0,.rsl false true []] [(0,x0)]).map AV.agg = some r):abuild Tryd.prog 36 [(0,x0)] = some r:=Eq.trans (by kernel_rfl) hr
theorem bd36_1 {x1 r:AV} (hr:(afill (plc [(0,1),(1,1)]) [.int .i64 0,.rsl false true []] [(1,x1)]).map AV.agg = some r):abuild Tryd.prog 36 [(1,x1)] = some r:=Eq.trans (by kernel_rfl) hr
theorem bd39_0 {x0 r:AV} (hr:(afill (plc [(0,1),(1,1)]) [.int .i64 0,.str ⟨#[]⟩] [(0,x0)]).map AV.agg = some r):abuild Tryd.prog 39 [(0,x0)] = some r:=Eq.trans (by kernel_rfl) hr
theorem bd39_1 {x1 r:AV} (hr:(afill (plc [(0,1),(1,1)]) [.int .i64 0,.str ⟨#[]⟩] [(1,x1)]).map AV.agg = some r):abuild Tryd.prog 39 [(1,x1)] = some r:=Eq.trans (by kernel_rfl) hr
theorem bd58_0_1_2 {x0 x1 x2 r:AV} (hr:(afill (plc [(0,1),(1,1),(2,1)]) [.int .i64 0,.int .i64 0,.int .i64 0] [(0,x0),(1,x1),(2,x2)]).map AV.agg = some r):abuild Tryd.prog 58 [(0,x0),(1,x1),(2,x2)] = some r:=Eq.trans (by kernel_rfl) hr
theorem bd69_0 {x0 r:AV} (hr:(afill (plc [(0,1),(1,1)]) [.rsl false true [],.int .i64 0] [(0,x0)]).map AV.agg = some r):abuild Tryd.prog 69 [(0,x0)] = some r:=Eq.trans (by kernel_rfl) hr
theorem qb22 {n:Int} {S:St}:quietS (abuildS Tryd.prog 22 1 [(0,.int .u8 n)] S) S = some (.rsl false true [[.int .u8 n]],S):=by kernel_rfl
theorem qs24_0 {S:St}:quietS (abuildS Tryd.prog 24 0 [] S) S = some (.rsl false true [],S):=by kernel_rfl
theorem qs25_0 {S:St}:quietS (abuildS Tryd.prog 25 0 [] S) S = some (.rsl false true [],S):=by kernel_rfl
theorem qs26_0 {S:St}:quietS (abuildS Tryd.prog 26 0 [] S) S = some (.rsl false true [],S):=by kernel_rfl
theorem qs61_0 {S:St}:quietS (abuildS Tryd.prog 61 0 [] S) S = some (.rsl false true [],S):=by kernel_rfl
theorem qs61_1 {x0:Str} {S:St}:quietS (abuildS Tryd.prog 61 1 [(0,encS x0)] S) S = some (.rsl false true [[encS x0]],S):=by kernel_rfl
theorem qs61_5 {x0 x1 x2 x3 x4:Str} {S:St}:quietS (abuildS Tryd.prog 61 5 [(0,encS x0),(1,encS x1),(2,encS x2),(3,encS x3),(4,encS x4)] S) S = some (.rsl false true [[encS x0],[encS x1],[encS x2],[encS x3],[encS x4]],S):=by kernel_rfl
theorem qs61_6 {x0 x1 x2 x3 x4 x5:Str} {S:St}:quietS (abuildS Tryd.prog 61 6 [(0,encS x0),(1,encS x1),(2,encS x2),(3,encS x3),(4,encS x4),(5,encS x5)] S) S = some (.rsl false true [[encS x0],[encS x1],[encS x2],[encS x3],[encS x4],[encS x5]],S):=by kernel_rfl
theorem bs24_1 {x0 r:AV} {S:St} (hr:(aparts 7 0 [(0,x0)]).map (fun es=>mkS 7 es S) = some (r,S)):abuildS Tryd.prog 24 1 [(0,x0)] S = some (r,S):=Eq.trans (by kernel_rfl) hr
theorem bs25_1 {x0 r:AV} {S:St} (hr:(aparts 3 0 [(0,x0)]).map (fun es=>mkS 3 es S) = some (r,S)):abuildS Tryd.prog 25 1 [(0,x0)] S = some (r,S):=Eq.trans (by kernel_rfl) hr
theorem bs26_1 {x0 r:AV} {S:St} (hr:(aparts 1 0 [(0,x0)]).map (fun es=>mkS 1 es S) = some (r,S)):abuildS Tryd.prog 26 1 [(0,x0)] S = some (r,S):=Eq.trans (by kernel_rfl) hr
theorem bs26_2 {x0 x1 r:AV} {S:St} (hr:(aparts 1 0 [(0,x0),(1,x1)]).map (fun es=>mkS 1 es S) = some (r,S)):abuildS Tryd.prog 26 2 [(0,x0),(1,x1)] S = some (r,S):=Eq.trans (by kernel_rfl) hr
theorem bs26_3 {x0 x1 x2 r:AV} {S:St} (hr:(aparts 1 0 [(0,x0),(1,x1),(2,x2)]).map (fun es=>mkS 1 es S) = some (r,S)):abuildS Tryd.prog 26 3 [(0,x0),(1,x1),(2,x2)] S = some (r,S):=Eq.trans (by kernel_rfl) hr
theorem bs26_4 {x0 x1 x2 x3 r:AV} {S:St} (hr:(aparts 1 0 [(0,x0),(1,x1),(2,x2),(3,x3)]).map (fun es=>mkS 1 es S) = some (r,S)):abuildS Tryd.prog 26 4 [(0,x0),(1,x1),(2,x2),(3,x3)] S = some (r,S):=Eq.trans (by kernel_rfl) hr
theorem bs26_7 {x0 x1 x2 x3 x4 x5 x6 r:AV} {S:St} (hr:(aparts 1 0 [(0,x0),(1,x1),(2,x2),(3,x3),(4,x4),(5,x5),(6,x6)]).map (fun es=>mkS 1 es S) = some (r,S)):abuildS Tryd.prog 26 7 [(0,x0),(1,x1),(2,x2),(3,x3),(4,x4),(5,x5),(6,x6)] S = some (r,S):=Eq.trans (by kernel_rfl) hr
theorem bs26_9 {x0 x1 x2 x3 x4 x5 x6 x7 x8 r:AV} {S:St} (hr:(aparts 1 0 [(0,x0),(1,x1),(2,x2),(3,x3),(4,x4),(5,x5),(6,x6),(7,x7),(8,x8)]).map (fun es=>mkS 1 es S) = some (r,S)):abuildS Tryd.prog 26 9 [(0,x0),(1,x1),(2,x2),(3,x3),(4,x4),(5,x5),(6,x6),(7,x7),(8,x8)] S = some (r,S):=Eq.trans (by kernel_rfl) hr
theorem bt24 {a:AV} {S:St}:abuildS Tryd.prog 24 1 [(0,a)] S = (aparts 7 0 [(0,a)]).map fun es=>mkS 7 es S:=by kernel_rfl
theorem cv65_66 (run:FuncId→List AV→St→Option (AV×St)) (cap args:List AV) (S:St):callV (cfg NN) run 65 (.fn 66 cap) args S = call0 run 66 (args++cap) S:=by kernel_rfl
theorem cv68_47 (run:FuncId→List AV→St→Option (AV×St)) (cap args:List AV) (S:St):callV (cfg NN) run 68 (.fn 47 cap) args S = call0 run 47 (args++cap) S:=by kernel_rfl
theorem cv69_49 (run:FuncId→List AV→St→Option (AV×St)) (cap args:List AV) (S:St):callV (cfg NN) run 69 (.fn 49 cap) args S = call0 run 49 (args++cap) S:=by kernel_rfl
theorem cv69_64 (run:FuncId→List AV→St→Option (AV×St)) (cap args:List AV) (S:St):callV (cfg NN) run 69 (.fn 64 cap) args S = call0 run 64 (args++cap) S:=by kernel_rfl
theorem cvt2_5 (n:Int) (S:St):aconv Tryd.prog 2 5 (.int .i64 n) S = some (.int .u8 (wi .u8 n)):=by kernel_rfl
theorem cvt5_2 (n:Int) (S:St):aconv Tryd.prog 5 2 (.int .u8 n) S = some (.int .i64 (wi .i64 n)):=by kernel_rfl
theorem cvb22_9 (n:Int) (S:St):aconv Tryd.prog 22 9 (.rsl false true [[.int .u8 n]]) S = some (encS [UInt8.ofNat n.toNat]):=by kernel_rfl
theorem mk24 (S:St) (n:Nat) (h:(n + 1) * (88 + 1)≤70368744177664):amake Tryd.prog 24 (.int .i64 n) (.int .i64 n) S = some (.bsl S.length 0 n n true,S++[⟨7,List.replicate n [.int .i64 0,.int .i64 0,.int .i64 0,.int .i64 0,.int .i64 0,.rsl false false [],.rsl false false []],false⟩]):=
  amake_ok (e:=28) (sz:=7) (by_:=88) (z:=[.int .i64 0,.int .i64 0,.int .i64 0,.int .i64 0,.int .i64 0,.rsl false false [],.rsl false false []]) (z0:=[.int .i64 0,.int .i64 0,.int .i64 0,.int .i64 0,.int .i64 0,.rsl false true [],.rsl false true []]) (by kernel_rfl) (by kernel_rfl) (by kernel_rfl) rfl rfl (by omega) rfl rfl h
theorem plt2 {l:Bool} (S:St) (x:Int):Tr.ow S [] (Enc.cs l x) x:=pl_int x
theorem plsTCert {S:St} {l:Bool} (x:TCert):Tr.ow S [] (Enc.cs l x) x:=(pl_pair pl_int (pl_pair pl_int pl_int) _:Tr.ow (α:=Int×Int×Int) S [] (Enc.cs l _) (x.Slot,x.View,x.Value))
theorem plt58 {l:Bool} (S:St) (x:TCert):Tr.ow S [] (Enc.cs l x) x:=plsTCert x
theorem sneq582 (x0:Int) (x1:Int) (x2:Int) (y0:Int) (y1:Int) (y2:Int):bin2 Tryd.prog .neq 58 (.agg [.int .i64 x0,.int .i64 x1,.int .i64 x2]) (.agg [.int .i64 y0,.int .i64 y1,.int .i64 y2]) = some (.bool (!((x0 == y0) && ((x1 == y1) && ((x2 == y2) && true))))):=by kernel_rfl
theorem trx28 {S:St} {ids:List Nat} {cs:List AV} {x:TMsg} (h:Tr.ow S ids cs x):∃ v0 v1:AV,cs = [.int .i64 x.Kind,.int .i64 x.View,.int .i64 x.From,.int .i64 x.Slot,.int .i64 x.Value,v0,v1]:=by
  obtain ⟨_,_,_,_,rfl,_,rfl,⟨rfl,rfl⟩,⟨_,_,_,_,rfl,_,rfl,⟨rfl,rfl⟩,⟨_,_,_,_,rfl,_,rfl,⟨rfl,rfl⟩,⟨_,_,_,_,rfl,_,rfl,⟨rfl,rfl⟩,⟨_,_,_,_,rfl,_,rfl,⟨rfl,rfl⟩,⟨_,_,_,_,rfl,_,rfl,⟨v0,rfl,_⟩,⟨v1,rfl,_⟩⟩⟩⟩⟩⟩⟩:=h
  exact ⟨_,_,rfl⟩
theorem und24:Tryd.prog.underlying 24 = some (.slice 28):=by kernel_rfl
theorem und25:Tryd.prog.underlying 25 = some (.slice 58):=by kernel_rfl
theorem und26:Tryd.prog.underlying 26 = some (.slice 2):=by kernel_rfl
theorem ztr28 (S:St):Tr.ow S [] [AV.int .i64 0,AV.int .i64 0,AV.int .i64 0,AV.int .i64 0,AV.int .i64 0,AV.rsl false false [],AV.rsl false false []] (⟨0,0,0,0,0,[],[]⟩:TMsg):=((zt_pair (pl_int (l:=false) 0) (zt_pair (pl_int (l:=false) 0) (zt_pair (pl_int (l:=false) 0) (zt_pair (pl_int (l:=false) 0) (zt_pair (pl_int (l:=false) 0) (zt_pair (zt_nil (α:=TCert) (fl:=false)) (zt_nil (α:=Int) (fl:=false)))))))):Tr.ow (α:=Int×Int×Int×Int×Int×(List TCert)×(List Int)) S [] _ (0,0,0,0,0,[],[]))
def m4 (a0:List U8):Bool:=decide ((a0.length:Int) > 1048576)
theorem w4 {d:Nat} (hd:1≤d) (k0:Bool) (a0:List U8):Fit (R NN d 4 [.rsl k0 false (a0.map (Enc.cs k0))] []) (some (m4 a0)) PB:=by
  obtain ⟨d,rfl,g⟩:=up hd
  refine q_in (t4 NN d _) ?_
  unfold b4 m4
  exact q_len<|q_p fr<|q_ret (cv_p rfl) rfl
def m14 (a0:List U8):Option (Tl1Src):=some (⟨a0,0⟩:Tl1Src)
theorem w14 {d:Nat} (hd:1≤d) (L0:List En) (k0:Bool) (a0:List U8):Okh L0 (fun S=>R NN d 14 [.rsl k0 false (a0.map (Enc.cs k0))] S) (m14 a0) (P5 (fun (x:Nat) (t:Tl1Src)=>AV.bp x 0 0 2 1) (fun (x:Nat) (t:Tl1Src)=>bx x [.rsl k0 false (t.Code.map (Enc.cs k0)),.int .i64 t.At]::L0)):=by
  obtain ⟨d,rfl,g⟩:=up hd
  refine q_to (t14 NN d _) ?_
  unfold b14 m14
  exact q_p (fun _=>bd69_0 rfl)<|q_box (n:=2) rfl rfl (by decide) fun b1=>q_ret5 b1 0 rfl rfl
def m39 (a0:Tl1Src) (a1:Int):Option (Int×Tl1Src):=bif decide (a1 < 1) then some (0,(⟨a0.Code,wi .i64 (a0.At + 1)⟩:Tl1Src)) else bif (a0.Code.length:Int) == 0 then (remO (wi .i64 ((wi .i64 ((wi .i64 (a0.At + 1)) - 1)) * 7)) a1).bind fun q1=>some (q1,(⟨a0.Code,wi .i64 (a0.At + 1)⟩:Tl1Src)) else (remO (wi .i64 ((wi .i64 (a0.At + 1)) - 1)) (a0.Code.length:Int)).bind fun q2=>(getI a0.Code q2).bind fun x1=>(quoO .i64 (wi .i64 ((wi .i64 (a0.At + 1)) - 1)) (a0.Code.length:Int)).bind fun q3=>( bif decide (a1 > 200) then (remO (wi .i64 ((wi .i64 ((wi .i64 (a0.At + 1)) - 1)) + 1)) (a0.Code.length:Int)).bind fun q4=>(getI a0.Code q4).bind fun x2=>some (LO.norm (wi .i64 ((wi .i64 ((wi .i64 ((wi .i64 ((wi .i64 x1.v) + (wi .i64 (q3 * 37)))) * 251)) + (wi .i64 ((wi .i64 x2.v) * 13)))) + (wi .i64 ((wi .i64 (a0.At + 1)) - 1))))) else some (LO.norm (wi .i64 ((wi .i64 x1.v) + (wi .i64 (q3 * 37)))))).bind (contO (fun s2=>(remO s2 a1).bind fun q5=>some (q5,(⟨a0.Code,wi .i64 (a0.At + 1)⟩:Tl1Src))) (fun i1 s2=>none) (fun s2=>some (0,(⟨a0.Code,wi .i64 (a0.At + 1)⟩:Tl1Src))))
theorem w39 {d:Nat} (hd:1≤d) (L0:List En) (b0_:Nat) (k0:Bool) (a0:Tl1Src) (a1:Int):Okh (bx b0_ [.rsl k0 false (a0.Code.map (Enc.cs k0)),.int .i64 a0.At]::L0) (fun S=>R NN d 39 [.bp b0_ 0 0 2 1,.int .i64 a1] S) (m39 a0 a1) (P2 (fun (t:Int×Tl1Src)=>AV.int .i64 t.1) (fun (t:Int×Tl1Src)=>bx b0_ [.rsl k0 false (t.2.Code.map (Enc.cs k0)),.int .i64 t.2.At]::L0)):=by
  obtain ⟨d,rfl,g⟩:=up hd
  refine q_to (t39 NN d _ _) ?_
  unfold b39 m39
  refine q_q fr<|q_p fr<|q_ld 0 rfl rfl<|q_p fr<|q_q fr<|q_p fr<|q_st 0 rfl rfl rfl (by decide) rfl<|q_p fr<|q_i ?_ ?_
  ·exact q_ret2 0 rfl rfl
  ·refine q_q fr<|q_p fr<|q_ld 0 rfl rfl<|q_p fr<|q_q fr<|q_p fr<|q_ld 0 rfl rfl<|q_len<|q_p fr<|q_i ?_ ?_
   ·exact q_p fr<|q_rem2 fun q1 hq1=>q_ret2 0 rfl rfl
   ·refine q_q fr<|q_p fr<|q_ld 0 rfl rfl<|q_rem2 fun q2 hq2=>q_ix rfl fun x1 hx1=>q_p fr<|q_p (fun _=>cvt5_2 _ _)<|q_quo2 fun q3 hq3=>q_p fr<|q_p fr<|q_cu (A:=fun (s:Int)=>[.int .i64 s]) (B:=fun s=>bx b0_ [.rsl k0 false (a0.Code.map (Enc.cs k0)),.int .i64 (wi .i64 (a0.At + 1))]::L0) ?_ ?_ ?_ ?_
    ·exact q_p fr<|q_i (q_p fr<|q_q fr<|q_p fr<|q_ld 0 rfl rfl<|q_p fr<|q_rem2 fun q4 hq4=>q_ix rfl fun x2 hx2=>q_p fr<|q_p (fun _=>cvt5_2 _ _)<|q_p fr<|q_p fr<|q_p fr<|q_norm 0 rr)<|q_norm 0 rr
    ·exact fun s2=>q_rem2 fun q5 hq5=>q_ret2 0 rfl rfl
    ·exact fun i1 s2=>q_none
    ·exact fun s2=>q_ret2 0 rfl rfl
def m37 (a0:Tl1Src) (a1:List Int):Option (Int×Tl1Src):=(m39 a0 (a1.length:Int)).bind fun y1=>(getI a1 y1.1).bind fun x1=>some (x1,y1.2)
theorem w37 {d:Nat} (hd:2≤d) (L0:List En) (b0_:Nat) (k0:Bool) (a0:Tl1Src) (k1:Bool) (f1_:Bool) (a1:List Int):Okh (bx b0_ [.rsl k0 false (a0.Code.map (Enc.cs k0)),.int .i64 a0.At]::L0) (fun S=>R NN d 37 [.bp b0_ 0 0 2 1,.rsl k1 f1_ (a1.map (Enc.cs k1))] S) (m37 a0 a1) (P2 (fun (t:Int×Tl1Src)=>AV.int .i64 t.1) (fun (t:Int×Tl1Src)=>bx b0_ [.rsl k0 false (t.2.Code.map (Enc.cs k0)),.int .i64 t.2.At]::L0)):=by
  obtain ⟨d,rfl,g⟩:=up hd
  refine q_to (t37 NN d _ _) ?_
  unfold b37 m37
  exact q_len<|q_s (mg:=m39 a0 (a1.length:Int)) (w39 (by omega) _ _ k0 a0 (a1.length:Int)) fun y1 hy1=>q_ix rfl fun x1 hx1=>q_p fr<|q_ret2 0 rfl rfl
def m15 (a0:Tl1Src):Option (Int×Tl1Src):=(m37 a0 [1,1,1,1,2,0,1,1,3]).bind fun y1=>some (y1.1,y1.2)
theorem w15 {d:Nat} (hd:3≤d) (L0:List En) (b0_:Nat) (k0:Bool) (a0:Tl1Src):Okh (bx b0_ [.rsl k0 false (a0.Code.map (Enc.cs k0)),.int .i64 a0.At]::L0) (fun S=>R NN d 15 [.bp b0_ 0 0 2 1] S) (m15 a0) (P2 (fun (t:Int×Tl1Src)=>AV.int .i64 t.1) (fun (t:Int×Tl1Src)=>bx b0_ [.rsl k0 false (t.2.Code.map (Enc.cs k0)),.int .i64 t.2.At]::L0)):=by
  obtain ⟨d,rfl,g⟩:=up hd
  refine q_to (t15 NN d _) ?_
  unfold b15 m15
  exact q_e (fun _=>bs26_9 rfl)<|q_s (mg:=m37 a0 [1,1,1,1,2,0,1,1,3]) (w37 (by omega) _ _ k0 a0 _ _ [1,1,1,1,2,0,1,1,3]) fun y1 hy1=>q_ret2 0 rfl rfl
def m17 (a0:Tl1Src) (a1:Int):Option (Bool×Tl1Src):=(m39 a0 a1).bind fun y1=>some (y1.1 == 0,y1.2)
theorem w17 {d:Nat} (hd:2≤d) (L0:List En) (b0_:Nat) (k0:Bool) (a0:Tl1Src) (a1:Int):Okh (bx b0_ [.rsl k0 false (a0.Code.map (Enc.cs k0)),.int .i64 a0.At]::L0) (fun S=>R NN d 17 [.bp b0_ 0 0 2 1,.int .i64 a1] S) (m17 a0 a1) (P2 (fun (t:Bool×Tl1Src)=>AV.bool t.1) (fun (t:Bool×Tl1Src)=>bx b0_ [.rsl k0 false (t.2.Code.map (Enc.cs k0)),.int .i64 t.2.At]::L0)):=by
  obtain ⟨d,rfl,g⟩:=up hd
  refine q_to (t17 NN d _ _) ?_
  unfold b17 m17
  exact q_s (mg:=m39 a0 a1) (w39 (by omega) _ _ k0 a0 a1) fun y1 hy1=>q_p fr<|q_ret2 0 rfl rfl
def ms40_0 (y2:Int×Tl1Src) (s2:Int×(List TCert)×(List U8)×Int):Option (LO (Int×(List TCert)×(List U8)×Int)):=( ( bif decide (s2.1 < 4) then some (LO.norm (decide (y2.1 > 0))) else some (LO.norm false)).bind (contO (fun s5=>bif s5 then some (LO.norm s5) else some (LO.exit 1 s5)) (fun i1 s5=>some (LO.exit i1 s5)) (fun s5=>some (LO.ret s5)))).bind (contO (fun s6=>( (m17 (⟨s2.2.2.1,s2.2.2.2⟩:Tl1Src) 3).bind fun y4=>bif y4.1 then (m39 y4.2 y2.1).bind fun y5=>(m39 y5.2 3).bind fun y6=>(appO 24 s2.2.1 [(⟨s2.1,y5.1,y6.1⟩:TCert)]).bind fun z1=>some (LO.norm (z1,y6.2.Code,y6.2.At)) else some (LO.norm (s2.2.1,y4.2.Code,y4.2.At))).bind (contO (fun s8=>some (LO.norm (wi .i64 (s2.1 + 1),s8.1,s8.2.1,s8.2.2))) (fun i3 s8=>some (LO.exit i3 (s2.1,s8.1,s8.2.1,s8.2.2))) (fun s8=>some (LO.ret (s2.1,s8.1,s8.2.1,s8.2.2))))) (fun i2 s6=>some (LO.exit i2 (s2.1,s2.2.1,s2.2.2.1,s2.2.2.2))) (fun s6=>some (LO.ret (s2.1,s2.2.1,s2.2.2.1,s2.2.2.2))))
def ms40_1 (a1:Int) (s10:Int×(List Int)×(List U8)×Int):Option (LO (Int×(List Int)×(List U8)×Int)):=( ( bif decide (s10.1 < a1) then some (LO.norm (decide ((s10.2.1.length:Int) < 4))) else some (LO.norm false)).bind (contO (fun s13=>bif s13 then some (LO.norm s13) else some (LO.exit 3 s13)) (fun i5 s13=>some (LO.exit i5 s13)) (fun s13=>some (LO.ret s13)))).bind (contO (fun s14=>( (m17 (⟨s10.2.2.1,s10.2.2.2⟩:Tl1Src) 3).bind fun y7=>bif y7.1 then (appO 8 s10.2.1 [s10.1]).bind fun z2=>some (LO.norm (z2,y7.2.Code,y7.2.At)) else some (LO.norm (s10.2.1,y7.2.Code,y7.2.At))).bind (contO (fun s16=>some (LO.norm (wi .i64 (s10.1 + 1),s16.1,s16.2.1,s16.2.2))) (fun i7 s16=>some (LO.exit i7 (s10.1,s16.1,s16.2.1,s16.2.2))) (fun s16=>some (LO.ret (s10.1,s16.1,s16.2.1,s16.2.2))))) (fun i6 s14=>some (LO.exit i6 (s10.1,s10.2.1,s10.2.2.1,s10.2.2.2))) (fun s14=>some (LO.ret (s10.1,s10.2.1,s10.2.2.1,s10.2.2.2))))
def m40 (a0:Tl1Src) (a1:Int):Option (TMsg×Tl1Src):=(m37 a0 [1,2,2,3,3,4,5]).bind fun y1=>(m39 y1.2 3).bind fun y2=>(m39 y2.2 4).bind fun y3=>( bif y1.1 == 4 then (loopO (ms40_0 y2) NN (1,[],y3.2.Code,y3.2.At)).bind (contO (fun _=>none) (fun i4 s9=>if i4 = 1 then some (LO.norm ([],s9.2.1,0,0,s9.2.2.1,s9.2.2.2)) else if i4 = 0 then some (LO.norm ([],s9.2.1,0,0,s9.2.2.1,s9.2.2.2)) else some (LO.exit i4 ([],s9.2.1,0,0,s9.2.2.1,s9.2.2.2))) (fun s9=>some (LO.ret ([],s9.2.1,0,0,s9.2.2.1,s9.2.2.2)))) else bif y1.1 == 5 then (loopO (ms40_1 a1) NN (0,[],y3.2.Code,y3.2.At)).bind (contO (fun _=>none) (fun i8 s17=>if i8 = 3 then some (LO.norm (s17.2.1,[],0,0,s17.2.2.1,s17.2.2.2)) else if i8 = 0 then some (LO.norm (s17.2.1,[],0,0,s17.2.2.1,s17.2.2.2)) else some (LO.exit i8 (s17.2.1,[],0,0,s17.2.2.1,s17.2.2.2))) (fun s17=>some (LO.ret (s17.2.1,[],0,0,s17.2.2.1,s17.2.2.2)))) else (m39 y3.2 2).bind fun y8=>(m39 y8.2 3).bind fun y9=>some (LO.norm ([],[],wi .i64 (1 + y8.1),y9.1,y9.2.Code,y9.2.At))).bind (contO (fun s18=>some ((⟨y1.1,y2.1,wi .i64 (1 + y3.1),s18.2.2.1,s18.2.2.2.1,s18.2.1,s18.1⟩:TMsg),(⟨s18.2.2.2.2.1,s18.2.2.2.2.2⟩:Tl1Src))) (fun i9 s18=>none) (fun s18=>some ((⟨0,0,0,0,0,[],[]⟩:TMsg),(⟨s18.2.2.2.2.1,s18.2.2.2.2.2⟩:Tl1Src))))
theorem w40 {d:Nat} (hd:3≤d) (L0:List En) (b0_:Nat) (k0:Bool) (a0:Tl1Src) (a1:Int):Okh (bx b0_ [.rsl k0 false (a0.Code.map (Enc.cs k0)),.int .i64 a0.At]::L0) (fun S=>R NN d 40 [.bp b0_ 0 0 2 1,.int .i64 a1] S) (m40 a0 a1) (P5 (fun (x:AV×AV) (t:TMsg×Tl1Src)=>AV.agg [.int .i64 t.1.Kind,.int .i64 t.1.View,.int .i64 t.1.From,.int .i64 t.1.Slot,.int .i64 t.1.Value,x.1,x.2]) (fun (x:AV×AV) (t:TMsg×Tl1Src)=>sl false x.1 t.1.Certs::sl false x.2 t.1.Refs::bx b0_ [.rsl k0 false (t.2.Code.map (Enc.cs k0)),.int .i64 t.2.At]::L0)):=by
  obtain ⟨d,rfl,g⟩:=up hd
  refine q_to (t40 NN d _ _) ?_
  unfold b40 m40
  refine q_new rfl fun b1=>q_e (fun _=>bs26_7 rfl)<|q_sel 2 [1,0] (by decide) (by decide)<|q_s (mg:=m37 a0 [1,2,2,3,3,4,5]) (w37 (by omega) _ _ k0 a0 _ _ [1,2,2,3,3,4,5]) fun y1 hy1=>q_s (mg:=m39 y1.2 3) (w39 (by omega) _ _ k0 y1.2 3) fun y2 hy2=>q_s (mg:=m39 y2.2 4) (w39 (by omega) _ _ k0 y2.2 4) fun y3 hy3=>q_p fr<|q_p (fun _=>bd28_0_1_2 rfl)<|q_new rfl fun b2=>q_st 0 rfl rfl rfl (by decide) rfl<|q_nil (α:=TCert) false<|q_nil (α:=Int) false<|q_cut (I:=(fun (s:(List Int)×(List TCert)×Int×Int×(List U8)×Int) l L=>∃ (v1:AV) (v2:AV),l = []∧L = sl false v1 (s.1:List Int)::sl false v2 (s.2.1:List TCert)::bx b2 [.int .i64 y1.1,.int .i64 y2.1,.int .i64 (wi .i64 (1 + y3.1)),.int .i64 s.2.2.1,.int .i64 s.2.2.2.1,v2,v1]::bx b0_ [.rsl k0 false (s.2.2.2.2.1.map (Enc.cs k0)),.int .i64 s.2.2.2.2.2]::bx b1 [.int .i64 0,.int .i64 0,.int .i64 0,.int .i64 0,.int .i64 0,.rsl false true [],.rsl false true []]::L0)) ?_ ?_ ?_ ?_
  ·refine q_p fr<|q_ld 2 rfl rfl<|q_p fr<|q_i ?_ ?_
   ·refine q_loop (I:=(fun (s:Int×(List TCert)×(List U8)×Int) l L=>∃ (v1:AV),l = [.int .i64 s.1]∧L = sl false (.rsl false true []) ([]:List Int)::sl false v1 (s.2.1:List TCert)::bx b2 [.int .i64 y1.1,.int .i64 y2.1,.int .i64 (wi .i64 (1 + y3.1)),.int .i64 0,.int .i64 0,v1,.rsl false true []]::bx b0_ [.rsl k0 false (s.2.2.1.map (Enc.cs k0)),.int .i64 s.2.2.2]::bx b1 [.int .i64 0,.int .i64 0,.int .i64 0,.int .i64 0,.int .i64 0,.rsl false true [],.rsl false true []]::L0)) 0 ⟨(.rsl false true []),rfl,rfl⟩ ?_ ?_ ?_
    ·rintro s2 _ _ ⟨v1,rfl,rfl⟩
     unfold s40_0 ms40_0
     refine q_cu (A:=fun (s:Bool)=>[.bool s]) (B:=fun s=>sl false (.rsl false true []) ([]:List Int)::sl false v1 (s2.2.1:List TCert)::bx b2 [.int .i64 y1.1,.int .i64 y2.1,.int .i64 (wi .i64 (1 + y3.1)),.int .i64 0,.int .i64 0,v1,.rsl false true []]::bx b0_ [.rsl k0 false (s2.2.2.1.map (Enc.cs k0)),.int .i64 s2.2.2.2]::bx b1 [.int .i64 0,.int .i64 0,.int .i64 0,.int .i64 0,.int .i64 0,.rsl false true [],.rsl false true []]::L0) ?_ ?_ ?_ ?_
     ·refine q_cu (A:=fun (s:Bool)=>[.bool s]) (B:=fun s=>sl false (.rsl false true []) ([]:List Int)::sl false v1 (s2.2.1:List TCert)::bx b2 [.int .i64 y1.1,.int .i64 y2.1,.int .i64 (wi .i64 (1 + y3.1)),.int .i64 0,.int .i64 0,v1,.rsl false true []]::bx b0_ [.rsl k0 false (s2.2.2.1.map (Enc.cs k0)),.int .i64 s2.2.2.2]::bx b1 [.int .i64 0,.int .i64 0,.int .i64 0,.int .i64 0,.int .i64 0,.rsl false true [],.rsl false true []]::L0) ?_ ?_ ?_ ?_
      ·exact q_p fr<|q_k (q_p fr<|q_ld 2 rfl rfl<|q_p fr<|q_norm 0 rr)<|q_norm 0 rr
      ·exact fun s5=>q_i (q_norm 0 rr)<|q_exit 0 rr
      ·exact fun i1 s5=>q_exit 0 rr
      ·exact fun s5=>q_lret 0 rr
     ·intro s6
      refine q_cut (I:=(fun (s:(List TCert)×(List U8)×Int) l L=>∃ (v2:AV),l = []∧L = sl false (.rsl false true []) ([]:List Int)::sl false v2 (s.1:List TCert)::bx b2 [.int .i64 y1.1,.int .i64 y2.1,.int .i64 (wi .i64 (1 + y3.1)),.int .i64 0,.int .i64 0,v2,.rsl false true []]::bx b0_ [.rsl k0 false (s.2.1.map (Enc.cs k0)),.int .i64 s.2.2]::bx b1 [.int .i64 0,.int .i64 0,.int .i64 0,.int .i64 0,.int .i64 0,.rsl false true [],.rsl false true []]::L0)) ?_ ?_ ?_ ?_
      ·exact q_sel 5 [3,0,1,2,4] (by decide) (by decide)<|q_s (mg:=m17 (⟨s2.2.2.1,s2.2.2.2⟩:Tl1Src) 3) (w17 (by omega) _ _ k0 (⟨s2.2.2.1,s2.2.2.2⟩:Tl1Src) 3) fun y4 hy4=>q_i (q_p fr<|q_ld 3 rfl rfl<|q_p fr<|q_ld 3 rfl rfl<|q_s (mg:=m39 y4.2 y2.1) (w39 (by omega) _ _ k0 y4.2 y2.1) fun y5 hy5=>q_same 3 rfl rfl<|q_s (mg:=m39 y5.2 3) (w39 (by omega) _ _ k0 y5.2 3) fun y6 hy6=>q_same 3 rfl rfl<|q_p (fun _=>bd58_0_1_2 rfl)<|q_e (fun _=>bs25_1 rfl)<|q_app (ys:=[(⟨s2.1,y5.1,y6.1⟩:TCert)]) 2 rfl rfl (fun _ _=>rfl) fun v2 z1 hz1=>q_p fr<|q_sto1 3 rfl (fun S hS=>(HP.cell1 hS 2 rfl)) rfl<|q_sel 5 [1,2,3,0,4] (by decide) (by decide)<|q_norm 0 ⟨v2,rfl,rfl⟩)<|q_sel 5 [1,2,3,0,4] (by decide) (by decide)<|q_norm 0 ⟨v1,rfl,rfl⟩
      ·rintro s8 _ _ ⟨v3,rfl,rfl⟩
       exact q_p fr<|q_norm 0 ⟨v3,rfl,rfl⟩
      ·rintro i3 s8 _ _ ⟨v4,rfl,rfl⟩
       exact q_exit 0 ⟨v4,rfl,rfl⟩
      ·rintro s8 _ _ ⟨v5,rfl,rfl⟩
       exact q_lret 0 ⟨v5,rfl,rfl⟩
     ·exact fun i2 s6=>q_exit 0 ⟨v1,rfl,rfl⟩
     ·exact fun s6=>q_lret 0 ⟨v1,rfl,rfl⟩
    ·rintro i4 s9 _ _ ⟨v6,rfl,rfl⟩
     exact q_n (q_norm 0 ⟨(.rsl false true []),v6,rfl,rfl⟩)<|q_n (q_norm 0 ⟨(.rsl false true []),v6,rfl,rfl⟩)<|q_exit 0 ⟨(.rsl false true []),v6,rfl,rfl⟩
    ·rintro s9 _ _ ⟨v7,rfl,rfl⟩
     exact q_lret 0 ⟨(.rsl false true []),v7,rfl,rfl⟩
   ·refine q_p fr<|q_i ?_ ?_
    ·refine q_loop (I:=(fun (s:Int×(List Int)×(List U8)×Int) l L=>∃ (v8:AV),l = [.int .i64 s.1]∧L = sl false v8 (s.2.1:List Int)::sl false (.rsl false true []) ([]:List TCert)::bx b2 [.int .i64 y1.1,.int .i64 y2.1,.int .i64 (wi .i64 (1 + y3.1)),.int .i64 0,.int .i64 0,.rsl false true [],v8]::bx b0_ [.rsl k0 false (s.2.2.1.map (Enc.cs k0)),.int .i64 s.2.2.2]::bx b1 [.int .i64 0,.int .i64 0,.int .i64 0,.int .i64 0,.int .i64 0,.rsl false true [],.rsl false true []]::L0)) 0 ⟨(.rsl false true []),rfl,rfl⟩ ?_ ?_ ?_
     ·rintro s10 _ _ ⟨v8,rfl,rfl⟩
      unfold s40_1 ms40_1
      refine q_cu (A:=fun (s:Bool)=>[.bool s]) (B:=fun s=>sl false v8 (s10.2.1:List Int)::sl false (.rsl false true []) ([]:List TCert)::bx b2 [.int .i64 y1.1,.int .i64 y2.1,.int .i64 (wi .i64 (1 + y3.1)),.int .i64 0,.int .i64 0,.rsl false true [],v8]::bx b0_ [.rsl k0 false (s10.2.2.1.map (Enc.cs k0)),.int .i64 s10.2.2.2]::bx b1 [.int .i64 0,.int .i64 0,.int .i64 0,.int .i64 0,.int .i64 0,.rsl false true [],.rsl false true []]::L0) ?_ ?_ ?_ ?_
      ·refine q_cu (A:=fun (s:Bool)=>[.bool s]) (B:=fun s=>sl false v8 (s10.2.1:List Int)::sl false (.rsl false true []) ([]:List TCert)::bx b2 [.int .i64 y1.1,.int .i64 y2.1,.int .i64 (wi .i64 (1 + y3.1)),.int .i64 0,.int .i64 0,.rsl false true [],v8]::bx b0_ [.rsl k0 false (s10.2.2.1.map (Enc.cs k0)),.int .i64 s10.2.2.2]::bx b1 [.int .i64 0,.int .i64 0,.int .i64 0,.int .i64 0,.int .i64 0,.rsl false true [],.rsl false true []]::L0) ?_ ?_ ?_ ?_
       ·exact q_p fr<|q_k (q_p fr<|q_ld 2 rfl rfl<|q_leno 0 rfl<|q_p fr<|q_norm 0 rr)<|q_norm 0 rr
       ·exact fun s13=>q_i (q_norm 0 rr)<|q_exit 0 rr
       ·exact fun i5 s13=>q_exit 0 rr
       ·exact fun s13=>q_lret 0 rr
      ·intro s14
       refine q_cut (I:=(fun (s:(List Int)×(List U8)×Int) l L=>∃ (v9:AV),l = []∧L = sl false v9 (s.1:List Int)::sl false (.rsl false true []) ([]:List TCert)::bx b2 [.int .i64 y1.1,.int .i64 y2.1,.int .i64 (wi .i64 (1 + y3.1)),.int .i64 0,.int .i64 0,.rsl false true [],v9]::bx b0_ [.rsl k0 false (s.2.1.map (Enc.cs k0)),.int .i64 s.2.2]::bx b1 [.int .i64 0,.int .i64 0,.int .i64 0,.int .i64 0,.int .i64 0,.rsl false true [],.rsl false true []]::L0)) ?_ ?_ ?_ ?_
       ·exact q_sel 5 [3,0,1,2,4] (by decide) (by decide)<|q_s (mg:=m17 (⟨s10.2.2.1,s10.2.2.2⟩:Tl1Src) 3) (w17 (by omega) _ _ k0 (⟨s10.2.2.1,s10.2.2.2⟩:Tl1Src) 3) fun y7 hy7=>q_i (q_p fr<|q_ld 3 rfl rfl<|q_e (fun _=>bs26_1 rfl)<|q_app (ys:=[s10.1]) 1 rfl rfl (fun _ _=>rfl) fun v9 z2 hz2=>q_p fr<|q_sto1 3 rfl (fun S hS=>(HP.cell1 hS 1 rfl)) rfl<|q_sel 5 [1,2,3,0,4] (by decide) (by decide)<|q_norm 0 ⟨v9,rfl,rfl⟩)<|q_sel 5 [1,2,3,0,4] (by decide) (by decide)<|q_norm 0 ⟨v8,rfl,rfl⟩
       ·rintro s16 _ _ ⟨v10,rfl,rfl⟩
        exact q_p fr<|q_norm 0 ⟨v10,rfl,rfl⟩
       ·rintro i7 s16 _ _ ⟨v11,rfl,rfl⟩
        exact q_exit 0 ⟨v11,rfl,rfl⟩
       ·rintro s16 _ _ ⟨v12,rfl,rfl⟩
        exact q_lret 0 ⟨v12,rfl,rfl⟩
      ·exact fun i6 s14=>q_exit 0 ⟨v8,rfl,rfl⟩
      ·exact fun s14=>q_lret 0 ⟨v8,rfl,rfl⟩
     ·rintro i8 s17 _ _ ⟨v13,rfl,rfl⟩
      exact q_n (q_norm 0 ⟨v13,(.rsl false true []),rfl,rfl⟩)<|q_n (q_norm 0 ⟨v13,(.rsl false true []),rfl,rfl⟩)<|q_exit 0 ⟨v13,(.rsl false true []),rfl,rfl⟩
     ·rintro s17 _ _ ⟨v14,rfl,rfl⟩
      exact q_lret 0 ⟨v14,(.rsl false true []),rfl,rfl⟩
    ·exact q_sel 5 [3,0,1,2,4] (by decide) (by decide)<|q_s (mg:=m39 y3.2 2) (w39 (by omega) _ _ k0 y3.2 2) fun y8 hy8=>q_p fr<|q_p fr<|q_st 3 rfl rfl rfl (by decide) rfl<|q_s (mg:=m39 y8.2 3) (w39 (by omega) _ _ k0 y8.2 3) fun y9 hy9=>q_p fr<|q_st 3 rfl rfl rfl (by decide) rfl<|q_sel 5 [1,2,3,0,4] (by decide) (by decide)<|q_norm 0 ⟨(.rsl false true []),(.rsl false true []),rfl,rfl⟩
  ·rintro s18 _ _ ⟨v15,v16,rfl,rfl⟩
   exact q_lda 2 rfl rfl rfl<|q_st 4 rfl rfl rfl (by decide) rfl<|q_sel 5 [2,4,1,0,3] (by decide) (by decide)<|q_retm5 (v16,v15) 2 (fun S hS=>hS.lda 1 rfl rfl) rfl rfl
  ·rintro i9 s18 _ _ ⟨v17,v18,rfl,rfl⟩
   exact q_none
  ·rintro s18 _ _ ⟨v19,v20,rfl,rfl⟩
   exact q_nil (α:=TCert) false<|q_nil (α:=Int) false<|q_sel 7 [2,3,4,6,1,0,5] (by decide) (by decide)<|q_retm5 (.rsl false true [],.rsl false true []) 4 (fun S hS=>hS.lda 3 rfl rfl) rfl rfl
def m18 (a0:Tl1Src):Option (TMsg×Tl1Src):=(m40 a0 6).bind fun y1=>( (m39 y1.2 12).bind fun y2=>bif y2.1 == 0 then (m37 y2.2 [0,1,4,6]).bind fun y3=>some (LO.norm (y3.1,y1.1.View,y1.1.From,y1.1.Slot,y1.1.Value,y1.1.Certs,y3.2.Code,y3.2.At)) else bif y2.1 == 1 then (m37 y2.2 [(-1),20,21]).bind fun y4=>some (LO.norm (y1.1.Kind,y4.1,y1.1.From,y1.1.Slot,y1.1.Value,y1.1.Certs,y4.2.Code,y4.2.At)) else bif y2.1 == 2 then (m37 y2.2 [0,4,7,8]).bind fun y5=>some (LO.norm (y1.1.Kind,y1.1.View,y5.1,y1.1.Slot,y1.1.Value,y1.1.Certs,y5.2.Code,y5.2.At)) else bif y2.1 == 3 then (m37 y2.2 [0,30,31]).bind fun y6=>some (LO.norm (y1.1.Kind,y1.1.View,y1.1.From,y6.1,y1.1.Value,y1.1.Certs,y6.2.Code,y6.2.At)) else bif y2.1 == 4 then (m37 y2.2 [(-1),12,13]).bind fun y7=>some (LO.norm (y1.1.Kind,y1.1.View,y1.1.From,y1.1.Slot,y7.1,y1.1.Certs,y7.2.Code,y7.2.At)) else bif y2.1 == 5 then (appO 24 y1.1.Certs [(⟨1,0,1⟩:TCert)]).bind fun z1=>some (LO.norm (y1.1.Kind,y1.1.View,y1.1.From,y1.1.Slot,y1.1.Value,z1,y2.2.Code,y2.2.At)) else some (LO.norm (y1.1.Kind,y1.1.View,y1.1.From,y1.1.Slot,y1.1.Value,y1.1.Certs,y2.2.Code,y2.2.At))).bind (contO (fun s2=>some ((⟨s2.1,s2.2.1,s2.2.2.1,s2.2.2.2.1,s2.2.2.2.2.1,s2.2.2.2.2.2.1,y1.1.Refs⟩:TMsg),(⟨s2.2.2.2.2.2.2.1,s2.2.2.2.2.2.2.2⟩:Tl1Src))) (fun i1 s2=>none) (fun s2=>some ((⟨0,0,0,0,0,[],[]⟩:TMsg),(⟨s2.2.2.2.2.2.2.1,s2.2.2.2.2.2.2.2⟩:Tl1Src))))
theorem w18 {d:Nat} (hd:4≤d) (L0:List En) (b0_:Nat) (k0:Bool) (a0:Tl1Src):Okh (bx b0_ [.rsl k0 false (a0.Code.map (Enc.cs k0)),.int .i64 a0.At]::L0) (fun S=>R NN d 18 [.bp b0_ 0 0 2 1] S) (m18 a0) (P5 (fun (x:AV×AV) (t:TMsg×Tl1Src)=>AV.agg [.int .i64 t.1.Kind,.int .i64 t.1.View,.int .i64 t.1.From,.int .i64 t.1.Slot,.int .i64 t.1.Value,x.1,x.2]) (fun (x:AV×AV) (t:TMsg×Tl1Src)=>sl false x.1 t.1.Certs::sl false x.2 t.1.Refs::bx b0_ [.rsl k0 false (t.2.Code.map (Enc.cs k0)),.int .i64 t.2.At]::L0)):=by
  obtain ⟨d,rfl,g⟩:=up hd
  refine q_to (t18 NN d _) ?_
  unfold b18 m18
  refine q_new rfl fun b1=>q_sel 2 [1,0] (by decide) (by decide)<|q_s5 (mg:=m40 a0 6) (fun S=>rfl) (w40 (by omega) _ _ k0 a0 6) fun y1 hy1 ⟨v1,v2⟩=>q_new rfl fun b2=>q_st 0 rfl rfl rfl (by decide) rfl<|q_cut (I:=(fun (s:Int×Int×Int×Int×Int×(List TCert)×(List U8)×Int) l L=>∃ (v3:AV),l = []∧L = bx b2 [.int .i64 s.1,.int .i64 s.2.1,.int .i64 s.2.2.1,.int .i64 s.2.2.2.1,.int .i64 s.2.2.2.2.1,v3,v2]::sl false v3 (s.2.2.2.2.2.1:List TCert)::sl false v2 (y1.1.Refs:List Int)::bx b0_ [.rsl k0 false (s.2.2.2.2.2.2.1.map (Enc.cs k0)),.int .i64 s.2.2.2.2.2.2.2]::bx b1 [.int .i64 0,.int .i64 0,.int .i64 0,.int .i64 0,.int .i64 0,.rsl false true [],.rsl false true []]::L0)) ?_ ?_ ?_ ?_
  ·exact q_sel 5 [3,0,1,2,4] (by decide) (by decide)<|q_s (mg:=m39 y1.2 12) (w39 (by omega) _ _ k0 y1.2 12) fun y2 hy2=>q_p fr<|q_i (q_e (fun _=>bs26_4 rfl)<|q_s (mg:=m37 y2.2 [0,1,4,6]) (w37 (by omega) _ _ k0 y2.2 _ _ [0,1,4,6]) fun y3 hy3=>q_p fr<|q_st 1 rfl rfl rfl (by decide) rfl<|q_sel 5 [1,2,3,0,4] (by decide) (by decide)<|q_norm 0 ⟨v1,rfl,rfl⟩)<|q_p fr<|q_i (q_e (fun _=>bs26_3 rfl)<|q_s (mg:=m37 y2.2 [(-1),20,21]) (w37 (by omega) _ _ k0 y2.2 _ _ [(-1),20,21]) fun y4 hy4=>q_p fr<|q_st 1 rfl rfl rfl (by decide) rfl<|q_sel 5 [1,2,3,0,4] (by decide) (by decide)<|q_norm 0 ⟨v1,rfl,rfl⟩)<|q_p fr<|q_i (q_e (fun _=>bs26_4 rfl)<|q_s (mg:=m37 y2.2 [0,4,7,8]) (w37 (by omega) _ _ k0 y2.2 _ _ [0,4,7,8]) fun y5 hy5=>q_p fr<|q_st 1 rfl rfl rfl (by decide) rfl<|q_sel 5 [1,2,3,0,4] (by decide) (by decide)<|q_norm 0 ⟨v1,rfl,rfl⟩)<|q_p fr<|q_i (q_e (fun _=>bs26_3 rfl)<|q_s (mg:=m37 y2.2 [0,30,31]) (w37 (by omega) _ _ k0 y2.2 _ _ [0,30,31]) fun y6 hy6=>q_p fr<|q_st 1 rfl rfl rfl (by decide) rfl<|q_sel 5 [1,2,3,0,4] (by decide) (by decide)<|q_norm 0 ⟨v1,rfl,rfl⟩)<|q_p fr<|q_i (q_e (fun _=>bs26_3 rfl)<|q_s (mg:=m37 y2.2 [(-1),12,13]) (w37 (by omega) _ _ k0 y2.2 _ _ [(-1),12,13]) fun y7 hy7=>q_p fr<|q_st 1 rfl rfl rfl (by decide) rfl<|q_sel 5 [1,2,3,0,4] (by decide) (by decide)<|q_norm 0 ⟨v1,rfl,rfl⟩)<|q_p fr<|q_i (q_p fr<|q_ld 1 rfl rfl<|q_p (fun _=>bd58_0_1_2 rfl)<|q_e (fun _=>bs25_1 rfl)<|q_app (ys:=[(⟨1,0,1⟩:TCert)]) 2 rfl rfl (fun _ _=>rfl) fun v3 z1 hz1=>q_p fr<|q_sto1 1 rfl (fun S hS=>(HP.cell1 hS 2 rfl)) rfl<|q_sel 5 [1,2,3,0,4] (by decide) (by decide)<|q_norm 0 ⟨v3,rfl,rfl⟩)<|q_sel 5 [1,2,3,0,4] (by decide) (by decide)<|q_norm 0 ⟨v1,rfl,rfl⟩
  ·rintro s2 _ _ ⟨v4,rfl,rfl⟩
   exact q_lda 0 rfl rfl rfl<|q_st 4 rfl rfl rfl (by decide) rfl<|q_sel 5 [0,4,1,2,3] (by decide) (by decide)<|q_retm5 (v4,v2) 2 (fun S hS=>hS.lda 1 rfl rfl) rfl rfl
  ·rintro i1 s2 _ _ ⟨v5,rfl,rfl⟩
   exact q_none
  ·rintro s2 _ _ ⟨v6,rfl,rfl⟩
   exact q_nil (α:=TCert) false<|q_nil (α:=Int) false<|q_sel 7 [2,3,4,6,1,0,5] (by decide) (by decide)<|q_retm5 (.rsl false true [],.rsl false true []) 4 (fun S hS=>hS.lda 3 rfl rfl) rfl rfl
def ms72_0 (a0:TMsg) (a1:TMsg) (s5:Bool×Int):Option (LO (Bool×Int)):=bif decide (s5.2 < (a0.Certs.length:Int)) then (getI a0.Certs s5.2).bind fun x1=>(getI a1.Certs s5.2).bind fun x2=>bif !(((x1.Slot == x2.Slot) && ((x1.View == x2.View) && ((x1.Value == x2.Value) && true)))) then some (LO.ret (false,s5.2)) else some (LO.norm (s5.1,wi .i64 (s5.2 + 1))) else some (LO.exit 0 (s5.1,s5.2))
def ms72_1 (a0:TMsg) (a1:TMsg) (s7:Bool×Int):Option (LO (Bool×Int)):=bif decide (s7.2 < (a0.Refs.length:Int)) then (getI a0.Refs s7.2).bind fun x3=>(getI a1.Refs s7.2).bind fun x4=>bif x3 != x4 then some (LO.ret (false,s7.2)) else some (LO.norm (s7.1,wi .i64 (s7.2 + 1))) else some (LO.exit 2 (s7.1,s7.2))
def m72 (a0:TMsg) (a1:TMsg):Option (Bool):=( ( bif a0.Kind != a1.Kind then some (LO.norm true) else bif a0.View != a1.View then some (LO.norm true) else bif a0.From != a1.From then some (LO.norm true) else bif a0.Slot != a1.Slot then some (LO.norm true) else bif a0.Value != a1.Value then some (LO.norm true) else bif (a0.Certs.length:Int) != (a1.Certs.length:Int) then some (LO.norm true) else some (LO.norm ((a0.Refs.length:Int) != (a1.Refs.length:Int)))).bind (contO (fun s3=>bif s3 then some (LO.ret false) else some (LO.norm false)) (fun i1 s3=>some (LO.exit i1 false)) (fun s3=>some (LO.ret false)))).bind (contO (fun s4=>(loopO (ms72_0 a0 a1) NN (s4,0)).bind (contO (fun _=>none) (fun i3 s6=>if i3 = 0 then (loopO (ms72_1 a0 a1) NN (s6.1,0)).bind (contO (fun _=>none) (fun i4 s8=>if i4 = 2 then some true else none) (fun s8=>some s8.1)) else none) (fun s6=>some s6.1))) (fun i2 s4=>none) (fun s4=>some s4))
theorem w72 {d:Nat} (hd:1≤d) (k0:Bool) (a0:TMsg) (k1:Bool) (a1:TMsg):Fit (R NN d 72 [.rp k0 (Enc.cs k0 a0),.rp k1 (Enc.cs k1 a1)] []) (m72 a0 a1) PB:=by
  obtain ⟨d,rfl,g⟩:=up hd
  refine q_in (t72 NN d _ _) ?_
  unfold b72 m72
  refine q_cu (A:=fun (s:Bool)=>[.bool s]) (B:=fun s=>[]) ?_ ?_ ?_ ?_
  ·refine q_cu (A:=fun (s:Bool)=>[.bool s]) (B:=fun s=>[]) ?_ ?_ ?_ ?_
   ·exact q_q fr<|q_p fr<|q_p fr<|q_q fr<|q_p fr<|q_p fr<|q_p fr<|q_j (q_norm 0 rr)<|q_q fr<|q_p fr<|q_p fr<|q_q fr<|q_p fr<|q_p fr<|q_p fr<|q_j (q_norm 0 rr)<|q_q fr<|q_p fr<|q_p fr<|q_q fr<|q_p fr<|q_p fr<|q_p fr<|q_j (q_norm 0 rr)<|q_q fr<|q_p fr<|q_p fr<|q_q fr<|q_p fr<|q_p fr<|q_p fr<|q_j (q_norm 0 rr)<|q_q fr<|q_p fr<|q_p fr<|q_q fr<|q_p fr<|q_p fr<|q_p fr<|q_j (q_norm 0 rr)<|q_q fr<|q_p fr<|q_p fr<|q_len<|q_q fr<|q_p fr<|q_p fr<|q_len<|q_p fr<|q_j (q_norm 0 rr)<|q_q fr<|q_p fr<|q_p fr<|q_len<|q_q fr<|q_p fr<|q_p fr<|q_len<|q_p fr<|q_norm 0 rr
   ·exact fun s3=>q_i (q_lret 0 rr)<|q_norm 0 rr
   ·exact fun i1 s3=>q_exit 0 rr
   ·exact fun s3=>q_lret 0 rr
  ·intro s4
   refine q_lp (A:=fun (s:Bool×Int)=>[.bool s.1,.int .i64 s.2]) (B:=fun s=>[]) 0 rr ?_ ?_ ?_
   ·intro s5
    unfold s72_0 ms72_0
    exact q_q fr<|q_p fr<|q_p fr<|q_len<|q_p fr<|q_i (q_q fr<|q_p fr<|q_p fr<|q_ix rfl fun x1 hx1=>q_p fr<|q_q fr<|q_p fr<|q_p fr<|q_ix rfl fun x2 hx2=>q_p fr<|q_p (fun _=>sneq582 _ _ _ _ _ _)<|q_i (q_lret 0 rr)<|q_p fr<|q_norm 0 rr)<|q_exit 0 rr
   ·intro i3 s6
    refine q_n ?_ ?_
    ·refine q_lp (A:=fun (s:Bool×Int)=>[.bool s.1,.int .i64 s.2]) (B:=fun s=>[]) 0 rr ?_ ?_ ?_
     ·intro s7
      unfold s72_1 ms72_1
      exact q_q fr<|q_p fr<|q_p fr<|q_len<|q_p fr<|q_i (q_q fr<|q_p fr<|q_p fr<|q_ix rfl fun x3 hx3=>q_p fr<|q_q fr<|q_p fr<|q_p fr<|q_ix rfl fun x4 hx4=>q_p fr<|q_p fr<|q_i (q_lret 0 rr)<|q_p fr<|q_norm 0 rr)<|q_exit 0 rr
     ·exact fun i4 s8=>q_n (q_ret (cv_p rfl) rfl)<|q_none
     ·exact fun s8=>q_ret (cv_p rfl) rfl
    ·exact q_none
   ·exact fun s6=>q_ret (cv_p rfl) rfl
  ·exact fun i2 s4=>q_none
  ·exact fun s4=>q_ret (cv_p rfl) rfl
def ms57_0 (a0:List TMsg) (a1:TMsg) (s1:Int×Int):Option (LO (Int×Int)):=bif decide (s1.2 < (a0.length:Int)) then (getI a0 s1.2).bind fun x1=>(m72 x1 a1).bind fun y1=>bif y1 then some (LO.ret (s1.2,s1.2)) else some (LO.norm (s1.1,wi .i64 (s1.2 + 1))) else some (LO.exit 0 (s1.1,s1.2))
def m57 (a0:List TMsg) (a1:TMsg):Option (Int):=(loopO (ms57_0 a0 a1) NN (0,0)).bind (contO (fun _=>none) (fun i1 s2=>if i1 = 0 then some (-1) else none) (fun s2=>some s2.1))
theorem w57 {d:Nat} (hd:2≤d) (k0:Bool) (a0:List TMsg) (k1:Bool) (a1:TMsg):Fit (R NN d 57 [.rsl k0 false (a0.map (Enc.cs k0)),.rp k1 (Enc.cs k1 a1)] []) (m57 a0 a1) PI:=by
  obtain ⟨d,rfl,g⟩:=up hd
  refine q_in (t57 NN d _ _) ?_
  unfold b57 m57
  refine q_lp (A:=fun (s:Int×Int)=>[.int .i64 s.1,.int .i64 s.2]) (B:=fun s=>[]) 0 rr ?_ ?_ ?_
  ·intro s1
   unfold s57_0 ms57_0
   exact q_len<|q_p fr<|q_i (q_ix rfl fun x1 hx1=>q_c0 (aF2 (cv_rp (cvs_e (l0:=k0) (x:=x1)) (fun _ _ _ h=>Enc.frz k0 x1 _ _ _ h)) (cv_rp (cvs_e (l0:=k1) (x:=a1)) (fun _ _ _ h=>Enc.frz k1 a1 _ _ _ h)) fun l0_ l1_=>w72 (by omega) l0_ x1 l1_ a1) fun y1 hy1=>q_i (q_lret 0 rr)<|q_p fr<|q_norm 0 rr)<|q_exit 0 rr
  ·exact fun i1 s2=>q_n (q_ret (cv_p rfl) rfl)<|q_none
  ·exact fun s2=>q_ret (cv_p rfl) rfl
def ms38_0 (s1:Int×(List TMsg)×(List U8)×Int):Option (LO (Int×(List TMsg)×(List U8)×Int)):=bif decide (s1.1 > 0) then ( (m40 (⟨s1.2.2.1,s1.2.2.2⟩:Tl1Src) (s1.2.1.length:Int)).bind fun y2=>(m57 s1.2.1 y2.1).bind fun y3=>bif decide (y3 < 0) then (appO 88 s1.2.1 [y2.1]).bind fun z1=>some (LO.norm (z1,y2.2.Code,y2.2.At)) else some (LO.norm (s1.2.1,y2.2.Code,y2.2.At))).bind (contO (fun s3=>some (LO.norm (wi .i64 (s1.1 - 1),s3.1,s3.2.1,s3.2.2))) (fun i4 s3=>some (LO.exit i4 (s1.1,s3.1,s3.2.1,s3.2.2))) (fun s3=>some (LO.ret (s1.1,s3.1,s3.2.1,s3.2.2)))) else some (LO.exit 0 (s1.1,s1.2.1,s1.2.2.1,s1.2.2.2))
def m38 (a0:Tl1Src):Option ((List TMsg)×Tl1Src):=(m39 a0 16).bind fun y1=>(loopO (ms38_0) NN (y1.1,[],y1.2.Code,y1.2.At)).bind (contO (fun _=>none) (fun i8 s4=>if i8 = 0 then some (s4.2.1,(⟨s4.2.2.1,s4.2.2.2⟩:Tl1Src)) else none) (fun s4=>some ([],(⟨s4.2.2.1,s4.2.2.2⟩:Tl1Src))))
theorem w38 {d:Nat} (hd:4≤d) (L0:List En) (b0_:Nat) (k0:Bool) (a0:Tl1Src):Okh (bx b0_ [.rsl k0 false (a0.Code.map (Enc.cs k0)),.int .i64 a0.At]::L0) (fun S=>R NN d 38 [.bp b0_ 0 0 2 1] S) (m38 a0) (P5 (fun (x:List Nat×AV) (t:(List TMsg)×Tl1Src)=>x.2) (fun (x:List Nat×AV) (t:(List TMsg)×Tl1Src)=>tra x.1 x.2 t.1::bx b0_ [.rsl k0 false (t.2.Code.map (Enc.cs k0)),.int .i64 t.2.At]::L0)):=by
  obtain ⟨d,rfl,g⟩:=up hd
  refine q_to (t38 NN d _) ?_
  unfold b38 m38
  refine q_q (fun _=>qs24_0)<|q_s (mg:=m39 a0 16) (w39 (by omega) _ _ k0 a0 16) fun y1 hy1=>q_nila (α:=TMsg)<|q_loop (I:=(fun (s:Int×(List TMsg)×(List U8)×Int) l L=>∃ (i1:List Nat) (v1:AV),l = [v1,.int .i64 s.1]∧L = tra i1 v1 (s.2.1:List TMsg)::bx b0_ [.rsl k0 false (s.2.2.1.map (Enc.cs k0)),.int .i64 s.2.2.2]::L0)) 0 ⟨[],(.rsl false true []),rfl,rfl⟩ ?_ ?_ ?_
  ·rintro s1 _ _ ⟨i1,v1,rfl,rfl⟩
   unfold s38_0 ms38_0
   refine q_p fr<|q_i ?_ ?_
   ·refine q_cut (I:=(fun (s:(List TMsg)×(List U8)×Int) l L=>∃ (i2:List Nat) (v2:AV),l = [v2]∧L = tra i2 v2 (s.1:List TMsg)::bx b0_ [.rsl k0 false (s.2.1.map (Enc.cs k0)),.int .i64 s.2.2]::L0)) ?_ ?_ ?_ ?_
    ·exact q_lena 0 rfl<|q_sel 2 [1,0] (by decide) (by decide)<|q_s5 (mg:=m40 (⟨s1.2.2.1,s1.2.2.2⟩:Tl1Src) (s1.2.1.length:Int)) (fun S=>rfl) (w40 (by omega) _ _ k0 (⟨s1.2.2.1,s1.2.2.2⟩:Tl1Src) (s1.2.1.length:Int)) fun y2 hy2 ⟨v2,v3⟩=>q_new rfl fun b1=>q_st 0 rfl rfl rfl (by decide) rfl<|q_c0 (aF2 (cv_tra 4 rfl) (cv_b 0 rfl (cvs_cons (cv_p rfl) (cvs_cons (cv_p rfl) (cvs_cons (cv_p rfl) (cvs_cons (cv_p rfl) (cvs_cons (cv_p rfl) (cvs_cons (cv_o 1 rfl) (cvs_cons (cv_o 2 rfl) cvs_nil)))))))) fun l0_ l1_=>w57 (by omega) l0_ s1.2.1 l1_ y2.1) fun y3 hy3=>q_p fr<|q_i (q_lda 0 rfl rfl rfl<|q_sel 5 [1,2,0,3,4] (by decide) (by decide)<|q_tbd 3 (tb_of (α:=TMsg) (β:=Int×Int×Int×Int×Int×(List TCert)×(List Int)) (f:=fun x=>(x.Kind,x.View,x.From,x.Slot,x.Value,x.Certs,x.Refs)) (x:=y2.1) rfl (tb_pair (tb_int (n:=y2.1.Kind)) (tb_pair (tb_int (n:=y2.1.View)) (tb_pair (tb_int (n:=y2.1.From)) (tb_pair (tb_int (n:=y2.1.Slot)) (tb_pair (tb_int (n:=y2.1.Value)) (tb_pair (tb_sl 0 rfl plt58) (tb_sl 1 rfl plt2)))))))) (by decide) fun i2=>q_sel 3 [0,2,1] (by decide) (by decide)<|q_ap1 rfl (fun _=>bt24) rfl fun z1 hz1 v4 i3=>q_norm 0 ⟨i3,v4,rfl,rfl⟩)<|q_sel 5 [0,1,2,4,3] (by decide) (by decide)<|q_norm 3 ⟨i1,v1,rfl,rfl⟩
    ·rintro s3 _ _ ⟨i5,v5,rfl,rfl⟩
     exact q_p fr<|q_norm 0 ⟨i5,v5,rfl,rfl⟩
    ·rintro i4 s3 _ _ ⟨i6,v6,rfl,rfl⟩
     exact q_exit 0 ⟨i6,v6,rfl,rfl⟩
    ·rintro s3 _ _ ⟨i7,v7,rfl,rfl⟩
     exact q_lret 0 ⟨i7,v7,rfl,rfl⟩
   ·exact q_exit 0 ⟨i1,v1,rfl,rfl⟩
  ·rintro i8 s4 _ _ ⟨i9,v8,rfl,rfl⟩
   exact q_n (q_ret5 (i9,v8) 0 rfl rfl)<|q_none
  ·rintro s4 _ _ ⟨i10,v9,rfl,rfl⟩
   exact q_nila (α:=TMsg)<|q_sel 3 [1,0,2] (by decide) (by decide)<|q_ret5 ([],.rsl false true []) 1 rfl rfl
def m16 (a0:Tl1Src):Option ((List TMsg)×Tl1Src):=(m38 a0).bind fun y1=>( (m39 y1.2 12).bind fun y2=>bif y2.1 == 0 then (m18 y2.2).bind fun y3=>(appO 88 y1.1 [y3.1]).bind fun z1=>some (LO.norm (z1,y3.2.Code,y3.2.At)) else bif y2.1 == 1 then (mkO 88 241 (⟨0,0,0,0,0,[],[]⟩:TMsg)).bind fun z2=>some (LO.norm (z2,y2.2.Code,y2.2.At)) else some (LO.norm (y1.1,y2.2.Code,y2.2.At))).bind (contO (fun s2=>some (s2.1,(⟨s2.2.1,s2.2.2⟩:Tl1Src))) (fun i5 s2=>none) (fun s2=>some ([],(⟨s2.2.1,s2.2.2⟩:Tl1Src))))
theorem w16 {d:Nat} (hd:5≤d) (L0:List En) (b0_:Nat) (k0:Bool) (a0:Tl1Src):Okh (bx b0_ [.rsl k0 false (a0.Code.map (Enc.cs k0)),.int .i64 a0.At]::L0) (fun S=>R NN d 16 [.bp b0_ 0 0 2 1] S) (m16 a0) (P5 (fun (x:List Nat×AV) (t:(List TMsg)×Tl1Src)=>x.2) (fun (x:List Nat×AV) (t:(List TMsg)×Tl1Src)=>tra x.1 x.2 t.1::bx b0_ [.rsl k0 false (t.2.Code.map (Enc.cs k0)),.int .i64 t.2.At]::L0)):=by
  obtain ⟨d,rfl,g⟩:=up hd
  refine q_to (t16 NN d _) ?_
  unfold b16 m16
  refine q_s5 (mg:=m38 a0) (fun S=>rfl) (w38 (by omega) _ _ k0 a0) fun y1 hy1 ⟨i1,v1⟩=>q_cut (I:=(fun (s:(List TMsg)×(List U8)×Int) l L=>∃ (i2:List Nat) (v2:AV),l = [v2]∧L = tra i2 v2 (s.1:List TMsg)::bx b0_ [.rsl k0 false (s.2.1.map (Enc.cs k0)),.int .i64 s.2.2]::L0)) ?_ ?_ ?_ ?_
  ·exact q_sel 2 [1,0] (by decide) (by decide)<|q_s (mg:=m39 y1.2 12) (w39 (by omega) _ _ k0 y1.2 12) fun y2 hy2=>q_p fr<|q_i (q_s5 (mg:=m18 y2.2) (fun S=>rfl) (w18 (by omega) _ _ k0 y2.2) fun y3 hy3 ⟨v2,v3⟩=>q_tbd 2 (tb_of (α:=TMsg) (β:=Int×Int×Int×Int×Int×(List TCert)×(List Int)) (f:=fun x=>(x.Kind,x.View,x.From,x.Slot,x.Value,x.Certs,x.Refs)) (x:=y3.1) rfl (tb_pair (tb_int (n:=y3.1.Kind)) (tb_pair (tb_int (n:=y3.1.View)) (tb_pair (tb_int (n:=y3.1.From)) (tb_pair (tb_int (n:=y3.1.Slot)) (tb_pair (tb_int (n:=y3.1.Value)) (tb_pair (tb_sl 0 rfl plt58) (tb_sl 1 rfl plt2)))))))) (by decide) fun i2=>q_sel 3 [0,2,1] (by decide) (by decide)<|q_ap1 rfl (fun _=>bt24) rfl fun z1 hz1 v4 i3=>q_norm 0 ⟨i3,v4,rfl,rfl⟩)<|q_p fr<|q_i (q_mka (z:=(⟨0,0,0,0,0,[],[]⟩:TMsg)) mk24 ztr28 fun z2 hz2 v5 i4=>q_sel 3 [0,2,1] (by decide) (by decide)<|q_sel 3 [1,0,2] (by decide) (by decide)<|q_norm 1 ⟨i4,v5,rfl,rfl⟩)<|q_sel 2 [1,0] (by decide) (by decide)<|q_norm 0 ⟨i1,v1,rfl,rfl⟩
  ·rintro s2 _ _ ⟨i6,v6,rfl,rfl⟩
   exact q_ret5 (i6,v6) 0 rfl rfl
  ·rintro i5 s2 _ _ ⟨i7,v7,rfl,rfl⟩
   exact q_none
  ·rintro s2 _ _ ⟨i8,v8,rfl,rfl⟩
   exact q_nila (α:=TMsg)<|q_sel 3 [1,0,2] (by decide) (by decide)<|q_ret5 ([],.rsl false true []) 1 rfl rfl
def m5 (a0:List U8):Option (Int×(List TMsg)×TMsg):=(m14 a0).bind fun y1=>(m15 y1).bind fun y2=>(m16 y2.2).bind fun y3=>bif decide ((y3.1.length:Int) > 0) then (m17 y3.2 5).bind fun y4=>bif y4.1 then (getI y3.1 0).bind fun x1=>some (y2.1,y3.1,x1) else (m18 y4.2).bind fun y5=>some (y2.1,y3.1,y5.1) else (m18 y3.2).bind fun y6=>some (y2.1,y3.1,y6.1)
theorem w5 {d:Nat} (hd:6≤d) (k0:Bool) (a0:List U8):Fit (R NN d 5 [.rsl k0 false (a0.map (Enc.cs k0))] []) (m5 a0) (P0 (fun (t:Int×(List TMsg)×TMsg)=>AV.tup [.int .i64 t.1,.rsl false false (t.2.1.map (Enc.cs false)),.agg (Enc.cs false t.2.2)])):=by
  obtain ⟨d,rfl,g⟩:=up hd
  refine q_in (t5 NN d _) ?_
  unfold b5 m5
  refine q_new rfl fun b1=>q_s5 (mg:=m14 a0) (fun S=>rfl) (w14 (by omega) _ k0 a0) fun y1 hy1 b2=>q_s (mg:=m15 y1) (w15 (by omega) _ _ k0 y1) fun y2 hy2=>q_s5 (mg:=m16 y2.2) (fun S=>rfl) (w16 (by omega) _ _ k0 y2.2) fun y3 hy3 ⟨i1,v1⟩=>q_lena 0 rfl<|q_p fr<|q_k ?_ ?_
  ·refine q_sel 3 [1,0,2] (by decide) (by decide)<|q_s (mg:=m17 y3.2 5) (w17 (by omega) _ _ k0 y3.2 5) fun y4 hy4=>q_i ?_ ?_
   ·refine q_ixa 1 rfl rfl fun x1 hx1=>q_sel 3 [1,0,2] (by decide) (by decide)<|q_lde rfl hx1 fun cs1 hcs_=>?_
    obtain ⟨_,_,hcs_⟩:=hcs_
    have hcs_:=trx28 hcs_
    obtain ⟨v2,v3,rfl⟩:=hcs_
    exact q_st 2 rfl rfl rfl (by decide) rfl<|q_retm (fun S hS=>res3_of rfl rfl (hS.lda 2 rfl rfl)) (cv_t (cvs_cons (cv_p rfl) (cvs_cons (cv_trx 0 rfl) (cvs_cons (cv_a (cvs_trx 0 rfl)) cvs_nil)))) rfl
   ·exact q_s5 (mg:=m18 y4.2) (fun S=>rfl) (w18 (by omega) _ _ k0 y4.2) fun y5 hy5 ⟨v4,v5⟩=>q_st 4 rfl rfl rfl (by decide) rfl<|q_retm (fun S hS=>res3_of rfl rfl (hS.lda 4 rfl rfl)) (cv_t (cvs_cons (cv_p rfl) (cvs_cons (cv_tra 3 rfl) (cvs_cons (cv_a (cvs_cons (cv_p rfl) (cvs_cons (cv_p rfl) (cvs_cons (cv_p rfl) (cvs_cons (cv_p rfl) (cvs_cons (cv_p rfl) (cvs_cons (cv_o 0 rfl) (cvs_cons (cv_o 1 rfl) cvs_nil)))))))) cvs_nil)))) rfl
  ·first | refine q_ifF1 ?_ | skip
   exact q_sel 3 [1,0,2] (by decide) (by decide)<|q_s5 (mg:=m18 y3.2) (fun S=>rfl) (w18 (by omega) _ _ k0 y3.2) fun y6 hy6 ⟨v6,v7⟩=>q_st 4 rfl rfl rfl (by decide) rfl<|q_retm (fun S hS=>res3_of rfl rfl (hS.lda 4 rfl rfl)) (cv_t (cvs_cons (cv_p rfl) (cvs_cons (cv_tra 3 rfl) (cvs_cons (cv_a (cvs_cons (cv_p rfl) (cvs_cons (cv_p rfl) (cvs_cons (cv_p rfl) (cvs_cons (cv_p rfl) (cvs_cons (cv_p rfl) (cvs_cons (cv_o 0 rfl) (cvs_cons (cv_o 1 rfl) cvs_nil)))))))) cvs_nil)))) rfl
def m41 (a0:Int) (a1:Int) (a2:Int):Bool:=bif decide (a1≤a0) then decide (a0≤a2) else false
theorem w41 {d:Nat} (hd:1≤d) (a0:Int) (a1:Int) (a2:Int):Fit (R NN d 41 [.int .i64 a0,.int .i64 a1,.int .i64 a2] []) (some (m41 a0 a1 a2)) PB:=by
  obtain ⟨d,rfl,g⟩:=up hd
  refine q_in (t41 NN d _ _ _) ?_
  unfold b41 m41
  exact q_p fr<|q_gTt (fun h1=>q_p fr<|q_ret (cv_p rfl) rfl) fun h1=>q_ret (cv_p rfl) rfl
def m45 (a0:Int):Int:=wi .i64 ((wi .i64 (3 * a0)) + 1)
theorem w45 {d:Nat} (hd:1≤d) (a0:Int):Fit (R NN d 45 [.int .i64 a0] []) (some (m45 a0)) PI:=by
  obtain ⟨d,rfl,g⟩:=up hd
  refine q_in (t45 NN d _) ?_
  unfold b45 m45
  exact q_p fr<|q_p fr<|q_ret (cv_p rfl) rfl
def m28 (a0:Int) (a1:Int):Bool:=(m41 a1 1 (m45 a0))
theorem w28 {d:Nat} (hd:2≤d) (a0:Int) (a1:Int):Fit (R NN d 28 [.int .i64 a0,.int .i64 a1] []) (some (m28 a0 a1)) PB:=by
  obtain ⟨d,rfl,g⟩:=up hd
  refine q_in (t28 NN d _ _) ?_
  unfold b28 m28
  exact q_c0t (aF1 (cv_p rfl) fun l0_=>w45 (by omega) a0)<|q_c0t (aF3 (cv_p rfl) (cv_p rfl) (cv_p rfl) fun l0_ l1_ l2_=>w41 (by omega) a1 1 (m45 a0))<|q_ret (cv_p rfl) rfl
def m30 (a0:Int):Bool:=(m41 a0 1 3)
theorem w30 {d:Nat} (hd:2≤d) (a0:Int):Fit (R NN d 30 [.int .i64 a0] []) (some (m30 a0)) PB:=by
  obtain ⟨d,rfl,g⟩:=up hd
  refine q_in (t30 NN d _) ?_
  unfold b30 m30
  exact q_c0t (aF3 (cv_p rfl) (cv_p rfl) (cv_p rfl) fun l0_ l1_ l2_=>w41 (by omega) a0 1 3)<|q_ret (cv_p rfl) rfl
def m42 (a0:Int):Bool:=(m41 a0 0 20)
theorem w42 {d:Nat} (hd:2≤d) (a0:Int):Fit (R NN d 42 [.int .i64 a0] []) (some (m42 a0)) PB:=by
  obtain ⟨d,rfl,g⟩:=up hd
  refine q_in (t42 NN d _) ?_
  unfold b42 m42
  exact q_c0t (aF3 (cv_p rfl) (cv_p rfl) (cv_p rfl) fun l0_ l1_ l2_=>w41 (by omega) a0 0 20)<|q_ret (cv_p rfl) rfl
def m43 (a0:Int):Bool:=(m41 a0 1 30)
theorem w43 {d:Nat} (hd:2≤d) (a0:Int):Fit (R NN d 43 [.int .i64 a0] []) (some (m43 a0)) PB:=by
  obtain ⟨d,rfl,g⟩:=up hd
  refine q_in (t43 NN d _) ?_
  unfold b43 m43
  exact q_c0t (aF3 (cv_p rfl) (cv_p rfl) (cv_p rfl) fun l0_ l1_ l2_=>w41 (by omega) a0 1 30)<|q_ret (cv_p rfl) rfl
def m44 (a0:Int):Bool:=(m41 a0 0 12)
theorem w44 {d:Nat} (hd:2≤d) (a0:Int):Fit (R NN d 44 [.int .i64 a0] []) (some (m44 a0)) PB:=by
  obtain ⟨d,rfl,g⟩:=up hd
  refine q_in (t44 NN d _) ?_
  unfold b44 m44
  exact q_c0t (aF3 (cv_p rfl) (cv_p rfl) (cv_p rfl) fun l0_ l1_ l2_=>w41 (by omega) a0 0 12)<|q_ret (cv_p rfl) rfl
def ms68_0 (a0:List TCert) (a1:TCert→Option (Bool)) (s1:Int×Int):Option (LO (Int×Int)):=bif decide (s1.2 < (a0.length:Int)) then (getI a0 s1.2).bind fun x1=>(a1 x1).bind fun y1=>bif y1 then some (LO.ret (s1.2,s1.2)) else some (LO.norm (s1.1,wi .i64 (s1.2 + 1))) else some (LO.exit 0 (s1.1,s1.2))
def m68 (a0:List TCert) (a1:TCert→Option (Bool)):Option (Int):=(loopO (ms68_0 a0 a1) NN (0,0)).bind (contO (fun _=>none) (fun i1 s2=>if i1 = 0 then some (-1) else none) (fun s2=>some s2.1))
theorem w68 {Dc:Nat} {d:Nat} (hd:Dc + 1≤d) (k0:Bool) (a0:List TCert) (c1:Bool→AV) (hc1:∀ l,CV 8 [] false (c1 l) c1) (a1:TCert→Option (Bool)) (tc1:∀ (d:Nat),Dc≤d→∀ (l:Bool) (q0:Bool) (x0:TCert) (S:St) (t:Bool),a1 x0 = some t→callV (cfg NN) (R NN d) 68 (c1 l) [.agg (Enc.cs q0 x0)] S = some ((fun (t:Bool)=>AV.bool t) t,S)) (k1:Bool):Fit (R NN d 68 [.rsl k0 false (a0.map (Enc.cs k0)),c1 k1] []) (m68 a0 a1) PI:=by
  obtain ⟨d,rfl,g⟩:=up hd
  refine q_in (t68 NN d _ _) ?_
  unfold b68 m68
  refine q_len<|q_lp (A:=fun (s:Int×Int)=>[.int .i64 s.1,.int .i64 s.2]) (B:=fun s=>[]) 0 rr ?_ ?_ ?_
  ·intro s1
   unfold s68_0 ms68_0
   exact q_p fr<|q_i (q_ix rfl fun x1 hx1=>q_p fr<|q_cv (mg:=a1 x1) (E:=(fun (t:Bool)=>AV.bool t)) (fun S t ht=>tc1 d (by omega) k1 k0 x1 S t ht) fun y1 hy1=>q_i (q_lret 0 rr)<|q_p fr<|q_norm 0 rr)<|q_exit 0 rr
  ·exact fun i1 s2=>q_n (q_ret (cv_p rfl) rfl)<|q_none
  ·exact fun s2=>q_ret (cv_p rfl) rfl
def m46 (a0:List TCert) (a1:TCert→Option (Bool)):Option (Bool):=(m68 a0 a1).bind fun y1=>some (decide (y1 ≥ 0))
theorem w46 {Dc:Nat} {d:Nat} (hd:Dc + 2≤d) (k0:Bool) (a0:List TCert) (c1:Bool→AV) (hc1:∀ l,CV 8 [] false (c1 l) c1) (a1:TCert→Option (Bool)) (tc1:∀ (d:Nat),Dc≤d→∀ (l:Bool) (q0:Bool) (x0:TCert) (S:St) (t:Bool),a1 x0 = some t→callV (cfg NN) (R NN d) 68 (c1 l) [.agg (Enc.cs q0 x0)] S = some ((fun (t:Bool)=>AV.bool t) t,S)) (k1:Bool):Fit (R NN d 46 [.rsl k0 false (a0.map (Enc.cs k0)),c1 k1] []) (m46 a0 a1) PB:=by
  obtain ⟨d,rfl,g⟩:=up hd
  refine q_in (t46 NN d _ _) ?_
  unfold b46 m46
  exact q_c0 (aF2 cv_r (CV.any (hc1 k1)) fun l0_ l1_=>w68 (by omega) l0_ a0 c1 hc1 a1 tc1 l1_) fun y1 hy1=>q_p fr<|q_ret (cv_p rfl) rfl
def m47 (a0:TCert) (a1:TMsg):Option (Bool):=( bif !(m43 a0.Slot) then some (LO.norm true) else bif !(m41 a0.View 0 (wi .i64 (a1.View - 1))) then some (LO.norm true) else some (LO.norm (!(m44 a0.Value)))).bind (contO (fun s2=>some s2) (fun i1 s2=>none) (fun s2=>some s2))
theorem w47 {d:Nat} (hd:3≤d) (k0:Bool) (a0:TCert) (k1:Bool) (a1:TMsg):Fit (R NN d 47 [.agg (Enc.cs k0 a0),.rp k1 (Enc.cs k1 a1)] []) (m47 a0 a1) PB:=by
  obtain ⟨d,rfl,g⟩:=up hd
  refine q_in (t47 NN d _ _) ?_
  unfold b47 m47
  refine q_box (n:=3) rfl rfl (by decide) fun b1=>q_cu (A:=fun (s:Bool)=>[.bool s]) (B:=fun s=>[bx b1 [.int .i64 a0.Slot,.int .i64 a0.View,.int .i64 a0.Value]]) ?_ ?_ ?_ ?_
  ·exact q_p fr<|q_ld 0 rfl rfl<|q_c0t (aF1 (cv_p rfl) fun l0_=>w43 (by omega) a0.Slot)<|q_p fr<|q_j (q_norm 0 rr)<|q_p fr<|q_ld 0 rfl rfl<|q_p fr<|q_p fr<|q_p fr<|q_c0t (aF3 (cv_p rfl) (cv_p rfl) (cv_p rfl) fun l0_ l1_ l2_=>w41 (by omega) a0.View 0 (wi .i64 (a1.View - 1)))<|q_p fr<|q_j (q_norm 0 rr)<|q_p fr<|q_ld 0 rfl rfl<|q_c0t (aF1 (cv_p rfl) fun l0_=>w44 (by omega) a0.Value)<|q_p fr<|q_norm 0 rr
  ·exact fun s2=>q_ret (cv_p rfl) rfl
  ·exact fun i1 s2=>q_none
  ·exact fun s2=>q_ret (cv_p rfl) rfl
def ms69_0 (a0:List Int) (a1:Int→Option (Bool)) (s1:Int×Int):Option (LO (Int×Int)):=bif decide (s1.2 < (a0.length:Int)) then (getI a0 s1.2).bind fun x1=>(a1 x1).bind fun y1=>bif y1 then some (LO.ret (s1.2,s1.2)) else some (LO.norm (s1.1,wi .i64 (s1.2 + 1))) else some (LO.exit 0 (s1.1,s1.2))
def m69 (a0:List Int) (a1:Int→Option (Bool)):Option (Int):=(loopO (ms69_0 a0 a1) NN (0,0)).bind (contO (fun _=>none) (fun i1 s2=>if i1 = 0 then some (-1) else none) (fun s2=>some s2.1))
theorem w69 {Dc:Nat} {d:Nat} (hd:Dc + 1≤d) (k0:Bool) (a0:List Int) (c1:Bool→AV) (hc1:∀ l,CV 8 [] false (c1 l) c1) (a1:Int→Option (Bool)) (tc1:∀ (d:Nat),Dc≤d→∀ (l:Bool) (x0:Int) (S:St) (t:Bool),a1 x0 = some t→callV (cfg NN) (R NN d) 69 (c1 l) [.int .i64 x0] S = some ((fun (t:Bool)=>AV.bool t) t,S)) (k1:Bool):Fit (R NN d 69 [.rsl k0 false (a0.map (Enc.cs k0)),c1 k1] []) (m69 a0 a1) PI:=by
  obtain ⟨d,rfl,g⟩:=up hd
  refine q_in (t69 NN d _ _) ?_
  unfold b69 m69
  refine q_len<|q_lp (A:=fun (s:Int×Int)=>[.int .i64 s.1,.int .i64 s.2]) (B:=fun s=>[]) 0 rr ?_ ?_ ?_
  ·intro s1
   unfold s69_0 ms69_0
   exact q_p fr<|q_i (q_ix rfl fun x1 hx1=>q_p fr<|q_cv (mg:=a1 x1) (E:=(fun (t:Bool)=>AV.bool t)) (fun S t ht=>tc1 d (by omega) k1 x1 S t ht) fun y1 hy1=>q_i (q_lret 0 rr)<|q_p fr<|q_norm 0 rr)<|q_exit 0 rr
  ·exact fun i1 s2=>q_n (q_ret (cv_p rfl) rfl)<|q_none
  ·exact fun s2=>q_ret (cv_p rfl) rfl
def m48 (a0:List Int) (a1:Int→Option (Bool)):Option (Bool):=(m69 a0 a1).bind fun y1=>some (decide (y1 ≥ 0))
theorem w48 {Dc:Nat} {d:Nat} (hd:Dc + 2≤d) (k0:Bool) (a0:List Int) (c1:Bool→AV) (hc1:∀ l,CV 8 [] false (c1 l) c1) (a1:Int→Option (Bool)) (tc1:∀ (d:Nat),Dc≤d→∀ (l:Bool) (x0:Int) (S:St) (t:Bool),a1 x0 = some t→callV (cfg NN) (R NN d) 69 (c1 l) [.int .i64 x0] S = some ((fun (t:Bool)=>AV.bool t) t,S)) (k1:Bool):Fit (R NN d 48 [.rsl k0 false (a0.map (Enc.cs k0)),c1 k1] []) (m48 a0 a1) PB:=by
  obtain ⟨d,rfl,g⟩:=up hd
  refine q_in (t48 NN d _ _) ?_
  unfold b48 m48
  exact q_c0 (aF2 cv_r (CV.any (hc1 k1)) fun l0_ l1_=>w69 (by omega) l0_ a0 c1 hc1 a1 tc1 l1_) fun y1 hy1=>q_p fr<|q_ret (cv_p rfl) rfl
def m49 (a0:Int):Bool:=!(m41 a0 0 239)
theorem w49 {d:Nat} (hd:2≤d) (a0:Int):Fit (R NN d 49 [.int .i64 a0] []) (some (m49 a0)) PB:=by
  obtain ⟨d,rfl,g⟩:=up hd
  refine q_in (t49 NN d _) ?_
  unfold b49 m49
  exact q_c0t (aF3 (cv_p rfl) (cv_p rfl) (cv_p rfl) fun l0_ l1_ l2_=>w41 (by omega) a0 0 239)<|q_p fr<|q_ret (cv_p rfl) rfl
def ms19_0 (a1:TMsg) (s7:Int×Int):Option (LO (Int×Int)):=bif decide (s7.2 < (a1.Certs.length:Int)) then ( (getI a1.Certs s7.2).bind fun x1=>bif decide (s7.2 > 0) then (getI a1.Certs (wi .i64 (s7.2 - 1))).bind fun x2=>bif decide (x1.Slot≤x2.Slot) then some (LO.ret 1) else some (LO.norm s7.1) else some (LO.norm s7.1)).bind (contO (fun s9=>some (LO.norm (s9,wi .i64 (s7.2 + 1)))) (fun i4 s9=>some (LO.exit i4 (s9,s7.2))) (fun s9=>some (LO.ret (s9,s7.2)))) else some (LO.exit 1 (s7.1,s7.2))
def ms19_1 (a1:TMsg) (s11:Int×Int):Option (LO (Int×Int)):=bif decide (s11.2 < (a1.Refs.length:Int)) then ( (getI a1.Refs s11.2).bind fun x3=>bif decide (s11.2 > 0) then (getI a1.Refs (wi .i64 (s11.2 - 1))).bind fun x4=>bif decide (x3≤x4) then some (LO.ret 1) else some (LO.norm s11.1) else some (LO.norm s11.1)).bind (contO (fun s13=>some (LO.norm (s13,wi .i64 (s11.2 + 1)))) (fun i6 s13=>some (LO.exit i6 (s13,s11.2))) (fun s13=>some (LO.ret (s13,s11.2)))) else some (LO.exit 3 (s11.1,s11.2))
def m19 (a0:Int) (a1:TMsg):Option (Int):=( ( bif !(m41 a1.Kind 1 5) then some (LO.norm true) else bif !(m30 a1.Kind) then bif a1.Slot != 0 then some (LO.norm true) else bif a1.Value != 0 then some (LO.norm true) else bif a1.Kind != 4 then bif decide ((a1.Certs.length:Int) > 0) then some (LO.norm true) else bif a1.Kind != 5 then some (LO.norm (decide ((a1.Refs.length:Int) > 0))) else some (LO.norm false) else bif a1.Kind != 5 then some (LO.norm (decide ((a1.Refs.length:Int) > 0))) else some (LO.norm false) else bif a1.Kind != 4 then bif decide ((a1.Certs.length:Int) > 0) then some (LO.norm true) else bif a1.Kind != 5 then some (LO.norm (decide ((a1.Refs.length:Int) > 0))) else some (LO.norm false) else bif a1.Kind != 5 then some (LO.norm (decide ((a1.Refs.length:Int) > 0))) else some (LO.norm false)).bind (contO (fun s3=>bif s3 then some (LO.ret 1) else ( bif !(m42 a1.View) then some (LO.norm true) else bif !(m28 a0 a1.From) then some (LO.norm true) else bif (m30 a1.Kind) then bif !(m43 a1.Slot) then some (LO.norm true) else some (LO.norm (!(m44 a1.Value))) else some (LO.norm false)).bind (contO (fun s5=>bif s5 then some (LO.ret 3) else bif decide ((a1.Certs.length:Int) > 30) then some (LO.ret 2) else bif decide ((a1.Refs.length:Int) > (m45 a0)) then some (LO.ret 2) else some (LO.norm 0)) (fun i2 s5=>if i2 = 0 then some (LO.norm 0) else some (LO.exit i2 0)) (fun s5=>some (LO.ret 0)))) (fun i1 s3=>if i1 = 0 then some (LO.norm 0) else some (LO.exit i1 0)) (fun s3=>some (LO.ret 0)))).bind (contO (fun s6=>(loopO (ms19_0 a1) NN (s6,0)).bind (contO (fun _=>none) (fun i5 s10=>if i5 = 1 then (loopO (ms19_1 a1) NN (s10.1,0)).bind (contO (fun _=>none) (fun i7 s14=>if i7 = 3 then (m46 a1.Certs (fun x0_=>m47 x0_ a1)).bind fun y1=>bif y1 then some 3 else (m48 a1.Refs (fun x0_=>some (m49 x0_))).bind fun y2=>bif y2 then some 3 else some 0 else none) (fun s14=>some s14.1)) else none) (fun s10=>some s10.1))) (fun i3 s6=>none) (fun s6=>some s6))
theorem w19 {d:Nat} (hd:6≤d) (a0:Int) (k1:Bool) (a1:TMsg):Fit (R NN d 19 [.int .i64 a0,.agg (Enc.cs k1 a1)] []) (m19 a0 a1) PI:=by
  obtain ⟨d,rfl,g⟩:=up hd
  refine q_in (t19 NN d _ _) ?_
  unfold b19 m19
  refine q_box (n:=7) rfl rfl (by decide) fun b1=>q_p fr<|q_ld 0 rfl rfl<|q_c0t (aF1 (cv_p rfl) fun l0_=>w30 (by omega) a1.Kind)<|q_cu (A:=fun (s:Int)=>[.int .i64 s]) (B:=fun s=>[bx b1 [.int .i64 a1.Kind,.int .i64 a1.View,.int .i64 a1.From,.int .i64 a1.Slot,.int .i64 a1.Value,.rsl k1 false (a1.Certs.map (Enc.cs k1)),.rsl k1 false (a1.Refs.map (Enc.cs k1))]]) ?_ ?_ ?_ ?_
  ·refine q_cu (A:=fun (s:Bool)=>[.bool s]) (B:=fun s=>[bx b1 [.int .i64 a1.Kind,.int .i64 a1.View,.int .i64 a1.From,.int .i64 a1.Slot,.int .i64 a1.Value,.rsl k1 false (a1.Certs.map (Enc.cs k1)),.rsl k1 false (a1.Refs.map (Enc.cs k1))]]) ?_ ?_ ?_ ?_
   ·exact q_p fr<|q_ld 0 rfl rfl<|q_c0t (aF3 (cv_p rfl) (cv_p rfl) (cv_p rfl) fun l0_ l1_ l2_=>w41 (by omega) a1.Kind 1 5)<|q_p fr<|q_j (q_norm 0 rr)<|q_p fr<|q_k (q_p fr<|q_ld 0 rfl rfl<|q_p fr<|q_j (q_norm 0 rr)<|q_p fr<|q_ld 0 rfl rfl<|q_p fr<|q_j (q_norm 0 rr)<|q_p fr<|q_ld 0 rfl rfl<|q_p fr<|q_k (q_p fr<|q_ld 0 rfl rfl<|q_len<|q_p fr<|q_j (q_norm 0 rr)<|q_p fr<|q_ld 0 rfl rfl<|q_p fr<|q_k (q_p fr<|q_ld 0 rfl rfl<|q_len<|q_p fr<|q_norm 0 rr)<|q_norm 0 rr)<|q_p fr<|q_ld 0 rfl rfl<|q_p fr<|q_k (q_p fr<|q_ld 0 rfl rfl<|q_len<|q_p fr<|q_norm 0 rr)<|q_norm 0 rr)<|q_p fr<|q_ld 0 rfl rfl<|q_p fr<|q_k (q_p fr<|q_ld 0 rfl rfl<|q_len<|q_p fr<|q_j (q_norm 0 rr)<|q_p fr<|q_ld 0 rfl rfl<|q_p fr<|q_k (q_p fr<|q_ld 0 rfl rfl<|q_len<|q_p fr<|q_norm 0 rr)<|q_norm 0 rr)<|q_p fr<|q_ld 0 rfl rfl<|q_p fr<|q_k (q_p fr<|q_ld 0 rfl rfl<|q_len<|q_p fr<|q_norm 0 rr)<|q_norm 0 rr
   ·intro s3
    refine q_i ?_ ?_
    ·exact q_lret 0 rr
    ·refine q_cu (A:=fun (s:Bool)=>[.bool s]) (B:=fun s=>[bx b1 [.int .i64 a1.Kind,.int .i64 a1.View,.int .i64 a1.From,.int .i64 a1.Slot,.int .i64 a1.Value,.rsl k1 false (a1.Certs.map (Enc.cs k1)),.rsl k1 false (a1.Refs.map (Enc.cs k1))]]) ?_ ?_ ?_ ?_
     ·exact q_p fr<|q_ld 0 rfl rfl<|q_c0t (aF1 (cv_p rfl) fun l0_=>w42 (by omega) a1.View)<|q_p fr<|q_j (q_norm 0 rr)<|q_p fr<|q_ld 0 rfl rfl<|q_c0t (aF2 (cv_p rfl) (cv_p rfl) fun l0_ l1_=>w28 (by omega) a0 a1.From)<|q_p fr<|q_j (q_norm 0 rr)<|q_k (q_p fr<|q_ld 0 rfl rfl<|q_c0t (aF1 (cv_p rfl) fun l0_=>w43 (by omega) a1.Slot)<|q_p fr<|q_j (q_norm 0 rr)<|q_p fr<|q_ld 0 rfl rfl<|q_c0t (aF1 (cv_p rfl) fun l0_=>w44 (by omega) a1.Value)<|q_p fr<|q_norm 0 rr)<|q_norm 0 rr
     ·intro s5
      refine q_i ?_ ?_
      ·exact q_lret 0 rr
      ·refine q_p fr<|q_ld 0 rfl rfl<|q_len<|q_p fr<|q_j ?_ ?_
       ·first | refine q_ifT1 ?_ | skip
        exact q_lret 0 rr
       ·exact q_p fr<|q_ld 0 rfl rfl<|q_len<|q_c0t (aF1 (cv_p rfl) fun l0_=>w45 (by omega) a0)<|q_p fr<|q_i (q_lret 0 rr)<|q_norm 0 rr
     ·exact fun i2 s5=>q_n (q_norm 0 rr)<|q_exit 0 rr
     ·exact fun s5=>q_lret 0 rr
   ·exact fun i1 s3=>q_n (q_norm 0 rr)<|q_exit 0 rr
   ·exact fun s3=>q_lret 0 rr
  ·intro s6
   refine q_p fr<|q_ld 0 rfl rfl<|q_len<|q_lp (A:=fun (s:Int×Int)=>[.int .i64 s.1,.int .i64 s.2]) (B:=fun s=>[bx b1 [.int .i64 a1.Kind,.int .i64 a1.View,.int .i64 a1.From,.int .i64 a1.Slot,.int .i64 a1.Value,.rsl k1 false (a1.Certs.map (Enc.cs k1)),.rsl k1 false (a1.Refs.map (Enc.cs k1))]]) 0 rr ?_ ?_ ?_
   ·intro s7
    unfold s19_0 ms19_0
    refine q_p fr<|q_i ?_ ?_
    ·refine q_cu (A:=fun (s:Int)=>[.int .i64 s]) (B:=fun s=>[bx b1 [.int .i64 a1.Kind,.int .i64 a1.View,.int .i64 a1.From,.int .i64 a1.Slot,.int .i64 a1.Value,.rsl k1 false (a1.Certs.map (Enc.cs k1)),.rsl k1 false (a1.Refs.map (Enc.cs k1))]]) ?_ ?_ ?_ ?_
     ·refine q_ix rfl fun x1 hx1=>q_p fr<|q_new rfl fun b2=>q_st 0 rfl rfl rfl (by decide) rfl<|q_p fr<|q_k ?_ ?_
      ·exact q_p fr<|q_ld 0 rfl rfl<|q_p fr<|q_ld 1 rfl rfl<|q_p fr<|q_ix rfl fun x2 hx2=>q_p fr<|q_p fr<|q_p fr<|q_i (q_lret 1 rr)<|q_norm 1 rr
      ·first | refine q_ifF1 ?_ | skip
       exact q_norm 1 rr
     ·exact fun s9=>q_p fr<|q_norm 0 rr
     ·exact fun i4 s9=>q_exit 0 rr
     ·exact fun s9=>q_lret 0 rr
    ·exact q_exit 0 rr
   ·intro i5 s10
    refine q_n ?_ ?_
    ·refine q_p fr<|q_ld 0 rfl rfl<|q_len<|q_lp (A:=fun (s:Int×Int)=>[.int .i64 s.1,.int .i64 s.2]) (B:=fun s=>[bx b1 [.int .i64 a1.Kind,.int .i64 a1.View,.int .i64 a1.From,.int .i64 a1.Slot,.int .i64 a1.Value,.rsl k1 false (a1.Certs.map (Enc.cs k1)),.rsl k1 false (a1.Refs.map (Enc.cs k1))]]) 0 rr ?_ ?_ ?_
     ·intro s11
      unfold s19_1 ms19_1
      refine q_p fr<|q_i ?_ ?_
      ·refine q_cu (A:=fun (s:Int)=>[.int .i64 s]) (B:=fun s=>[bx b1 [.int .i64 a1.Kind,.int .i64 a1.View,.int .i64 a1.From,.int .i64 a1.Slot,.int .i64 a1.Value,.rsl k1 false (a1.Certs.map (Enc.cs k1)),.rsl k1 false (a1.Refs.map (Enc.cs k1))]]) ?_ ?_ ?_ ?_
       ·refine q_ix rfl fun x3 hx3=>q_p fr<|q_p fr<|q_k ?_ ?_
        ·exact q_p fr<|q_ld 0 rfl rfl<|q_p fr<|q_ix rfl fun x4 hx4=>q_p fr<|q_p fr<|q_i (q_lret 0 rr)<|q_norm 0 rr
        ·first | refine q_ifF1 ?_ | skip
         exact q_norm 0 rr
       ·exact fun s13=>q_p fr<|q_norm 0 rr
       ·exact fun i6 s13=>q_exit 0 rr
       ·exact fun s13=>q_lret 0 rr
      ·exact q_exit 0 rr
     ·exact fun i7 s14=>q_n (q_p fr<|q_ld 0 rfl rfl<|q_c0 (aF2 cv_r (cv_f (cvs_cons (cv_b 0 rfl (cvs_e (l0:=k1) (x:=a1))) cvs_nil)) fun l0_ l1_=>w46 (Dc:=3) (by omega) l0_ a1.Certs (fun l=>.fn 47 [.rp l (Enc.cs l a1)]) (fun l=>cv_f (cvs_cons (cv_rp (cvs_e (l0:=l) (x:=a1)) (fun _ _ _ h=>Enc.frz _ a1 _ _ _ h)) cvs_nil)) (fun x0_=>m47 x0_ a1) (fun d hd l q0_ x0_ S t ht=>(cv68_47 _ _ _ _).trans (call0_of (E:=(fun (t:Bool)=>AV.bool t)) (mg:=m47 x0_ a1) (args2 (M:=fun a=>Fit (R NN d 47 a []) _ _) (cv_a (cvs_e (l0:=q0_) (x:=x0_))) (cv_rp (cvs_e (l0:=l) (x:=a1)) (fun _ _ _ h=>Enc.frz _ a1 _ _ _ h)) HP.nil fun u0_ v0_=>w47 hd u0_ x0_ v0_ a1) ht)) l1_) fun y1 hy1=>q_i (q_ret (cv_p rfl) rfl)<|q_p fr<|q_ld 0 rfl rfl<|q_c0 (aF2 cv_r (cv_f cvs_nil) fun l0_ l1_=>w48 (Dc:=2) (by omega) l0_ a1.Refs (fun l=>.fn 49 []) (fun l=>cv_f cvs_nil) (fun x0_=>some (m49 x0_)) (fun d hd l x0_ S t ht=>(cv69_49 _ _ _ _).trans (call0_of (E:=(fun (t:Bool)=>AV.bool t)) (mg:=some (m49 x0_)) (args1 (M:=fun a=>Fit (R NN d 49 a []) _ _) (cv_p rfl) HP.nil fun u0_=>w49 hd x0_) ht)) l1_) fun y2 hy2=>q_i (q_ret (cv_p rfl) rfl)<|q_ret (cv_p rfl) rfl)<|q_none
     ·exact fun s14=>q_ret (cv_p rfl) rfl
    ·exact q_none
   ·exact fun s10=>q_ret (cv_p rfl) rfl
  ·exact fun i3 s6=>q_none
  ·exact fun s6=>q_ret (cv_p rfl) rfl
def m32 (a0:Int):Bool:=(m41 a0 1 2)
theorem w32 {d:Nat} (hd:2≤d) (a0:Int):Fit (R NN d 32 [.int .i64 a0] []) (some (m32 a0)) PB:=by
  obtain ⟨d,rfl,g⟩:=up hd
  refine q_in (t32 NN d _) ?_
  unfold b32 m32
  exact q_c0t (aF3 (cv_p rfl) (cv_p rfl) (cv_p rfl) fun l0_ l1_ l2_=>w41 (by omega) a0 1 2)<|q_ret (cv_p rfl) rfl
def m64 (a0:Int) (a1:Int):Bool:=decide (a0 ≥ a1)
theorem w64 {d:Nat} (hd:1≤d) (a0:Int) (k1:Bool) (a1:Int):Fit (R NN d 64 [.int .i64 a0,.rp k1 (Enc.cs k1 a1)] []) (some (m64 a0 a1)) PB:=by
  obtain ⟨d,rfl,g⟩:=up hd
  refine q_in (t64 NN d _ _) ?_
  unfold b64 m64
  exact q_p fr<|q_p fr<|q_ret (cv_p rfl) rfl
def m33 (a0:TMsg) (a1:Int):Option (Bool):=(m48 a0.Refs (fun x0_=>some (m64 x0_ a1))).bind fun y1=>some (!y1)
theorem w33 {d:Nat} (hd:4≤d) (k0:Bool) (a0:TMsg) (a1:Int):Fit (R NN d 33 [.agg (Enc.cs k0 a0),.int .i64 a1] []) (m33 a0 a1) PB:=by
  obtain ⟨d,rfl,g⟩:=up hd
  refine q_in (t33 NN d _ _) ?_
  unfold b33 m33
  exact q_box (n:=7) rfl rfl (by decide) fun b1=>q_box (n:=1) rfl rfl (by decide) fun b2=>q_p fr<|q_ld 1 rfl rfl<|q_c0 (aF2 cv_r (cv_f (cvs_cons (cv_b 0 rfl (cvs_e (l0:=false) (x:=a1))) cvs_nil)) fun l0_ l1_=>w48 (Dc:=1) (by omega) l0_ a0.Refs (fun l=>.fn 64 [.rp l (Enc.cs l a1)]) (fun l=>cv_f (cvs_cons (cv_rp (cvs_e (l0:=l) (x:=a1)) (fun _ _ _ h=>Enc.frz _ a1 _ _ _ h)) cvs_nil)) (fun x0_=>some (m64 x0_ a1)) (fun d hd l x0_ S t ht=>(cv69_64 _ _ _ _).trans (call0_of (E:=(fun (t:Bool)=>AV.bool t)) (mg:=some (m64 x0_ a1)) (args2 (M:=fun a=>Fit (R NN d 64 a []) _ _) (cv_p rfl) (cv_rp (cvs_e (l0:=l) (x:=a1)) (fun _ _ _ h=>Enc.frz _ a1 _ _ _ h)) HP.nil fun u0_ v0_=>w64 hd x0_ v0_ a1) ht)) l1_) fun y1 hy1=>q_p fr<|q_ret (cv_p rfl) rfl
def ms65_0 (a0:List TMsg) (a1:TMsg→Option (Bool)) (s1:Int×Int):Option (LO (Int×Int)):=bif decide (s1.2 < (a0.length:Int)) then (getI a0 s1.2).bind fun x1=>(a1 x1).bind fun y1=>bif y1 then some (LO.ret (s1.2,s1.2)) else some (LO.norm (s1.1,wi .i64 (s1.2 + 1))) else some (LO.exit 0 (s1.1,s1.2))
def m65 (a0:List TMsg) (a1:TMsg→Option (Bool)):Option (Int):=(loopO (ms65_0 a0 a1) NN (0,0)).bind (contO (fun _=>none) (fun i1 s2=>if i1 = 0 then some (-1) else none) (fun s2=>some s2.1))
theorem w65 {Dc:Nat} {d:Nat} (hd:Dc + 1≤d) (k0:Bool) (a0:List TMsg) (c1:Bool→AV) (hc1:∀ l,CV 8 [] false (c1 l) c1) (a1:TMsg→Option (Bool)) (tc1:∀ (d:Nat),Dc≤d→∀ (l:Bool) (q0:Bool) (x0:TMsg) (S:St) (t:Bool),a1 x0 = some t→callV (cfg NN) (R NN d) 65 (c1 l) [.agg (Enc.cs q0 x0)] S = some ((fun (t:Bool)=>AV.bool t) t,S)) (k1:Bool):Fit (R NN d 65 [.rsl k0 false (a0.map (Enc.cs k0)),c1 k1] []) (m65 a0 a1) PI:=by
  obtain ⟨d,rfl,g⟩:=up hd
  refine q_in (t65 NN d _ _) ?_
  unfold b65 m65
  refine q_len<|q_lp (A:=fun (s:Int×Int)=>[.int .i64 s.1,.int .i64 s.2]) (B:=fun s=>[]) 0 rr ?_ ?_ ?_
  ·intro s1
   unfold s65_0 ms65_0
   exact q_p fr<|q_i (q_ix rfl fun x1 hx1=>q_p fr<|q_cv (mg:=a1 x1) (E:=(fun (t:Bool)=>AV.bool t)) (fun S t ht=>tc1 d (by omega) k1 k0 x1 S t ht) fun y1 hy1=>q_i (q_lret 0 rr)<|q_p fr<|q_norm 0 rr)<|q_exit 0 rr
  ·exact fun i1 s2=>q_n (q_ret (cv_p rfl) rfl)<|q_none
  ·exact fun s2=>q_ret (cv_p rfl) rfl
def ms26_0 (a0:List TCert) (a1:List TCert) (s1:Bool×Int):Option (LO (Bool×Int)):=bif decide (s1.2 < (a0.length:Int)) then (getI a0 s1.2).bind fun x1=>(getI a1 s1.2).bind fun x2=>bif !(((x1.Slot == x2.Slot) && ((x1.View == x2.View) && ((x1.Value == x2.Value) && true)))) then some (LO.ret (false,s1.2)) else some (LO.norm (s1.1,wi .i64 (s1.2 + 1))) else some (LO.exit 0 (s1.1,s1.2))
def m26 (a0:List TCert) (a1:List TCert):Option (Bool):=bif (a0.length:Int) != (a1.length:Int) then some false else (loopO (ms26_0 a0 a1) NN (false,0)).bind (contO (fun _=>none) (fun i1 s2=>if i1 = 0 then some true else none) (fun s2=>some s2.1))
theorem w26 {d:Nat} (hd:1≤d) (k0:Bool) (a0:List TCert) (k1:Bool) (a1:List TCert):Fit (R NN d 26 [.rsl k0 false (a0.map (Enc.cs k0)),.rsl k1 false (a1.map (Enc.cs k1))] []) (m26 a0 a1) PB:=by
  obtain ⟨d,rfl,g⟩:=up hd
  refine q_in (t26 NN d _ _) ?_
  unfold b26 m26
  refine q_len<|q_len<|q_p fr<|q_i ?_ ?_
  ·exact q_ret (cv_p rfl) rfl
  ·refine q_len<|q_lp (A:=fun (s:Bool×Int)=>[.bool s.1,.int .i64 s.2]) (B:=fun s=>[]) 0 rr ?_ ?_ ?_
   ·intro s1
    unfold s26_0 ms26_0
    exact q_p fr<|q_i (q_ix rfl fun x1 hx1=>q_p fr<|q_ix rfl fun x2 hx2=>q_p fr<|q_p (fun _=>sneq582 _ _ _ _ _ _)<|q_i (q_lret 0 rr)<|q_p fr<|q_norm 0 rr)<|q_exit 0 rr
   ·exact fun i1 s2=>q_n (q_ret (cv_p rfl) rfl)<|q_none
   ·exact fun s2=>q_ret (cv_p rfl) rfl
def ms27_0 (a0:List Int) (a1:List Int) (s1:Bool×Int):Option (LO (Bool×Int)):=bif decide (s1.2 < (a0.length:Int)) then (getI a0 s1.2).bind fun x1=>(getI a1 s1.2).bind fun x2=>bif x1 != x2 then some (LO.ret (false,s1.2)) else some (LO.norm (s1.1,wi .i64 (s1.2 + 1))) else some (LO.exit 0 (s1.1,s1.2))
def m27 (a0:List Int) (a1:List Int):Option (Bool):=bif (a0.length:Int) != (a1.length:Int) then some false else (loopO (ms27_0 a0 a1) NN (false,0)).bind (contO (fun _=>none) (fun i1 s2=>if i1 = 0 then some true else none) (fun s2=>some s2.1))
theorem w27 {d:Nat} (hd:1≤d) (k0:Bool) (a0:List Int) (k1:Bool) (a1:List Int):Fit (R NN d 27 [.rsl k0 false (a0.map (Enc.cs k0)),.rsl k1 false (a1.map (Enc.cs k1))] []) (m27 a0 a1) PB:=by
  obtain ⟨d,rfl,g⟩:=up hd
  refine q_in (t27 NN d _ _) ?_
  unfold b27 m27
  refine q_len<|q_len<|q_p fr<|q_i ?_ ?_
  ·exact q_ret (cv_p rfl) rfl
  ·refine q_len<|q_lp (A:=fun (s:Bool×Int)=>[.bool s.1,.int .i64 s.2]) (B:=fun s=>[]) 0 rr ?_ ?_ ?_
   ·intro s1
    unfold s27_0 ms27_0
    exact q_p fr<|q_i (q_ix rfl fun x1 hx1=>q_p fr<|q_ix rfl fun x2 hx2=>q_p fr<|q_p fr<|q_i (q_lret 0 rr)<|q_p fr<|q_norm 0 rr)<|q_exit 0 rr
   ·exact fun i1 s2=>q_n (q_ret (cv_p rfl) rfl)<|q_none
   ·exact fun s2=>q_ret (cv_p rfl) rfl
def m8 (a0:TMsg) (a1:TMsg):Option (Bool):=( bif a0.Kind == a1.Kind then bif a0.View == a1.View then bif a0.From == a1.From then bif a0.Slot == a1.Slot then bif a0.Value == a1.Value then (m26 a0.Certs a1.Certs).bind fun y1=>bif y1 then (m27 a0.Refs a1.Refs).bind fun y2=>some (LO.norm y2) else some (LO.norm false) else some (LO.norm false) else some (LO.norm false) else some (LO.norm false) else some (LO.norm false) else some (LO.norm false)).bind (contO (fun s2=>some s2) (fun i1 s2=>none) (fun s2=>some s2))
theorem w8 {d:Nat} (hd:2≤d) (k0:Bool) (a0:TMsg) (k1:Bool) (a1:TMsg):Fit (R NN d 8 [.agg (Enc.cs k0 a0),.agg (Enc.cs k1 a1)] []) (m8 a0 a1) PB:=by
  obtain ⟨d,rfl,g⟩:=up hd
  refine q_in (t8 NN d _ _) ?_
  unfold b8 m8
  refine q_box (n:=7) rfl rfl (by decide) fun b1=>q_box (n:=7) rfl rfl (by decide) fun b2=>q_cu (A:=fun (s:Bool)=>[.bool s]) (B:=fun s=>[bx b2 [.int .i64 a1.Kind,.int .i64 a1.View,.int .i64 a1.From,.int .i64 a1.Slot,.int .i64 a1.Value,.rsl k1 false (a1.Certs.map (Enc.cs k1)),.rsl k1 false (a1.Refs.map (Enc.cs k1))],bx b1 [.int .i64 a0.Kind,.int .i64 a0.View,.int .i64 a0.From,.int .i64 a0.Slot,.int .i64 a0.Value,.rsl k0 false (a0.Certs.map (Enc.cs k0)),.rsl k0 false (a0.Refs.map (Enc.cs k0))]]) ?_ ?_ ?_ ?_
  ·exact q_p fr<|q_ld 1 rfl rfl<|q_p fr<|q_ld 0 rfl rfl<|q_p fr<|q_k (q_p fr<|q_ld 1 rfl rfl<|q_p fr<|q_ld 0 rfl rfl<|q_p fr<|q_k (q_p fr<|q_ld 1 rfl rfl<|q_p fr<|q_ld 0 rfl rfl<|q_p fr<|q_k (q_p fr<|q_ld 1 rfl rfl<|q_p fr<|q_ld 0 rfl rfl<|q_p fr<|q_k (q_p fr<|q_ld 1 rfl rfl<|q_p fr<|q_ld 0 rfl rfl<|q_p fr<|q_k (q_p fr<|q_ld 1 rfl rfl<|q_p fr<|q_ld 0 rfl rfl<|q_c0 (aF2 cv_r cv_r fun l0_ l1_=>w26 (by omega) l0_ a0.Certs l1_ a1.Certs) fun y1 hy1=>q_k (q_p fr<|q_ld 1 rfl rfl<|q_p fr<|q_ld 0 rfl rfl<|q_c0 (aF2 cv_r cv_r fun l0_ l1_=>w27 (by omega) l0_ a0.Refs l1_ a1.Refs) fun y2 hy2=>q_norm 0 rr)<|q_norm 0 rr)<|q_norm 0 rr)<|q_norm 0 rr)<|q_norm 0 rr)<|q_norm 0 rr)<|q_norm 0 rr
  ·exact fun s2=>q_ret (cv_p rfl) rfl
  ·exact fun i1 s2=>q_none
  ·exact fun s2=>q_ret (cv_p rfl) rfl
def m66 (a0:TMsg) (a1:TMsg):Option (Bool):=(m8 a0 a1).bind fun y1=>some y1
theorem w66 {d:Nat} (hd:3≤d) (k0:Bool) (a0:TMsg) (k1:Bool) (a1:TMsg):Fit (R NN d 66 [.agg (Enc.cs k0 a0),.rp k1 (Enc.cs k1 a1)] []) (m66 a0 a1) PB:=by
  obtain ⟨d,rfl,g⟩:=up hd
  refine q_in (t66 NN d _ _) ?_
  unfold b66 m66
  exact q_box (n:=7) rfl rfl (by decide) fun b1=>q_lda 0 rfl rfl rfl<|q_p fr<|q_c0 (aF2 (cv_a (cvs_e (l0:=k0) (x:=a0))) (cv_a (cvs_e (l0:=k1) (x:=a1))) fun l0_ l1_=>w8 (by omega) l0_ a0 l1_ a1) fun y1 hy1=>q_ret (cv_p rfl) rfl
def m34 (a0:List TMsg) (a1:TMsg):Option (Int):=(m65 a0 (fun x0_=>m66 x0_ a1)).bind fun y1=>some y1
theorem w34 {d:Nat} (hd:5≤d) (k0:Bool) (a0:List TMsg) (k1:Bool) (a1:TMsg):Fit (R NN d 34 [.rsl k0 false (a0.map (Enc.cs k0)),.agg (Enc.cs k1 a1)] []) (m34 a0 a1) PI:=by
  obtain ⟨d,rfl,g⟩:=up hd
  refine q_in (t34 NN d _ _) ?_
  unfold b34 m34
  exact q_box (n:=7) rfl rfl (by decide) fun b1=>q_c0 (aF2 cv_r (cv_f (cvs_cons (cv_b 0 rfl (cvs_e (l0:=k1) (x:=a1))) cvs_nil)) fun l0_ l1_=>w65 (Dc:=3) (by omega) l0_ a0 (fun l=>.fn 66 [.rp l (Enc.cs l a1)]) (fun l=>cv_f (cvs_cons (cv_rp (cvs_e (l0:=l) (x:=a1)) (fun _ _ _ h=>Enc.frz _ a1 _ _ _ h)) cvs_nil)) (fun x0_=>m66 x0_ a1) (fun d hd l q0_ x0_ S t ht=>(cv65_66 _ _ _ _).trans (call0_of (E:=(fun (t:Bool)=>AV.bool t)) (mg:=m66 x0_ a1) (args2 (M:=fun a=>Fit (R NN d 66 a []) _ _) (cv_a (cvs_e (l0:=q0_) (x:=x0_))) (cv_rp (cvs_e (l0:=l) (x:=a1)) (fun _ _ _ h=>Enc.frz _ a1 _ _ _ h)) HP.nil fun u0_ v0_=>w66 hd u0_ x0_ v0_ a1) ht)) l1_) fun y1 hy1=>q_ret (cv_p rfl) rfl
def ms11_0 (a0:Int) (a1:List TMsg) (s1:Int×Int):Option (LO (Int×Int)):=bif decide (s1.2 < (a1.length:Int)) then (getI a1 s1.2).bind fun x1=>(m19 a0 x1).bind fun y1=>bif y1 != 0 then some (LO.ret (y1,s1.2)) else (m33 x1 s1.2).bind fun y2=>bif !y2 then some (LO.ret (4,s1.2)) else (subI a1 0 s1.2).bind fun ys1=>(m34 ys1 x1).bind fun y3=>bif decide (y3 ≥ 0) then some (LO.ret (6,s1.2)) else some (LO.norm (s1.1,wi .i64 (s1.2 + 1))) else some (LO.exit 1 (s1.1,s1.2))
def m11 (a0:Int) (a1:List TMsg):Option (Int):=bif !(m32 a0) then some 3 else bif decide ((a1.length:Int) > 240) then some 2 else (loopO (ms11_0 a0 a1) NN (0,0)).bind (contO (fun _=>none) (fun i1 s2=>if i1 = 1 then some 0 else none) (fun s2=>some s2.1))
theorem w11 {d:Nat} (hd:7≤d) (a0:Int) (k1:Bool) (a1:List TMsg):Fit (R NN d 11 [.int .i64 a0,.rsl k1 false (a1.map (Enc.cs k1))] []) (m11 a0 a1) PI:=by
  obtain ⟨d,rfl,g⟩:=up hd
  refine q_in (t11 NN d _ _) ?_
  unfold b11 m11
  refine q_c0t (aF1 (cv_p rfl) fun l0_=>w32 (by omega) a0)<|q_p fr<|q_i ?_ ?_
  ·exact q_ret (cv_p rfl) rfl
  ·refine q_len<|q_p fr<|q_i ?_ ?_
   ·exact q_ret (cv_p rfl) rfl
   ·refine q_len<|q_lp (A:=fun (s:Int×Int)=>[.int .i64 s.1,.int .i64 s.2]) (B:=fun s=>[]) 0 rr ?_ ?_ ?_
    ·intro s1
     unfold s11_0 ms11_0
     exact q_p fr<|q_i (q_ix rfl fun x1 hx1=>q_p fr<|q_new rfl fun b1=>q_st 0 rfl rfl rfl (by decide) rfl<|q_lda 0 rfl rfl rfl<|q_c0 (aF2 (cv_p rfl) (cv_a (cvs_e (l0:=k1) (x:=x1))) fun l0_ l1_=>w19 (by omega) a0 l1_ x1) fun y1 hy1=>q_p fr<|q_i (q_lret 1 rr)<|q_lda 0 rfl rfl rfl<|q_c0 (aF2 (cv_a (cvs_e (l0:=k1) (x:=x1))) (cv_p rfl) fun l0_ l1_=>w33 (by omega) l0_ x1 s1.2) fun y2 hy2=>q_p fr<|q_i (q_lret 1 rr)<|q_sub rfl (.inr ⟨rfl,rfl⟩) (.inl rfl) fun fl1 ys1 hys1=>q_lda 0 rfl rfl rfl<|q_c0 (aF2 cv_r (cv_a (cvs_e (l0:=k1) (x:=x1))) fun l0_ l1_=>w34 (by omega) l0_ ys1 l1_ x1) fun y3 hy3=>q_p fr<|q_i (q_lret 1 rr)<|q_p fr<|q_norm 1 rr)<|q_exit 0 rr
    ·exact fun i1 s2=>q_n (q_ret (cv_p rfl) rfl)<|q_none
    ·exact fun s2=>q_ret (cv_p rfl) rfl
def m50 (a0:List TMsg):Option (List TMsg):=appO 88 [] a0
theorem w50c {d:Nat} (hd:1≤d) (v:AV) (S:St):R NN d 50 [v] S = pk (anil Tryd.prog 24 v) S fun r1=>ifA r1 (some (AV.rsl false true [],S)) (pq (quietS (abuildS Tryd.prog 24 0 [] S) S) fun r2=>pe (appA 7 88 r2 v S) fun r3 S3=>some (r3,S3)):=by
  obtain ⟨d,rfl,g⟩:=up hd
  exact t50 NN d v S
def m70 (a0:List TCert):Option (List TCert):=appO 24 [] a0
theorem w70 {d:Nat} (hd:1≤d) (k0:Bool) (a0:List TCert):Fit (R NN d 70 [.rsl k0 false (a0.map (Enc.cs k0))] []) (m70 a0) (P0 (fun (t:List TCert)=>AV.rsl false false (t.map (Enc.cs false)))):=by
  obtain ⟨d,rfl,g⟩:=up hd
  rw [t70]
  refine (?_:Okh [] (fun S=>b70 (cfg NN) (R NN d) (.rsl k0 false (a0.map (Enc.cs k0))) S) _ _) [] HP.nil
  unfold b70 m70
  refine q_nilc (e:=58) und25 (fun h S=>?_) ?_
  · subst h
    refine Eq.symm (show pq (quietS (abuildS _ _ _ _ S) S) _ = _ from ?_)
    rw [qs25_0]; rfl
  refine q_q (fun _=>qs25_0) ?_
  refine q_nil (α:=TCert) false ?_
  rw [show appO 24 ([]:List TCert) a0 = (appO 24 [] a0).bind some from by cases appO 24 ([]:List TCert) a0 <;> rfl]
  refine q_app (ys:=a0) 0 rfl rfl (fun _ _=>rfl) fun v1 z1 hz1=>?_
  exact q_ret (cv_o 0 rfl) rfl
def m71 (a0:List Int):Option (List Int):=appO 8 [] a0
theorem w71 {d:Nat} (hd:1≤d) (k0:Bool) (a0:List Int):Fit (R NN d 71 [.rsl k0 false (a0.map (Enc.cs k0))] []) (m71 a0) (P0 (fun (t:List Int)=>AV.rsl false false (t.map (Enc.cs false)))):=by
  obtain ⟨d,rfl,g⟩:=up hd
  rw [t71]
  refine (?_:Okh [] (fun S=>b71 (cfg NN) (R NN d) (.rsl k0 false (a0.map (Enc.cs k0))) S) _ _) [] HP.nil
  unfold b71 m71
  refine q_nilc (e:=2) und26 (fun h S=>?_) ?_
  · subst h
    refine Eq.symm (show pq (quietS (abuildS _ _ _ _ S) S) _ = _ from ?_)
    rw [qs26_0]; rfl
  refine q_q (fun _=>qs26_0) ?_
  refine q_nil (α:=Int) false ?_
  rw [show appO 8 ([]:List Int) a0 = (appO 8 [] a0).bind some from by cases appO 8 ([]:List Int) a0 <;> rfl]
  refine q_app (ys:=a0) 0 rfl rfl (fun _ _=>rfl) fun v1 z1 hz1=>?_
  exact q_ret (cv_o 0 rfl) rfl
def m51 (a0:TMsg):Option (TMsg):=(m70 a0.Certs).bind fun y1=>(m71 a0.Refs).bind fun y2=>some (⟨a0.Kind,a0.View,a0.From,a0.Slot,a0.Value,y1,y2⟩:TMsg)
theorem w51 {d:Nat} (hd:2≤d) (k0:Bool) (a0:TMsg):Fit (R NN d 51 [.agg (Enc.cs k0 a0)] []) (m51 a0) (P0 (fun (t:TMsg)=>AV.agg (Enc.cs false t))):=by
  obtain ⟨d,rfl,g⟩:=up hd
  refine q_in (t51 NN d _) ?_
  unfold b51 m51
  exact q_box (n:=7) rfl rfl (by decide) fun b1=>q_new rfl fun b2=>q_p fr<|q_ld 1 rfl rfl<|q_c0 (aF1 cv_r fun l0_=>w70 (by omega) l0_ a0.Certs) fun y1 hy1=>q_p fr<|q_st 1 rfl rfl rfl (by decide) rfl<|q_p fr<|q_ld 1 rfl rfl<|q_c0 (aF1 cv_r fun l0_=>w71 (by omega) l0_ a0.Refs) fun y2 hy2=>q_p fr<|q_st 1 rfl rfl rfl (by decide) rfl<|q_lda 1 rfl rfl rfl<|q_st 0 rfl rfl rfl (by decide) rfl<|q_retm (fun S hS=>hS.lda 0 rfl rfl) (cv_a (cvs_cons (cv_p rfl) (cvs_cons (cv_p rfl) (cvs_cons (cv_p rfl) (cvs_cons (cv_p rfl) (cvs_cons (cv_p rfl) (cvs_cons cv_r (cvs_cons cv_r cvs_nil)))))))) rfl
def m20 (a0:List TMsg) (a1:TMsg):Option ((List TMsg)×Int):=(m33 a1 (a0.length:Int)).bind fun y1=>bif !y1 then some ([],4) else (m34 a0 a1).bind fun y2=>bif decide (y2 ≥ 0) then some (a0,0) else bif (a0.length:Int) == 240 then some ([],2) else (m50 a0).bind fun z1=>(m51 a1).bind fun y3=>(appO 88 z1 [y3]).bind fun z2=>some (z2,0)
theorem w20 {d:Nat} (hd:6≤d) (L0:List En) (i0_:List Nat) (v0_:AV) (a0:List TMsg) (c1_0 c1_1 c1_2 c1_3 c1_4 c1_5 c1_6:AV) (a1:TMsg) (hc1:CVs 7 [] false [c1_0,c1_1,c1_2,c1_3,c1_4,c1_5,c1_6] (fun l=>Enc.cs l a1)):Okh (wls i0_ v0_ (a0:List TMsg)::L0) (fun S=>R NN d 20 [v0_,.agg [c1_0,c1_1,c1_2,c1_3,c1_4,c1_5,c1_6]] S) (m20 a0 a1) (P8 i0_ v0_ a0 L0):=by
  obtain ⟨d,rfl,g⟩:=up hd
  refine q_to (t20 NN d _ _) ?_
  unfold b20 m20
  exact q_box (n:=7) rfl rfl (by decide) fun b1=>q_lda 0 rfl rfl rfl<|q_lens 1 rfl<|q_c0 (aF2 (cv_a (CVs.any hc1)) (cv_p rfl) fun l0_ l1_=>w33 (by omega) l0_ a1 (a0.length:Int)) fun y1 hy1=>q_p fr<|q_i (q_p8F 1 (by decide) rfl rfl)<|q_lda 0 rfl rfl rfl<|q_c0 (aF2 (cv_wls (α:=TMsg) 1 rfl) (cv_a (CVs.any hc1)) fun l0_ l1_=>w34 (by omega) l0_ a0 l1_ a1) fun y2 hy2=>q_p fr<|q_i (q_sel 2 [1,0] (by decide) (by decide)<|q_sel 2 [1,0] (by decide) (by decide)<|q_p8T 1 (by decide) rfl rfl)<|q_lens 1 rfl<|q_p fr<|q_i (q_p8F 1 (by decide) rfl rfl)<|q_lda 0 rfl rfl rfl<|q_sel 2 [1,0] (by decide) (by decide)<|q_cl3 (mg:=m50 a0) (fun S=>w50c (by omega) _ S) und24 qs24_0 rfl rfl fun z1 hz1 i1 v1=>q_c0 (aF1 (cv_a (CVs.any hc1)) fun l0_=>w51 (by omega) l0_ a1) fun y3 hy3=>q_e (fun _=>bs24_1 rfl)<|q_apw (y:=y3) (l:=false) (fl':=true) rfl fun z2 hz2 v2 i2=>q_was<|q_sel 2 [1,0] (by decide) (by decide)<|q_p8T 1 (by decide) rfl rfl
def ms21_0 (a0:List TMsg) (s1:Int×(List TMsg)):Option (LO (Int×(List TMsg))):=bif decide (s1.1 < (a0.length:Int)) then (getI a0 s1.1).bind fun x1=>(m51 x1).bind fun y1=>(appO 88 s1.2 [y1]).bind fun z1=>some (LO.norm (wi .i64 (s1.1 + 1),z1)) else some (LO.exit 0 (s1.1,s1.2))
def m21 (a0:List TMsg):Option ((List TMsg)):=(loopO (ms21_0 a0) NN (0,[])).bind (contO (fun _=>none) (fun i1 s2=>if i1 = 0 then some s2.2 else none) (fun s2=>some []))
theorem w21 {d:Nat} (hd:3≤d) (k0:Bool) (a0:List TMsg):Fit (R NN d 21 [.rsl k0 false (a0.map (Enc.cs k0))] []) (m21 a0) (P0 (fun (t:List TMsg)=>AV.rsl false false (t.map (Enc.cs false)))):=by
  obtain ⟨d,rfl,g⟩:=up hd
  refine q_in (t21 NN d _) ?_
  unfold b21 m21
  refine q_q (fun _=>qs24_0)<|q_len<|q_nil (α:=TMsg) false<|q_loop (I:=(fun (s:Int×(List TMsg)) l L=>∃ (v1:AV),l = [v1,.int .i64 s.1]∧L = [sl false v1 (s.2:List TMsg)])) 0 ⟨(.rsl false true []),rfl,rfl⟩ ?_ ?_ ?_
  ·rintro s1 _ _ ⟨v1,rfl,rfl⟩
   unfold s21_0 ms21_0
   exact q_p fr<|q_i (q_ix rfl fun x1 hx1=>q_p fr<|q_new rfl fun b1=>q_st 0 rfl rfl rfl (by decide) rfl<|q_lda 0 rfl rfl rfl<|q_c0 (aF1 (cv_a (cvs_e (l0:=k0) (x:=x1))) fun l0_=>w51 (by omega) l0_ x1) fun y1 hy1=>q_e (fun _=>bs24_1 rfl)<|q_app (ys:=[y1]) 1 rfl rfl (fun _ _=>rfl) fun v2 z1 hz1=>q_p fr<|q_norm 1 ⟨v2,rfl,rfl⟩)<|q_exit 0 ⟨v1,rfl,rfl⟩
  ·rintro i1 s2 _ _ ⟨v3,rfl,rfl⟩
   exact q_n (q_ret (cv_o 0 rfl) rfl)<|q_none
  ·rintro s2 _ _ ⟨v4,rfl,rfl⟩
   exact q_ret (cv_r (α:=TMsg) (l0:=false) (fl:=true) (xs:=[])) rfl
def m6 (a0:Int) (a1:List TMsg) (a2:TMsg):Option (TLedgerResult):=(m11 a0 a1).bind fun y1=>bif y1 != 0 then some (⟨y1,[]⟩:TLedgerResult) else (m19 a0 a2).bind fun y2=>bif y2 != 0 then some (⟨y2,[]⟩:TLedgerResult) else (m20 a1 a2).bind fun y3=>bif y3.2 == 0 then (m21 y3.1).bind fun y4=>some (⟨0,y4⟩:TLedgerResult) else some (⟨y3.2,[]⟩:TLedgerResult)
theorem w6 {d:Nat} (hd:8≤d) (a0:Int) (k1:Bool) (a1:List TMsg) (k2:Bool) (a2:TMsg):Fit (R NN d 6 [.int .i64 a0,.rsl k1 false (a1.map (Enc.cs k1)),.agg (Enc.cs k2 a2)] []) (m6 a0 a1 a2) (P0 (fun (t:TLedgerResult)=>AV.agg (Enc.cs false t))):=by
  obtain ⟨d,rfl,g⟩:=up hd
  refine q_in (t6 NN d _ _ _) ?_
  unfold b6 m6
  exact q_box (n:=7) rfl rfl (by decide) fun b1=>q_new rfl fun b2=>q_c0 (aF2 (cv_p rfl) cv_r fun l0_ l1_=>w11 (by omega) a0 l1_ a1) fun y1 hy1=>q_p fr<|q_i (q_p (fun _=>bd32_0 rfl)<|q_st 0 rfl rfl rfl (by decide) rfl<|q_retm (fun S hS=>hS.lda 0 rfl rfl) (cv_a (cvs_cons (cv_p rfl) (cvs_cons (cv_r (α:=TMsg) (l0:=false) (fl:=true) (xs:=[])) cvs_nil))) rfl)<|q_lda 1 rfl rfl rfl<|q_c0 (aF2 (cv_p rfl) (cv_a (cvs_e (l0:=k2) (x:=a2))) fun l0_ l1_=>w19 (by omega) a0 l1_ a2) fun y2 hy2=>q_p fr<|q_i (q_p (fun _=>bd32_0 rfl)<|q_st 0 rfl rfl rfl (by decide) rfl<|q_retm (fun S hS=>hS.lda 0 rfl rfl) (cv_a (cvs_cons (cv_p rfl) (cvs_cons (cv_r (α:=TMsg) (l0:=false) (fl:=true) (xs:=[])) cvs_nil))) rfl)<|q_lda 1 rfl rfl rfl<|q_wf<|q_s8 (mg:=m20 a1 a2) (w20 (by omega) _ [] (.rsl k1 false (a1.map (Enc.cs k1))) a1 _ _ _ _ _ _ _ a2 (cvs_e (l0:=k2) (x:=a2))) (fun y3 hy3 hky3 i1 w1=>q_q fr<|q_q fr<|q_p fr<|q_ifkF (bne_k hky3)<|q_c0 (aF1 (cv_wls (α:=TMsg) 0 rfl) fun l0_=>w21 (by omega) l0_ y3.1) fun y4 hy4=>q_p (fun _=>bd32_1 rfl)<|q_st 1 rfl rfl rfl (by decide) rfl<|q_retm (fun S hS=>hS.lda 1 rfl rfl) (cv_a (cvs_cons (cv_p rfl) (cvs_cons cv_r cvs_nil))) rfl) fun y3 hy3 hky3=>q_q fr<|q_q fr<|q_p fr<|q_ifkT (bne_k hky3)<|q_p (fun _=>bd32_0 rfl)<|q_st 1 rfl rfl rfl (by decide) rfl<|q_retm (fun S hS=>hS.lda 1 rfl rfl) (cv_a (cvs_cons (cv_p rfl) (cvs_cons (cv_r (α:=TMsg) (l0:=false) (fl:=true) (xs:=[])) cvs_nil))) rfl
def m54 (a0:Int) (a1:Int) (a2:Int):Bool:=bif decide (a0 ≥ a1) then decide (a0≤a2) else false
theorem w54 {d:Nat} (hd:1≤d) (a0:Int) (a1:Int) (a2:Int):Fit (R NN d 54 [.int .i64 a0,.int .i64 a1,.int .i64 a2] []) (some (m54 a0 a1 a2)) PB:=by
  obtain ⟨d,rfl,g⟩:=up hd
  refine q_in (t54 NN d _ _ _) ?_
  unfold b54 m54
  exact q_p fr<|q_gTt (fun h1=>q_p fr<|q_ret (cv_p rfl) rfl) fun h1=>q_ret (cv_p rfl) rfl
def m35 (a0:Int):Bool:=(m54 a0 1 2)
theorem w35 {d:Nat} (hd:2≤d) (a0:Int):Fit (R NN d 35 [.int .i64 a0] []) (some (m35 a0)) PB:=by
  obtain ⟨d,rfl,g⟩:=up hd
  refine q_in (t35 NN d _) ?_
  unfold b35 m35
  exact q_c0t (aF3 (cv_p rfl) (cv_p rfl) (cv_p rfl) fun l0_ l1_ l2_=>w54 (by omega) a0 1 2)<|q_ret (cv_p rfl) rfl
def m53 (a0:TMsg):Option (Bool):=( bif (m54 a0.Kind 1 5) then bif (m54 a0.Kind 1 3) then bif a0.Kind == 4 then bif a0.Kind == 5 then some (LO.norm true) else some (LO.norm ((a0.Refs.length:Int) == 0)) else bif (a0.Certs.length:Int) == 0 then bif a0.Kind == 5 then some (LO.norm true) else some (LO.norm ((a0.Refs.length:Int) == 0)) else some (LO.norm false) else bif a0.Slot == 0 then bif a0.Value == 0 then bif a0.Kind == 4 then bif a0.Kind == 5 then some (LO.norm true) else some (LO.norm ((a0.Refs.length:Int) == 0)) else bif (a0.Certs.length:Int) == 0 then bif a0.Kind == 5 then some (LO.norm true) else some (LO.norm ((a0.Refs.length:Int) == 0)) else some (LO.norm false) else some (LO.norm false) else some (LO.norm false) else some (LO.norm false)).bind (contO (fun s2=>some s2) (fun i1 s2=>none) (fun s2=>some s2))
theorem w53 {d:Nat} (hd:2≤d) (k0:Bool) (a0:TMsg):Fit (R NN d 53 [.rp k0 (Enc.cs k0 a0)] []) (m53 a0) PB:=by
  obtain ⟨d,rfl,g⟩:=up hd
  refine q_in (t53 NN d _) ?_
  unfold b53 m53
  refine q_q fr<|q_p fr<|q_p fr<|q_c0t (aF3 (cv_p rfl) (cv_p rfl) (cv_p rfl) fun l0_ l1_ l2_=>w54 (by omega) a0.Kind 1 3)<|q_cu (A:=fun (s:Bool)=>[.bool s]) (B:=fun s=>[]) ?_ ?_ ?_ ?_
  ·exact q_q fr<|q_p fr<|q_p fr<|q_c0t (aF3 (cv_p rfl) (cv_p rfl) (cv_p rfl) fun l0_ l1_ l2_=>w54 (by omega) a0.Kind 1 5)<|q_k (q_j (q_q fr<|q_p fr<|q_p fr<|q_p fr<|q_j (q_q fr<|q_p fr<|q_p fr<|q_p fr<|q_j (q_norm 0 rr)<|q_q fr<|q_p fr<|q_p fr<|q_len<|q_p fr<|q_norm 0 rr)<|q_q fr<|q_p fr<|q_p fr<|q_len<|q_p fr<|q_k (q_q fr<|q_p fr<|q_p fr<|q_p fr<|q_j (q_norm 0 rr)<|q_q fr<|q_p fr<|q_p fr<|q_len<|q_p fr<|q_norm 0 rr)<|q_norm 0 rr)<|q_q fr<|q_p fr<|q_p fr<|q_p fr<|q_k (q_q fr<|q_p fr<|q_p fr<|q_p fr<|q_k (q_q fr<|q_p fr<|q_p fr<|q_p fr<|q_j (q_q fr<|q_p fr<|q_p fr<|q_p fr<|q_j (q_norm 0 rr)<|q_q fr<|q_p fr<|q_p fr<|q_len<|q_p fr<|q_norm 0 rr)<|q_q fr<|q_p fr<|q_p fr<|q_len<|q_p fr<|q_k (q_q fr<|q_p fr<|q_p fr<|q_p fr<|q_j (q_norm 0 rr)<|q_q fr<|q_p fr<|q_p fr<|q_len<|q_p fr<|q_norm 0 rr)<|q_norm 0 rr)<|q_norm 0 rr)<|q_norm 0 rr)<|q_norm 0 rr
  ·exact fun s2=>q_ret (cv_p rfl) rfl
  ·exact fun i1 s2=>q_none
  ·exact fun s2=>q_ret (cv_p rfl) rfl
def m55 (a0:Int) (a1:Int):Bool:=(m54 a1 1 (wi .i64 ((wi .i64 (3 * a0)) + 1)))
theorem w55 {d:Nat} (hd:2≤d) (a0:Int) (a1:Int):Fit (R NN d 55 [.int .i64 a0,.int .i64 a1] []) (some (m55 a0 a1)) PB:=by
  obtain ⟨d,rfl,g⟩:=up hd
  refine q_in (t55 NN d _ _) ?_
  unfold b55 m55
  exact q_p fr<|q_p fr<|q_c0t (aF3 (cv_p rfl) (cv_p rfl) (cv_p rfl) fun l0_ l1_ l2_=>w54 (by omega) a1 1 (wi .i64 ((wi .i64 (3 * a0)) + 1)))<|q_ret (cv_p rfl) rfl
def ms56_0 (a0:TMsg) (s1:Int×Int):Option (LO (Int×Int)):=bif decide (s1.2 < (a0.Certs.length:Int)) then (getI a0.Certs s1.2).bind fun x1=>(getI a0.Certs (wi .i64 (s1.2 - 1))).bind fun x2=>bif decide (x1.Slot≤x2.Slot) then some (LO.ret (1,s1.2)) else some (LO.norm (s1.1,wi .i64 (s1.2 + 1))) else some (LO.exit 0 (s1.1,s1.2))
def ms56_1 (a0:TMsg) (s3:Int×Int):Option (LO (Int×Int)):=bif decide (s3.2 < (a0.Refs.length:Int)) then (getI a0.Refs s3.2).bind fun x3=>(getI a0.Refs (wi .i64 (s3.2 - 1))).bind fun x4=>bif decide (x3≤x4) then some (LO.ret (1,s3.2)) else some (LO.norm (s3.1,wi .i64 (s3.2 + 1))) else some (LO.exit 2 (s3.1,s3.2))
def ms56_2 (a0:TMsg) (s5:Int×Int):Option (LO (Int×Int)):=bif decide (s5.2 < (a0.Certs.length:Int)) then ( (getI a0.Certs s5.2).bind fun x5=>( bif !(m54 x5.Slot 1 30) then some (LO.norm true) else bif !(m54 x5.View 0 (wi .i64 (a0.View - 1))) then some (LO.norm true) else some (LO.norm (!(m54 x5.Value 0 12)))).bind (contO (fun s8=>bif s8 then some (LO.ret 3) else some (LO.norm s5.1)) (fun i3 s8=>if i3 = 5 then some (LO.norm s5.1) else some (LO.exit i3 s5.1)) (fun s8=>some (LO.ret s5.1)))).bind (contO (fun s9=>some (LO.norm (s9,wi .i64 (s5.2 + 1)))) (fun i4 s9=>some (LO.exit i4 (s9,s5.2))) (fun s9=>some (LO.ret (s9,s5.2)))) else some (LO.exit 4 (s5.1,s5.2))
def ms56_3 (a0:TMsg) (s11:Int×Int):Option (LO (Int×Int)):=bif decide (s11.2 < (a0.Refs.length:Int)) then (getI a0.Refs s11.2).bind fun x6=>bif !(m54 x6 0 239) then some (LO.ret (3,s11.2)) else some (LO.norm (s11.1,wi .i64 (s11.2 + 1))) else some (LO.exit 6 (s11.1,s11.2))
def m56 (a0:TMsg):Option (Int):=(loopO (ms56_0 a0) NN (0,1)).bind (contO (fun _=>none) (fun i1 s2=>if i1 = 0 then (loopO (ms56_1 a0) NN (s2.1,1)).bind (contO (fun _=>none) (fun i2 s4=>if i2 = 2 then (loopO (ms56_2 a0) NN (s4.1,0)).bind (contO (fun _=>none) (fun i5 s10=>if i5 = 4 then (loopO (ms56_3 a0) NN (s10.1,0)).bind (contO (fun _=>none) (fun i6 s12=>if i6 = 6 then some 0 else none) (fun s12=>some s12.1)) else none) (fun s10=>some s10.1)) else none) (fun s4=>some s4.1)) else none) (fun s2=>some s2.1))
theorem w56 {d:Nat} (hd:2≤d) (k0:Bool) (a0:TMsg):Fit (R NN d 56 [.rp k0 (Enc.cs k0 a0)] []) (m56 a0) PI:=by
  obtain ⟨d,rfl,g⟩:=up hd
  refine q_in (t56 NN d _) ?_
  unfold b56 m56
  refine q_lp (A:=fun (s:Int×Int)=>[.int .i64 s.1,.int .i64 s.2]) (B:=fun s=>[]) 0 rr ?_ ?_ ?_
  ·intro s1
   unfold s56_0 ms56_0
   exact q_q fr<|q_p fr<|q_p fr<|q_len<|q_p fr<|q_i (q_q fr<|q_p fr<|q_p fr<|q_ix rfl fun x1 hx1=>q_p fr<|q_p fr<|q_q fr<|q_p fr<|q_p fr<|q_p fr<|q_ix rfl fun x2 hx2=>q_p fr<|q_p fr<|q_p fr<|q_i (q_lret 0 rr)<|q_p fr<|q_norm 0 rr)<|q_exit 0 rr
  ·intro i1 s2
   refine q_n ?_ ?_
   ·refine q_lp (A:=fun (s:Int×Int)=>[.int .i64 s.1,.int .i64 s.2]) (B:=fun s=>[]) 0 rr ?_ ?_ ?_
    ·intro s3
     unfold s56_1 ms56_1
     exact q_q fr<|q_p fr<|q_p fr<|q_len<|q_p fr<|q_i (q_q fr<|q_p fr<|q_p fr<|q_ix rfl fun x3 hx3=>q_p fr<|q_q fr<|q_p fr<|q_p fr<|q_p fr<|q_ix rfl fun x4 hx4=>q_p fr<|q_p fr<|q_i (q_lret 0 rr)<|q_p fr<|q_norm 0 rr)<|q_exit 0 rr
    ·intro i2 s4
     refine q_n ?_ ?_
     ·refine q_lp (A:=fun (s:Int×Int)=>[.int .i64 s.1,.int .i64 s.2]) (B:=fun s=>[]) 0 rr ?_ ?_ ?_
      ·intro s5
       unfold s56_2 ms56_2
       refine q_q fr<|q_p fr<|q_p fr<|q_len<|q_p fr<|q_i ?_ ?_
       ·refine q_cu (A:=fun (s:Int)=>[.int .i64 s]) (B:=fun s=>[]) ?_ ?_ ?_ ?_
        ·refine q_q fr<|q_p fr<|q_p fr<|q_ix rfl fun x5 hx5=>q_p fr<|q_new rfl fun b1=>q_st 0 rfl rfl rfl (by decide) rfl<|q_cu (A:=fun (s:Bool)=>[.bool s]) (B:=fun s=>[bx b1 [.int .i64 x5.Slot,.int .i64 x5.View,.int .i64 x5.Value]]) ?_ ?_ ?_ ?_
         ·exact q_p fr<|q_ld 0 rfl rfl<|q_c0t (aF3 (cv_p rfl) (cv_p rfl) (cv_p rfl) fun l0_ l1_ l2_=>w54 (by omega) x5.Slot 1 30)<|q_p fr<|q_j (q_norm 0 rr)<|q_p fr<|q_ld 0 rfl rfl<|q_q fr<|q_p fr<|q_p fr<|q_p fr<|q_c0t (aF3 (cv_p rfl) (cv_p rfl) (cv_p rfl) fun l0_ l1_ l2_=>w54 (by omega) x5.View 0 (wi .i64 (a0.View - 1)))<|q_p fr<|q_j (q_norm 0 rr)<|q_p fr<|q_ld 0 rfl rfl<|q_c0t (aF3 (cv_p rfl) (cv_p rfl) (cv_p rfl) fun l0_ l1_ l2_=>w54 (by omega) x5.Value 0 12)<|q_p fr<|q_norm 0 rr
         ·exact fun s8=>q_i (q_lret 1 rr)<|q_norm 1 rr
         ·exact fun i3 s8=>q_n (q_norm 1 rr)<|q_exit 1 rr
         ·exact fun s8=>q_lret 1 rr
        ·exact fun s9=>q_p fr<|q_norm 0 rr
        ·exact fun i4 s9=>q_exit 0 rr
        ·exact fun s9=>q_lret 0 rr
       ·exact q_exit 0 rr
      ·intro i5 s10
       refine q_n ?_ ?_
       ·refine q_lp (A:=fun (s:Int×Int)=>[.int .i64 s.1,.int .i64 s.2]) (B:=fun s=>[]) 0 rr ?_ ?_ ?_
        ·intro s11
         unfold s56_3 ms56_3
         exact q_q fr<|q_p fr<|q_p fr<|q_len<|q_p fr<|q_i (q_q fr<|q_p fr<|q_p fr<|q_ix rfl fun x6 hx6=>q_p fr<|q_c0t (aF3 (cv_p rfl) (cv_p rfl) (cv_p rfl) fun l0_ l1_ l2_=>w54 (by omega) x6 0 239)<|q_p fr<|q_i (q_lret 0 rr)<|q_p fr<|q_norm 0 rr)<|q_exit 0 rr
        ·exact fun i6 s12=>q_n (q_ret (cv_p rfl) rfl)<|q_none
        ·exact fun s12=>q_ret (cv_p rfl) rfl
       ·exact q_none
      ·exact fun s10=>q_ret (cv_p rfl) rfl
     ·exact q_none
    ·exact fun s4=>q_ret (cv_p rfl) rfl
   ·exact q_none
  ·exact fun s2=>q_ret (cv_p rfl) rfl
def m23 (a0:Int) (a1:TMsg):Option (Int):=(m53 a1).bind fun y1=>bif !y1 then some 1 else ( ( bif !(m54 a1.View 0 20) then some (LO.norm true) else bif !(m55 a0 a1.From) then some (LO.norm true) else bif decide (a1.Kind≤3) then bif !(m54 a1.Slot 1 30) then some (LO.norm true) else some (LO.norm (!(m54 a1.Value 0 12))) else some (LO.norm false)).bind (contO (fun s3=>bif s3 then some (LO.ret 3) else some (LO.norm 0)) (fun i1 s3=>some (LO.exit i1 0)) (fun s3=>some (LO.ret 0)))).bind (contO (fun s4=>( bif decide ((a1.Certs.length:Int) > 30) then some (LO.ret 2) else bif decide ((a1.Refs.length:Int) > (wi .i64 ((wi .i64 (3 * a0)) + 1))) then some (LO.ret 2) else some (LO.norm s4)).bind (contO (fun s6=>(m56 a1).bind fun y2=>some y2) (fun i3 s6=>none) (fun s6=>some s6))) (fun i2 s4=>none) (fun s4=>some s4))
theorem w23 {d:Nat} (hd:3≤d) (a0:Int) (k1:Bool) (a1:TMsg):Fit (R NN d 23 [.int .i64 a0,.rp k1 (Enc.cs k1 a1)] []) (m23 a0 a1) PI:=by
  obtain ⟨d,rfl,g⟩:=up hd
  refine q_in (t23 NN d _ _) ?_
  unfold b23 m23
  refine q_c0 (aF1 (cv_rp (cvs_e (l0:=k1) (x:=a1)) (fun _ _ _ h=>Enc.frz k1 a1 _ _ _ h)) fun l0_=>w53 (by omega) l0_ a1) fun y1 hy1=>q_p fr<|q_i ?_ ?_
  ·exact q_ret (cv_p rfl) rfl
  ·refine q_q fr<|q_p fr<|q_p fr<|q_p fr<|q_cu (A:=fun (s:Int)=>[.int .i64 s]) (B:=fun s=>[]) ?_ ?_ ?_ ?_
   ·refine q_cu (A:=fun (s:Bool)=>[.bool s]) (B:=fun s=>[]) ?_ ?_ ?_ ?_
    ·exact q_q fr<|q_p fr<|q_p fr<|q_c0t (aF3 (cv_p rfl) (cv_p rfl) (cv_p rfl) fun l0_ l1_ l2_=>w54 (by omega) a1.View 0 20)<|q_p fr<|q_j (q_norm 0 rr)<|q_q fr<|q_p fr<|q_p fr<|q_c0t (aF2 (cv_p rfl) (cv_p rfl) fun l0_ l1_=>w55 (by omega) a0 a1.From)<|q_p fr<|q_j (q_norm 0 rr)<|q_k (q_q fr<|q_p fr<|q_p fr<|q_c0t (aF3 (cv_p rfl) (cv_p rfl) (cv_p rfl) fun l0_ l1_ l2_=>w54 (by omega) a1.Slot 1 30)<|q_p fr<|q_j (q_norm 0 rr)<|q_q fr<|q_p fr<|q_p fr<|q_c0t (aF3 (cv_p rfl) (cv_p rfl) (cv_p rfl) fun l0_ l1_ l2_=>w54 (by omega) a1.Value 0 12)<|q_p fr<|q_norm 0 rr)<|q_norm 0 rr
    ·exact fun s3=>q_i (q_lret 0 rr)<|q_norm 0 rr
    ·exact fun i1 s3=>q_exit 0 rr
    ·exact fun s3=>q_lret 0 rr
   ·intro s4
    refine q_cu (A:=fun (s:Int)=>[.int .i64 s]) (B:=fun s=>[]) ?_ ?_ ?_ ?_
    ·refine q_q fr<|q_p fr<|q_p fr<|q_len<|q_p fr<|q_j ?_ ?_
     ·first | refine q_ifT1 ?_ | skip
      exact q_lret 0 rr
     ·exact q_q fr<|q_p fr<|q_p fr<|q_len<|q_p fr<|q_p fr<|q_p fr<|q_i (q_lret 0 rr)<|q_norm 0 rr
    ·exact fun s6=>q_c0 (aF1 (cv_rp (cvs_e (l0:=k1) (x:=a1)) (fun _ _ _ h=>Enc.frz k1 a1 _ _ _ h)) fun l0_=>w56 (by omega) l0_ a1) fun y2 hy2=>q_ret (cv_p rfl) rfl
    ·exact fun i3 s6=>q_none
    ·exact fun s6=>q_ret (cv_p rfl) rfl
   ·exact fun i2 s4=>q_none
   ·exact fun s4=>q_ret (cv_p rfl) rfl
def ms24_0 (a0:TMsg) (a1:Int) (s1:Bool×Int):Option (LO (Bool×Int)):=bif decide (s1.2 < (a0.Refs.length:Int)) then (getI a0.Refs s1.2).bind fun x1=>bif decide (x1 ≥ a1) then some (LO.ret (false,s1.2)) else some (LO.norm (s1.1,wi .i64 (s1.2 + 1))) else some (LO.exit 0 (s1.1,s1.2))
def m24 (a0:TMsg) (a1:Int):Option (Bool):=(loopO (ms24_0 a0 a1) NN (false,0)).bind (contO (fun _=>none) (fun i1 s2=>if i1 = 0 then some true else none) (fun s2=>some s2.1))
theorem w24 {d:Nat} (hd:1≤d) (k0:Bool) (a0:TMsg) (a1:Int):Fit (R NN d 24 [.rp k0 (Enc.cs k0 a0),.int .i64 a1] []) (m24 a0 a1) PB:=by
  obtain ⟨d,rfl,g⟩:=up hd
  refine q_in (t24 NN d _ _) ?_
  unfold b24 m24
  refine q_lp (A:=fun (s:Bool×Int)=>[.bool s.1,.int .i64 s.2]) (B:=fun s=>[]) 0 rr ?_ ?_ ?_
  ·intro s1
   unfold s24_0 ms24_0
   exact q_q fr<|q_p fr<|q_p fr<|q_len<|q_p fr<|q_i (q_q fr<|q_p fr<|q_p fr<|q_ix rfl fun x1 hx1=>q_p fr<|q_p fr<|q_i (q_lret 0 rr)<|q_p fr<|q_norm 0 rr)<|q_exit 0 rr
  ·exact fun i1 s2=>q_n (q_ret (cv_p rfl) rfl)<|q_none
  ·exact fun s2=>q_ret (cv_p rfl) rfl
def ms52_0 (a0:Int) (a1:List TMsg) (s1:Int×Int):Option (LO (Int×Int)):=bif decide (s1.2 < (a1.length:Int)) then (getI a1 s1.2).bind fun x1=>(m23 a0 x1).bind fun y1=>bif y1 != 0 then some (LO.ret (y1,s1.2)) else (getI a1 s1.2).bind fun x2=>(m24 x2 s1.2).bind fun y2=>bif !y2 then some (LO.ret (4,s1.2)) else (getI a1 s1.2).bind fun x3=>(m57 a1 x3).bind fun y3=>bif y3 != s1.2 then some (LO.ret (6,s1.2)) else some (LO.norm (s1.1,wi .i64 (s1.2 + 1))) else some (LO.exit 0 (s1.1,s1.2))
def m52 (a0:Int) (a1:List TMsg):Option (Int):=bif decide ((a1.length:Int) > 240) then some 2 else (loopO (ms52_0 a0 a1) NN (0,0)).bind (contO (fun _=>none) (fun i1 s2=>if i1 = 0 then some 0 else none) (fun s2=>some s2.1))
theorem w52 {d:Nat} (hd:4≤d) (a0:Int) (k1:Bool) (a1:List TMsg):Fit (R NN d 52 [.int .i64 a0,.rsl k1 false (a1.map (Enc.cs k1))] []) (m52 a0 a1) PI:=by
  obtain ⟨d,rfl,g⟩:=up hd
  refine q_in (t52 NN d _ _) ?_
  unfold b52 m52
  refine q_len<|q_p fr<|q_i ?_ ?_
  ·exact q_ret (cv_p rfl) rfl
  ·refine q_lp (A:=fun (s:Int×Int)=>[.int .i64 s.1,.int .i64 s.2]) (B:=fun s=>[]) 0 rr ?_ ?_ ?_
   ·intro s1
    unfold s52_0 ms52_0
    exact q_len<|q_p fr<|q_i (q_ix rfl fun x1 hx1=>q_c0 (aF2 (cv_p rfl) (cv_rp (cvs_e (l0:=k1) (x:=x1)) (fun _ _ _ h=>Enc.frz k1 x1 _ _ _ h)) fun l0_ l1_=>w23 (by omega) a0 l1_ x1) fun y1 hy1=>q_p fr<|q_i (q_lret 0 rr)<|q_ix rfl fun x2 hx2=>q_c0 (aF2 (cv_rp (cvs_e (l0:=k1) (x:=x2)) (fun _ _ _ h=>Enc.frz k1 x2 _ _ _ h)) (cv_p rfl) fun l0_ l1_=>w24 (by omega) l0_ x2 s1.2) fun y2 hy2=>q_p fr<|q_i (q_lret 0 rr)<|q_ix rfl fun x3 hx3=>q_c0 (aF2 cv_r (cv_rp (cvs_e (l0:=k1) (x:=x3)) (fun _ _ _ h=>Enc.frz k1 x3 _ _ _ h)) fun l0_ l1_=>w57 (by omega) l0_ a1 l1_ x3) fun y3 hy3=>q_p fr<|q_i (q_lret 0 rr)<|q_p fr<|q_norm 0 rr)<|q_exit 0 rr
   ·exact fun i1 s2=>q_n (q_ret (cv_p rfl) rfl)<|q_none
   ·exact fun s2=>q_ret (cv_p rfl) rfl
def m22 (a0:Int) (a1:List TMsg):Option (Int):=bif !(m35 a0) then some 3 else (m52 a0 a1).bind fun y1=>some y1
theorem w22 {d:Nat} (hd:5≤d) (a0:Int) (k1:Bool) (a1:List TMsg):Fit (R NN d 22 [.int .i64 a0,.rsl k1 false (a1.map (Enc.cs k1))] []) (m22 a0 a1) PI:=by
  obtain ⟨d,rfl,g⟩:=up hd
  refine q_in (t22 NN d _ _) ?_
  unfold b22 m22
  exact q_c0t (aF1 (cv_p rfl) fun l0_=>w35 (by omega) a0)<|q_p fr<|q_i (q_ret (cv_p rfl) rfl)<|q_c0 (aF2 (cv_p rfl) cv_r fun l0_ l1_=>w52 (by omega) a0 l1_ a1) fun y1 hy1=>q_ret (cv_p rfl) rfl
def m59 (a0:TMsg):Option (TMsg):=(appO 24 [] a0.Certs).bind fun z1=>(appO 8 [] a0.Refs).bind fun z2=>some (⟨a0.Kind,a0.View,a0.From,a0.Slot,a0.Value,z1,z2⟩:TMsg)
theorem w59 {d:Nat} (hd:1≤d) (k0:Bool) (a0:TMsg):Fit (R NN d 59 [.agg (Enc.cs k0 a0)] []) (m59 a0) (P1 (T:=TMsg) AV.agg):=by
  obtain ⟨d,rfl,g⟩:=up hd
  refine q_in (t59 NN d _) ?_
  unfold b59 m59
  exact q_box (n:=7) rfl rfl (by decide) fun b1=>q_new rfl fun b2=>q_q (fun _=>qs25_0)<|q_p fr<|q_ld 1 rfl rfl<|q_nil (α:=TCert) false<|q_app (ys:=a0.Certs) 0 rfl rfl (fun _ _=>rfl) fun v1 z1 hz1=>q_p fr<|q_sto1 2 rfl (fun S hS=>(HP.cell1 hS 0 rfl)) rfl<|q_q (fun _=>qs26_0)<|q_p fr<|q_ld 2 rfl rfl<|q_nil (α:=Int) false<|q_app (ys:=a0.Refs) 0 rfl rfl (fun _ _=>rfl) fun v2 z2 hz2=>q_p fr<|q_sto1 3 rfl (fun S hS=>(HP.cell1 hS 0 rfl)) rfl<|q_lda 3 rfl rfl rfl<|q_st 2 rfl rfl rfl (by decide) rfl<|q_outm (fun S hS=>hS.lda 2 rfl rfl) (tb_of (α:=TMsg) (β:=Int×Int×Int×Int×Int×(List TCert)×(List Int)) (f:=fun x=>(x.Kind,x.View,x.From,x.Slot,x.Value,x.Certs,x.Refs)) (x:=(⟨a0.Kind,a0.View,a0.From,a0.Slot,a0.Value,z1,z2⟩:TMsg)) rfl (tb_pair (tb_int (n:=a0.Kind)) (tb_pair (tb_int (n:=a0.View)) (tb_pair (tb_int (n:=a0.From)) (tb_pair (tb_int (n:=a0.Slot)) (tb_pair (tb_int (n:=a0.Value)) (tb_pair (tb_sl 1 rfl plt58) (tb_sl 0 rfl plt2)))))))) rfl
def ms58_0 (a0:List TMsg) (s1:Int×(List TMsg)):Option (LO (Int×(List TMsg))):=bif decide (s1.1 < (a0.length:Int)) then (getI a0 s1.1).bind fun x1=>(m59 x1).bind fun y1=>(appO 88 s1.2 [y1]).bind fun z1=>some (LO.norm (wi .i64 (s1.1 + 1),z1)) else some (LO.exit 0 (s1.1,s1.2))
def m58 (a0:List TMsg):Option ((List TMsg)):=(loopO (ms58_0 a0) NN (0,[])).bind (contO (fun _=>none) (fun i4 s2=>if i4 = 0 then some s2.2 else none) (fun s2=>some []))
theorem w58 {d:Nat} (hd:2≤d) (k0:Bool) (a0:List TMsg):Fit (R NN d 58 [.rsl k0 false (a0.map (Enc.cs k0))] []) (m58 a0) P1a:=by
  obtain ⟨d,rfl,g⟩:=up hd
  refine q_in (t58 NN d _) ?_
  unfold b58 m58
  refine q_q (fun _=>qs24_0)<|q_nila (α:=TMsg)<|q_loop (I:=(fun (s:Int×(List TMsg)) l L=>∃ (i1:List Nat) (v1:AV),l = [v1,.int .i64 s.1]∧L = [tra i1 v1 (s.2:List TMsg)])) 0 ⟨[],(.rsl false true []),rfl,rfl⟩ ?_ ?_ ?_
  ·rintro s1 _ _ ⟨i1,v1,rfl,rfl⟩
   unfold s58_0 ms58_0
   refine q_len<|q_p fr<|q_i ?_ ?_
   ·refine q_ix rfl fun x1 hx1=>q_p fr<|q_c1 (W:=AV.agg) (mg:=m59 x1) sh_agg (aF1 (cv_a (cvs_e (l0:=k0) (x:=x1))) fun l0_=>w59 (by omega) l0_ x1) fun y1 hy1 i2 cs1=>q_cx (fun S hS=>trx28 (hS.get (k:=0) rfl)) fun hcs_=>?_
    obtain ⟨v2,v3,rfl⟩:=hcs_
    exact q_ap1 rfl (fun _=>bt24) rfl fun z1 hz1 v4 i3=>q_p fr<|q_norm 0 ⟨i3,v4,rfl,rfl⟩
   ·exact q_exit 0 ⟨i1,v1,rfl,rfl⟩
  ·rintro i4 s2 _ _ ⟨i5,v5,rfl,rfl⟩
   exact q_n (q_outa 0 rfl)<|q_none
  ·rintro s2 _ _ ⟨i6,v6,rfl,rfl⟩
   exact q_nila (α:=TMsg)<|q_outa 0 rfl
def m25 (a0:List TMsg) (a1:TMsg):Option ((List TMsg)×Int):=(m57 a0 a1).bind fun y1=>bif decide (y1 ≥ 0) then (m58 a0).bind fun y2=>some (y2,0) else bif decide ((a0.length:Int) ≥ 240) then some ([],2) else (m58 a0).bind fun y3=>(m59 a1).bind fun y4=>(appO 88 y3 [y4]).bind fun z1=>some (z1,0)
theorem w25 {d:Nat} (hd:3≤d) (k0:Bool) (a0:List TMsg) (k1:Bool) (a1:TMsg):Fit (R NN d 25 [.rsl k0 false (a0.map (Enc.cs k0)),.rp k1 (Enc.cs k1 a1)] []) (m25 a0 a1) (P0 (fun (t:(List TMsg)×Int)=>AV.tup [.rsl false false (t.1.map (Enc.cs false)),.int .i64 t.2])):=by
  obtain ⟨d,rfl,g⟩:=up hd
  refine q_in (t25 NN d _ _) ?_
  unfold b25 m25
  refine q_c0 (aF2 cv_r (cv_rp (cvs_e (l0:=k1) (x:=a1)) (fun _ _ _ h=>Enc.frz k1 a1 _ _ _ h)) fun l0_ l1_=>w57 (by omega) l0_ a0 l1_ a1) fun y1 hy1=>q_p fr<|q_i ?_ ?_
  ·exact q_c1a (mg:=m58 a0) (aF1 cv_r fun l0_=>w58 (by omega) l0_ a0) fun y2 hy2 i1 v1=>q_ret (cv_t (cvs_cons (cv_tra 0 rfl) (cvs_cons (cv_p rfl) cvs_nil))) rfl
  ·refine q_len<|q_p fr<|q_i ?_ ?_
   ·exact q_ret (cv_t (cvs_cons (cv_r (α:=TMsg) (l0:=false) (fl:=true) (xs:=[])) (cvs_cons (cv_p rfl) cvs_nil))) rfl
   ·refine q_q fr<|q_p fr<|q_c1a (mg:=m58 a0) (aF1 cv_r fun l0_=>w58 (by omega) l0_ a0) fun y3 hy3 i2 v2=>q_c1 (W:=AV.agg) (mg:=m59 a1) sh_agg (aF1 (cv_a (cvs_e (l0:=k1) (x:=a1))) fun l0_=>w59 (by omega) l0_ a1) fun y4 hy4 i3 cs3=>q_cx (fun S hS=>trx28 (hS.get (k:=0) rfl)) fun hcs_=>?_
    obtain ⟨v3,v4,rfl⟩:=hcs_
    exact q_ap1 rfl (fun _=>bt24) rfl fun z1 hz1 v5 i4=>q_ret (cv_t (cvs_cons (cv_tra 0 rfl) (cvs_cons (cv_p rfl) cvs_nil))) rfl
def m7 (a0:Int) (a1:List TMsg) (a2:TMsg):Option (TLedgerResult):=(m22 a0 a1).bind fun y1=>bif y1 != 0 then some (⟨y1,[]⟩:TLedgerResult) else (m23 a0 a2).bind fun y2=>bif y2 != 0 then some (⟨y2,[]⟩:TLedgerResult) else (m24 a2 (a1.length:Int)).bind fun y3=>bif !y3 then some (⟨4,[]⟩:TLedgerResult) else (m25 a1 a2).bind fun y4=>some (⟨y4.2,y4.1⟩:TLedgerResult)
theorem w7 {d:Nat} (hd:6≤d) (a0:Int) (k1:Bool) (a1:List TMsg) (k2:Bool) (a2:TMsg):Fit (R NN d 7 [.int .i64 a0,.rsl k1 false (a1.map (Enc.cs k1)),.agg (Enc.cs k2 a2)] []) (m7 a0 a1 a2) (P0 (fun (t:TLedgerResult)=>AV.agg (Enc.cs false t))):=by
  obtain ⟨d,rfl,g⟩:=up hd
  refine q_in (t7 NN d _ _ _) ?_
  unfold b7 m7
  exact q_box (n:=7) rfl rfl (by decide) fun b1=>q_new rfl fun b2=>q_c0 (aF2 (cv_p rfl) cv_r fun l0_ l1_=>w22 (by omega) a0 l1_ a1) fun y1 hy1=>q_p fr<|q_i (q_p (fun _=>bd32_0 rfl)<|q_st 0 rfl rfl rfl (by decide) rfl<|q_retm (fun S hS=>hS.lda 0 rfl rfl) (cv_a (cvs_cons (cv_p rfl) (cvs_cons (cv_r (α:=TMsg) (l0:=false) (fl:=true) (xs:=[])) cvs_nil))) rfl)<|q_c0 (aF2 (cv_p rfl) (cv_b 1 rfl (cvs_cons (cv_p rfl) (cvs_cons (cv_p rfl) (cvs_cons (cv_p rfl) (cvs_cons (cv_p rfl) (cvs_cons (cv_p rfl) (cvs_cons cv_r (cvs_cons cv_r cvs_nil)))))))) fun l0_ l1_=>w23 (by omega) a0 l1_ a2) fun y2 hy2=>q_p fr<|q_i (q_p (fun _=>bd32_0 rfl)<|q_st 0 rfl rfl rfl (by decide) rfl<|q_retm (fun S hS=>hS.lda 0 rfl rfl) (cv_a (cvs_cons (cv_p rfl) (cvs_cons (cv_r (α:=TMsg) (l0:=false) (fl:=true) (xs:=[])) cvs_nil))) rfl)<|q_len<|q_c0 (aF2 (cv_b 1 rfl (cvs_cons (cv_p rfl) (cvs_cons (cv_p rfl) (cvs_cons (cv_p rfl) (cvs_cons (cv_p rfl) (cvs_cons (cv_p rfl) (cvs_cons cv_r (cvs_cons cv_r cvs_nil)))))))) (cv_p rfl) fun l0_ l1_=>w24 (by omega) l0_ a2 (a1.length:Int)) fun y3 hy3=>q_p fr<|q_i (q_p (fun _=>bd32_0 rfl)<|q_st 0 rfl rfl rfl (by decide) rfl<|q_retm (fun S hS=>hS.lda 0 rfl rfl) (cv_a (cvs_cons (cv_p rfl) (cvs_cons (cv_r (α:=TMsg) (l0:=false) (fl:=true) (xs:=[])) cvs_nil))) rfl)<|q_c0 (aF2 cv_r (cv_b 1 rfl (cvs_cons (cv_p rfl) (cvs_cons (cv_p rfl) (cvs_cons (cv_p rfl) (cvs_cons (cv_p rfl) (cvs_cons (cv_p rfl) (cvs_cons cv_r (cvs_cons cv_r cvs_nil)))))))) fun l0_ l1_=>w25 (by omega) l0_ a1 l1_ a2) fun y4 hy4=>q_q fr<|q_q fr<|q_p (fun _=>bd32_0_1 rfl)<|q_st 0 rfl rfl rfl (by decide) rfl<|q_retm (fun S hS=>hS.lda 0 rfl rfl) (cv_a (cvs_cons (cv_p rfl) (cvs_cons cv_r cvs_nil))) rfl
def ms9_0 (a1:List TMsg) (a2:Int) (s1:Int×(List Int)):Option (LO (Int×(List Int))):=bif decide (s1.1 < (a1.length:Int)) then ( (getI a1 s1.1).bind fun x1=>bif x1.From == a2 then (appO 8 s1.2 [s1.1]).bind fun z1=>some (LO.norm z1) else some (LO.norm s1.2)).bind (contO (fun s3=>some (LO.norm (wi .i64 (s1.1 + 1),s3))) (fun i1 s3=>some (LO.exit i1 (s1.1,s3))) (fun s3=>some (LO.ret (s1.1,s3)))) else some (LO.exit 0 (s1.1,s1.2))
def m9 (a0:Int) (a1:List TMsg) (a2:Int):Option (TIntsResult):=(m11 a0 a1).bind fun y1=>bif y1 != 0 then some (⟨y1,[]⟩:TIntsResult) else bif !(m28 a0 a2) then some (⟨3,[]⟩:TIntsResult) else (loopO (ms9_0 a1 a2) NN (0,[])).bind (contO (fun _=>none) (fun i2 s4=>if i2 = 0 then some (⟨0,s4.2⟩:TIntsResult) else none) (fun s4=>some (⟨0,[]⟩:TIntsResult)))
theorem w9 {d:Nat} (hd:8≤d) (a0:Int) (k1:Bool) (a1:List TMsg) (a2:Int):Fit (R NN d 9 [.int .i64 a0,.rsl k1 false (a1.map (Enc.cs k1)),.int .i64 a2] []) (m9 a0 a1 a2) (P0 (fun (t:TIntsResult)=>AV.agg (Enc.cs false t))):=by
  obtain ⟨d,rfl,g⟩:=up hd
  refine q_in (t9 NN d _ _ _) ?_
  unfold b9 m9
  refine q_new rfl fun b1=>q_c0 (aF2 (cv_p rfl) cv_r fun l0_ l1_=>w11 (by omega) a0 l1_ a1) fun y1 hy1=>q_p fr<|q_i ?_ ?_
  ·exact q_p (fun _=>bd36_0 rfl)<|q_st 0 rfl rfl rfl (by decide) rfl<|q_retm (fun S hS=>hS.lda 0 rfl rfl) (cv_a (cvs_cons (cv_p rfl) (cvs_cons (cv_r (α:=Int) (l0:=false) (fl:=true) (xs:=[])) cvs_nil))) rfl
  ·refine q_c0t (aF2 (cv_p rfl) (cv_p rfl) fun l0_ l1_=>w28 (by omega) a0 a2)<|q_p fr<|q_i ?_ ?_
   ·exact q_p (fun _=>bd36_0 rfl)<|q_st 0 rfl rfl rfl (by decide) rfl<|q_retm (fun S hS=>hS.lda 0 rfl rfl) (cv_a (cvs_cons (cv_p rfl) (cvs_cons (cv_r (α:=Int) (l0:=false) (fl:=true) (xs:=[])) cvs_nil))) rfl
   ·refine q_q (fun _=>qs26_0)<|q_len<|q_nil (α:=Int) false<|q_loop (I:=(fun (s:Int×(List Int)) l L=>∃ (v1:AV),l = [v1,.int .i64 s.1]∧L = [sl false v1 (s.2:List Int),bx b1 [.int .i64 0,.rsl false true []]])) 0 ⟨(.rsl false true []),rfl,rfl⟩ ?_ ?_ ?_
    ·rintro s1 _ _ ⟨v1,rfl,rfl⟩
     unfold s9_0 ms9_0
     refine q_p fr<|q_i ?_ ?_
     ·refine q_cut (I:=(fun (s:(List Int)) l L=>∃ (v2:AV),l = [v2]∧L = [sl false v2 (s:List Int),bx b1 [.int .i64 0,.rsl false true []]])) ?_ ?_ ?_ ?_
      ·exact q_ix rfl fun x1 hx1=>q_p fr<|q_new rfl fun b2=>q_st 0 rfl rfl rfl (by decide) rfl<|q_p fr<|q_ld 0 rfl rfl<|q_p fr<|q_i (q_e (fun _=>bs26_1 rfl)<|q_app (ys:=[s1.1]) 1 rfl rfl (fun _ _=>rfl) fun v2 z1 hz1=>q_norm 1 ⟨v2,rfl,rfl⟩)<|q_norm 1 ⟨v1,rfl,rfl⟩
      ·rintro s3 _ _ ⟨v3,rfl,rfl⟩
       exact q_p fr<|q_norm 0 ⟨v3,rfl,rfl⟩
      ·rintro i1 s3 _ _ ⟨v4,rfl,rfl⟩
       exact q_exit 0 ⟨v4,rfl,rfl⟩
      ·rintro s3 _ _ ⟨v5,rfl,rfl⟩
       exact q_lret 0 ⟨v5,rfl,rfl⟩
     ·exact q_exit 0 ⟨v1,rfl,rfl⟩
    ·rintro i2 s4 _ _ ⟨v6,rfl,rfl⟩
     refine q_n ?_ ?_
     ·refine q_ph (fun S hS=>bd36_1 (by simp only [afill,plc,gd,List.getD_cons_zero,List.getD_cons_succ,List.getElem?_cons_zero,List.getElem?_cons_succ,hS.cell1 0 rfl]; rfl)) ?_
      exact q_st 1 rfl rfl rfl (by decide) rfl<|q_retm (fun S hS=>hS.lda 1 rfl rfl) (cv_a (cvs_cons (cv_p rfl) (cvs_cons (cv_o 0 rfl) cvs_nil))) rfl
     ·exact q_none
    ·rintro s4 _ _ ⟨v7,rfl,rfl⟩
     exact q_retm (fun S hS=>hS.lda 1 rfl rfl) (cv_a (cvs_cons (cv_p rfl) (cvs_cons (cv_r (α:=Int) (l0:=false) (fl:=true) (xs:=[])) cvs_nil))) rfl
def m13 (a0:Int) (a1:TMsg):Option (Int):=bif !(m32 a0) then some 3 else (m19 a0 a1).bind fun y1=>some y1
theorem w13 {d:Nat} (hd:7≤d) (a0:Int) (k1:Bool) (a1:TMsg):Fit (R NN d 13 [.int .i64 a0,.agg (Enc.cs k1 a1)] []) (m13 a0 a1) PI:=by
  obtain ⟨d,rfl,g⟩:=up hd
  refine q_in (t13 NN d _ _) ?_
  unfold b13 m13
  exact q_box (n:=7) rfl rfl (by decide) fun b1=>q_c0t (aF1 (cv_p rfl) fun l0_=>w32 (by omega) a0)<|q_p fr<|q_i (q_ret (cv_p rfl) rfl)<|q_lda 0 rfl rfl rfl<|q_c0 (aF2 (cv_p rfl) (cv_a (cvs_e (l0:=k1) (x:=a1))) fun l0_ l1_=>w19 (by omega) a0 l1_ a1) fun y1 hy1=>q_ret (cv_p rfl) rfl
def m73 (a0 a1:Int):Option Str:=fmtO a0 a1
theorem w73 {d:Nat} (hd:1≤d) (a0 a1:Int):Fit (R NN d 73 [.int .i64 a0,.int .i64 a1] []) (m73 a0 a1) (P0 encS):=by
  obtain ⟨d,rfl,g⟩:=up hd
  exact fit_fi (R:=R) (fun _ _ _=>t73 _ _ _ _ _) a0 a1
def m60 (a0:Int):Option (Str):=(m73 a0 10).bind fun y1=>some y1
theorem w60 {d:Nat} (hd:2≤d) (a0:Int):Fit (R NN d 60 [.int .i64 a0] []) (m60 a0) (P0 encS):=by
  obtain ⟨d,rfl,g⟩:=up hd
  refine q_in (t60 NN d _) ?_
  unfold b60 m60
  exact q_c0 (aF2 (cv_p rfl) (cv_p rfl) fun l0_ l1_=>w73 (by omega) a0 10) fun y1 hy1=>q_ret (cv_p rfl) rfl
def ms29_0 (a0:List Int) (s1:Int×(List Str)):Option (LO (Int×(List Str))):=bif decide (s1.1 < (a0.length:Int)) then (getI a0 s1.1).bind fun x1=>(m60 x1).bind fun y1=>(appO 16 s1.2 [y1]).bind fun z1=>some (LO.norm (wi .i64 (s1.1 + 1),z1)) else some (LO.exit 0 (s1.1,s1.2))
def m29 (a0:List Int):Option ((List Str)):=(loopO (ms29_0 a0) NN (0,[])).bind (contO (fun _=>none) (fun i1 s2=>if i1 = 0 then some s2.2 else none) (fun s2=>some []))
theorem w29 {d:Nat} (hd:3≤d) (k0:Bool) (a0:List Int):Fit (R NN d 29 [.rsl k0 false (a0.map (Enc.cs k0))] []) (m29 a0) (P0 (fun (t:List Str)=>AV.rsl false false (t.map (Enc.cs false)))):=by
  obtain ⟨d,rfl,g⟩:=up hd
  refine q_in (t29 NN d _) ?_
  unfold b29 m29
  refine q_q (fun _=>qs61_0)<|q_len<|q_nil (α:=Str) false<|q_loop (I:=(fun (s:Int×(List Str)) l L=>∃ (v1:AV),l = [v1,.int .i64 s.1]∧L = [sl false v1 (s.2:List Str)])) 0 ⟨(.rsl false true []),rfl,rfl⟩ ?_ ?_ ?_
  ·rintro s1 _ _ ⟨v1,rfl,rfl⟩
   unfold s29_0 ms29_0
   exact q_p fr<|q_i (q_ix rfl fun x1 hx1=>q_p fr<|q_c0 (aF1 (cv_p rfl) fun l0_=>w60 (by omega) x1) fun y1 hy1=>q_q (fun _=>qs61_1)<|q_app (ys:=[y1]) 0 rfl rfl (fun _ _=>rfl) fun v2 z1 hz1=>q_p fr<|q_norm 0 ⟨v2,rfl,rfl⟩)<|q_exit 0 ⟨v1,rfl,rfl⟩
  ·rintro i1 s2 _ _ ⟨v3,rfl,rfl⟩
   exact q_n (q_ret (cv_o 0 rfl) rfl)<|q_none
  ·rintro s2 _ _ ⟨v4,rfl,rfl⟩
   exact q_ret (cv_r (α:=Str) (l0:=false) (fl:=true) (xs:=[])) rfl
def m31 (a0:List Str) (a1:Str):Option Str:=joinO a0 a1
theorem w31 {d:Nat} (hd:1≤d) (k0:Bool) (a0:List Str) (a1:Str):Fit (R NN d 31 [.rsl k0 false (a0.map (Enc.cs k0)),encS a1] []) (m31 a0 a1) (P0 encS):=by
  obtain ⟨d,rfl,g⟩:=up hd
  exact fit_j (R:=R) (fun _ _ _=>t31 _ _ _ _ _) k0 false a0 a1
def ms10_0 (a1:TMsg) (s3:Int×(List Str)):Option (LO (Int×(List Str))):=bif decide (s3.1 < (a1.Certs.length:Int)) then (getI a1.Certs s3.1).bind fun x2=>(m29 [x2.Slot,x2.View,x2.Value]).bind fun y4=>(m31 y4 ([46]:Str)).bind fun y5=>(appO 16 s3.2 [y5]).bind fun z3=>some (LO.norm (wi .i64 (s3.1 + 1),z3)) else some (LO.exit 0 (s3.1,s3.2))
def m10 (a0:Int) (a1:TMsg):Option (TTextResult):=(m13 a0 a1).bind fun y1=>bif y1 != 0 then some (⟨y1,[]⟩:TTextResult) else (getI [([112,114,111,112,111,115,101]:Str),([112,114,101,112,97,114,101]:Str),([99,111,109,109,105,116]:Str),([99,104,97,110,103,101]:Str),([110,101,119]:Str)] (wi .i64 (a1.Kind - 1))).bind fun x1=>(m29 [a1.View,a1.From]).bind fun y2=>(appO 16 [x1] y2).bind fun z1=>( bif (m30 a1.Kind) then (m29 [a1.Slot,a1.Value]).bind fun y3=>(appO 16 z1 y3).bind fun z2=>some (LO.norm z2) else some (LO.norm z1)).bind (contO (fun s2=>(loopO (ms10_0 a1) NN (0,s2)).bind (contO (fun _=>none) (fun i2 s4=>if i2 = 0 then (m29 a1.Refs).bind fun y6=>(appO 16 s4.2 y6).bind fun z4=>(m31 z4 ([32]:Str)).bind fun y7=>some (⟨0,y7⟩:TTextResult) else none) (fun s4=>some (⟨0,[]⟩:TTextResult)))) (fun i1 s2=>none) (fun s2=>some (⟨0,[]⟩:TTextResult)))
theorem w10 {d:Nat} (hd:8≤d) (a0:Int) (k1:Bool) (a1:TMsg):Fit (R NN d 10 [.int .i64 a0,.agg (Enc.cs k1 a1)] []) (m10 a0 a1) (P0 (fun (t:TTextResult)=>AV.agg (Enc.cs false t))):=by
  obtain ⟨d,rfl,g⟩:=up hd
  refine q_in (t10 NN d _ _) ?_
  unfold b10 m10
  refine q_box (n:=7) rfl rfl (by decide) fun b1=>q_new rfl fun b2=>q_lda 1 rfl rfl rfl<|q_c0 (aF2 (cv_p rfl) (cv_a (cvs_e (l0:=k1) (x:=a1))) fun l0_ l1_=>w13 (by omega) a0 l1_ a1) fun y1 hy1=>q_p fr<|q_i ?_ ?_
  ·exact q_p (fun _=>bd39_0 rfl)<|q_st 0 rfl rfl rfl (by decide) rfl<|q_retm (fun S hS=>hS.lda 0 rfl rfl) (cv_a (cvs_cons (cv_p rfl) (cvs_cons (cv_p rfl) cvs_nil))) rfl
  ·refine q_q (fun _=>qs61_5)<|q_p fr<|q_ld 1 rfl rfl<|q_p fr<|q_ix (l:=false) (fl:=true) (xs:=([([112,114,111,112,111,115,101]:Str),([112,114,101,112,97,114,101]:Str),([99,111,109,109,105,116]:Str),([99,104,97,110,103,101]:Str),([110,101,119]:Str)]:List Str)) rfl fun x1 hx1=>q_p fr<|q_q (fun _=>qs61_1)<|q_p fr<|q_ld 1 rfl rfl<|q_p fr<|q_ld 1 rfl rfl<|q_e (fun _=>bs26_2 rfl)<|q_c0 (aF1 (cv_r (α:=Int) (l0:=false) (fl:=true) (xs:=[a1.View,a1.From])) fun l0_=>w29 (by omega) l0_ [a1.View,a1.From]) fun y2 hy2=>?_
   refine q_litw (α:=Str) (xs:=[x1])<|q_apsw (ys:=y2) 0 rfl rfl (fun _ _=>rfl) fun v1 z1 hz1=>q_cut (I:=(fun (s:(List Str)) l L=>∃ (v2:AV),l = [v2]∧L = [slw v2 (s:List Str),bx b2 [.int .i64 0,encS []],bx b1 [.int .i64 a1.Kind,.int .i64 a1.View,.int .i64 a1.From,.int .i64 a1.Slot,.int .i64 a1.Value,.rsl k1 false (a1.Certs.map (Enc.cs k1)),.rsl k1 false (a1.Refs.map (Enc.cs k1))]])) ?_ ?_ ?_ ?_
   ·exact q_p fr<|q_ld 2 rfl rfl<|q_c0t (aF1 (cv_p rfl) fun l0_=>w30 (by omega) a1.Kind)<|q_i (q_p fr<|q_ld 2 rfl rfl<|q_p fr<|q_ld 2 rfl rfl<|q_e (fun _=>bs26_2 rfl)<|q_c0 (aF1 (cv_r (α:=Int) (l0:=false) (fl:=true) (xs:=[a1.Slot,a1.Value])) fun l0_=>w29 (by omega) l0_ [a1.Slot,a1.Value]) fun y3 hy3=>q_apsw (ys:=y3) 0 rfl rfl (fun _ _=>rfl) fun v2 z2 hz2=>q_norm 0 ⟨v2,rfl,rfl⟩)<|q_norm 0 ⟨v1,rfl,rfl⟩
   ·rintro s2 _ _ ⟨v3,rfl,rfl⟩
    refine q_p fr<|q_ld 2 rfl rfl<|q_len<|q_loop (I:=(fun (s:Int×(List Str)) l L=>∃ (v4:AV),l = [v4,.int .i64 s.1]∧L = [slw v4 (s.2:List Str),bx b2 [.int .i64 0,encS []],bx b1 [.int .i64 a1.Kind,.int .i64 a1.View,.int .i64 a1.From,.int .i64 a1.Slot,.int .i64 a1.Value,.rsl k1 false (a1.Certs.map (Enc.cs k1)),.rsl k1 false (a1.Refs.map (Enc.cs k1))]])) 0 ⟨v3,rfl,rfl⟩ ?_ ?_ ?_
    ·rintro s3 _ _ ⟨v4,rfl,rfl⟩
     unfold s10_0 ms10_0
     exact q_p fr<|q_i (q_ix rfl fun x2 hx2=>q_p fr<|q_new rfl fun b3=>q_st 0 rfl rfl rfl (by decide) rfl<|q_p fr<|q_ld 0 rfl rfl<|q_p fr<|q_ld 0 rfl rfl<|q_p fr<|q_ld 0 rfl rfl<|q_e (fun _=>bs26_3 rfl)<|q_c0 (aF1 (cv_r (α:=Int) (l0:=false) (fl:=true) (xs:=[x2.Slot,x2.View,x2.Value])) fun l0_=>w29 (by omega) l0_ [x2.Slot,x2.View,x2.Value]) fun y4 hy4=>q_c0 (aF2 cv_r (cv_p rfl) fun l0_ l1_=>w31 (by omega) l0_ y4 ([46]:Str)) fun y5 hy5=>q_q (fun _=>qs61_1)<|q_apsw (ys:=[y5]) 1 rfl rfl (fun _ _=>rfl) fun v5 z3 hz3=>q_p fr<|q_norm 1 ⟨v5,rfl,rfl⟩)<|q_exit 0 ⟨v4,rfl,rfl⟩
    ·rintro i2 s4 _ _ ⟨v6,rfl,rfl⟩
     exact q_n (q_p fr<|q_ld 2 rfl rfl<|q_c0 (aF1 cv_r fun l0_=>w29 (by omega) l0_ a1.Refs) fun y6 hy6=>q_apsw (ys:=y6) 0 rfl rfl (fun _ _=>rfl) fun v7 z4 hz4=>q_c0 (aF2 (cv_ow 0 rfl) (cv_p rfl) fun l0_ l1_=>w31 (by omega) l0_ z4 ([32]:Str)) fun y7 hy7=>q_p (fun _=>bd39_1 rfl)<|q_st 1 rfl rfl rfl (by decide) rfl<|q_retm (fun S hS=>hS.lda 1 rfl rfl) (cv_a (cvs_cons (cv_p rfl) (cvs_cons (cv_p rfl) cvs_nil))) rfl)<|q_none
    ·rintro s4 _ _ ⟨v8,rfl,rfl⟩
     exact q_retm (fun S hS=>hS.lda 1 rfl rfl) (cv_a (cvs_cons (cv_p rfl) (cvs_cons (cv_p rfl) cvs_nil))) rfl
   ·rintro i1 s2 _ _ ⟨v9,rfl,rfl⟩
    exact q_none
   ·rintro s2 _ _ ⟨v10,rfl,rfl⟩
    exact q_retm (fun S hS=>hS.lda 1 rfl rfl) (cv_a (cvs_cons (cv_p rfl) (cvs_cons (cv_p rfl) cvs_nil))) rfl
def m67F (rec_:Int→Option (Str)) (a0:Int):Option (Str):=bif decide (a0 < 0) then (rec_ (wi .i64 (0 - a0))).bind fun y1=>(catO ([45]:Str) y1).bind fun t1=>some t1 else bif decide (a0 < 10) then some ([UInt8.ofNat (Int.toNat (wi .u8 (wi .i64 (48 + a0))))]:Str) else (rec_ (wi .i64 (Int.tdiv a0 10))).bind fun y2=>(catO y2 ([UInt8.ofNat (Int.toNat (wi .u8 (wi .i64 (48 + (Int.tmod a0 10)))))]:Str)).bind fun t2=>some t2
def m67 (n:Nat):Int→Option (Str):=Nat.rec (fun _=>none) (fun _ ih=>m67F ih) n
theorem w67:∀ (n d:Nat) (hd:n + 65≤d) (a0:Int),Fit (R NN d 67 [.int .i64 a0] []) (m67 n a0) (P0 encS)
  | 0,_,_,a0=>(fun t ht=>by cases ht)
  | n + 1,d,hd,a0=>by
    have ih:=w67 n
    obtain ⟨d,rfl,g⟩:=up (n:=n + 65) (d:=d) (by omega)
    refine q_in (t67 NN d _) ?_
    rw [show m67 (n + 1) = m67F (m67 n) from rfl]
    unfold b67 m67F
    refine q_p fr<|q_i ?_ ?_
    ·exact q_p fr<|q_c0 (aF1 (cv_p rfl) fun l0_=>ih d (by omega) (wi .i64 (0 - a0))) fun y1 hy1=>q_cat fun t1 ht1=>q_ret (cv_p rfl) rfl
    ·refine q_p fr<|q_i ?_ ?_
     ·exact q_p fr<|q_p (fun _=>cvt2_5 _ _)<|q_q (fun _=>qb22)<|q_p (fun _=>cvb22_9 _ _)<|q_ret (cv_p rfl) rfl
     ·exact q_p fr<|q_c0 (aF1 (cv_p rfl) fun l0_=>ih d (by omega) (wi .i64 (Int.tdiv a0 10))) fun y2 hy2=>q_p fr<|q_p fr<|q_p (fun _=>cvt2_5 _ _)<|q_q (fun _=>qb22)<|q_p (fun _=>cvb22_9 _ _)<|q_cat2 fun t2 ht2=>q_ret (cv_p rfl) rfl
def ms36_0 (a0:TMsg) (s1:Str×Int):Option (LO (Str×Int)):=bif decide (s1.2 < (a0.Certs.length:Int)) then (catO s1.1 ([32]:Str)).bind fun t9=>(getI a0.Certs s1.2).bind fun x2=>(m67 64 x2.Slot).bind fun y5=>(catO t9 y5).bind fun t10=>(catO t10 ([46]:Str)).bind fun t11=>(getI a0.Certs s1.2).bind fun x3=>(m67 64 x3.View).bind fun y6=>(catO t11 y6).bind fun t12=>(catO t12 ([46]:Str)).bind fun t13=>(getI a0.Certs s1.2).bind fun x4=>(m67 64 x4.Value).bind fun y7=>(catO t13 y7).bind fun t14=>some (LO.norm (t14,wi .i64 (s1.2 + 1))) else some (LO.exit 0 (s1.1,s1.2))
def ms36_1 (a0:TMsg) (s3:Str×Int):Option (LO (Str×Int)):=bif decide (s3.2 < (a0.Refs.length:Int)) then (catO s3.1 ([32]:Str)).bind fun t15=>(getI a0.Refs s3.2).bind fun x5=>(m67 64 x5).bind fun y8=>(catO t15 y8).bind fun t16=>some (LO.norm (t16,wi .i64 (s3.2 + 1))) else some (LO.exit 2 (s3.1,s3.2))
def m36 (a0:TMsg):Option (Str):=(getI [([]:Str),([112,114,111,112,111,115,101]:Str),([112,114,101,112,97,114,101]:Str),([99,111,109,109,105,116]:Str),([99,104,97,110,103,101]:Str),([110,101,119]:Str)] a0.Kind).bind fun x1=>(catO x1 ([32]:Str)).bind fun t1=>(m67 64 a0.View).bind fun y1=>(catO t1 y1).bind fun t2=>(catO t2 ([32]:Str)).bind fun t3=>(m67 64 a0.From).bind fun y2=>(catO t3 y2).bind fun t4=>bif decide (a0.Kind≤3) then (catO t4 ([32]:Str)).bind fun t5=>(m67 64 a0.Slot).bind fun y3=>(catO t5 y3).bind fun t6=>(catO t6 ([32]:Str)).bind fun t7=>(m67 64 a0.Value).bind fun y4=>(catO t7 y4).bind fun t8=>some t8 else (loopO (ms36_0 a0) NN (t4,0)).bind (contO (fun _=>none) (fun i1 s2=>if i1 = 0 then (loopO (ms36_1 a0) NN (s2.1,0)).bind (contO (fun _=>none) (fun i2 s4=>if i2 = 2 then some s4.1 else none) (fun s4=>some ([]:Str))) else none) (fun s2=>some ([]:Str)))
theorem w36 {d:Nat} (hd:130≤d) (k0:Bool) (a0:TMsg):Fit (R NN d 36 [.rp k0 (Enc.cs k0 a0)] []) (m36 a0) (P0 encS):=by
  obtain ⟨d,rfl,g⟩:=up hd
  refine q_in (t36 NN d _) ?_
  unfold b36 m36
  refine q_q (fun _=>qs61_6)<|q_q fr<|q_p fr<|q_p fr<|q_ix (l:=false) (fl:=true) (xs:=([([]:Str),([112,114,111,112,111,115,101]:Str),([112,114,101,112,97,114,101]:Str),([99,111,109,109,105,116]:Str),([99,104,97,110,103,101]:Str),([110,101,119]:Str)]:List Str)) rfl fun x1 hx1=>q_p fr<|q_cat fun t1 ht1=>q_q fr<|q_p fr<|q_p fr<|q_c0 (aF1 (cv_p rfl) fun l0_=>w67 64 _ (by omega) a0.View) fun y1 hy1=>q_cat2 fun t2 ht2=>q_cat fun t3 ht3=>?_
  refine q_q fr<|q_p fr<|q_p fr<|q_c0 (aF1 (cv_p rfl) fun l0_=>w67 64 _ (by omega) a0.From) fun y2 hy2=>q_cat2 fun t4 ht4=>q_q fr<|q_p fr<|q_p fr<|q_p fr<|q_i ?_ ?_
  ·exact q_cat fun t5 ht5=>q_q fr<|q_p fr<|q_p fr<|q_c0 (aF1 (cv_p rfl) fun l0_=>w67 64 _ (by omega) a0.Slot) fun y3 hy3=>q_cat2 fun t6 ht6=>q_cat fun t7 ht7=>q_q fr<|q_p fr<|q_p fr<|q_c0 (aF1 (cv_p rfl) fun l0_=>w67 64 _ (by omega) a0.Value) fun y4 hy4=>q_cat2 fun t8 ht8=>q_ret (cv_p rfl) rfl
  ·refine q_lp (A:=fun (s:Str×Int)=>[encS s.1,.int .i64 s.2]) (B:=fun s=>[]) 0 rr ?_ ?_ ?_
   ·intro s1
    unfold s36_0 ms36_0
    exact q_q fr<|q_p fr<|q_p fr<|q_len<|q_p fr<|q_i (q_cat fun t9 ht9=>q_q fr<|q_p fr<|q_p fr<|q_ix rfl fun x2 hx2=>q_p fr<|q_p fr<|q_c0 (aF1 (cv_p rfl) fun l0_=>w67 64 _ (by omega) x2.Slot) fun y5 hy5=>q_cat2 fun t10 ht10=>q_cat fun t11 ht11=>q_q fr<|q_p fr<|q_p fr<|q_ix rfl fun x3 hx3=>q_p fr<|q_p fr<|q_c0 (aF1 (cv_p rfl) fun l0_=>w67 64 _ (by omega) x3.View) fun y6 hy6=>q_cat2 fun t12 ht12=>q_cat fun t13 ht13=>q_q fr<|q_p fr<|q_p fr<|q_ix rfl fun x4 hx4=>q_p fr<|q_p fr<|q_c0 (aF1 (cv_p rfl) fun l0_=>w67 64 _ (by omega) x4.Value) fun y7 hy7=>q_cat2 fun t14 ht14=>q_p fr<|q_norm 0 rr)<|q_exit 0 rr
   ·intro i1 s2
    refine q_n ?_ ?_
    ·refine q_lp (A:=fun (s:Str×Int)=>[encS s.1,.int .i64 s.2]) (B:=fun s=>[]) 0 rr ?_ ?_ ?_
     ·intro s3
      unfold s36_1 ms36_1
      exact q_q fr<|q_p fr<|q_p fr<|q_len<|q_p fr<|q_i (q_cat fun t15 ht15=>q_q fr<|q_p fr<|q_p fr<|q_ix rfl fun x5 hx5=>q_p fr<|q_c0 (aF1 (cv_p rfl) fun l0_=>w67 64 _ (by omega) x5) fun y8 hy8=>q_cat2 fun t16 ht16=>q_p fr<|q_norm 0 rr)<|q_exit 0 rr
     ·exact fun i2 s4=>q_n (q_ret (cv_p rfl) rfl)<|q_none
     ·exact fun s4=>q_ret (cv_p rfl) rfl
    ·exact q_none
   ·exact fun s2=>q_ret (cv_p rfl) rfl
def m12 (a0:Int) (a1:TMsg):Option (TTextResult):=bif !(m35 a0) then some (⟨3,[]⟩:TTextResult) else (m23 a0 a1).bind fun y1=>bif y1 != 0 then some (⟨y1,[]⟩:TTextResult) else (m36 a1).bind fun y2=>some (⟨0,y2⟩:TTextResult)
theorem w12 {d:Nat} (hd:131≤d) (a0:Int) (k1:Bool) (a1:TMsg):Fit (R NN d 12 [.int .i64 a0,.agg (Enc.cs k1 a1)] []) (m12 a0 a1) (P0 (fun (t:TTextResult)=>AV.agg (Enc.cs false t))):=by
  obtain ⟨d,rfl,g⟩:=up hd
  refine q_in (t12 NN d _ _) ?_
  unfold b12 m12
  exact q_box (n:=7) rfl rfl (by decide) fun b1=>q_new rfl fun b2=>q_c0t (aF1 (cv_p rfl) fun l0_=>w35 (by omega) a0)<|q_p fr<|q_i (q_p (fun _=>bd39_0 rfl)<|q_st 0 rfl rfl rfl (by decide) rfl<|q_retm (fun S hS=>hS.lda 0 rfl rfl) (cv_a (cvs_cons (cv_p rfl) (cvs_cons (cv_p rfl) cvs_nil))) rfl)<|q_c0 (aF2 (cv_p rfl) (cv_b 1 rfl (cvs_cons (cv_p rfl) (cvs_cons (cv_p rfl) (cvs_cons (cv_p rfl) (cvs_cons (cv_p rfl) (cvs_cons (cv_p rfl) (cvs_cons cv_r (cvs_cons cv_r cvs_nil)))))))) fun l0_ l1_=>w23 (by omega) a0 l1_ a1) fun y1 hy1=>q_p fr<|q_i (q_p (fun _=>bd39_0 rfl)<|q_st 0 rfl rfl rfl (by decide) rfl<|q_retm (fun S hS=>hS.lda 0 rfl rfl) (cv_a (cvs_cons (cv_p rfl) (cvs_cons (cv_p rfl) cvs_nil))) rfl)<|q_c0 (aF1 (cv_b 1 rfl (cvs_cons (cv_p rfl) (cvs_cons (cv_p rfl) (cvs_cons (cv_p rfl) (cvs_cons (cv_p rfl) (cvs_cons (cv_p rfl) (cvs_cons cv_r (cvs_cons cv_r cvs_nil)))))))) fun l0_=>w36 (by omega) l0_ a1) fun y2 hy2=>q_p (fun _=>bd39_1 rfl)<|q_st 0 rfl rfl rfl (by decide) rfl<|q_retm (fun S hS=>hS.lda 0 rfl rfl) (cv_a (cvs_cons (cv_p rfl) (cvs_cons (cv_p rfl) cvs_nil))) rfl
def ms3_0 (y1:Int×(List TMsg)×TMsg) (y2:TLedgerResult) (s1:Bool×Int×Int):Option (LO (Bool×Int×Int)):=bif decide (s1.2.2 < (y2.Ledger.length:Int)) then ( ( (getI y2.Ledger s1.2.2).bind fun x1=>(m8 x1 y1.2.2).bind fun y5=>bif y5 then some (LO.norm (wi .i64 (s1.2.1 + 1))) else some (LO.norm s1.2.1)).bind (contO (fun s4=>bif decide (s1.2.2 < (y1.2.1.length:Int)) then (getI y2.Ledger s1.2.2).bind fun x2=>(getI y1.2.1 s1.2.2).bind fun x3=>(m8 x2 x3).bind fun y6=>bif !y6 then some (LO.ret (false,s4)) else some (LO.norm (s1.1,s4)) else some (LO.norm (s1.1,s4))) (fun i1 s4=>if i1 = 1 then some (LO.norm (s1.1,s4)) else some (LO.exit i1 (s1.1,s4))) (fun s4=>some (LO.ret (s1.1,s4))))).bind (contO (fun s5=>some (LO.norm (s5.1,s5.2,wi .i64 (s1.2.2 + 1)))) (fun i2 s5=>some (LO.exit i2 (s5.1,s5.2,s1.2.2))) (fun s5=>some (LO.ret (s5.1,s5.2,s1.2.2)))) else some (LO.exit 0 (s1.1,s1.2.1,s1.2.2))
def m3 (a0:List U8):Option (Bool):=bif (m4 a0) then some true else (m5 a0).bind fun y1=>(m6 y1.1 y1.2.1 y1.2.2).bind fun y2=>bif y2.Code != 0 then (m7 y1.1 y1.2.1 y1.2.2).bind fun y3=>some (y3.Code == y2.Code) else (m6 y1.1 y2.Ledger y1.2.2).bind fun y4=>(loopO (ms3_0 y1 y2) NN (false,0,0)).bind (contO (fun _=>none) (fun i3 s6=>if i3 = 0 then (m9 y1.1 y2.Ledger y1.2.2.From).bind fun y7=>(m10 y1.1 y1.2.2).bind fun y8=>( bif s6.2.1 == 1 then (m11 y1.1 y2.Ledger).bind fun y9=>bif y9 == 0 then bif (y4.Ledger.length:Int) == (y2.Ledger.length:Int) then bif y7.Code == 0 then bif decide ((y7.List.length:Int) > 0) then bif y8.Code == 0 then (m12 y1.1 y1.2.2).bind fun y10=>bif y8.Text == y10.Text then (m13 y1.1 y1.2.2).bind fun y11=>bif y11 == 0 then some (LO.norm (decide ((wi .i64 ((y2.Ledger.length:Int) - (y1.2.1.length:Int)))≤1))) else some (LO.norm false) else some (LO.norm false) else some (LO.norm false) else some (LO.norm false) else some (LO.norm false) else some (LO.norm false) else some (LO.norm false) else some (LO.norm false)).bind (contO (fun s8=>some s8) (fun i4 s8=>none) (fun s8=>some s8)) else none) (fun s6=>some s6.1))
theorem w3 {d:Nat} (hd:132≤d) (k0:Bool) (a0:List U8):Fit (R NN d 3 [.rsl k0 false (a0.map (Enc.cs k0))] []) (m3 a0) PB:=by
  obtain ⟨d,rfl,g⟩:=up hd
  refine q_in (t3 NN d _) ?_
  unfold b3 m3
  refine q_c0t (aF1 cv_r fun l0_=>w4 (by omega) l0_ a0)<|q_i ?_ ?_
  ·exact q_ret (cv_p rfl) rfl
  ·refine q_c0 (aF1 cv_r fun l0_=>w5 (by omega) l0_ a0) fun y1 hy1=>q_q fr<|q_q fr<|q_q fr<|q_new rfl fun b1=>q_st 0 rfl rfl rfl (by decide) rfl<|q_lda 0 rfl rfl rfl<|q_c0 (aF3 (cv_p rfl) cv_r (cv_a (cvs_e (l0:=false) (x:=y1.2.2))) fun l0_ l1_ l2_=>w6 (by omega) y1.1 l1_ y1.2.1 l2_ y1.2.2) fun y2 hy2=>q_new rfl fun b2=>q_st 0 rfl rfl rfl (by decide) rfl<|q_p fr<|q_ld 0 rfl rfl<|q_p fr ?_
   refine q_i ?_ ?_
   ·exact q_lda 1 rfl rfl rfl<|q_c0 (aF3 (cv_p rfl) cv_r (cv_a (cvs_e (l0:=false) (x:=y1.2.2))) fun l0_ l1_ l2_=>w7 (by omega) y1.1 l1_ y1.2.1 l2_ y1.2.2) fun y3 hy3=>q_p fr<|q_p fr<|q_ld 0 rfl rfl<|q_p fr<|q_ret (cv_p rfl) rfl
   ·refine q_p fr<|q_ld 0 rfl rfl<|q_lda 1 rfl rfl rfl<|q_c0 (aF3 (cv_p rfl) cv_r (cv_a (cvs_e (l0:=false) (x:=y1.2.2))) fun l0_ l1_ l2_=>w6 (by omega) y1.1 l1_ y2.Ledger l2_ y1.2.2) fun y4 hy4=>q_new rfl fun b3=>q_st 0 rfl rfl rfl (by decide) rfl<|q_lp (A:=fun (s:Bool×Int×Int)=>[.bool s.1,.int .i64 s.2.1,.int .i64 s.2.2]) (B:=fun s=>[bx b3 [.int .i64 y4.Code,.rsl false false (y4.Ledger.map (Enc.cs false))],bx b2 [.int .i64 y2.Code,.rsl false false (y2.Ledger.map (Enc.cs false))],bx b1 [.int .i64 y1.2.2.Kind,.int .i64 y1.2.2.View,.int .i64 y1.2.2.From,.int .i64 y1.2.2.Slot,.int .i64 y1.2.2.Value,.rsl false false (y1.2.2.Certs.map (Enc.cs false)),.rsl false false (y1.2.2.Refs.map (Enc.cs false))]]) 0 rr ?_ ?_ ?_
    ·intro s1
     unfold s3_0 ms3_0
     refine q_p fr<|q_ld 1 rfl rfl<|q_len<|q_p fr<|q_i ?_ ?_
     ·refine q_cu (A:=fun (s:Bool×Int)=>[.bool s.1,.int .i64 s.2]) (B:=fun s=>[bx b3 [.int .i64 y4.Code,.rsl false false (y4.Ledger.map (Enc.cs false))],bx b2 [.int .i64 y2.Code,.rsl false false (y2.Ledger.map (Enc.cs false))],bx b1 [.int .i64 y1.2.2.Kind,.int .i64 y1.2.2.View,.int .i64 y1.2.2.From,.int .i64 y1.2.2.Slot,.int .i64 y1.2.2.Value,.rsl false false (y1.2.2.Certs.map (Enc.cs false)),.rsl false false (y1.2.2.Refs.map (Enc.cs false))]]) ?_ ?_ ?_ ?_
      ·refine q_cu (A:=fun (s:Int)=>[.int .i64 s]) (B:=fun s=>[bx b3 [.int .i64 y4.Code,.rsl false false (y4.Ledger.map (Enc.cs false))],bx b2 [.int .i64 y2.Code,.rsl false false (y2.Ledger.map (Enc.cs false))],bx b1 [.int .i64 y1.2.2.Kind,.int .i64 y1.2.2.View,.int .i64 y1.2.2.From,.int .i64 y1.2.2.Slot,.int .i64 y1.2.2.Value,.rsl false false (y1.2.2.Certs.map (Enc.cs false)),.rsl false false (y1.2.2.Refs.map (Enc.cs false))]]) ?_ ?_ ?_ ?_
       ·exact q_p fr<|q_ld 1 rfl rfl<|q_ix rfl fun x1 hx1=>q_p fr<|q_lda 2 rfl rfl rfl<|q_c0 (aF2 (cv_a (cvs_e (l0:=false) (x:=x1))) (cv_a (cvs_e (l0:=false) (x:=y1.2.2))) fun l0_ l1_=>w8 (by omega) l0_ x1 l1_ y1.2.2) fun y5 hy5=>q_i (q_p fr<|q_norm 0 rr)<|q_norm 0 rr
       ·intro s4
        refine q_len<|q_p fr<|q_k ?_ ?_
        ·exact q_p fr<|q_ld 1 rfl rfl<|q_ix rfl fun x2 hx2=>q_p fr<|q_ix rfl fun x3 hx3=>q_p fr<|q_c0 (aF2 (cv_a (cvs_e (l0:=false) (x:=x2))) (cv_a (cvs_e (l0:=false) (x:=x3))) fun l0_ l1_=>w8 (by omega) l0_ x2 l1_ x3) fun y6 hy6=>q_p fr<|q_i (q_lret 0 rr)<|q_norm 0 rr
        ·first | refine q_ifF1 ?_ | skip
         exact q_norm 0 rr
       ·exact fun i1 s4=>q_n (q_norm 0 rr)<|q_exit 0 rr
       ·exact fun s4=>q_lret 0 rr
      ·exact fun s5=>q_p fr<|q_norm 0 rr
      ·exact fun i2 s5=>q_exit 0 rr
      ·exact fun s5=>q_lret 0 rr
     ·exact q_exit 0 rr
    ·intro i3 s6
     refine q_n ?_ ?_
     ·refine q_p fr<|q_ld 1 rfl rfl<|q_p fr<|q_ld 2 rfl rfl<|q_c0 (aF3 (cv_p rfl) cv_r (cv_p rfl) fun l0_ l1_ l2_=>w9 (by omega) y1.1 l1_ y2.Ledger y1.2.2.From) fun y7 hy7=>q_new rfl fun b4=>q_st 0 rfl rfl rfl (by decide) rfl<|q_lda 3 rfl rfl rfl<|q_c0 (aF2 (cv_p rfl) (cv_a (cvs_e (l0:=false) (x:=y1.2.2))) fun l0_ l1_=>w10 (by omega) y1.1 l1_ y1.2.2) fun y8 hy8=>q_new rfl fun b5=>q_st 0 rfl rfl rfl (by decide) rfl<|q_cu (A:=fun (s:Bool)=>[.bool s]) (B:=fun s=>[bx b5 [.int .i64 y8.Code,encS y8.Text],bx b4 [.int .i64 y7.Code,.rsl false false (y7.List.map (Enc.cs false))],bx b3 [.int .i64 y4.Code,.rsl false false (y4.Ledger.map (Enc.cs false))],bx b2 [.int .i64 y2.Code,.rsl false false (y2.Ledger.map (Enc.cs false))],bx b1 [.int .i64 y1.2.2.Kind,.int .i64 y1.2.2.View,.int .i64 y1.2.2.From,.int .i64 y1.2.2.Slot,.int .i64 y1.2.2.Value,.rsl false false (y1.2.2.Certs.map (Enc.cs false)),.rsl false false (y1.2.2.Refs.map (Enc.cs false))]]) ?_ ?_ ?_ ?_
      ·exact q_p fr<|q_k (q_p fr<|q_ld 3 rfl rfl<|q_c0 (aF2 (cv_p rfl) cv_r fun l0_ l1_=>w11 (by omega) y1.1 l1_ y2.Ledger) fun y9 hy9=>q_p fr<|q_k (q_p fr<|q_ld 2 rfl rfl<|q_len<|q_p fr<|q_ld 3 rfl rfl<|q_len<|q_p fr<|q_k (q_p fr<|q_ld 1 rfl rfl<|q_p fr<|q_k (q_p fr<|q_ld 1 rfl rfl<|q_len<|q_p fr<|q_k (q_p fr<|q_ld 0 rfl rfl<|q_p fr<|q_k (q_p fr<|q_ld 0 rfl rfl<|q_lda 4 rfl rfl rfl<|q_c0 (aF2 (cv_p rfl) (cv_a (cvs_e (l0:=false) (x:=y1.2.2))) fun l0_ l1_=>w12 (by omega) y1.1 l1_ y1.2.2) fun y10 hy10=>q_p fr<|q_p (fun _=>seq_eql2)<|q_k (q_lda 4 rfl rfl rfl<|q_c0 (aF2 (cv_p rfl) (cv_a (cvs_e (l0:=false) (x:=y1.2.2))) fun l0_ l1_=>w13 (by omega) y1.1 l1_ y1.2.2) fun y11 hy11=>q_p fr<|q_k (q_p fr<|q_ld 3 rfl rfl<|q_len<|q_len<|q_p fr<|q_p fr<|q_norm 0 rr)<|q_norm 0 rr)<|q_norm 0 rr)<|q_norm 0 rr)<|q_norm 0 rr)<|q_norm 0 rr)<|q_norm 0 rr)<|q_norm 0 rr)<|q_norm 0 rr
      ·exact fun s8=>q_ret (cv_p rfl) rfl
      ·exact fun i4 s8=>q_none
      ·exact fun s8=>q_ret (cv_p rfl) rfl
     ·exact q_none
    ·exact fun s6=>q_ret (cv_p rfl) rfl
end
end Go.Proofs.YtkbdneigeghbaaaDoor
