/- Plain functions, and that the evaluator computes them. -/
import Derived.Test.YtocbahgmnandaaaDoorT
import Derived.Test.YtocbahgmnandaaaDoorRh6
import Derived.Test.YtocbahgmnandaaaDoorRh10
import Derived.Test.YtocbahgmnandaaaDoorRh11
import Derived.Test.YtocbahgmnandaaaDoorRh12
import Derived.Test.YtocbahgmnandaaaDoorRh16
namespace Go.Proofs.YtocbahgmnandaaaDoor
open Go Go.Rf
set_option linter.unusedVariables false
set_option linter.unusedSimpArgs false
noncomputable section
structure Tl1Src where
  Code:List U8
  At:Int
  deriving DecidableEq
instance:Enc Tl1Src:=(Enc.of fun x:Tl1Src=>(x.Code,x.At)).copy (fun l x=>[.rsl l false (x.Code.map (Enc.cs l)),.int .i64 x.At]) (fun _ _=>rfl) 2 1 rfl rfl
structure TReply where
  Code:Int
  Value:Int
  Path:Str
  deriving DecidableEq
instance:Enc TReply:=(Enc.of fun x:TReply=>(x.Code,x.Value,x.Path)).copy (fun l x=>[.int .i64 x.Code,.int .i64 x.Value,encS x.Path]) (fun _ _=>rfl) 3 0 rfl rfl
structure TVote where
  From:Int
  Reply:TReply
  deriving DecidableEq
instance:Enc TVote:=(Enc.of fun x:TVote=>(x.From,x.Reply)).copy (fun l x=>[.int .i64 x.From,.int .i64 x.Reply.Code,.int .i64 x.Reply.Value,encS x.Reply.Path]) (fun _ _=>rfl) 4 0 rfl rfl
structure TReplyResult where
  Code:Int
  Reply:TReply
  deriving DecidableEq
instance:Enc TReplyResult:=(Enc.of fun x:TReplyResult=>(x.Code,x.Reply)).copy (fun l x=>[.int .i64 x.Code,.int .i64 x.Reply.Code,.int .i64 x.Reply.Value,encS x.Reply.Path]) (fun _ _=>rfl) 4 0 rfl rfl
structure TIntsResult where
  Code:Int
  List:List Int
  deriving DecidableEq
instance:Enc TIntsResult:=(Enc.of fun x:TIntsResult=>(x.Code,x.List)).copy (fun l x=>[.int .i64 x.Code,.rsl l false (x.List.map (Enc.cs l))]) (fun _ _=>rfl) 2 1 rfl rfl
structure TTextResult where
  Code:Int
  Text:Str
  deriving DecidableEq
instance:Enc TTextResult:=(Enc.of fun x:TTextResult=>(x.Code,x.Text)).copy (fun l x=>[.int .i64 x.Code,encS x.Text]) (fun _ _=>rfl) 2 0 rfl rfl
theorem bd28_0_1_2 {x0 x1 x2 r:AV} (hr:(afill (plc [(0,1),(1,1),(2,1)]) [.int .i64 0,.int .i64 0,.str ⟨#[]⟩] [(0,x0),(1,x1),(2,x2)]).map AV.agg = some r):abuild Tryd.prog 28 [(0,x0),(1,x1),(2,x2)] = some r:=Eq.trans (by kernel_rfl) hr
theorem bd28_0 {x0 r:AV} (hr:(afill (plc [(0,1),(1,1),(2,1)]) [.int .i64 0,.int .i64 0,.str ⟨#[]⟩] [(0,x0)]).map AV.agg = some r):abuild Tryd.prog 28 [(0,x0)] = some r:=Eq.trans (by kernel_rfl) hr
theorem bd30_0 {x0 r:AV} (hr:(afill (plc [(0,1),(1,3)]) [.int .i64 0,.int .i64 0,.int .i64 0,.str ⟨#[]⟩] [(0,x0)]).map AV.agg = some r):abuild Tryd.prog 30 [(0,x0)] = some r:=Eq.trans (by kernel_rfl) hr
theorem bd30_1 {x1 r:AV} (hr:(afill (plc [(0,1),(1,3)]) [.int .i64 0,.int .i64 0,.int .i64 0,.str ⟨#[]⟩] [(1,x1)]).map AV.agg = some r):abuild Tryd.prog 30 [(1,x1)] = some r:=Eq.trans (by kernel_rfl) hr
theorem bd35_0 {x0 r:AV} (hr:(afill (plc [(0,1),(1,1)]) [.int .i64 0,.rsl false true []] [(0,x0)]).map AV.agg = some r):abuild Tryd.prog 35 [(0,x0)] = some r:=Eq.trans (by kernel_rfl) hr
theorem bd35_1 {x1 r:AV} (hr:(afill (plc [(0,1),(1,1)]) [.int .i64 0,.rsl false true []] [(1,x1)]).map AV.agg = some r):abuild Tryd.prog 35 [(1,x1)] = some r:=Eq.trans (by kernel_rfl) hr
theorem bd38_0 {x0 r:AV} (hr:(afill (plc [(0,1),(1,1)]) [.int .i64 0,.str ⟨#[]⟩] [(0,x0)]).map AV.agg = some r):abuild Tryd.prog 38 [(0,x0)] = some r:=Eq.trans (by kernel_rfl) hr
theorem bd38_1 {x1 r:AV} (hr:(afill (plc [(0,1),(1,1)]) [.int .i64 0,.str ⟨#[]⟩] [(1,x1)]).map AV.agg = some r):abuild Tryd.prog 38 [(1,x1)] = some r:=Eq.trans (by kernel_rfl) hr
theorem bd41_0_1 {x0 x1 r:AV} (hr:(afill (plc [(0,1),(1,3)]) [.int .i64 0,.int .i64 0,.int .i64 0,.str ⟨#[]⟩] [(0,x0),(1,x1)]).map AV.agg = some r):abuild Tryd.prog 41 [(0,x0),(1,x1)] = some r:=Eq.trans (by kernel_rfl) hr
theorem bd64_0 {x0 r:AV} (hr:(afill (plc [(0,1),(1,1)]) [.rsl false true [],.int .i64 0] [(0,x0)]).map AV.agg = some r):abuild Tryd.prog 64 [(0,x0)] = some r:=Eq.trans (by kernel_rfl) hr
theorem qb22 {n:Int} {S:St}:quietS (abuildS Tryd.prog 22 1 [(0,.int .u8 n)] S) S = some (.rsl false true [[.int .u8 n]],S):=by kernel_rfl
theorem qs24_0 {S:St}:quietS (abuildS Tryd.prog 24 0 [] S) S = some (.rsl false true [],S):=by kernel_rfl
theorem qs33_0 {S:St}:quietS (abuildS Tryd.prog 33 0 [] S) S = some (.rsl false true [],S):=by kernel_rfl
theorem qs71_2 {x0 x1:Str} {S:St}:quietS (abuildS Tryd.prog 71 2 [(0,encS x0),(1,encS x1)] S) S = some (.rsl false true [[encS x0],[encS x1]],S):=by kernel_rfl
theorem bs24_1 {x0 r:AV} {S:St} (hr:(aparts 4 0 [(0,x0)]).map (fun es=>mkS 4 es S) = some (r,S)):abuildS Tryd.prog 24 1 [(0,x0)] S = some (r,S):=Eq.trans (by kernel_rfl) hr
theorem bs33_1 {x0 r:AV} {S:St} (hr:(aparts 1 0 [(0,x0)]).map (fun es=>mkS 1 es S) = some (r,S)):abuildS Tryd.prog 33 1 [(0,x0)] S = some (r,S):=Eq.trans (by kernel_rfl) hr
theorem bs33_2 {x0 x1 r:AV} {S:St} (hr:(aparts 1 0 [(0,x0),(1,x1)]).map (fun es=>mkS 1 es S) = some (r,S)):abuildS Tryd.prog 33 2 [(0,x0),(1,x1)] S = some (r,S):=Eq.trans (by kernel_rfl) hr
theorem bs33_3 {x0 x1 x2 r:AV} {S:St} (hr:(aparts 1 0 [(0,x0),(1,x1),(2,x2)]).map (fun es=>mkS 1 es S) = some (r,S)):abuildS Tryd.prog 33 3 [(0,x0),(1,x1),(2,x2)] S = some (r,S):=Eq.trans (by kernel_rfl) hr
theorem bs33_9 {x0 x1 x2 x3 x4 x5 x6 x7 x8 r:AV} {S:St} (hr:(aparts 1 0 [(0,x0),(1,x1),(2,x2),(3,x3),(4,x4),(5,x5),(6,x6),(7,x7),(8,x8)]).map (fun es=>mkS 1 es S) = some (r,S)):abuildS Tryd.prog 33 9 [(0,x0),(1,x1),(2,x2),(3,x3),(4,x4),(5,x5),(6,x6),(7,x7),(8,x8)] S = some (r,S):=Eq.trans (by kernel_rfl) hr
theorem cv33_19 (run:FuncId→List AV→St→Option (AV×St)) (cap args:List AV) (S:St):callV (cfg NN) run 33 (.fn 19 cap) args S = call0 run 19 (args++cap) S:=by kernel_rfl
theorem cvt2_5 (n:Int) (S:St):aconv Tryd.prog 2 5 (.int .i64 n) S = some (.int .u8 (wi .u8 n)):=by kernel_rfl
theorem cvt3_70 (n:Int) (S:St):aconv Tryd.prog 3 70 (.int .i64 n) S = some (.int .u64 (wi .u64 n)):=by kernel_rfl
theorem cvt3_89 (n:Int) (S:St):aconv Tryd.prog 3 89 (.int .i64 n) S = some (.int .u64 (wi .u64 n)):=by kernel_rfl
theorem cvt5_2 (n:Int) (S:St):aconv Tryd.prog 5 2 (.int .u8 n) S = some (.int .i64 (wi .i64 n)):=by kernel_rfl
theorem cvt5_3 (n:Int) (S:St):aconv Tryd.prog 5 3 (.int .u8 n) S = some (.int .i64 (wi .i64 n)):=by kernel_rfl
theorem cvt70_3 (n:Int) (S:St):aconv Tryd.prog 70 3 (.int .u64 n) S = some (.int .i64 (wi .i64 n)):=by kernel_rfl
theorem cvt83_5 (n:Int) (S:St):aconv Tryd.prog 83 5 (.int .u64 n) S = some (.int .u8 (wi .u8 n)):=by kernel_rfl
theorem cvb22_9 (n:Int) (S:St):aconv Tryd.prog 22 9 (.rsl false true [[.int .u8 n]]) S = some (encS [UInt8.ofNat n.toNat]):=by kernel_rfl
theorem mk24 (S:St) (n:Nat) (h:(n + 1) * (40 + 1)≤70368744177664):amake Tryd.prog 24 (.int .i64 n) (.int .i64 n) S = some (.bsl S.length 0 n n true,S++[⟨4,List.replicate n [.int .i64 0,.int .i64 0,.int .i64 0,.str ⟨#[]⟩],true⟩]):=
  amake_ok (e:=41) (sz:=4) (by_:=40) (z:=[.int .i64 0,.int .i64 0,.int .i64 0,.str ⟨#[]⟩]) (z0:=[.int .i64 0,.int .i64 0,.int .i64 0,.str ⟨#[]⟩]) (by kernel_rfl) (by kernel_rfl) (by kernel_rfl) rfl rfl (by omega) rfl rfl h
theorem seql282 (x0:Int) (x1:Int) (x2:Str) (y0:Int) (y1:Int) (y2:Str):bin2 Tryd.prog .eql 28 (.agg [.int .i64 x0,.int .i64 x1,encS x2]) (.agg [.int .i64 y0,.int .i64 y1,encS y2]) = some (.bool (((x0 == y0) && ((x1 == y1) && ((x2 == y2) && true))))):=
  Eq.trans (b:=some (.bool (((x0 == y0) && ((x1 == y1) && (((ByteArray.mk x2.toArray).toList == (ByteArray.mk y2.toArray).toList) && true)))))) (by kernel_rfl) (by simp only [toList_mk])
def m4 (a0:List U8):Bool:=decide ((a0.length:Int) > 1048576)
theorem w4 {d:Nat} (hd:1≤d) (k0:Bool) (a0:List U8):Fit (R NN d 4 [.rsl k0 false (a0.map (Enc.cs k0))] []) (some (m4 a0)) PB:=by
  obtain ⟨d,rfl,g⟩:=up hd
  refine q_in (t4 NN d _) ?_
  unfold b4 m4
  exact q_len<|q_p fr<|q_ret (cv_p rfl) rfl
def m25 (a0:List U8):Option (Tl1Src):=some (⟨a0,0⟩:Tl1Src)
theorem w25 {d:Nat} (hd:1≤d) (L0:List En) (k0:Bool) (a0:List U8):Okh L0 (fun S=>R NN d 25 [.rsl k0 false (a0.map (Enc.cs k0))] S) (m25 a0) (P5 (fun (x:Nat) (t:Tl1Src)=>AV.bp x 0 0 2 1) (fun (x:Nat) (t:Tl1Src)=>bx x [.rsl k0 false (t.Code.map (Enc.cs k0)),.int .i64 t.At]::L0)):=by
  obtain ⟨d,rfl,g⟩:=up hd
  refine q_to (t25 NN d _) ?_
  unfold b25 m25
  exact q_p (fun _=>bd64_0 rfl)<|q_box (n:=2) rfl rfl (by decide) fun b1=>q_ret5 b1 0 rfl rfl
def m39 (a0:Tl1Src) (a1:Int):Option (Int×Tl1Src):=bif decide (a1 < 1) then some (0,(⟨a0.Code,wi .i64 (a0.At + 1)⟩:Tl1Src)) else bif (a0.Code.length:Int) == 0 then (remO (wi .i64 ((wi .i64 ((wi .i64 (a0.At + 1)) - 1)) * 7)) a1).bind fun q1=>some (q1,(⟨a0.Code,wi .i64 (a0.At + 1)⟩:Tl1Src)) else (remO (wi .i64 ((wi .i64 (a0.At + 1)) - 1)) (a0.Code.length:Int)).bind fun q2=>(getI a0.Code q2).bind fun x1=>(quoO .i64 (wi .i64 ((wi .i64 (a0.At + 1)) - 1)) (a0.Code.length:Int)).bind fun q3=>( bif decide (a1 > 200) then (remO (wi .i64 ((wi .i64 ((wi .i64 (a0.At + 1)) - 1)) + 1)) (a0.Code.length:Int)).bind fun q4=>(getI a0.Code q4).bind fun x2=>some (LO.norm (wi .i64 ((wi .i64 ((wi .i64 ((wi .i64 ((wi .i64 x1.v) + (wi .i64 (q3 * 37)))) * 251)) + (wi .i64 ((wi .i64 x2.v) * 13)))) + (wi .i64 ((wi .i64 (a0.At + 1)) - 1))))) else some (LO.norm (wi .i64 ((wi .i64 x1.v) + (wi .i64 (q3 * 37)))))).bind (contO (fun s2=>(remO s2 a1).bind fun q5=>some (q5,(⟨a0.Code,wi .i64 (a0.At + 1)⟩:Tl1Src))) (fun i1 s2=>none) (fun s2=>some (0,(⟨a0.Code,wi .i64 (a0.At + 1)⟩:Tl1Src))))
theorem w39 {d:Nat} (hd:1≤d) (L0:List En) (b0_:Nat) (k0:Bool) (a0:Tl1Src) (a1:Int):Okh (bx b0_ [.rsl k0 false (a0.Code.map (Enc.cs k0)),.int .i64 a0.At]::L0) (fun S=>R NN d 39 [.bp b0_ 0 0 2 1,.int .i64 a1] S) (m39 a0 a1) (P2 (fun (t:Int×Tl1Src)=>AV.int .i64 t.1) (fun (t:Int×Tl1Src)=>bx b0_ [.rsl k0 false (t.2.Code.map (Enc.cs k0)),.int .i64 t.2.At]::L0)):=by
  obtain ⟨d,rfl,g⟩:=up hd
  refine q_to (t39 NN d _ _) ?_
  unfold b39 m39
  refine q_q fr<|q_p fr<|q_ld 0 rfl rfl<|q_p fr<|q_q fr<|q_p fr<|q_st 0 rfl rfl rfl (by decide) rfl<|q_p fr<|q_i ?_ ?_
  ·exact q_ret2 0 rfl rfl
  ·refine q_q fr<|q_p fr<|q_ld 0 rfl rfl<|q_p fr<|q_q fr<|q_p fr<|q_ld 0 rfl rfl<|q_len<|q_p fr<|q_i ?_ ?_
   ·exact q_p fr<|q_rem2 fun q1 hq1=>q_ret2 0 rfl rfl
   ·refine q_q fr<|q_p fr<|q_ld 0 rfl rfl<|q_rem2 fun q2 hq2=>q_ix rfl fun x1 hx1=>q_p fr<|q_p (fun _=>cvt5_2 _ _)<|q_quo2 fun q3 hq3=>q_p fr<|q_p fr<|q_cu (A:=fun (s:Int)=>[.int .i64 s]) (B:=fun s=>bx b0_ [.rsl k0 false (a0.Code.map (Enc.cs k0)),.int .i64 (wi .i64 (a0.At + 1))]::L0) ?_ ?_ ?_ ?_
    ·exact q_p fr<|q_i (q_p fr<|q_q fr<|q_p fr<|q_ld 0 rfl rfl<|q_p fr<|q_rem2 fun q4 hq4=>q_ix rfl fun x2 hx2=>q_p fr<|q_p (fun _=>cvt5_2 _ _)<|q_p fr<|q_p fr<|q_p fr<|q_norm 0 rr)<|q_norm 0 rr
    ·exact fun s2=>q_rem2 fun q5 hq5=>q_ret2 0 rfl rfl
    ·exact fun i1 s2=>q_none
    ·exact fun s2=>q_ret2 0 rfl rfl
def m38 (a0:Tl1Src) (a1:List Int):Option (Int×Tl1Src):=(m39 a0 (a1.length:Int)).bind fun y1=>(getI a1 y1.1).bind fun x1=>some (x1,y1.2)
theorem w38 {d:Nat} (hd:2≤d) (L0:List En) (b0_:Nat) (k0:Bool) (a0:Tl1Src) (k1:Bool) (f1_:Bool) (a1:List Int):Okh (bx b0_ [.rsl k0 false (a0.Code.map (Enc.cs k0)),.int .i64 a0.At]::L0) (fun S=>R NN d 38 [.bp b0_ 0 0 2 1,.rsl k1 f1_ (a1.map (Enc.cs k1))] S) (m38 a0 a1) (P2 (fun (t:Int×Tl1Src)=>AV.int .i64 t.1) (fun (t:Int×Tl1Src)=>bx b0_ [.rsl k0 false (t.2.Code.map (Enc.cs k0)),.int .i64 t.2.At]::L0)):=by
  obtain ⟨d,rfl,g⟩:=up hd
  refine q_to (t38 NN d _ _) ?_
  unfold b38 m38
  exact q_len<|q_s (mg:=m39 a0 (a1.length:Int)) (w39 (by omega) _ _ k0 a0 (a1.length:Int)) fun y1 hy1=>q_ix rfl fun x1 hx1=>q_p fr<|q_ret2 0 rfl rfl
def m26 (a0:Tl1Src):Option (Int×Tl1Src):=(m38 a0 [1,1,1,1,2,0,1,1,3]).bind fun y1=>some (y1.1,y1.2)
theorem w26 {d:Nat} (hd:3≤d) (L0:List En) (b0_:Nat) (k0:Bool) (a0:Tl1Src):Okh (bx b0_ [.rsl k0 false (a0.Code.map (Enc.cs k0)),.int .i64 a0.At]::L0) (fun S=>R NN d 26 [.bp b0_ 0 0 2 1] S) (m26 a0) (P2 (fun (t:Int×Tl1Src)=>AV.int .i64 t.1) (fun (t:Int×Tl1Src)=>bx b0_ [.rsl k0 false (t.2.Code.map (Enc.cs k0)),.int .i64 t.2.At]::L0)):=by
  obtain ⟨d,rfl,g⟩:=up hd
  refine q_to (t26 NN d _) ?_
  unfold b26 m26
  exact q_e (fun _=>bs33_9 rfl)<|q_s (mg:=m38 a0 [1,1,1,1,2,0,1,1,3]) (w38 (by omega) _ _ k0 a0 _ _ [1,1,1,1,2,0,1,1,3]) fun y1 hy1=>q_ret2 0 rfl rfl
def m40 (a0:Tl1Src):Option (TReply×Tl1Src):=(m38 a0 [0,0,4]).bind fun y1=>(m39 y1.2 2).bind fun y2=>(m39 y2.2 2).bind fun y3=>(getI [([]:Str),([47,97]:Str)] y3.1).bind fun x1=>some ((⟨y1.1,y2.1,x1⟩:TReply),y3.2)
theorem w40 {d:Nat} (hd:3≤d) (L0:List En) (b0_:Nat) (k0:Bool) (a0:Tl1Src):Okh (bx b0_ [.rsl k0 false (a0.Code.map (Enc.cs k0)),.int .i64 a0.At]::L0) (fun S=>R NN d 40 [.bp b0_ 0 0 2 1] S) (m40 a0) (P2 (fun (t:TReply×Tl1Src)=>AV.agg (Enc.cs false t.1)) (fun (t:TReply×Tl1Src)=>bx b0_ [.rsl k0 false (t.2.Code.map (Enc.cs k0)),.int .i64 t.2.At]::L0)):=by
  obtain ⟨d,rfl,g⟩:=up hd
  refine q_to (t40 NN d _) ?_
  unfold b40 m40
  exact q_new rfl fun b1=>q_e (fun _=>bs33_3 rfl)<|q_sel 2 [1,0] (by decide) (by decide)<|q_s (mg:=m38 a0 [0,0,4]) (w38 (by omega) _ _ k0 a0 _ _ [0,0,4]) fun y1 hy1=>q_s (mg:=m39 y1.2 2) (w39 (by omega) _ _ k0 y1.2 2) fun y2 hy2=>q_q (fun _=>qs71_2)<|q_s (mg:=m39 y2.2 2) (w39 (by omega) _ _ k0 y2.2 2) fun y3 hy3=>q_ix (l:=false) (fl:=true) (xs:=([([]:Str),([47,97]:Str)]:List Str)) rfl fun x1 hx1=>q_p fr<|q_p (fun _=>bd28_0_1_2 rfl)<|q_st 1 rfl rfl rfl (by decide) rfl<|q_sel 2 [1,0] (by decide) (by decide)<|q_retm2 1 (fun S hS=>hS.lda 0 rfl rfl) rfl rfl
def ms27_0 (s1:Int×(List TVote)×(List U8)×Int):Option (LO (Int×(List TVote)×(List U8)×Int)):=bif decide (s1.1 > 0) then (m39 (⟨s1.2.2.1,s1.2.2.2⟩:Tl1Src) 4).bind fun y2=>(m40 y2.2).bind fun y3=>(appO 40 s1.2.1 [(⟨wi .i64 (1 + y2.1),y3.1⟩:TVote)]).bind fun z1=>some (LO.norm (wi .i64 (s1.1 - 1),z1,y3.2.Code,y3.2.At)) else some (LO.exit 0 (s1.1,s1.2.1,s1.2.2.1,s1.2.2.2))
def m27 (a0:Tl1Src):Option ((List TVote)×Tl1Src):=(m39 a0 8).bind fun y1=>(loopO (ms27_0) NN (y1.1,[],y1.2.Code,y1.2.At)).bind (contO (fun _=>none) (fun i1 s2=>if i1 = 0 then ( (m39 (⟨s2.2.2.1,s2.2.2.2⟩:Tl1Src) 14).bind fun y4=>bif y4.1 == 0 then (m38 y4.2 [0,8,1]).bind fun y5=>(m38 y5.2 [10,11]).bind fun y6=>(appO 40 s2.2.1 [(⟨y5.1,(⟨y6.1,0,[]⟩:TReply)⟩:TVote)]).bind fun z2=>some (LO.norm (z2,y6.2.Code,y6.2.At)) else bif y4.1 == 1 then (mkO 40 41 (⟨0,(⟨0,0,[]⟩:TReply)⟩:TVote)).bind fun z3=>some (LO.norm (z3,y4.2.Code,y4.2.At)) else some (LO.norm (s2.2.1,y4.2.Code,y4.2.At))).bind (contO (fun s4=>some (s4.1,(⟨s4.2.1,s4.2.2⟩:Tl1Src))) (fun i2 s4=>none) (fun s4=>some ([],(⟨s4.2.1,s4.2.2⟩:Tl1Src)))) else none) (fun s2=>some ([],(⟨s2.2.2.1,s2.2.2.2⟩:Tl1Src))))
theorem w27 {d:Nat} (hd:4≤d) (L0:List En) (b0_:Nat) (k0:Bool) (a0:Tl1Src):Okh (bx b0_ [.rsl k0 false (a0.Code.map (Enc.cs k0)),.int .i64 a0.At]::L0) (fun S=>R NN d 27 [.bp b0_ 0 0 2 1] S) (m27 a0) (P5 (fun (x:AV) (_:(List TVote)×Tl1Src)=>x) (fun (x:AV) (t:(List TVote)×Tl1Src)=>sl false x t.1::bx b0_ [.rsl k0 false (t.2.Code.map (Enc.cs k0)),.int .i64 t.2.At]::L0)):=by
  obtain ⟨d,rfl,g⟩:=up hd
  refine q_to (t27 NN d _) ?_
  unfold b27 m27
  refine q_q (fun _=>qs24_0)<|q_s (mg:=m39 a0 8) (w39 (by omega) _ _ k0 a0 8) fun y1 hy1=>q_nil (α:=TVote) false<|q_loop (I:=(fun (s:Int×(List TVote)×(List U8)×Int) l L=>∃ (v1:AV),l = [v1,.int .i64 s.1]∧L = sl false v1 (s.2.1:List TVote)::bx b0_ [.rsl k0 false (s.2.2.1.map (Enc.cs k0)),.int .i64 s.2.2.2]::L0)) 0 ⟨(.rsl false true []),rfl,rfl⟩ ?_ ?_ ?_
  ·rintro s1 _ _ ⟨v1,rfl,rfl⟩
   unfold s27_0 ms27_0
   exact q_p fr<|q_i (q_sel 2 [1,0] (by decide) (by decide)<|q_s (mg:=m39 (⟨s1.2.2.1,s1.2.2.2⟩:Tl1Src) 4) (w39 (by omega) _ _ k0 (⟨s1.2.2.1,s1.2.2.2⟩:Tl1Src) 4) fun y2 hy2=>q_p fr<|q_s (mg:=m40 y2.2) (w40 (by omega) _ _ k0 y2.2) fun y3 hy3=>q_p (fun _=>bd41_0_1 rfl)<|q_e (fun _=>bs24_1 rfl)<|q_app (ys:=[(⟨wi .i64 (1 + y2.1),y3.1⟩:TVote)]) 1 rfl rfl (fun _ _=>rfl) fun v2 z1 hz1=>q_p fr<|q_sel 2 [1,0] (by decide) (by decide)<|q_norm 0 ⟨v2,rfl,rfl⟩)<|q_exit 0 ⟨v1,rfl,rfl⟩
  ·rintro i1 s2 _ _ ⟨v3,rfl,rfl⟩
   refine q_n ?_ ?_
   ·refine q_cut (I:=(fun (s:(List TVote)×(List U8)×Int) l L=>∃ (v4:AV),l = [v4]∧L = sl false v4 (s.1:List TVote)::bx b0_ [.rsl k0 false (s.2.1.map (Enc.cs k0)),.int .i64 s.2.2]::L0)) ?_ ?_ ?_ ?_
    ·exact q_sel 2 [1,0] (by decide) (by decide)<|q_s (mg:=m39 (⟨s2.2.2.1,s2.2.2.2⟩:Tl1Src) 14) (w39 (by omega) _ _ k0 (⟨s2.2.2.1,s2.2.2.2⟩:Tl1Src) 14) fun y4 hy4=>q_p fr<|q_i (q_e (fun _=>bs33_3 rfl)<|q_s (mg:=m38 y4.2 [0,8,1]) (w38 (by omega) _ _ k0 y4.2 _ _ [0,8,1]) fun y5 hy5=>q_e (fun _=>bs33_2 rfl)<|q_s (mg:=m38 y5.2 [10,11]) (w38 (by omega) _ _ k0 y5.2 _ _ [10,11]) fun y6 hy6=>q_p (fun _=>bd28_0 rfl)<|q_p (fun _=>bd41_0_1 rfl)<|q_e (fun _=>bs24_1 rfl)<|q_app (ys:=[(⟨y5.1,(⟨y6.1,0,[]⟩:TReply)⟩:TVote)]) 1 rfl rfl (fun _ _=>rfl) fun v4 z2 hz2=>q_sel 2 [1,0] (by decide) (by decide)<|q_norm 0 ⟨v4,rfl,rfl⟩)<|q_p fr<|q_i (q_mk (z:=(⟨0,(⟨0,0,[]⟩:TReply)⟩:TVote)) mk24 fun v5 z3 hz3=>q_sel 3 [0,2,1] (by decide) (by decide)<|q_sel 3 [1,0,2] (by decide) (by decide)<|q_norm 1 ⟨v5,rfl,rfl⟩)<|q_sel 2 [1,0] (by decide) (by decide)<|q_norm 0 ⟨v3,rfl,rfl⟩
    ·rintro s4 _ _ ⟨v6,rfl,rfl⟩
     exact q_ret5 (v6) 0 rfl rfl
    ·rintro i2 s4 _ _ ⟨v7,rfl,rfl⟩
     exact q_none
    ·rintro s4 _ _ ⟨v8,rfl,rfl⟩
     exact q_nil (α:=TVote) false<|q_sel 3 [1,0,2] (by decide) (by decide)<|q_ret5 (.rsl false true []) 1 rfl rfl
   ·exact q_none
  ·rintro s2 _ _ ⟨v9,rfl,rfl⟩
   exact q_nil (α:=TVote) false<|q_sel 3 [1,0,2] (by decide) (by decide)<|q_ret5 (.rsl false true []) 1 rfl rfl
def m13 (a0:List U8):Option (Int×(List TVote)):=(m25 a0).bind fun y1=>(m26 y1).bind fun y2=>(m27 y2.2).bind fun y3=>some (y2.1,y3.1)
theorem w13 {d:Nat} (hd:5≤d) (k0:Bool) (a0:List U8):Fit (R NN d 13 [.rsl k0 false (a0.map (Enc.cs k0))] []) (m13 a0) (P0 (fun (t:Int×(List TVote))=>AV.tup [.int .i64 t.1,.rsl false false (t.2.map (Enc.cs false))])):=by
  obtain ⟨d,rfl,g⟩:=up hd
  refine q_in (t13 NN d _) ?_
  unfold b13 m13
  exact q_s5 (mg:=m25 a0) (fun S=>rfl) (w25 (by omega) _ k0 a0) fun y1 hy1 b1=>q_s (mg:=m26 y1) (w26 (by omega) _ _ k0 y1) fun y2 hy2=>q_s5 (mg:=m27 y2.2) (fun S=>rfl) (w27 (by omega) _ _ k0 y2.2) fun y3 hy3 v1=>q_ret (cv_t (cvs_cons (cv_p rfl) (cvs_cons (cv_o 0 rfl) cvs_nil))) rfl
def m5 (a0:List U8):Option (Int×(List TVote)):=(m13 a0).bind fun y1=>some (y1.1,y1.2)
theorem w5 {d:Nat} (hd:6≤d) (k0:Bool) (a0:List U8):Fit (R NN d 5 [.rsl k0 false (a0.map (Enc.cs k0))] []) (m5 a0) (P0 (fun (t:Int×(List TVote))=>AV.tup [.int .i64 t.1,.rsl false false (t.2.map (Enc.cs false))])):=by
  obtain ⟨d,rfl,g⟩:=up hd
  refine q_in (t5 NN d _) ?_
  unfold b5 m5
  exact q_c0 (aF1 cv_r fun l0_=>w13 (by omega) l0_ a0) fun y1 hy1=>q_q fr<|q_q fr<|q_ret (cv_t (cvs_cons (cv_p rfl) (cvs_cons cv_r cvs_nil))) rfl
def m32 (a0:Int) (a1:Int) (a2:Int):Bool:=bif decide (a1≤a0) then decide (a0≤a2) else false
theorem w32 {d:Nat} (hd:1≤d) (a0:Int) (a1:Int) (a2:Int):Fit (R NN d 32 [.int .i64 a0,.int .i64 a1,.int .i64 a2] []) (some (m32 a0 a1 a2)) PB:=by
  obtain ⟨d,rfl,g⟩:=up hd
  refine q_in (t32 NN d _ _ _) ?_
  unfold b32 m32
  exact q_p fr<|q_gTt (fun h1=>q_p fr<|q_ret (cv_p rfl) rfl) fun h1=>q_ret (cv_p rfl) rfl
def m17 (a0:Int):Bool:=(m32 a0 1 2)
theorem w17 {d:Nat} (hd:2≤d) (a0:Int):Fit (R NN d 17 [.int .i64 a0] []) (some (m17 a0)) PB:=by
  obtain ⟨d,rfl,g⟩:=up hd
  refine q_in (t17 NN d _) ?_
  unfold b17 m17
  exact q_c0t (aF3 (cv_p rfl) (cv_p rfl) (cv_p rfl) fun l0_ l1_ l2_=>w32 (by omega) a0 1 2)<|q_ret (cv_p rfl) rfl
def ms33_0 (a0:List TVote) (a1:TVote→Option (Bool)) (s1:Int×Int):Option (LO (Int×Int)):=bif decide (s1.2 < (a0.length:Int)) then (getI a0 s1.2).bind fun x1=>(a1 x1).bind fun y1=>bif y1 then some (LO.ret (s1.2,s1.2)) else some (LO.norm (s1.1,wi .i64 (s1.2 + 1))) else some (LO.exit 0 (s1.1,s1.2))
def m33 (a0:List TVote) (a1:TVote→Option (Bool)):Option (Int):=(loopO (ms33_0 a0 a1) NN (0,0)).bind (contO (fun _=>none) (fun i1 s2=>if i1 = 0 then some (-1) else none) (fun s2=>some s2.1))
theorem w33 {Dc:Nat} {d:Nat} (hd:Dc + 1≤d) (k0:Bool) (a0:List TVote) (c1:Bool→AV) (hc1:∀ l,CV 8 [] false (c1 l) c1) (a1:TVote→Option (Bool)) (tc1:∀ (d:Nat),Dc≤d→∀ (l:Bool) (q0:Bool) (x0:TVote) (S:St) (t:Bool),a1 x0 = some t→callV (cfg NN) (R NN d) 33 (c1 l) [.agg (Enc.cs q0 x0)] S = some ((fun (t:Bool)=>AV.bool t) t,S)) (k1:Bool):Fit (R NN d 33 [.rsl k0 false (a0.map (Enc.cs k0)),c1 k1] []) (m33 a0 a1) PI:=by
  obtain ⟨d,rfl,g⟩:=up hd
  refine q_in (t33 NN d _ _) ?_
  unfold b33 m33
  refine q_len<|q_lp (A:=fun (s:Int×Int)=>[.int .i64 s.1,.int .i64 s.2]) (B:=fun s=>[]) 0 rr ?_ ?_ ?_
  ·intro s1
   unfold s33_0 ms33_0
   exact q_p fr<|q_i (q_ix rfl fun x1 hx1=>q_p fr<|q_cv (mg:=a1 x1) (E:=(fun (t:Bool)=>AV.bool t)) (fun S t ht=>tc1 d (by omega) k1 k0 x1 S t ht) fun y1 hy1=>q_i (q_lret 0 rr)<|q_p fr<|q_norm 0 rr)<|q_exit 0 rr
  ·exact fun i1 s2=>q_n (q_ret (cv_p rfl) rfl)<|q_none
  ·exact fun s2=>q_ret (cv_p rfl) rfl
def m18 (a0:List TVote) (a1:TVote→Option (Bool)):Option (Bool):=(m33 a0 a1).bind fun y1=>some (decide (y1 ≥ 0))
theorem w18 {Dc:Nat} {d:Nat} (hd:Dc + 2≤d) (k0:Bool) (a0:List TVote) (c1:Bool→AV) (hc1:∀ l,CV 8 [] false (c1 l) c1) (a1:TVote→Option (Bool)) (tc1:∀ (d:Nat),Dc≤d→∀ (l:Bool) (q0:Bool) (x0:TVote) (S:St) (t:Bool),a1 x0 = some t→callV (cfg NN) (R NN d) 33 (c1 l) [.agg (Enc.cs q0 x0)] S = some ((fun (t:Bool)=>AV.bool t) t,S)) (k1:Bool):Fit (R NN d 18 [.rsl k0 false (a0.map (Enc.cs k0)),c1 k1] []) (m18 a0 a1) PB:=by
  obtain ⟨d,rfl,g⟩:=up hd
  refine q_in (t18 NN d _ _) ?_
  unfold b18 m18
  exact q_c0 (aF2 cv_r (CV.any (hc1 k1)) fun l0_ l1_=>w33 (by omega) l0_ a0 c1 hc1 a1 tc1 l1_) fun y1 hy1=>q_p fr<|q_ret (cv_p rfl) rfl
def m34 (a0:Int):Int:=wi .i64 ((wi .i64 (3 * a0)) + 1)
theorem w34 {d:Nat} (hd:1≤d) (a0:Int):Fit (R NN d 34 [.int .i64 a0] []) (some (m34 a0)) PI:=by
  obtain ⟨d,rfl,g⟩:=up hd
  refine q_in (t34 NN d _) ?_
  unfold b34 m34
  exact q_p fr<|q_p fr<|q_ret (cv_p rfl) rfl
def m20 (a0:Int) (a1:Int):Bool:=(m32 a1 1 (m34 a0))
theorem w20 {d:Nat} (hd:2≤d) (a0:Int) (a1:Int):Fit (R NN d 20 [.int .i64 a0,.int .i64 a1] []) (some (m20 a0 a1)) PB:=by
  obtain ⟨d,rfl,g⟩:=up hd
  refine q_in (t20 NN d _ _) ?_
  unfold b20 m20
  exact q_c0t (aF1 (cv_p rfl) fun l0_=>w34 (by omega) a0)<|q_c0t (aF3 (cv_p rfl) (cv_p rfl) (cv_p rfl) fun l0_ l1_ l2_=>w32 (by omega) a1 1 (m34 a0))<|q_ret (cv_p rfl) rfl
def m21 (a0:TReply):Option (Bool):=( bif (m32 a0.Code 0 10) then bif (m32 a0.Value (-1) 9999) then some (LO.norm (decide ((a0.Path.length:Int)≤24))) else some (LO.norm false) else some (LO.norm false)).bind (contO (fun s2=>some s2) (fun i1 s2=>none) (fun s2=>some s2))
theorem w21 {d:Nat} (hd:2≤d) (k0:Bool) (a0:TReply):Fit (R NN d 21 [.agg (Enc.cs k0 a0)] []) (m21 a0) PB:=by
  obtain ⟨d,rfl,g⟩:=up hd
  refine q_in (t21 NN d _) ?_
  unfold b21 m21
  refine q_box (n:=3) rfl rfl (by decide) fun b1=>q_cu (A:=fun (s:Bool)=>[.bool s]) (B:=fun s=>[bx b1 [.int .i64 a0.Code,.int .i64 a0.Value,encS a0.Path]]) ?_ ?_ ?_ ?_
  ·exact q_p fr<|q_ld 0 rfl rfl<|q_c0t (aF3 (cv_p rfl) (cv_p rfl) (cv_p rfl) fun l0_ l1_ l2_=>w32 (by omega) a0.Code 0 10)<|q_k (q_p fr<|q_ld 0 rfl rfl<|q_c0t (aF3 (cv_p rfl) (cv_p rfl) (cv_p rfl) fun l0_ l1_ l2_=>w32 (by omega) a0.Value (-1) 9999)<|q_k (q_p fr<|q_ld 0 rfl rfl<|q_slen<|q_p fr<|q_norm 0 rr)<|q_norm 0 rr)<|q_norm 0 rr
  ·exact fun s2=>q_ret (cv_p rfl) rfl
  ·exact fun i1 s2=>q_none
  ·exact fun s2=>q_ret (cv_p rfl) rfl
def m19 (a0:TVote) (a1:Int):Option (Bool):=bif !(m20 a1 a0.From) then some true else (m21 a0.Reply).bind fun y1=>some (!y1)
theorem w19 {d:Nat} (hd:3≤d) (k0:Bool) (a0:TVote) (k1:Bool) (a1:Int):Fit (R NN d 19 [.agg (Enc.cs k0 a0),.rp k1 (Enc.cs k1 a1)] []) (m19 a0 a1) PB:=by
  obtain ⟨d,rfl,g⟩:=up hd
  refine q_in (t19 NN d _ _) ?_
  unfold b19 m19
  exact q_box (n:=4) rfl rfl (by decide) fun b1=>q_p fr<|q_p fr<|q_ld 0 rfl rfl<|q_c0t (aF2 (cv_p rfl) (cv_p rfl) fun l0_ l1_=>w20 (by omega) a1 a0.From)<|q_p fr<|q_j (q_ret (cv_p rfl) rfl)<|q_p fr<|q_lda 0 rfl rfl rfl<|q_c0 (aF1 (cv_a (cvs_e (l0:=false) (x:=a0.Reply))) fun l0_=>w21 (by omega) l0_ a0.Reply) fun y1 hy1=>q_p fr<|q_ret (cv_p rfl) rfl
def m8 (a0:Int) (a1:List TVote):Option (Int):=bif !(m17 a0) then some 3 else bif decide ((a1.length:Int) > 40) then some 2 else (m18 a1 (fun x0_=>m19 x0_ a0)).bind fun y1=>bif y1 then some 3 else some 0
theorem w8 {d:Nat} (hd:6≤d) (a0:Int) (k1:Bool) (a1:List TVote):Fit (R NN d 8 [.int .i64 a0,.rsl k1 false (a1.map (Enc.cs k1))] []) (m8 a0 a1) PI:=by
  obtain ⟨d,rfl,g⟩:=up hd
  refine q_in (t8 NN d _ _) ?_
  unfold b8 m8
  exact q_box (n:=1) rfl rfl (by decide) fun b1=>q_ld 0 rfl rfl<|q_c0t (aF1 (cv_p rfl) fun l0_=>w17 (by omega) a0)<|q_p fr<|q_i (q_ret (cv_p rfl) rfl)<|q_len<|q_p fr<|q_i (q_ret (cv_p rfl) rfl)<|q_c0 (aF2 cv_r (cv_f (cvs_cons (cv_b 0 rfl (cvs_e (l0:=false) (x:=a0))) cvs_nil)) fun l0_ l1_=>w18 (Dc:=3) (by omega) l0_ a1 (fun l=>.fn 19 [.rp l (Enc.cs l a0)]) (fun l=>cv_f (cvs_cons (cv_rp (cvs_e (l0:=l) (x:=a0)) (fun _ _ _ h=>Enc.frz _ a0 _ _ _ h)) cvs_nil)) (fun x0_=>m19 x0_ a0) (fun d hd l q0_ x0_ S t ht=>(cv33_19 _ _ _ _).trans (call0_of (E:=(fun (t:Bool)=>AV.bool t)) (mg:=m19 x0_ a0) (args2 (M:=fun a=>Fit (R NN d 19 a []) _ _) (cv_a (cvs_e (l0:=q0_) (x:=x0_))) (cv_rp (cvs_e (l0:=l) (x:=a0)) (fun _ _ _ h=>Enc.frz _ a0 _ _ _ h)) HP.nil fun u0_ v0_=>w19 hd u0_ x0_ v0_ a0) ht)) l1_) fun y1 hy1=>q_i (q_ret (cv_p rfl) rfl)<|q_ret (cv_p rfl) rfl
def m64 (a0:Int):Bool:=a0 != a0
theorem w64 {d:Nat} (hd:1≤d) (a0:Int):Fit (R NN d 64 [.int .i64 a0] []) (some (m64 a0)) PB:=by
  obtain ⟨d,rfl,g⟩:=up hd
  refine q_in (t64 NN d _) ?_
  unfold b64 m64
  exact q_p fr<|q_ret (cv_p rfl) rfl
def m50 (a0:Int) (a1:Int):Option (Bool):=( bif (m64 a0) then bif !(m64 a1) then some (LO.norm true) else some (LO.norm (decide (a0 < a1))) else some (LO.norm (decide (a0 < a1)))).bind (contO (fun s2=>some s2) (fun i1 s2=>none) (fun s2=>some s2))
theorem w50 {d:Nat} (hd:2≤d) (a0:Int) (a1:Int):Fit (R NN d 50 [.int .i64 a0,.int .i64 a1] []) (m50 a0 a1) PB:=by
  obtain ⟨d,rfl,g⟩:=up hd
  refine q_in (t50 NN d _ _) ?_
  unfold b50 m50
  refine q_cu (A:=fun (s:Bool)=>[.bool s]) (B:=fun s=>[]) ?_ ?_ ?_ ?_
  ·exact q_c0t (aF1 (cv_p rfl) fun l0_=>w64 (by omega) a0)<|q_k (q_c0t (aF1 (cv_p rfl) fun l0_=>w64 (by omega) a1)<|q_p fr<|q_j (q_norm 0 rr)<|q_p fr<|q_norm 0 rr)<|q_p fr<|q_norm 0 rr
  ·exact fun s2=>q_ret (cv_p rfl) rfl
  ·exact fun i1 s2=>q_none
  ·exact fun s2=>q_ret (cv_p rfl) rfl
def ms44_0 (a1:Int) (s2:Int×(List Int)):Option (LO (Int×(List Int))):=( ( bif decide (s2.1 > a1) then (getI s2.2 s2.1).bind fun x1=>(getI s2.2 (wi .i64 (s2.1 - 1))).bind fun x2=>(m50 x1 x2).bind fun y1=>some (LO.norm y1) else some (LO.norm false)).bind (contO (fun s5=>bif s5 then some (LO.norm s5) else some (LO.exit 2 s5)) (fun i1 s5=>some (LO.exit i1 s5)) (fun s5=>some (LO.ret s5)))).bind (contO (fun s6=>(getI s2.2 (wi .i64 (s2.1 - 1))).bind fun x3=>(getI s2.2 s2.1).bind fun x4=>(getI s2.2 s2.1).bind fun x5=>(getI (s2.2.set (Int.toNat s2.1) x3) (wi .i64 (s2.1 - 1))).bind fun x6=>some (LO.norm (wi .i64 (s2.1 - 1),(s2.2.set (Int.toNat s2.1) x3).set (Int.toNat (wi .i64 (s2.1 - 1))) x4))) (fun i2 s6=>some (LO.exit i2 (s2.1,s2.2))) (fun s6=>some (LO.ret (s2.1,s2.2))))
def ms44_1 (a1:Int) (a2:Int) (s1:Int×(List Int)):Option (LO (Int×(List Int))):=bif decide (s1.1 < a2) then (loopO (ms44_0 a1) NN (s1.1,s1.2)).bind (contO (fun _=>none) (fun i3 s7=>if i3 = 2 then some (LO.norm (wi .i64 (s1.1 + 1),s7.2)) else if i3 = 1 then some (LO.norm (wi .i64 (s1.1 + 1),s7.2)) else some (LO.exit i3 (s1.1,s7.2))) (fun s7=>some (LO.ret (s1.1,s7.2)))) else some (LO.exit 0 (s1.1,s1.2))
def m44 (a0:List Int) (a1:Int) (a2:Int):Option ((List Int)):=(loopO (ms44_1 a1 a2) NN (wi .i64 (a1 + 1),a0)).bind (contO (fun _=>none) (fun i4 s8=>if i4 = 0 then some s8.2 else none) (fun s8=>some s8.2))
theorem w44 {d:Nat} (hd:3≤d) (L0:List En) (v0_:AV) (a0:List Int) (a1:Int) (a2:Int):Okh (sl false v0_ (a0:List Int)::L0) (fun S=>R NN d 44 [v0_,.int .i64 a1,.int .i64 a2] S) (m44 a0 a1 a2) (P2 (fun (t:(List Int))=>und) (fun (t:(List Int))=>sl false v0_ t::L0)):=by
  obtain ⟨d,rfl,g⟩:=up hd
  refine q_to (t44 NN d _ _ _) ?_
  unfold b44 m44
  refine q_p fr<|q_lp (A:=fun (s:Int×(List Int))=>[.int .i64 s.1]) (B:=fun s=>sl false v0_ (s.2:List Int)::L0) 0 rr ?_ ?_ ?_
  ·intro s1
   unfold s44_1 ms44_1
   refine q_p fr<|q_i ?_ ?_
   ·refine q_lp (A:=fun (s:Int×(List Int))=>[.int .i64 s.1]) (B:=fun s=>sl false v0_ (s.2:List Int)::L0) 0 rr ?_ ?_ ?_
    ·intro s2
     unfold s44_0 ms44_0
     refine q_cu (A:=fun (s:Bool)=>[.bool s]) (B:=fun s=>sl false v0_ (s2.2:List Int)::L0) ?_ ?_ ?_ ?_
     ·refine q_cu (A:=fun (s:Bool)=>[.bool s]) (B:=fun s=>sl false v0_ (s2.2:List Int)::L0) ?_ ?_ ?_ ?_
      ·exact q_p fr<|q_k (q_ixo 0 rfl rfl fun x1 hx1=>q_ldo 0 rfl hx1 rfl<|q_p fr<|q_ixo 0 rfl rfl fun x2 hx2=>q_ldo 0 rfl hx2 rfl<|q_c0 (aF2 (cv_p rfl) (cv_p rfl) fun l0_ l1_=>w50 (by omega) x1 x2) fun y1 hy1=>q_norm 0 rr)<|q_norm 0 rr
      ·exact fun s5=>q_i (q_norm 0 rr)<|q_exit 0 rr
      ·exact fun i1 s5=>q_exit 0 rr
      ·exact fun s5=>q_lret 0 rr
     ·exact fun s6=>q_p fr<|q_p fr<|q_ixo 0 rfl rfl fun x3 hx3=>q_ldo 0 rfl hx3 rfl<|q_ixo 0 rfl rfl fun x4 hx4=>q_ldo 0 rfl hx4 rfl<|q_ixo 0 rfl rfl fun x5 hx5=>q_stoe (y:=x3) 0 rfl rfl hx5 rfl (by decide)<|q_ixo 0 rfl rfl fun x6 hx6=>q_stoe (y:=x4) 0 rfl rfl hx6 rfl (by decide)<|q_p fr<|q_norm 0 rr
     ·exact fun i2 s6=>q_exit 0 rr
     ·exact fun s6=>q_lret 0 rr
    ·exact fun i3 s7=>q_n (q_p fr<|q_norm 0 rr)<|q_n (q_p fr<|q_norm 0 rr)<|q_exit 0 rr
    ·exact fun s7=>q_lret 0 rr
   ·exact q_exit 0 rr
  ·exact fun i4 s8=>q_n (q_ret2 0 rfl rfl)<|q_none
  ·exact fun s8=>q_ret2 0 rfl rfl
def ms59_0 (a2:Int) (a3:Int) (s1:Int×(List Int)):Option (LO (Int×(List Int))):=bif decide ((wi .i64 ((wi .i64 (2 * s1.1)) + 1)) ≥ a2) then some (LO.exit 0 (s1.1,s1.2)) else ( bif decide ((wi .i64 ((wi .i64 ((wi .i64 (2 * s1.1)) + 1)) + 1)) < a2) then (getI s1.2 (wi .i64 (a3 + (wi .i64 ((wi .i64 (2 * s1.1)) + 1))))).bind fun x1=>(getI s1.2 (wi .i64 ((wi .i64 (a3 + (wi .i64 ((wi .i64 (2 * s1.1)) + 1)))) + 1))).bind fun x2=>(m50 x1 x2).bind fun y1=>bif y1 then some (LO.norm (wi .i64 ((wi .i64 ((wi .i64 (2 * s1.1)) + 1)) + 1))) else some (LO.norm (wi .i64 ((wi .i64 (2 * s1.1)) + 1))) else some (LO.norm (wi .i64 ((wi .i64 (2 * s1.1)) + 1)))).bind (contO (fun s3=>(getI s1.2 (wi .i64 (a3 + s1.1))).bind fun x3=>(getI s1.2 (wi .i64 (a3 + s3))).bind fun x4=>(m50 x3 x4).bind fun y2=>bif !y2 then some (LO.ret (s1.1,s1.2)) else (getI s1.2 (wi .i64 (a3 + s3))).bind fun x5=>(getI s1.2 (wi .i64 (a3 + s1.1))).bind fun x6=>(getI s1.2 (wi .i64 (a3 + s1.1))).bind fun x7=>(getI (s1.2.set (Int.toNat (wi .i64 (a3 + s1.1))) x5) (wi .i64 (a3 + s3))).bind fun x8=>some (LO.norm (s3,(s1.2.set (Int.toNat (wi .i64 (a3 + s1.1))) x5).set (Int.toNat (wi .i64 (a3 + s3))) x6))) (fun i1 s3=>if i1 = 1 then some (LO.norm (s1.1,s1.2)) else some (LO.exit i1 (s1.1,s1.2))) (fun s3=>some (LO.ret (s1.1,s1.2))))
def m59 (a0:List Int) (a1:Int) (a2:Int) (a3:Int):Option ((List Int)):=(loopO (ms59_0 a2 a3) NN (a1,a0)).bind (contO (fun _=>none) (fun i2 s4=>if i2 = 0 then some s4.2 else none) (fun s4=>some s4.2))
theorem w59 {d:Nat} (hd:3≤d) (L0:List En) (v0_:AV) (a0:List Int) (a1:Int) (a2:Int) (a3:Int):Okh (sl false v0_ (a0:List Int)::L0) (fun S=>R NN d 59 [v0_,.int .i64 a1,.int .i64 a2,.int .i64 a3] S) (m59 a0 a1 a2 a3) (P2 (fun (t:(List Int))=>und) (fun (t:(List Int))=>sl false v0_ t::L0)):=by
  obtain ⟨d,rfl,g⟩:=up hd
  refine q_to (t59 NN d _ _ _ _) ?_
  unfold b59 m59
  refine q_lp (A:=fun (s:Int×(List Int))=>[.int .i64 s.1]) (B:=fun s=>sl false v0_ (s.2:List Int)::L0) 0 rr ?_ ?_ ?_
  ·intro s1
   unfold s59_0 ms59_0
   refine q_p fr<|q_p fr<|q_p fr<|q_i ?_ ?_
   ·exact q_exit 0 rr
   ·refine q_cu (A:=fun (s:Int)=>[.int .i64 s]) (B:=fun s=>sl false v0_ (s1.2:List Int)::L0) ?_ ?_ ?_ ?_
    ·refine q_p fr<|q_p fr<|q_k ?_ ?_
     ·exact q_p fr<|q_ixo 0 rfl rfl fun x1 hx1=>q_ldo 0 rfl hx1 rfl<|q_p fr<|q_p fr<|q_ixo 0 rfl rfl fun x2 hx2=>q_ldo 0 rfl hx2 rfl<|q_c0 (aF2 (cv_p rfl) (cv_p rfl) fun l0_ l1_=>w50 (by omega) x1 x2) fun y1 hy1=>q_i (q_p fr<|q_norm 0 rr)<|q_norm 0 rr
     ·first | refine q_ifF1 ?_ | skip
      exact q_norm 0 rr
    ·exact fun s3=>q_p fr<|q_ixo 0 rfl rfl fun x3 hx3=>q_ldo 0 rfl hx3 rfl<|q_p fr<|q_ixo 0 rfl rfl fun x4 hx4=>q_ldo 0 rfl hx4 rfl<|q_c0 (aF2 (cv_p rfl) (cv_p rfl) fun l0_ l1_=>w50 (by omega) x3 x4) fun y2 hy2=>q_p fr<|q_i (q_lret 0 rr)<|q_p fr<|q_p fr<|q_p fr<|q_ixo 0 rfl rfl fun x5 hx5=>q_ldo 0 rfl hx5 rfl<|q_p fr<|q_ixo 0 rfl rfl fun x6 hx6=>q_ldo 0 rfl hx6 rfl<|q_ixo 0 rfl rfl fun x7 hx7=>q_stoe (y:=x5) 0 rfl rfl hx7 rfl (by decide)<|q_ixo 0 rfl rfl fun x8 hx8=>q_stoe (y:=x6) 0 rfl rfl hx8 rfl (by decide)<|q_norm 0 rr
    ·exact fun i1 s3=>q_n (q_norm 0 rr)<|q_exit 0 rr
    ·exact fun s3=>q_lret 0 rr
  ·exact fun i2 s4=>q_n (q_ret2 0 rfl rfl)<|q_none
  ·exact fun s4=>q_ret2 0 rfl rfl
def ms45_0 (a1:Int) (a2:Int) (s1:Int×(List Int)):Option (LO (Int×(List Int))):=bif decide (s1.1 ≥ 0) then (m59 s1.2 s1.1 (wi .i64 (a2 - a1)) a1).bind fun y1=>some (LO.norm (wi .i64 (s1.1 - 1),y1)) else some (LO.exit 0 (s1.1,s1.2))
def ms45_1 (a1:Int) (s3:Int×(List Int)):Option (LO (Int×(List Int))):=bif decide (s3.1 ≥ 0) then (getI s3.2 (wi .i64 (a1 + s3.1))).bind fun x1=>(getI s3.2 a1).bind fun x2=>(getI s3.2 a1).bind fun x3=>(getI (s3.2.set (Int.toNat a1) x1) (wi .i64 (a1 + s3.1))).bind fun x4=>(m59 ((s3.2.set (Int.toNat a1) x1).set (Int.toNat (wi .i64 (a1 + s3.1))) x2) 0 s3.1 a1).bind fun y2=>some (LO.norm (wi .i64 (s3.1 - 1),y2)) else some (LO.exit 2 (s3.1,s3.2))
def m45 (a0:List Int) (a1:Int) (a2:Int):Option ((List Int)):=(loopO (ms45_0 a1 a2) NN (wi .i64 (Int.tdiv (wi .i64 ((wi .i64 (a2 - a1)) - 1)) 2),a0)).bind (contO (fun _=>none) (fun i1 s2=>if i1 = 0 then (loopO (ms45_1 a1) NN (wi .i64 ((wi .i64 (a2 - a1)) - 1),s2.2)).bind (contO (fun _=>none) (fun i2 s4=>if i2 = 2 then some s4.2 else none) (fun s4=>some s4.2)) else none) (fun s2=>some s2.2))
theorem w45 {d:Nat} (hd:4≤d) (L0:List En) (v0_:AV) (a0:List Int) (a1:Int) (a2:Int):Okh (sl false v0_ (a0:List Int)::L0) (fun S=>R NN d 45 [v0_,.int .i64 a1,.int .i64 a2] S) (m45 a0 a1 a2) (P2 (fun (t:(List Int))=>und) (fun (t:(List Int))=>sl false v0_ t::L0)):=by
  obtain ⟨d,rfl,g⟩:=up hd
  refine q_to (t45 NN d _ _ _) ?_
  unfold b45 m45
  refine q_p fr<|q_p fr<|q_p fr<|q_lp (A:=fun (s:Int×(List Int))=>[.int .i64 s.1]) (B:=fun s=>sl false v0_ (s.2:List Int)::L0) 0 rr ?_ ?_ ?_
  ·intro s1
   unfold s45_0 ms45_0
   exact q_p fr<|q_i (q_s (mg:=m59 s1.2 s1.1 (wi .i64 (a2 - a1)) a1) (w59 (by omega) _ _ s1.2 s1.1 (wi .i64 (a2 - a1)) a1) fun y1 hy1=>q_p fr<|q_norm 0 rr)<|q_exit 0 rr
  ·intro i1 s2
   refine q_n ?_ ?_
   ·refine q_p fr<|q_lp (A:=fun (s:Int×(List Int))=>[.int .i64 s.1]) (B:=fun s=>sl false v0_ (s.2:List Int)::L0) 0 rr ?_ ?_ ?_
    ·intro s3
     unfold s45_1 ms45_1
     exact q_p fr<|q_i (q_p fr<|q_p fr<|q_ixo 0 rfl rfl fun x1 hx1=>q_ldo 0 rfl hx1 rfl<|q_ixo 0 rfl rfl fun x2 hx2=>q_ldo 0 rfl hx2 rfl<|q_ixo 0 rfl rfl fun x3 hx3=>q_stoe (y:=x1) 0 rfl rfl hx3 rfl (by decide)<|q_ixo 0 rfl rfl fun x4 hx4=>q_stoe (y:=x2) 0 rfl rfl hx4 rfl (by decide)<|q_s (mg:=m59 ((s3.2.set (Int.toNat a1) x1).set (Int.toNat (wi .i64 (a1 + s3.1))) x2) 0 s3.1 a1) (w59 (by omega) _ _ ((s3.2.set (Int.toNat a1) x1).set (Int.toNat (wi .i64 (a1 + s3.1))) x2) 0 s3.1 a1) fun y2 hy2=>q_p fr<|q_norm 0 rr)<|q_exit 0 rr
    ·exact fun i2 s4=>q_n (q_ret2 0 rfl rfl)<|q_none
    ·exact fun s4=>q_ret2 0 rfl rfl
   ·exact q_none
  ·exact fun s2=>q_ret2 0 rfl rfl
def m53 (a0:Int):Option (Int):=( bif decide (a0 ≥ 65536) then some (LO.norm (shrI .u32 a0 16,16)) else some (LO.norm (a0,0))).bind (contO (fun s2=>( bif decide (s2.1 ≥ 256) then some (LO.norm (shrI .u32 s2.1 8,wi .i64 (s2.2 + 8))) else some (LO.norm (s2.1,s2.2))).bind (contO (fun s4=>(getI ([0,1,2,2,3,3,3,3,4,4,4,4,4,4,4,4,5,5,5,5,5,5,5,5,5,5,5,5,5,5,5,5,6,6,6,6,6,6,6,6,6,6,6,6,6,6,6,6,6,6,6,6,6,6,6,6,6,6,6,6,6,6,6,6,7,7,7,7,7,7,7,7,7,7,7,7,7,7,7,7,7,7,7,7,7,7,7,7,7,7,7,7,7,7,7,7,7,7,7,7,7,7,7,7,7,7,7,7,7,7,7,7,7,7,7,7,7,7,7,7,7,7,7,7,7,7,7,7,8,8,8,8,8,8,8,8,8,8,8,8,8,8,8,8,8,8,8,8,8,8,8,8,8,8,8,8,8,8,8,8,8,8,8,8,8,8,8,8,8,8,8,8,8,8,8,8,8,8,8,8,8,8,8,8,8,8,8,8,8,8,8,8,8,8,8,8,8,8,8,8,8,8,8,8,8,8,8,8,8,8,8,8,8,8,8,8,8,8,8,8,8,8,8,8,8,8,8,8,8,8,8,8,8,8,8,8,8,8,8,8,8,8,8,8,8,8,8,8,8,8,8,8,8,8,8,8]:Str) (wi .u8 s4.1)).bind fun c1=>some (wi .i64 (s4.2 + (wi .i64 (c1.toNat:Int))))) (fun i2 s4=>none) (fun s4=>some s4.2))) (fun i1 s2=>none) (fun s2=>some s2.2))
def m54 (a0:Int):Option (Int):=( bif decide (a0 ≥ 4294967296) then some (LO.norm (shrI .u64 a0 32,32)) else some (LO.norm (a0,0))).bind (contO (fun s2=>( bif decide (s2.1 ≥ 65536) then some (LO.norm (shrI .u64 s2.1 16,wi .i64 (s2.2 + 16))) else some (LO.norm (s2.1,s2.2))).bind (contO (fun s4=>( bif decide (s4.1 ≥ 256) then some (LO.norm (shrI .u64 s4.1 8,wi .i64 (s4.2 + 8))) else some (LO.norm (s4.1,s4.2))).bind (contO (fun s6=>(getI ([0,1,2,2,3,3,3,3,4,4,4,4,4,4,4,4,5,5,5,5,5,5,5,5,5,5,5,5,5,5,5,5,6,6,6,6,6,6,6,6,6,6,6,6,6,6,6,6,6,6,6,6,6,6,6,6,6,6,6,6,6,6,6,6,7,7,7,7,7,7,7,7,7,7,7,7,7,7,7,7,7,7,7,7,7,7,7,7,7,7,7,7,7,7,7,7,7,7,7,7,7,7,7,7,7,7,7,7,7,7,7,7,7,7,7,7,7,7,7,7,7,7,7,7,7,7,7,7,8,8,8,8,8,8,8,8,8,8,8,8,8,8,8,8,8,8,8,8,8,8,8,8,8,8,8,8,8,8,8,8,8,8,8,8,8,8,8,8,8,8,8,8,8,8,8,8,8,8,8,8,8,8,8,8,8,8,8,8,8,8,8,8,8,8,8,8,8,8,8,8,8,8,8,8,8,8,8,8,8,8,8,8,8,8,8,8,8,8,8,8,8,8,8,8,8,8,8,8,8,8,8,8,8,8,8,8,8,8,8,8,8,8,8,8,8,8,8,8,8,8,8,8,8,8,8,8]:Str) (wi .u8 s6.1)).bind fun c1=>some (wi .i64 (s6.2 + (wi .i64 (c1.toNat:Int))))) (fun i3 s6=>none) (fun s6=>some s6.2))) (fun i2 s4=>none) (fun s4=>some s4.2))) (fun i1 s2=>none) (fun s2=>some s2.2))
theorem w54 {d:Nat} (hd:1≤d) (a0:Int):Fit (R NN d 54 [.int .u64 a0] []) (m54 a0) PI:=by
  obtain ⟨d,rfl,g⟩:=up hd
  refine q_in (t54 NN d _) ?_
  unfold b54 m54
  refine q_cu (A:=fun (s:Int×Int)=>[.int .u64 s.1,.int .i64 s.2]) (B:=fun s=>[]) ?_ ?_ ?_ ?_
  ·exact q_p fr<|q_i (q_p fr<|q_norm 0 rr)<|q_norm 0 rr
  ·intro s2
   refine q_cu (A:=fun (s:Int×Int)=>[.int .u64 s.1,.int .i64 s.2]) (B:=fun s=>[]) ?_ ?_ ?_ ?_
   ·exact q_p fr<|q_i (q_p fr<|q_p fr<|q_norm 0 rr)<|q_norm 0 rr
   ·intro s4
    refine q_cu (A:=fun (s:Int×Int)=>[.int .u64 s.1,.int .i64 s.2]) (B:=fun s=>[]) ?_ ?_ ?_ ?_
    ·exact q_p fr<|q_i (q_p fr<|q_p fr<|q_norm 0 rr)<|q_norm 0 rr
    ·exact fun s6=>q_p (fun _=>cvt83_5 _ _)<|q_sx fun c1 hc1=>q_p (fun _=>cvt5_3 _ _)<|q_p fr<|q_ret (cv_p rfl) rfl
    ·exact fun i3 s6=>q_none
    ·exact fun s6=>q_ret (cv_p rfl) rfl
   ·exact fun i2 s4=>q_none
   ·exact fun s4=>q_ret (cv_p rfl) rfl
  ·exact fun i1 s2=>q_none
  ·exact fun s2=>q_ret (cv_p rfl) rfl
def m42 (a0:Int):Option (Int):=(m54 a0).bind fun y1=>some y1
theorem w42 {d:Nat} (hd:2≤d) (a0:Int):Fit (R NN d 42 [.int .u64 a0] []) (m42 a0) PI:=by
  obtain ⟨d,rfl,g⟩:=up hd
  refine q_in (t42 NN d _) ?_
  unfold b42 m42
  first | refine q_ifF1 ?_ | skip
  exact q_c0 (aF1 (cv_p rfl) fun l0_=>w54 (by omega) a0) fun y1 hy1=>q_ret (cv_p rfl) rfl
def m60 (a0:Int):Option (Int):=(m42 (wi .u64 a0)).bind fun y1=>(shlO .u64 1 y1).bind fun q1=>some q1
theorem w60 {d:Nat} (hd:3≤d) (a0:Int):Fit (R NN d 60 [.int .i64 a0] []) (m60 a0) (P0 (fun (t:Int)=>AV.int .u64 t)):=by
  obtain ⟨d,rfl,g⟩:=up hd
  refine q_in (t60 NN d _) ?_
  unfold b60 m60
  exact q_p (fun _=>cvt3_70 _ _)<|q_c0 (aF1 (cv_p rfl) fun l0_=>w42 (by omega) (wi .u64 a0)) fun y1 hy1=>q_shl fun q1 hq1=>q_ret (cv_p rfl) rfl
def m61 (a0:Int):Int×Int:=(xorI .u64 (xorI .u64 (xorI .u64 a0 (shlI .u64 a0 13)) (shrI .u64 (xorI .u64 a0 (shlI .u64 a0 13)) 7)) (shlI .u64 (xorI .u64 (xorI .u64 a0 (shlI .u64 a0 13)) (shrI .u64 (xorI .u64 a0 (shlI .u64 a0 13)) 7)) 17),xorI .u64 (xorI .u64 (xorI .u64 a0 (shlI .u64 a0 13)) (shrI .u64 (xorI .u64 a0 (shlI .u64 a0 13)) 7)) (shlI .u64 (xorI .u64 (xorI .u64 a0 (shlI .u64 a0 13)) (shrI .u64 (xorI .u64 a0 (shlI .u64 a0 13)) 7)) 17))
theorem w61 {d:Nat} (hd:1≤d) (L0:List En) (b0_:Nat) (a0:Int):Okh (bx b0_ [.int .u64 a0]::L0) (fun S=>R NN d 61 [.bp b0_ 0 0 1 1] S) (some (m61 a0)) (P2 (fun (t:Int×Int)=>AV.int .u64 t.1) (fun (t:Int×Int)=>bx b0_ [.int .u64 t.2]::L0)):=by
  obtain ⟨d,rfl,g⟩:=up hd
  refine q_to (t61 NN d _) ?_
  unfold b61 m61
  exact q_q fr<|q_ld 0 rfl rfl<|q_q fr<|q_ld 0 rfl rfl<|q_p fr<|q_p fr<|q_q fr<|q_st 0 rfl rfl rfl (by decide) rfl<|q_q fr<|q_ld 0 rfl rfl<|q_q fr<|q_ld 0 rfl rfl<|q_p fr<|q_p fr<|q_q fr<|q_st 0 rfl rfl rfl (by decide) rfl<|q_q fr<|q_ld 0 rfl rfl<|q_q fr<|q_ld 0 rfl rfl<|q_p fr<|q_p fr<|q_q fr<|q_st 0 rfl rfl rfl (by decide) rfl<|q_q fr<|q_ld 0 rfl rfl<|q_ret2 0 rfl rfl
def ms46_0 (a1:Int) (a2:Int) (y1:Int) (s1:Int×Int×(List Int)):Option (LO (Int×Int×(List Int))):=bif decide (s1.1≤(wi .i64 ((wi .i64 (a1 + (wi .i64 ((wi .i64 (Int.tdiv (wi .i64 (a2 - a1)) 4)) * 2)))) + 1))) then ( (some (m61 s1.2.1)).bind fun y2=>( bif decide ((wi .i64 (andI .u64 y2.1 (wi .u64 (y1 - 1)))) ≥ (wi .i64 (a2 - a1))) then some (LO.norm (wi .i64 ((wi .i64 (andI .u64 y2.1 (wi .u64 (y1 - 1)))) - (wi .i64 (a2 - a1))))) else some (LO.norm (wi .i64 (andI .u64 y2.1 (wi .u64 (y1 - 1)))))).bind (contO (fun s4=>(getI s1.2.2 (wi .i64 (a1 + s4))).bind fun x1=>(getI s1.2.2 s1.1).bind fun x2=>(getI s1.2.2 s1.1).bind fun x3=>(getI (s1.2.2.set (Int.toNat s1.1) x1) (wi .i64 (a1 + s4))).bind fun x4=>some (LO.norm (y2.2,(s1.2.2.set (Int.toNat s1.1) x1).set (Int.toNat (wi .i64 (a1 + s4))) x2))) (fun i1 s4=>if i1 = 1 then some (LO.norm (y2.2,s1.2.2)) else some (LO.exit i1 (y2.2,s1.2.2))) (fun s4=>some (LO.ret (y2.2,s1.2.2))))).bind (contO (fun s5=>some (LO.norm (wi .i64 (s1.1 + 1),s5.1,s5.2))) (fun i2 s5=>some (LO.exit i2 (s1.1,s5.1,s5.2))) (fun s5=>some (LO.ret (s1.1,s5.1,s5.2)))) else some (LO.exit 0 (s1.1,s1.2.1,s1.2.2))
def m46 (a0:List Int) (a1:Int) (a2:Int):Option ((List Int)):=bif decide ((wi .i64 (a2 - a1)) ≥ 8) then (m60 (wi .i64 (a2 - a1))).bind fun y1=>(loopO (ms46_0 a1 a2 y1) NN (wi .i64 ((wi .i64 (a1 + (wi .i64 ((wi .i64 (Int.tdiv (wi .i64 (a2 - a1)) 4)) * 2)))) - 1),wi .u64 (wi .i64 (a2 - a1)),a0)).bind (contO (fun _=>none) (fun i3 s6=>if i3 = 0 then some s6.2.2 else none) (fun s6=>some s6.2.2)) else some a0
theorem w46 {d:Nat} (hd:4≤d) (L0:List En) (v0_:AV) (a0:List Int) (a1:Int) (a2:Int):Okh (sl false v0_ (a0:List Int)::L0) (fun S=>R NN d 46 [v0_,.int .i64 a1,.int .i64 a2] S) (m46 a0 a1 a2) (P2 (fun (t:(List Int))=>und) (fun (t:(List Int))=>sl false v0_ t::L0)):=by
  obtain ⟨d,rfl,g⟩:=up hd
  refine q_to (t46 NN d _ _ _) ?_
  unfold b46 m46
  refine q_p fr<|q_p fr<|q_i ?_ ?_
  ·refine q_p (fun _=>cvt3_89 _ _)<|q_new rfl fun b1=>q_st 0 rfl rfl rfl (by decide) rfl<|q_c0 (aF1 (cv_p rfl) fun l0_=>w60 (by omega) (wi .i64 (a2 - a1))) fun y1 hy1=>q_p fr<|q_p fr<|q_p fr<|q_p fr<|q_lp (A:=fun (s:Int×Int×(List Int))=>[.int .i64 s.1]) (B:=fun s=>bx b1 [.int .u64 s.2.1]::sl false v0_ (s.2.2:List Int)::L0) 0 rr ?_ ?_ ?_
   ·intro s1
    unfold s46_0 ms46_0
    refine q_p fr<|q_p fr<|q_p fr<|q_p fr<|q_p fr<|q_i ?_ ?_
    ·refine q_cu (A:=fun (s:Int×(List Int))=>[]) (B:=fun s=>bx b1 [.int .u64 s.1]::sl false v0_ (s.2:List Int)::L0) ?_ ?_ ?_ ?_
     ·refine q_s (mg:=some (m61 s1.2.1)) (w61 (by omega) _ _ s1.2.1) fun y2 hy2=>q_p fr<|q_p fr<|q_p (fun _=>cvt70_3 _ _)<|q_cu (A:=fun (s:Int)=>[.int .i64 s]) (B:=fun s=>bx b1 [.int .u64 y2.2]::sl false v0_ (s1.2.2:List Int)::L0) ?_ ?_ ?_ ?_
      ·exact q_p fr<|q_i (q_p fr<|q_norm 0 rr)<|q_norm 0 rr
      ·exact fun s4=>q_p fr<|q_p fr<|q_ixo 1 rfl rfl fun x1 hx1=>q_ldo 1 rfl hx1 rfl<|q_ixo 1 rfl rfl fun x2 hx2=>q_ldo 1 rfl hx2 rfl<|q_ixo 1 rfl rfl fun x3 hx3=>q_stoe (y:=x1) 1 rfl rfl hx3 rfl (by decide)<|q_ixo 1 rfl rfl fun x4 hx4=>q_stoe (y:=x2) 1 rfl rfl hx4 rfl (by decide)<|q_norm 0 rr
      ·exact fun i1 s4=>q_n (q_norm 0 rr)<|q_exit 0 rr
      ·exact fun s4=>q_lret 0 rr
     ·exact fun s5=>q_p fr<|q_norm 0 rr
     ·exact fun i2 s5=>q_exit 0 rr
     ·exact fun s5=>q_lret 0 rr
    ·exact q_exit 0 rr
   ·exact fun i3 s6=>q_n (q_ret2 1 rfl rfl)<|q_none
   ·exact fun s6=>q_ret2 1 rfl rfl
  ·exact q_ret2 0 rfl rfl
def m69 (a0:List Int) (a1:Int) (a2:Int) (a3:Int):Option (Int×Int×Int):=(getI a0 a2).bind fun x1=>(getI a0 a1).bind fun x2=>(m50 x1 x2).bind fun y1=>bif y1 then some (a2,a1,wi .i64 (a3 + 1)) else some (a1,a2,a3)
theorem w69 {d:Nat} (hd:3≤d) (L0:List En) (k0:Bool) (f0_:Bool) (a0:List Int) (a1:Int) (a2:Int) (b3_:Nat) (a3:Int):Okh (bx b3_ [.int .i64 a3]::L0) (fun S=>R NN d 69 [.rsl k0 f0_ (a0.map (Enc.cs k0)),.int .i64 a1,.int .i64 a2,.bp b3_ 0 0 1 1] S) (m69 a0 a1 a2 a3) (P2 (fun (t:Int×Int×Int)=>AV.tup [.int .i64 t.1,.int .i64 t.2.1]) (fun (t:Int×Int×Int)=>bx b3_ [.int .i64 t.2.2]::L0)):=by
  obtain ⟨d,rfl,g⟩:=up hd
  refine q_to (t69 NN d _ _ _ _) ?_
  unfold b69 m69
  exact q_ix rfl fun x1 hx1=>q_p fr<|q_ix rfl fun x2 hx2=>q_p fr<|q_c0 (aF2 (cv_p rfl) (cv_p rfl) fun l0_ l1_=>w50 (by omega) x1 x2) fun y1 hy1=>q_i (q_q fr<|q_ld 0 rfl rfl<|q_p fr<|q_q fr<|q_st 0 rfl rfl rfl (by decide) rfl<|q_ret2 0 rfl rfl)<|q_ret2 0 rfl rfl
def m63 (a0:List Int) (a1:Int) (a2:Int) (a3:Int) (a4:Int):Option (Int×Int):=(m69 a0 a1 a2 a4).bind fun y1=>(m69 a0 y1.2.1 a3 y1.2.2).bind fun y2=>(m69 a0 y1.1 y2.1 y2.2.2).bind fun y3=>some (y3.2.1,y3.2.2)
theorem w63 {d:Nat} (hd:4≤d) (L0:List En) (k0:Bool) (f0_:Bool) (a0:List Int) (a1:Int) (a2:Int) (a3:Int) (b4_:Nat) (a4:Int):Okh (bx b4_ [.int .i64 a4]::L0) (fun S=>R NN d 63 [.rsl k0 f0_ (a0.map (Enc.cs k0)),.int .i64 a1,.int .i64 a2,.int .i64 a3,.bp b4_ 0 0 1 1] S) (m63 a0 a1 a2 a3 a4) (P2 (fun (t:Int×Int)=>AV.int .i64 t.1) (fun (t:Int×Int)=>bx b4_ [.int .i64 t.2]::L0)):=by
  obtain ⟨d,rfl,g⟩:=up hd
  refine q_to (t63 NN d _ _ _ _ _) ?_
  unfold b63 m63
  exact q_s (mg:=m69 a0 a1 a2 a4) (w69 (by omega) _ _ _ a0 a1 a2 _ a4) fun y1 hy1=>q_q fr<|q_q fr<|q_s (mg:=m69 a0 y1.2.1 a3 y1.2.2) (w69 (by omega) _ _ _ a0 y1.2.1 a3 _ y1.2.2) fun y2 hy2=>q_q fr<|q_q fr<|q_s (mg:=m69 a0 y1.1 y2.1 y2.2.2) (w69 (by omega) _ _ _ a0 y1.1 y2.1 _ y2.2.2) fun y3 hy3=>q_q fr<|q_q fr<|q_ret2 0 rfl rfl
def m62 (a0:List Int) (a1:Int) (a2:Int):Option (Int×Int):=(m63 a0 (wi .i64 (a1 - 1)) a1 (wi .i64 (a1 + 1)) a2).bind fun y1=>some (y1.1,y1.2)
theorem w62 {d:Nat} (hd:5≤d) (L0:List En) (k0:Bool) (f0_:Bool) (a0:List Int) (a1:Int) (b2_:Nat) (a2:Int):Okh (bx b2_ [.int .i64 a2]::L0) (fun S=>R NN d 62 [.rsl k0 f0_ (a0.map (Enc.cs k0)),.int .i64 a1,.bp b2_ 0 0 1 1] S) (m62 a0 a1 a2) (P2 (fun (t:Int×Int)=>AV.int .i64 t.1) (fun (t:Int×Int)=>bx b2_ [.int .i64 t.2]::L0)):=by
  obtain ⟨d,rfl,g⟩:=up hd
  refine q_to (t62 NN d _ _ _) ?_
  unfold b62 m62
  exact q_p fr<|q_p fr<|q_s (mg:=m63 a0 (wi .i64 (a1 - 1)) a1 (wi .i64 (a1 + 1)) a2) (w63 (by omega) _ _ _ a0 (wi .i64 (a1 - 1)) a1 (wi .i64 (a1 + 1)) _ a2) fun y1 hy1=>q_ret2 0 rfl rfl
def m47 (a0:List Int) (a1:Int) (a2:Int):Option (Int×Int):=( bif decide ((wi .i64 (a2 - a1)) ≥ 8) then ( bif decide ((wi .i64 (a2 - a1)) ≥ 50) then (m62 a0 (wi .i64 (a1 + (wi .i64 ((wi .i64 (Int.tdiv (wi .i64 (a2 - a1)) 4)) * 1)))) 0).bind fun y1=>(m62 a0 (wi .i64 (a1 + (wi .i64 ((wi .i64 (Int.tdiv (wi .i64 (a2 - a1)) 4)) * 2)))) y1.2).bind fun y2=>(m62 a0 (wi .i64 (a1 + (wi .i64 ((wi .i64 (Int.tdiv (wi .i64 (a2 - a1)) 4)) * 3)))) y2.2).bind fun y3=>some (LO.norm (y1.1,y2.1,y3.1,y3.2)) else some (LO.norm (wi .i64 (a1 + (wi .i64 ((wi .i64 (Int.tdiv (wi .i64 (a2 - a1)) 4)) * 1))),wi .i64 (a1 + (wi .i64 ((wi .i64 (Int.tdiv (wi .i64 (a2 - a1)) 4)) * 2))),wi .i64 (a1 + (wi .i64 ((wi .i64 (Int.tdiv (wi .i64 (a2 - a1)) 4)) * 3))),0))).bind (contO (fun s3=>(m63 a0 s3.1 s3.2.1 s3.2.2.1 s3.2.2.2).bind fun y4=>some (LO.norm (y4.1,y4.2))) (fun i1 s3=>some (LO.exit i1 (s3.2.1,s3.2.2.2))) (fun s3=>some (LO.ret (s3.2.1,s3.2.2.2)))) else some (LO.norm (wi .i64 (a1 + (wi .i64 ((wi .i64 (Int.tdiv (wi .i64 (a2 - a1)) 4)) * 2))),0))).bind (contO (fun s4=>bif s4.2 == 0 then some (s4.1,1) else bif s4.2 == 12 then some (s4.1,2) else some (s4.1,0)) (fun i2 s4=>none) (fun s4=>some (0,0)))
theorem w47 {d:Nat} (hd:6≤d) (k0:Bool) (a0:List Int) (a1:Int) (a2:Int):Fit (R NN d 47 [.rsl k0 false (a0.map (Enc.cs k0)),.int .i64 a1,.int .i64 a2] []) (m47 a0 a1 a2) (P0 (fun (t:Int×Int)=>AV.tup [.int .i64 t.1,.int .i64 t.2])):=by
  obtain ⟨d,rfl,g⟩:=up hd
  refine q_in (t47 NN d _ _ _) ?_
  unfold b47 m47
  refine q_p fr<|q_new rfl fun b1=>q_p fr<|q_p fr<|q_p fr<|q_p fr<|q_p fr<|q_p fr<|q_p fr<|q_p fr<|q_p fr<|q_cu (A:=fun (s:Int×Int)=>[.int .i64 s.1]) (B:=fun s=>[bx b1 [.int .i64 s.2]]) ?_ ?_ ?_ ?_
  ·refine q_p fr<|q_i ?_ ?_
   ·refine q_cu (A:=fun (s:Int×Int×Int×Int)=>[.int .i64 s.1,.int .i64 s.2.1,.int .i64 s.2.2.1]) (B:=fun s=>[bx b1 [.int .i64 s.2.2.2]]) ?_ ?_ ?_ ?_
    ·exact q_p fr<|q_i (q_s (mg:=m62 a0 (wi .i64 (a1 + (wi .i64 ((wi .i64 (Int.tdiv (wi .i64 (a2 - a1)) 4)) * 1)))) 0) (w62 (by omega) _ _ _ a0 (wi .i64 (a1 + (wi .i64 ((wi .i64 (Int.tdiv (wi .i64 (a2 - a1)) 4)) * 1)))) _ 0) fun y1 hy1=>q_s (mg:=m62 a0 (wi .i64 (a1 + (wi .i64 ((wi .i64 (Int.tdiv (wi .i64 (a2 - a1)) 4)) * 2)))) y1.2) (w62 (by omega) _ _ _ a0 (wi .i64 (a1 + (wi .i64 ((wi .i64 (Int.tdiv (wi .i64 (a2 - a1)) 4)) * 2)))) _ y1.2) fun y2 hy2=>q_s (mg:=m62 a0 (wi .i64 (a1 + (wi .i64 ((wi .i64 (Int.tdiv (wi .i64 (a2 - a1)) 4)) * 3)))) y2.2) (w62 (by omega) _ _ _ a0 (wi .i64 (a1 + (wi .i64 ((wi .i64 (Int.tdiv (wi .i64 (a2 - a1)) 4)) * 3)))) _ y2.2) fun y3 hy3=>q_norm 0 rr)<|q_norm 0 rr
    ·exact fun s3=>q_s (mg:=m63 a0 s3.1 s3.2.1 s3.2.2.1 s3.2.2.2) (w63 (by omega) _ _ _ a0 s3.1 s3.2.1 s3.2.2.1 _ s3.2.2.2) fun y4 hy4=>q_norm 0 rr
    ·exact fun i1 s3=>q_exit 0 rr
    ·exact fun s3=>q_lret 0 rr
   ·exact q_norm 0 rr
  ·exact fun s4=>q_ld 0 rfl rfl<|q_p fr<|q_i (q_ret (cv_t (cvs_cons (cv_p rfl) (cvs_cons (cv_p rfl) cvs_nil))) rfl)<|q_p fr<|q_i (q_ret (cv_t (cvs_cons (cv_p rfl) (cvs_cons (cv_p rfl) cvs_nil))) rfl)<|q_ret (cv_t (cvs_cons (cv_p rfl) (cvs_cons (cv_p rfl) cvs_nil))) rfl
  ·exact fun i2 s4=>q_none
  ·exact fun s4=>q_ret (cv_t (cvs_cons (cv_p rfl) (cvs_cons (cv_p rfl) cvs_nil))) rfl
def ms48_0 (s1:Int×Int×(List Int)):Option (LO (Int×Int×(List Int))):=bif decide (s1.1 < s1.2.1) then (getI s1.2.2 s1.2.1).bind fun x1=>(getI s1.2.2 s1.1).bind fun x2=>(getI s1.2.2 s1.1).bind fun x3=>(getI (s1.2.2.set (Int.toNat s1.1) x1) s1.2.1).bind fun x4=>some (LO.norm (wi .i64 (s1.1 + 1),wi .i64 (s1.2.1 - 1),(s1.2.2.set (Int.toNat s1.1) x1).set (Int.toNat s1.2.1) x2)) else some (LO.exit 0 (s1.1,s1.2.1,s1.2.2))
def m48 (a0:List Int) (a1:Int) (a2:Int):Option ((List Int)):=(loopO (ms48_0) NN (a1,wi .i64 (a2 - 1),a0)).bind (contO (fun _=>none) (fun i1 s2=>if i1 = 0 then some s2.2.2 else none) (fun s2=>some s2.2.2))
theorem w48 {d:Nat} (hd:1≤d) (L0:List En) (v0_:AV) (a0:List Int) (a1:Int) (a2:Int):Okh (sl false v0_ (a0:List Int)::L0) (fun S=>R NN d 48 [v0_,.int .i64 a1,.int .i64 a2] S) (m48 a0 a1 a2) (P2 (fun (t:(List Int))=>und) (fun (t:(List Int))=>sl false v0_ t::L0)):=by
  obtain ⟨d,rfl,g⟩:=up hd
  refine q_to (t48 NN d _ _ _) ?_
  unfold b48 m48
  refine q_p fr<|q_lp (A:=fun (s:Int×Int×(List Int))=>[.int .i64 s.1,.int .i64 s.2.1]) (B:=fun s=>sl false v0_ (s.2.2:List Int)::L0) 0 rr ?_ ?_ ?_
  ·intro s1
   unfold s48_0 ms48_0
   exact q_p fr<|q_i (q_ixo 0 rfl rfl fun x1 hx1=>q_ldo 0 rfl hx1 rfl<|q_ixo 0 rfl rfl fun x2 hx2=>q_ldo 0 rfl hx2 rfl<|q_ixo 0 rfl rfl fun x3 hx3=>q_stoe (y:=x1) 0 rfl rfl hx3 rfl (by decide)<|q_ixo 0 rfl rfl fun x4 hx4=>q_stoe (y:=x2) 0 rfl rfl hx4 rfl (by decide)<|q_p fr<|q_p fr<|q_norm 0 rr)<|q_exit 0 rr
  ·exact fun i1 s2=>q_n (q_ret2 0 rfl rfl)<|q_none
  ·exact fun s2=>q_ret2 0 rfl rfl
def ms49_0 (a2:Int) (s1:Bool×Int×Int×(List Int)) (s3:Int):Option (LO (Int)):=( ( bif decide (s3 < a2) then (getI s1.2.2.2 s3).bind fun x1=>(getI s1.2.2.2 (wi .i64 (s3 - 1))).bind fun x2=>(m50 x1 x2).bind fun y1=>some (LO.norm (!y1)) else some (LO.norm false)).bind (contO (fun s6=>bif s6 then some (LO.norm s6) else some (LO.exit 2 s6)) (fun i1 s6=>some (LO.exit i1 s6)) (fun s6=>some (LO.ret s6)))).bind (contO (fun s7=>some (LO.norm (wi .i64 (s3 + 1)))) (fun i2 s7=>some (LO.exit i2 s3)) (fun s7=>some (LO.ret s3)))
def ms49_1 (s10:Int×(List Int)):Option (LO (Int×(List Int))):=bif decide (s10.1 ≥ 1) then (getI s10.2 s10.1).bind fun x7=>(getI s10.2 (wi .i64 (s10.1 - 1))).bind fun x8=>(m50 x7 x8).bind fun y2=>bif !y2 then some (LO.exit 4 (s10.1,s10.2)) else (getI s10.2 (wi .i64 (s10.1 - 1))).bind fun x9=>(getI s10.2 s10.1).bind fun x10=>(getI s10.2 s10.1).bind fun x11=>(getI (s10.2.set (Int.toNat s10.1) x9) (wi .i64 (s10.1 - 1))).bind fun x12=>some (LO.norm (wi .i64 (s10.1 - 1),(s10.2.set (Int.toNat s10.1) x9).set (Int.toNat (wi .i64 (s10.1 - 1))) x10)) else some (LO.exit 4 (s10.1,s10.2))
def ms49_2 (a2:Int) (s13:Int×(List Int)):Option (LO (Int×(List Int))):=bif decide (s13.1 < a2) then (getI s13.2 s13.1).bind fun x13=>(getI s13.2 (wi .i64 (s13.1 - 1))).bind fun x14=>(m50 x13 x14).bind fun y3=>bif !y3 then some (LO.exit 6 (s13.1,s13.2)) else (getI s13.2 (wi .i64 (s13.1 - 1))).bind fun x15=>(getI s13.2 s13.1).bind fun x16=>(getI s13.2 s13.1).bind fun x17=>(getI (s13.2.set (Int.toNat s13.1) x15) (wi .i64 (s13.1 - 1))).bind fun x18=>some (LO.norm (wi .i64 (s13.1 + 1),(s13.2.set (Int.toNat s13.1) x15).set (Int.toNat (wi .i64 (s13.1 - 1))) x16)) else some (LO.exit 6 (s13.1,s13.2))
def ms49_3 (a1:Int) (a2:Int) (s1:Bool×Int×Int×(List Int)):Option (LO (Bool×Int×Int×(List Int))):=bif decide (s1.2.2.1 < 5) then ( (loopO (ms49_0 a2 s1) NN s1.2.1).bind (contO (fun _=>none) (fun i3 s8=>if i3 = 2 then bif s8 == a2 then some (LO.ret (true,s8,s1.2.2.2)) else bif decide ((wi .i64 (a2 - a1)) < 50) then some (LO.ret (false,s8,s1.2.2.2)) else (getI s1.2.2.2 (wi .i64 (s8 - 1))).bind fun x3=>(getI s1.2.2.2 s8).bind fun x4=>(getI s1.2.2.2 s8).bind fun x5=>(getI (s1.2.2.2.set (Int.toNat s8) x3) (wi .i64 (s8 - 1))).bind fun x6=>( bif decide ((wi .i64 (s8 - a1)) ≥ 2) then (loopO (ms49_1) NN (wi .i64 (s8 - 1),(s1.2.2.2.set (Int.toNat s8) x3).set (Int.toNat (wi .i64 (s8 - 1))) x4)).bind (contO (fun _=>none) (fun i4 s11=>if i4 = 4 then some (LO.norm s11.2) else some (LO.exit i4 s11.2)) (fun s11=>some (LO.ret s11.2))) else some (LO.norm ((s1.2.2.2.set (Int.toNat s8) x3).set (Int.toNat (wi .i64 (s8 - 1))) x4))).bind (contO (fun s12=>bif decide ((wi .i64 (a2 - s8)) ≥ 2) then (loopO (ms49_2 a2) NN (wi .i64 (s8 + 1),s12)).bind (contO (fun _=>none) (fun i6 s14=>if i6 = 6 then some (LO.norm (s1.1,s8,s14.2)) else if i6 = 1 then some (LO.norm (s1.1,s8,s14.2)) else some (LO.exit i6 (s1.1,s8,s14.2))) (fun s14=>some (LO.ret (s1.1,s8,s14.2)))) else some (LO.norm (s1.1,s8,s12))) (fun i5 s12=>if i5 = 1 then some (LO.norm (s1.1,s8,s12)) else some (LO.exit i5 (s1.1,s8,s12))) (fun s12=>some (LO.ret (s1.1,s8,s12)))) else if i3 = 1 then some (LO.norm (s1.1,s8,s1.2.2.2)) else some (LO.exit i3 (s1.1,s8,s1.2.2.2))) (fun s8=>some (LO.ret (s1.1,s8,s1.2.2.2))))).bind (contO (fun s15=>some (LO.norm (s15.1,s15.2.1,wi .i64 (s1.2.2.1 + 1),s15.2.2))) (fun i7 s15=>some (LO.exit i7 (s15.1,s15.2.1,s1.2.2.1,s15.2.2))) (fun s15=>some (LO.ret (s15.1,s15.2.1,s1.2.2.1,s15.2.2)))) else some (LO.exit 0 (s1.1,s1.2.1,s1.2.2.1,s1.2.2.2))
def m49 (a0:List Int) (a1:Int) (a2:Int):Option (Bool×(List Int)):=(loopO (ms49_3 a1 a2) NN (false,wi .i64 (a1 + 1),0,a0)).bind (contO (fun _=>none) (fun i8 s16=>if i8 = 0 then some (false,s16.2.2.2) else none) (fun s16=>some (s16.1,s16.2.2.2)))
theorem w49 {d:Nat} (hd:3≤d) (L0:List En) (v0_:AV) (a0:List Int) (a1:Int) (a2:Int):Okh (sl false v0_ (a0:List Int)::L0) (fun S=>R NN d 49 [v0_,.int .i64 a1,.int .i64 a2] S) (m49 a0 a1 a2) (P2 (fun (t:Bool×(List Int))=>AV.bool t.1) (fun (t:Bool×(List Int))=>sl false v0_ t.2::L0)):=by
  obtain ⟨d,rfl,g⟩:=up hd
  refine q_to (t49 NN d _ _ _) ?_
  unfold b49 m49
  refine q_p fr<|q_lp (A:=fun (s:Bool×Int×Int×(List Int))=>[.bool s.1,.int .i64 s.2.1,.int .i64 s.2.2.1]) (B:=fun s=>sl false v0_ (s.2.2.2:List Int)::L0) 0 rr ?_ ?_ ?_
  ·intro s1
   unfold s49_3 ms49_3
   refine q_p fr<|q_i ?_ ?_
   ·refine q_cu (A:=fun (s:Bool×Int×(List Int))=>[.bool s.1,.int .i64 s.2.1]) (B:=fun s=>sl false v0_ (s.2.2:List Int)::L0) ?_ ?_ ?_ ?_
    ·refine q_lp (A:=fun (s:Int)=>[.int .i64 s]) (B:=fun s=>sl false v0_ (s1.2.2.2:List Int)::L0) 0 rr ?_ ?_ ?_
     ·intro s3
      unfold s49_0 ms49_0
      refine q_cu (A:=fun (s:Bool)=>[.bool s]) (B:=fun s=>sl false v0_ (s1.2.2.2:List Int)::L0) ?_ ?_ ?_ ?_
      ·refine q_cu (A:=fun (s:Bool)=>[.bool s]) (B:=fun s=>sl false v0_ (s1.2.2.2:List Int)::L0) ?_ ?_ ?_ ?_
       ·exact q_p fr<|q_k (q_ixo 0 rfl rfl fun x1 hx1=>q_ldo 0 rfl hx1 rfl<|q_p fr<|q_ixo 0 rfl rfl fun x2 hx2=>q_ldo 0 rfl hx2 rfl<|q_c0 (aF2 (cv_p rfl) (cv_p rfl) fun l0_ l1_=>w50 (by omega) x1 x2) fun y1 hy1=>q_p fr<|q_norm 0 rr)<|q_norm 0 rr
       ·exact fun s6=>q_i (q_norm 0 rr)<|q_exit 0 rr
       ·exact fun i1 s6=>q_exit 0 rr
       ·exact fun s6=>q_lret 0 rr
      ·exact fun s7=>q_p fr<|q_norm 0 rr
      ·exact fun i2 s7=>q_exit 0 rr
      ·exact fun s7=>q_lret 0 rr
     ·intro i3 s8
      refine q_n ?_ ?_
      ·refine q_p fr<|q_i ?_ ?_
       ·exact q_lret 0 rr
       ·refine q_p fr<|q_p fr<|q_i ?_ ?_
        ·exact q_lret 0 rr
        ·refine q_p fr<|q_p fr<|q_ixo 0 rfl rfl fun x3 hx3=>q_ldo 0 rfl hx3 rfl<|q_ixo 0 rfl rfl fun x4 hx4=>q_ldo 0 rfl hx4 rfl<|q_ixo 0 rfl rfl fun x5 hx5=>q_stoe (y:=x3) 0 rfl rfl hx5 rfl (by decide)<|q_ixo 0 rfl rfl fun x6 hx6=>q_stoe (y:=x4) 0 rfl rfl hx6 rfl (by decide)<|q_cu (A:=fun (s:(List Int))=>[]) (B:=fun s=>sl false v0_ (s:List Int)::L0) ?_ ?_ ?_ ?_
         ·refine q_p fr<|q_p fr<|q_i ?_ ?_
          ·refine q_p fr<|q_lp (A:=fun (s:Int×(List Int))=>[.int .i64 s.1]) (B:=fun s=>sl false v0_ (s.2:List Int)::L0) 0 rr ?_ ?_ ?_
           ·intro s10
            unfold s49_1 ms49_1
            exact q_p fr<|q_i (q_ixo 0 rfl rfl fun x7 hx7=>q_ldo 0 rfl hx7 rfl<|q_p fr<|q_ixo 0 rfl rfl fun x8 hx8=>q_ldo 0 rfl hx8 rfl<|q_c0 (aF2 (cv_p rfl) (cv_p rfl) fun l0_ l1_=>w50 (by omega) x7 x8) fun y2 hy2=>q_p fr<|q_i (q_exit 0 rr)<|q_p fr<|q_p fr<|q_ixo 0 rfl rfl fun x9 hx9=>q_ldo 0 rfl hx9 rfl<|q_ixo 0 rfl rfl fun x10 hx10=>q_ldo 0 rfl hx10 rfl<|q_ixo 0 rfl rfl fun x11 hx11=>q_stoe (y:=x9) 0 rfl rfl hx11 rfl (by decide)<|q_ixo 0 rfl rfl fun x12 hx12=>q_stoe (y:=x10) 0 rfl rfl hx12 rfl (by decide)<|q_p fr<|q_norm 0 rr)<|q_exit 0 rr
           ·exact fun i4 s11=>q_n (q_norm 0 rr)<|q_exit 0 rr
           ·exact fun s11=>q_lret 0 rr
          ·exact q_norm 0 rr
         ·intro s12
          refine q_p fr<|q_p fr<|q_i ?_ ?_
          ·refine q_p fr<|q_lp (A:=fun (s:Int×(List Int))=>[.int .i64 s.1]) (B:=fun s=>sl false v0_ (s.2:List Int)::L0) 0 rr ?_ ?_ ?_
           ·intro s13
            unfold s49_2 ms49_2
            exact q_p fr<|q_i (q_ixo 0 rfl rfl fun x13 hx13=>q_ldo 0 rfl hx13 rfl<|q_p fr<|q_ixo 0 rfl rfl fun x14 hx14=>q_ldo 0 rfl hx14 rfl<|q_c0 (aF2 (cv_p rfl) (cv_p rfl) fun l0_ l1_=>w50 (by omega) x13 x14) fun y3 hy3=>q_p fr<|q_i (q_exit 0 rr)<|q_p fr<|q_p fr<|q_ixo 0 rfl rfl fun x15 hx15=>q_ldo 0 rfl hx15 rfl<|q_ixo 0 rfl rfl fun x16 hx16=>q_ldo 0 rfl hx16 rfl<|q_ixo 0 rfl rfl fun x17 hx17=>q_stoe (y:=x15) 0 rfl rfl hx17 rfl (by decide)<|q_ixo 0 rfl rfl fun x18 hx18=>q_stoe (y:=x16) 0 rfl rfl hx18 rfl (by decide)<|q_p fr<|q_norm 0 rr)<|q_exit 0 rr
           ·exact fun i6 s14=>q_n (q_norm 0 rr)<|q_n (q_norm 0 rr)<|q_exit 0 rr
           ·exact fun s14=>q_lret 0 rr
          ·exact q_norm 0 rr
         ·exact fun i5 s12=>q_n (q_norm 0 rr)<|q_exit 0 rr
         ·exact fun s12=>q_lret 0 rr
      ·exact q_n (q_norm 0 rr)<|q_exit 0 rr
     ·exact fun s8=>q_lret 0 rr
    ·exact fun s15=>q_p fr<|q_norm 0 rr
    ·exact fun i7 s15=>q_exit 0 rr
    ·exact fun s15=>q_lret 0 rr
   ·exact q_exit 0 rr
  ·exact fun i8 s16=>q_n (q_ret2 0 rfl rfl)<|q_none
  ·exact fun s16=>q_ret2 0 rfl rfl
def ms51_0 (a1:Int) (s1:Int×Int×(List Int)) (s2:Int):Option (LO (Int)):=( ( bif decide (s2≤s1.2.1) then (getI s1.2.2 a1).bind fun x5=>(getI s1.2.2 s2).bind fun x6=>(m50 x5 x6).bind fun y1=>some (LO.norm (!y1)) else some (LO.norm false)).bind (contO (fun s5=>bif s5 then some (LO.norm s5) else some (LO.exit 2 s5)) (fun i1 s5=>some (LO.exit i1 s5)) (fun s5=>some (LO.ret s5)))).bind (contO (fun s6=>some (LO.norm (wi .i64 (s2 + 1)))) (fun i2 s6=>some (LO.exit i2 s2)) (fun s6=>some (LO.ret s2)))
def ms51_1 (a1:Int) (s1:Int×Int×(List Int)) (s7:Int) (s8:Int):Option (LO (Int)):=( ( bif decide (s7≤s8) then (getI s1.2.2 a1).bind fun x7=>(getI s1.2.2 s8).bind fun x8=>(m50 x7 x8).bind fun y2=>some (LO.norm y2) else some (LO.norm false)).bind (contO (fun s11=>bif s11 then some (LO.norm s11) else some (LO.exit 4 s11)) (fun i4 s11=>some (LO.exit i4 s11)) (fun s11=>some (LO.ret s11)))).bind (contO (fun s12=>some (LO.norm (wi .i64 (s8 - 1)))) (fun i5 s12=>some (LO.exit i5 s8)) (fun s12=>some (LO.ret s8)))
def ms51_2 (a1:Int) (s1:Int×Int×(List Int)):Option (LO (Int×Int×(List Int))):=(loopO (ms51_0 a1 s1) NN s1.1).bind (contO (fun _=>none) (fun i3 s7=>if i3 = 2 then (loopO (ms51_1 a1 s1 s7) NN s1.2.1).bind (contO (fun _=>none) (fun i6 s13=>if i6 = 4 then bif decide (s7 > s13) then some (LO.exit 0 (s7,s13,s1.2.2)) else (getI s1.2.2 s13).bind fun x9=>(getI s1.2.2 s7).bind fun x10=>(getI s1.2.2 s7).bind fun x11=>(getI (s1.2.2.set (Int.toNat s7) x9) s13).bind fun x12=>some (LO.norm (wi .i64 (s7 + 1),wi .i64 (s13 - 1),(s1.2.2.set (Int.toNat s7) x9).set (Int.toNat s13) x10)) else if i6 = 1 then some (LO.norm (s7,s13,s1.2.2)) else some (LO.exit i6 (s7,s13,s1.2.2))) (fun s13=>some (LO.ret (s7,s13,s1.2.2)))) else if i3 = 1 then some (LO.norm (s7,s1.2.1,s1.2.2)) else some (LO.exit i3 (s7,s1.2.1,s1.2.2))) (fun s7=>some (LO.ret (s7,s1.2.1,s1.2.2))))
def m51 (a0:List Int) (a1:Int) (a2:Int) (a3:Int):Option (Int×(List Int)):=(getI a0 a3).bind fun x1=>(getI a0 a1).bind fun x2=>(getI a0 a1).bind fun x3=>(getI (a0.set (Int.toNat a1) x1) a3).bind fun x4=>(loopO (ms51_2 a1) NN (wi .i64 (a1 + 1),wi .i64 (a2 - 1),(a0.set (Int.toNat a1) x1).set (Int.toNat a3) x2)).bind (contO (fun _=>none) (fun i7 s14=>if i7 = 0 then some (s14.1,s14.2.2) else none) (fun s14=>some (0,s14.2.2)))
theorem w51 {d:Nat} (hd:3≤d) (L0:List En) (v0_:AV) (a0:List Int) (a1:Int) (a2:Int) (a3:Int):Okh (sl false v0_ (a0:List Int)::L0) (fun S=>R NN d 51 [v0_,.int .i64 a1,.int .i64 a2,.int .i64 a3] S) (m51 a0 a1 a2 a3) (P2 (fun (t:Int×(List Int))=>AV.int .i64 t.1) (fun (t:Int×(List Int))=>sl false v0_ t.2::L0)):=by
  obtain ⟨d,rfl,g⟩:=up hd
  refine q_to (t51 NN d _ _ _ _) ?_
  unfold b51 m51
  refine q_ixo 0 rfl rfl fun x1 hx1=>q_ldo 0 rfl hx1 rfl<|q_ixo 0 rfl rfl fun x2 hx2=>q_ldo 0 rfl hx2 rfl<|q_ixo 0 rfl rfl fun x3 hx3=>q_stoe (y:=x1) 0 rfl rfl hx3 rfl (by decide)<|q_ixo 0 rfl rfl fun x4 hx4=>q_stoe (y:=x2) 0 rfl rfl hx4 rfl (by decide)<|q_p fr<|q_p fr<|q_lp (A:=fun (s:Int×Int×(List Int))=>[.int .i64 s.1,.int .i64 s.2.1]) (B:=fun s=>sl false v0_ (s.2.2:List Int)::L0) 0 rr ?_ ?_ ?_
  ·intro s1
   unfold s51_2 ms51_2
   refine q_lp (A:=fun (s:Int)=>[.int .i64 s]) (B:=fun s=>sl false v0_ (s1.2.2:List Int)::L0) 0 rr ?_ ?_ ?_
   ·intro s2
    unfold s51_0 ms51_0
    refine q_cu (A:=fun (s:Bool)=>[.bool s]) (B:=fun s=>sl false v0_ (s1.2.2:List Int)::L0) ?_ ?_ ?_ ?_
    ·refine q_cu (A:=fun (s:Bool)=>[.bool s]) (B:=fun s=>sl false v0_ (s1.2.2:List Int)::L0) ?_ ?_ ?_ ?_
     ·exact q_p fr<|q_k (q_ixo 0 rfl rfl fun x5 hx5=>q_ldo 0 rfl hx5 rfl<|q_ixo 0 rfl rfl fun x6 hx6=>q_ldo 0 rfl hx6 rfl<|q_c0 (aF2 (cv_p rfl) (cv_p rfl) fun l0_ l1_=>w50 (by omega) x5 x6) fun y1 hy1=>q_p fr<|q_norm 0 rr)<|q_norm 0 rr
     ·exact fun s5=>q_i (q_norm 0 rr)<|q_exit 0 rr
     ·exact fun i1 s5=>q_exit 0 rr
     ·exact fun s5=>q_lret 0 rr
    ·exact fun s6=>q_p fr<|q_norm 0 rr
    ·exact fun i2 s6=>q_exit 0 rr
    ·exact fun s6=>q_lret 0 rr
   ·intro i3 s7
    refine q_n ?_ ?_
    ·refine q_lp (A:=fun (s:Int)=>[.int .i64 s]) (B:=fun s=>sl false v0_ (s1.2.2:List Int)::L0) 0 rr ?_ ?_ ?_
     ·intro s8
      unfold s51_1 ms51_1
      refine q_cu (A:=fun (s:Bool)=>[.bool s]) (B:=fun s=>sl false v0_ (s1.2.2:List Int)::L0) ?_ ?_ ?_ ?_
      ·refine q_cu (A:=fun (s:Bool)=>[.bool s]) (B:=fun s=>sl false v0_ (s1.2.2:List Int)::L0) ?_ ?_ ?_ ?_
       ·exact q_p fr<|q_k (q_ixo 0 rfl rfl fun x7 hx7=>q_ldo 0 rfl hx7 rfl<|q_ixo 0 rfl rfl fun x8 hx8=>q_ldo 0 rfl hx8 rfl<|q_c0 (aF2 (cv_p rfl) (cv_p rfl) fun l0_ l1_=>w50 (by omega) x7 x8) fun y2 hy2=>q_norm 0 rr)<|q_norm 0 rr
       ·exact fun s11=>q_i (q_norm 0 rr)<|q_exit 0 rr
       ·exact fun i4 s11=>q_exit 0 rr
       ·exact fun s11=>q_lret 0 rr
      ·exact fun s12=>q_p fr<|q_norm 0 rr
      ·exact fun i5 s12=>q_exit 0 rr
      ·exact fun s12=>q_lret 0 rr
     ·exact fun i6 s13=>q_n (q_p fr<|q_i (q_exit 0 rr)<|q_ixo 0 rfl rfl fun x9 hx9=>q_ldo 0 rfl hx9 rfl<|q_ixo 0 rfl rfl fun x10 hx10=>q_ldo 0 rfl hx10 rfl<|q_ixo 0 rfl rfl fun x11 hx11=>q_stoe (y:=x9) 0 rfl rfl hx11 rfl (by decide)<|q_ixo 0 rfl rfl fun x12 hx12=>q_stoe (y:=x10) 0 rfl rfl hx12 rfl (by decide)<|q_p fr<|q_p fr<|q_norm 0 rr)<|q_n (q_norm 0 rr)<|q_exit 0 rr
     ·exact fun s13=>q_lret 0 rr
    ·exact q_n (q_norm 0 rr)<|q_exit 0 rr
   ·exact fun s7=>q_lret 0 rr
  ·exact fun i7 s14=>q_n (q_ret2 0 rfl rfl)<|q_none
  ·exact fun s14=>q_ret2 0 rfl rfl
def ms52_0 (a0:List Int) (a1:Int) (a2:Int) (a3:Int) (x1:Int) (x2:Int) (s1:Int):Option (LO (Int)):=( ( bif decide (s1≤(wi .i64 (a2 - 1))) then (getI ((a0.set (Int.toNat a1) x1).set (Int.toNat a3) x2) s1).bind fun x5=>(getI ((a0.set (Int.toNat a1) x1).set (Int.toNat a3) x2) a1).bind fun x6=>(m50 x5 x6).bind fun y1=>some (LO.norm y1) else some (LO.norm false)).bind (contO (fun s4=>bif s4 then some (LO.norm s4) else some (LO.exit 0 s4)) (fun i1 s4=>some (LO.exit i1 s4)) (fun s4=>some (LO.ret s4)))).bind (contO (fun s5=>some (LO.norm (wi .i64 (s1 + 1)))) (fun i2 s5=>some (LO.exit i2 s1)) (fun s5=>some (LO.ret s1)))
def ms52_1 (a0:List Int) (a1:Int) (a3:Int) (s6:Int) (x1:Int) (x2:Int) (s7:Int):Option (LO (Int)):=( ( bif decide (s6≤s7) then (getI ((a0.set (Int.toNat a1) x1).set (Int.toNat a3) x2) s7).bind fun x7=>(getI ((a0.set (Int.toNat a1) x1).set (Int.toNat a3) x2) a1).bind fun x8=>(m50 x7 x8).bind fun y2=>some (LO.norm (!y2)) else some (LO.norm false)).bind (contO (fun s10=>bif s10 then some (LO.norm s10) else some (LO.exit 2 s10)) (fun i4 s10=>some (LO.exit i4 s10)) (fun s10=>some (LO.ret s10)))).bind (contO (fun s11=>some (LO.norm (wi .i64 (s7 - 1)))) (fun i5 s11=>some (LO.exit i5 s7)) (fun s11=>some (LO.ret s7)))
def ms52_2 (a1:Int) (s13:Int×Int×(List Int)) (s14:Int):Option (LO (Int)):=( ( bif decide (s14≤s13.2.1) then (getI s13.2.2 s14).bind fun x17=>(getI s13.2.2 a1).bind fun x18=>(m50 x17 x18).bind fun y3=>some (LO.norm y3) else some (LO.norm false)).bind (contO (fun s17=>bif s17 then some (LO.norm s17) else some (LO.exit 6 s17)) (fun i7 s17=>some (LO.exit i7 s17)) (fun s17=>some (LO.ret s17)))).bind (contO (fun s18=>some (LO.norm (wi .i64 (s14 + 1)))) (fun i8 s18=>some (LO.exit i8 s14)) (fun s18=>some (LO.ret s14)))
def ms52_3 (a1:Int) (s13:Int×Int×(List Int)) (s19:Int) (s20:Int):Option (LO (Int)):=( ( bif decide (s19≤s20) then (getI s13.2.2 s20).bind fun x19=>(getI s13.2.2 a1).bind fun x20=>(m50 x19 x20).bind fun y4=>some (LO.norm (!y4)) else some (LO.norm false)).bind (contO (fun s23=>bif s23 then some (LO.norm s23) else some (LO.exit 8 s23)) (fun i10 s23=>some (LO.exit i10 s23)) (fun s23=>some (LO.ret s23)))).bind (contO (fun s24=>some (LO.norm (wi .i64 (s20 - 1)))) (fun i11 s24=>some (LO.exit i11 s20)) (fun s24=>some (LO.ret s20)))
def ms52_4 (a1:Int) (s13:Int×Int×(List Int)):Option (LO (Int×Int×(List Int))):=(loopO (ms52_2 a1 s13) NN s13.1).bind (contO (fun _=>none) (fun i9 s19=>if i9 = 6 then (loopO (ms52_3 a1 s13 s19) NN s13.2.1).bind (contO (fun _=>none) (fun i12 s25=>if i12 = 8 then bif decide (s19 > s25) then some (LO.exit 4 (s19,s25,s13.2.2)) else (getI s13.2.2 s25).bind fun x21=>(getI s13.2.2 s19).bind fun x22=>(getI s13.2.2 s19).bind fun x23=>(getI (s13.2.2.set (Int.toNat s19) x21) s25).bind fun x24=>some (LO.norm (wi .i64 (s19 + 1),wi .i64 (s25 - 1),(s13.2.2.set (Int.toNat s19) x21).set (Int.toNat s25) x22)) else if i12 = 5 then some (LO.norm (s19,s25,s13.2.2)) else some (LO.exit i12 (s19,s25,s13.2.2))) (fun s25=>some (LO.ret (s19,s25,s13.2.2)))) else if i9 = 5 then some (LO.norm (s19,s13.2.1,s13.2.2)) else some (LO.exit i9 (s19,s13.2.1,s13.2.2))) (fun s19=>some (LO.ret (s19,s13.2.1,s13.2.2))))
def m52 (a0:List Int) (a1:Int) (a2:Int) (a3:Int):Option (Int×Bool×(List Int)):=(getI a0 a3).bind fun x1=>(getI a0 a1).bind fun x2=>(getI a0 a1).bind fun x3=>(getI (a0.set (Int.toNat a1) x1) a3).bind fun x4=>(loopO (ms52_0 a0 a1 a2 a3 x1 x2) NN (wi .i64 (a1 + 1))).bind (contO (fun _=>none) (fun i3 s6=>if i3 = 0 then (loopO (ms52_1 a0 a1 a3 s6 x1 x2) NN (wi .i64 (a2 - 1))).bind (contO (fun _=>none) (fun i6 s12=>if i6 = 2 then bif decide (s6 > s12) then (getI ((a0.set (Int.toNat a1) x1).set (Int.toNat a3) x2) a1).bind fun x9=>(getI ((a0.set (Int.toNat a1) x1).set (Int.toNat a3) x2) s12).bind fun x10=>(getI ((a0.set (Int.toNat a1) x1).set (Int.toNat a3) x2) s12).bind fun x11=>(getI (((a0.set (Int.toNat a1) x1).set (Int.toNat a3) x2).set (Int.toNat s12) x9) a1).bind fun x12=>some (s12,true,(((a0.set (Int.toNat a1) x1).set (Int.toNat a3) x2).set (Int.toNat s12) x9).set (Int.toNat a1) x10) else (getI ((a0.set (Int.toNat a1) x1).set (Int.toNat a3) x2) s12).bind fun x13=>(getI ((a0.set (Int.toNat a1) x1).set (Int.toNat a3) x2) s6).bind fun x14=>(getI ((a0.set (Int.toNat a1) x1).set (Int.toNat a3) x2) s6).bind fun x15=>(getI (((a0.set (Int.toNat a1) x1).set (Int.toNat a3) x2).set (Int.toNat s6) x13) s12).bind fun x16=>(loopO (ms52_4 a1) NN (wi .i64 (s6 + 1),wi .i64 (s12 - 1),(((a0.set (Int.toNat a1) x1).set (Int.toNat a3) x2).set (Int.toNat s6) x13).set (Int.toNat s12) x14)).bind (contO (fun _=>none) (fun i13 s26=>if i13 = 4 then (getI s26.2.2 a1).bind fun x25=>(getI s26.2.2 s26.2.1).bind fun x26=>(getI s26.2.2 s26.2.1).bind fun x27=>(getI (s26.2.2.set (Int.toNat s26.2.1) x25) a1).bind fun x28=>some (s26.2.1,false,(s26.2.2.set (Int.toNat s26.2.1) x25).set (Int.toNat a1) x26) else none) (fun s26=>some (0,false,s26.2.2))) else none) (fun s12=>some (0,false,(a0.set (Int.toNat a1) x1).set (Int.toNat a3) x2))) else none) (fun s6=>some (0,false,(a0.set (Int.toNat a1) x1).set (Int.toNat a3) x2)))
theorem w52 {d:Nat} (hd:3≤d) (L0:List En) (v0_:AV) (a0:List Int) (a1:Int) (a2:Int) (a3:Int):Okh (sl false v0_ (a0:List Int)::L0) (fun S=>R NN d 52 [v0_,.int .i64 a1,.int .i64 a2,.int .i64 a3] S) (m52 a0 a1 a2 a3) (P2 (fun (t:Int×Bool×(List Int))=>AV.tup [.int .i64 t.1,.bool t.2.1]) (fun (t:Int×Bool×(List Int))=>sl false v0_ t.2.2::L0)):=by
  obtain ⟨d,rfl,g⟩:=up hd
  refine q_to (t52 NN d _ _ _ _) ?_
  unfold b52 m52
  refine q_ixo 0 rfl rfl fun x1 hx1=>q_ldo 0 rfl hx1 rfl<|q_ixo 0 rfl rfl fun x2 hx2=>q_ldo 0 rfl hx2 rfl<|q_ixo 0 rfl rfl fun x3 hx3=>q_stoe (y:=x1) 0 rfl rfl hx3 rfl (by decide)<|q_ixo 0 rfl rfl fun x4 hx4=>q_stoe (y:=x2) 0 rfl rfl hx4 rfl (by decide)<|q_p fr<|q_p fr<|q_lp (A:=fun (s:Int)=>[.int .i64 s]) (B:=fun s=>sl false v0_ ((a0.set (Int.toNat a1) x1).set (Int.toNat a3) x2:List Int)::L0) 0 rr ?_ ?_ ?_
  ·intro s1
   unfold s52_0 ms52_0
   refine q_cu (A:=fun (s:Bool)=>[.bool s]) (B:=fun s=>sl false v0_ ((a0.set (Int.toNat a1) x1).set (Int.toNat a3) x2:List Int)::L0) ?_ ?_ ?_ ?_
   ·refine q_cu (A:=fun (s:Bool)=>[.bool s]) (B:=fun s=>sl false v0_ ((a0.set (Int.toNat a1) x1).set (Int.toNat a3) x2:List Int)::L0) ?_ ?_ ?_ ?_
    ·exact q_p fr<|q_k (q_ixo 0 rfl rfl fun x5 hx5=>q_ldo 0 rfl hx5 rfl<|q_ixo 0 rfl rfl fun x6 hx6=>q_ldo 0 rfl hx6 rfl<|q_c0 (aF2 (cv_p rfl) (cv_p rfl) fun l0_ l1_=>w50 (by omega) x5 x6) fun y1 hy1=>q_norm 0 rr)<|q_norm 0 rr
    ·exact fun s4=>q_i (q_norm 0 rr)<|q_exit 0 rr
    ·exact fun i1 s4=>q_exit 0 rr
    ·exact fun s4=>q_lret 0 rr
   ·exact fun s5=>q_p fr<|q_norm 0 rr
   ·exact fun i2 s5=>q_exit 0 rr
   ·exact fun s5=>q_lret 0 rr
  ·intro i3 s6
   refine q_n ?_ ?_
   ·refine q_lp (A:=fun (s:Int)=>[.int .i64 s]) (B:=fun s=>sl false v0_ ((a0.set (Int.toNat a1) x1).set (Int.toNat a3) x2:List Int)::L0) 0 rr ?_ ?_ ?_
    ·intro s7
     unfold s52_1 ms52_1
     refine q_cu (A:=fun (s:Bool)=>[.bool s]) (B:=fun s=>sl false v0_ ((a0.set (Int.toNat a1) x1).set (Int.toNat a3) x2:List Int)::L0) ?_ ?_ ?_ ?_
     ·refine q_cu (A:=fun (s:Bool)=>[.bool s]) (B:=fun s=>sl false v0_ ((a0.set (Int.toNat a1) x1).set (Int.toNat a3) x2:List Int)::L0) ?_ ?_ ?_ ?_
      ·exact q_p fr<|q_k (q_ixo 0 rfl rfl fun x7 hx7=>q_ldo 0 rfl hx7 rfl<|q_ixo 0 rfl rfl fun x8 hx8=>q_ldo 0 rfl hx8 rfl<|q_c0 (aF2 (cv_p rfl) (cv_p rfl) fun l0_ l1_=>w50 (by omega) x7 x8) fun y2 hy2=>q_p fr<|q_norm 0 rr)<|q_norm 0 rr
      ·exact fun s10=>q_i (q_norm 0 rr)<|q_exit 0 rr
      ·exact fun i4 s10=>q_exit 0 rr
      ·exact fun s10=>q_lret 0 rr
     ·exact fun s11=>q_p fr<|q_norm 0 rr
     ·exact fun i5 s11=>q_exit 0 rr
     ·exact fun s11=>q_lret 0 rr
    ·intro i6 s12
     refine q_n ?_ ?_
     ·refine q_p fr<|q_i ?_ ?_
      ·exact q_ixo 0 rfl rfl fun x9 hx9=>q_ldo 0 rfl hx9 rfl<|q_ixo 0 rfl rfl fun x10 hx10=>q_ldo 0 rfl hx10 rfl<|q_ixo 0 rfl rfl fun x11 hx11=>q_stoe (y:=x9) 0 rfl rfl hx11 rfl (by decide)<|q_ixo 0 rfl rfl fun x12 hx12=>q_stoe (y:=x10) 0 rfl rfl hx12 rfl (by decide)<|q_ret2 0 rfl rfl
      ·refine q_ixo 0 rfl rfl fun x13 hx13=>q_ldo 0 rfl hx13 rfl<|q_ixo 0 rfl rfl fun x14 hx14=>q_ldo 0 rfl hx14 rfl<|q_ixo 0 rfl rfl fun x15 hx15=>q_stoe (y:=x13) 0 rfl rfl hx15 rfl (by decide)<|q_ixo 0 rfl rfl fun x16 hx16=>q_stoe (y:=x14) 0 rfl rfl hx16 rfl (by decide)<|q_p fr<|q_p fr<|q_lp (A:=fun (s:Int×Int×(List Int))=>[.int .i64 s.1,.int .i64 s.2.1]) (B:=fun s=>sl false v0_ (s.2.2:List Int)::L0) 0 rr ?_ ?_ ?_
       ·intro s13
        unfold s52_4 ms52_4
        refine q_lp (A:=fun (s:Int)=>[.int .i64 s]) (B:=fun s=>sl false v0_ (s13.2.2:List Int)::L0) 0 rr ?_ ?_ ?_
        ·intro s14
         unfold s52_2 ms52_2
         refine q_cu (A:=fun (s:Bool)=>[.bool s]) (B:=fun s=>sl false v0_ (s13.2.2:List Int)::L0) ?_ ?_ ?_ ?_
         ·refine q_cu (A:=fun (s:Bool)=>[.bool s]) (B:=fun s=>sl false v0_ (s13.2.2:List Int)::L0) ?_ ?_ ?_ ?_
          ·exact q_p fr<|q_k (q_ixo 0 rfl rfl fun x17 hx17=>q_ldo 0 rfl hx17 rfl<|q_ixo 0 rfl rfl fun x18 hx18=>q_ldo 0 rfl hx18 rfl<|q_c0 (aF2 (cv_p rfl) (cv_p rfl) fun l0_ l1_=>w50 (by omega) x17 x18) fun y3 hy3=>q_norm 0 rr)<|q_norm 0 rr
          ·exact fun s17=>q_i (q_norm 0 rr)<|q_exit 0 rr
          ·exact fun i7 s17=>q_exit 0 rr
          ·exact fun s17=>q_lret 0 rr
         ·exact fun s18=>q_p fr<|q_norm 0 rr
         ·exact fun i8 s18=>q_exit 0 rr
         ·exact fun s18=>q_lret 0 rr
        ·intro i9 s19
         refine q_n ?_ ?_
         ·refine q_lp (A:=fun (s:Int)=>[.int .i64 s]) (B:=fun s=>sl false v0_ (s13.2.2:List Int)::L0) 0 rr ?_ ?_ ?_
          ·intro s20
           unfold s52_3 ms52_3
           refine q_cu (A:=fun (s:Bool)=>[.bool s]) (B:=fun s=>sl false v0_ (s13.2.2:List Int)::L0) ?_ ?_ ?_ ?_
           ·refine q_cu (A:=fun (s:Bool)=>[.bool s]) (B:=fun s=>sl false v0_ (s13.2.2:List Int)::L0) ?_ ?_ ?_ ?_
            ·exact q_p fr<|q_k (q_ixo 0 rfl rfl fun x19 hx19=>q_ldo 0 rfl hx19 rfl<|q_ixo 0 rfl rfl fun x20 hx20=>q_ldo 0 rfl hx20 rfl<|q_c0 (aF2 (cv_p rfl) (cv_p rfl) fun l0_ l1_=>w50 (by omega) x19 x20) fun y4 hy4=>q_p fr<|q_norm 0 rr)<|q_norm 0 rr
            ·exact fun s23=>q_i (q_norm 0 rr)<|q_exit 0 rr
            ·exact fun i10 s23=>q_exit 0 rr
            ·exact fun s23=>q_lret 0 rr
           ·exact fun s24=>q_p fr<|q_norm 0 rr
           ·exact fun i11 s24=>q_exit 0 rr
           ·exact fun s24=>q_lret 0 rr
          ·exact fun i12 s25=>q_n (q_p fr<|q_i (q_exit 0 rr)<|q_ixo 0 rfl rfl fun x21 hx21=>q_ldo 0 rfl hx21 rfl<|q_ixo 0 rfl rfl fun x22 hx22=>q_ldo 0 rfl hx22 rfl<|q_ixo 0 rfl rfl fun x23 hx23=>q_stoe (y:=x21) 0 rfl rfl hx23 rfl (by decide)<|q_ixo 0 rfl rfl fun x24 hx24=>q_stoe (y:=x22) 0 rfl rfl hx24 rfl (by decide)<|q_p fr<|q_p fr<|q_norm 0 rr)<|q_n (q_norm 0 rr)<|q_exit 0 rr
          ·exact fun s25=>q_lret 0 rr
         ·exact q_n (q_norm 0 rr)<|q_exit 0 rr
        ·exact fun s19=>q_lret 0 rr
       ·exact fun i13 s26=>q_n (q_ixo 0 rfl rfl fun x25 hx25=>q_ldo 0 rfl hx25 rfl<|q_ixo 0 rfl rfl fun x26 hx26=>q_ldo 0 rfl hx26 rfl<|q_ixo 0 rfl rfl fun x27 hx27=>q_stoe (y:=x25) 0 rfl rfl hx27 rfl (by decide)<|q_ixo 0 rfl rfl fun x28 hx28=>q_stoe (y:=x26) 0 rfl rfl hx28 rfl (by decide)<|q_ret2 0 rfl rfl)<|q_none
       ·exact fun s26=>q_ret2 0 rfl rfl
     ·exact q_none
    ·exact fun s12=>q_ret2 0 rfl rfl
   ·exact q_none
  ·exact fun s6=>q_ret2 0 rfl rfl
def ms41_0 (rec_:(List Int)→Int→Int→Int→Option ((List Int))) (s1:Int×Int×Int×Bool×Bool×(List Int)):Option (LO (Int×Int×Int×Bool×Bool×(List Int))):=bif decide ((wi .i64 (s1.2.1 - s1.1))≤12) then (m44 s1.2.2.2.2.2 s1.1 s1.2.1).bind fun y1=>some (LO.ret (s1.1,s1.2.1,s1.2.2.1,s1.2.2.2.1,s1.2.2.2.2.1,y1)) else bif s1.2.2.1 == 0 then (m45 s1.2.2.2.2.2 s1.1 s1.2.1).bind fun y2=>some (LO.ret (s1.1,s1.2.1,s1.2.2.1,s1.2.2.2.1,s1.2.2.2.2.1,y2)) else ( bif !s1.2.2.2.1 then (m46 s1.2.2.2.2.2 s1.1 s1.2.1).bind fun y3=>some (LO.norm (wi .i64 (s1.2.2.1 - 1),y3)) else some (LO.norm (s1.2.2.1,s1.2.2.2.2.2))).bind (contO (fun s3=>(m47 s3.2 s1.1 s1.2.1).bind fun y4=>( bif y4.2 == 2 then (m48 s3.2 s1.1 s1.2.1).bind fun y5=>some (LO.norm (wi .i64 ((wi .i64 (s1.2.1 - 1)) - (wi .i64 (y4.1 - s1.1))),1,y5)) else some (LO.norm (y4.1,y4.2,s3.2))).bind (contO (fun s5=>( ( bif s1.2.2.2.1 then bif s1.2.2.2.2.1 then some (LO.norm (s5.2.1 == 1)) else some (LO.norm false) else some (LO.norm false)).bind (contO (fun s8=>bif s8 then (m49 s5.2.2 s1.1 s1.2.1).bind fun y6=>bif y6.1 then some (LO.ret y6.2) else some (LO.norm y6.2) else some (LO.norm s5.2.2)) (fun i3 s8=>some (LO.exit i3 s5.2.2)) (fun s8=>some (LO.ret s5.2.2)))).bind (contO (fun s9=>( bif decide (s1.1 > 0) then (getI s9 (wi .i64 (s1.1 - 1))).bind fun x1=>(getI s9 s5.1).bind fun x2=>(m50 x1 x2).bind fun y7=>bif !y7 then (m51 s9 s1.1 s1.2.1 s5.1).bind fun y8=>some (LO.exit 1 (y8.1,y8.2)) else some (LO.norm (s1.1,s9)) else some (LO.norm (s1.1,s9))).bind (contO (fun s11=>(m52 s11.2 s11.1 s1.2.1 s5.1).bind fun y9=>bif decide ((wi .i64 (y9.1 - s11.1)) < (wi .i64 (s1.2.1 - y9.1))) then (rec_ y9.2.2 s11.1 y9.1 s3.1).bind fun y10=>some (LO.norm (wi .i64 (y9.1 + 1),s1.2.1,s3.1,decide ((wi .i64 (y9.1 - s11.1)) ≥ (wi .i64 (Int.tdiv (wi .i64 (s1.2.1 - s1.1)) 8))),y9.2.1,y10)) else (rec_ y9.2.2 (wi .i64 (y9.1 + 1)) s1.2.1 s3.1).bind fun y11=>some (LO.norm (s11.1,y9.1,s3.1,decide ((wi .i64 (s1.2.1 - y9.1)) ≥ (wi .i64 (Int.tdiv (wi .i64 (s1.2.1 - s1.1)) 8))),y9.2.1,y11))) (fun i5 s11=>if i5 = 1 then some (LO.norm (s11.1,s1.2.1,s3.1,s1.2.2.2.1,s1.2.2.2.2.1,s11.2)) else some (LO.exit i5 (s11.1,s1.2.1,s3.1,s1.2.2.2.1,s1.2.2.2.2.1,s11.2))) (fun s11=>some (LO.ret (s11.1,s1.2.1,s3.1,s1.2.2.2.1,s1.2.2.2.2.1,s11.2))))) (fun i4 s9=>if i4 = 1 then some (LO.norm (s1.1,s1.2.1,s3.1,s1.2.2.2.1,s1.2.2.2.2.1,s9)) else some (LO.exit i4 (s1.1,s1.2.1,s3.1,s1.2.2.2.1,s1.2.2.2.2.1,s9))) (fun s9=>some (LO.ret (s1.1,s1.2.1,s3.1,s1.2.2.2.1,s1.2.2.2.2.1,s9))))) (fun i2 s5=>if i2 = 1 then some (LO.norm (s1.1,s1.2.1,s3.1,s1.2.2.2.1,s1.2.2.2.2.1,s5.2.2)) else some (LO.exit i2 (s1.1,s1.2.1,s3.1,s1.2.2.2.1,s1.2.2.2.2.1,s5.2.2))) (fun s5=>some (LO.ret (s1.1,s1.2.1,s3.1,s1.2.2.2.1,s1.2.2.2.2.1,s5.2.2))))) (fun i1 s3=>if i1 = 1 then some (LO.norm (s1.1,s1.2.1,s3.1,s1.2.2.2.1,s1.2.2.2.2.1,s3.2)) else some (LO.exit i1 (s1.1,s1.2.1,s3.1,s1.2.2.2.1,s1.2.2.2.2.1,s3.2))) (fun s3=>some (LO.ret (s1.1,s1.2.1,s3.1,s1.2.2.2.1,s1.2.2.2.2.1,s3.2))))
def m41F (rec_:(List Int)→Int→Int→Int→Option ((List Int))) (a0:List Int) (a1:Int) (a2:Int) (a3:Int):Option ((List Int)):=(loopO (ms41_0 rec_) NN (a1,a2,a3,true,true,a0)).bind (contO (fun _=>none) (fun i6 s12=>if i6 = 0 then some s12.2.2.2.2.2 else none) (fun s12=>some s12.2.2.2.2.2))
def m41 (n:Nat):(List Int)→Int→Int→Int→Option ((List Int)):=Nat.rec (fun _ _ _ _=>none) (fun _ ih=>m41F ih) n
theorem w41:∀ (n d:Nat) (hd:n + 71≤d) (L0:List En) (v0_:AV) (a0:List Int) (a1:Int) (a2:Int) (a3:Int),Okh (sl false v0_ (a0:List Int)::L0) (fun S=>R NN d 41 [v0_,.int .i64 a1,.int .i64 a2,.int .i64 a3] S) (m41 n a0 a1 a2 a3) (P2 (fun (t:(List Int))=>und) (fun (t:(List Int))=>sl false v0_ t::L0))
  | 0,_,_,L0,v0_,a0,a1,a2,a3=>q_none
  | n + 1,d,hd,L0,v0_,a0,a1,a2,a3=>by
    have ih:=w41 n
    obtain ⟨d,rfl,g⟩:=up (n:=n + 71) (d:=d) (by omega)
    refine q_to (t41 NN d _ _ _ _) ?_
    rw [show m41 (n + 1) = m41F (m41 n) from rfl]
    unfold b41 m41F
    refine q_lp (A:=fun (s:Int×Int×Int×Bool×Bool×(List Int))=>[.int .i64 s.1,.int .i64 s.2.1,.int .i64 s.2.2.1,.bool s.2.2.2.1,.bool s.2.2.2.2.1]) (B:=fun s=>sl false v0_ (s.2.2.2.2.2:List Int)::L0) 0 rr ?_ ?_ ?_
    ·intro s1
     unfold s41_0 ms41_0
     refine q_p fr<|q_p fr<|q_i ?_ ?_
     ·exact q_s (mg:=m44 s1.2.2.2.2.2 s1.1 s1.2.1) (w44 (by omega) _ _ s1.2.2.2.2.2 s1.1 s1.2.1) fun y1 hy1=>q_lret 0 rr
     ·refine q_p fr<|q_i ?_ ?_
      ·exact q_s (mg:=m45 s1.2.2.2.2.2 s1.1 s1.2.1) (w45 (by omega) _ _ s1.2.2.2.2.2 s1.1 s1.2.1) fun y2 hy2=>q_lret 0 rr
      ·refine q_cu (A:=fun (s:Int×(List Int))=>[.int .i64 s.1]) (B:=fun s=>sl false v0_ (s.2:List Int)::L0) ?_ ?_ ?_ ?_
       ·refine q_p fr<|q_i ?_ ?_
        ·exact q_s (mg:=m46 s1.2.2.2.2.2 s1.1 s1.2.1) (w46 (by omega) _ _ s1.2.2.2.2.2 s1.1 s1.2.1) fun y3 hy3=>q_p fr<|q_norm 0 rr
        ·exact q_norm 0 rr
       ·intro s3
        refine q_c0 (aF3 (cv_o 0 rfl) (cv_p rfl) (cv_p rfl) fun l0_ l1_ l2_=>w47 (by omega) l0_ s3.2 s1.1 s1.2.1) fun y4 hy4=>q_q fr<|q_q fr<|q_cu (A:=fun (s:Int×Int×(List Int))=>[.int .i64 s.1,.int .i64 s.2.1]) (B:=fun s=>sl false v0_ (s.2.2:List Int)::L0) ?_ ?_ ?_ ?_
        ·refine q_p fr<|q_i ?_ ?_
         ·exact q_s (mg:=m48 s3.2 s1.1 s1.2.1) (w48 (by omega) _ _ s3.2 s1.1 s1.2.1) fun y5 hy5=>q_p fr<|q_p fr<|q_p fr<|q_norm 0 rr
         ·exact q_norm 0 rr
        ·intro s5
         refine q_cu (A:=fun (s:(List Int))=>[]) (B:=fun s=>sl false v0_ (s:List Int)::L0) ?_ ?_ ?_ ?_
         ·refine q_cu (A:=fun (s:Bool)=>[.bool s]) (B:=fun s=>sl false v0_ (s5.2.2:List Int)::L0) ?_ ?_ ?_ ?_
          ·refine q_k ?_ ?_
           ·refine q_k ?_ ?_
            ·exact q_p fr<|q_norm 0 rr
            ·exact q_norm 0 rr
           ·exact q_norm 0 rr
          ·intro s8
           refine q_i ?_ ?_
           ·refine q_s (mg:=m49 s5.2.2 s1.1 s1.2.1) (w49 (by omega) _ _ s5.2.2 s1.1 s1.2.1) fun y6 hy6=>q_i ?_ ?_
            ·exact q_lret 0 rr
            ·exact q_norm 0 rr
           ·exact q_norm 0 rr
          ·intro i3 s8
           exact q_exit 0 rr
          ·intro s8
           exact q_lret 0 rr
         ·intro s9
          refine q_cu (A:=fun (s:Int×(List Int))=>[.int .i64 s.1]) (B:=fun s=>sl false v0_ (s.2:List Int)::L0) ?_ ?_ ?_ ?_
          ·refine q_p fr<|q_k ?_ ?_
           ·refine q_p fr<|q_ixo 0 rfl rfl fun x1 hx1=>q_ldo 0 rfl hx1 rfl<|q_ixo 0 rfl rfl fun x2 hx2=>q_ldo 0 rfl hx2 rfl<|q_c0 (aF2 (cv_p rfl) (cv_p rfl) fun l0_ l1_=>w50 (by omega) x1 x2) fun y7 hy7=>q_p fr<|q_i ?_ ?_
            ·exact q_s (mg:=m51 s9 s1.1 s1.2.1 s5.1) (w51 (by omega) _ _ s9 s1.1 s1.2.1 s5.1) fun y8 hy8=>q_exit 0 rr
            ·exact q_norm 0 rr
           ·first | refine q_ifF1 ?_ | skip
            exact q_norm 0 rr
          ·intro s11
           refine q_s (mg:=m52 s11.2 s11.1 s1.2.1 s5.1) (w52 (by omega) _ _ s11.2 s11.1 s1.2.1 s5.1) fun y9 hy9=>q_q fr<|q_q fr<|q_p fr<|q_p fr<|q_p fr<|q_p fr<|q_i ?_ ?_
           ·exact q_p fr<|q_s (mg:=(m41 n) y9.2.2 s11.1 y9.1 s3.1) (ih d (by omega) _ _ y9.2.2 s11.1 y9.1 s3.1) fun y10 hy10=>q_p fr<|q_norm 0 rr
           ·exact q_p fr<|q_p fr<|q_s (mg:=(m41 n) y9.2.2 (wi .i64 (y9.1 + 1)) s1.2.1 s3.1) (ih d (by omega) _ _ y9.2.2 (wi .i64 (y9.1 + 1)) s1.2.1 s3.1) fun y11 hy11=>q_norm 0 rr
          ·intro i5 s11
           refine q_n ?_ ?_
           ·exact q_norm 0 rr
           ·exact q_exit 0 rr
          ·intro s11
           exact q_lret 0 rr
         ·intro i4 s9
          refine q_n ?_ ?_
          ·exact q_norm 0 rr
          ·exact q_exit 0 rr
         ·intro s9
          exact q_lret 0 rr
        ·intro i2 s5
         refine q_n ?_ ?_
         ·exact q_norm 0 rr
         ·exact q_exit 0 rr
        ·intro s5
         exact q_lret 0 rr
       ·intro i1 s3
        refine q_n ?_ ?_
        ·exact q_norm 0 rr
        ·exact q_exit 0 rr
       ·intro s3
        exact q_lret 0 rr
    ·intro i6 s12
     refine q_n ?_ ?_
     ·exact q_ret2 0 rfl rfl
     ·exact q_none
    ·intro s12
     exact q_ret2 0 rfl rfl
def m28 (a0:List Int):Option ((List Int)):=(m42 (wi .u64 (a0.length:Int))).bind fun y1=>(m41 64 a0 0 (a0.length:Int) y1).bind fun y2=>some y2
theorem w28 {d:Nat} (hd:136≤d) (L0:List En) (v0_:AV) (a0:List Int):Okh (sl false v0_ (a0:List Int)::L0) (fun S=>R NN d 28 [v0_] S) (m28 a0) (P2 (fun (t:(List Int))=>und) (fun (t:(List Int))=>sl false v0_ t::L0)):=by
  obtain ⟨d,rfl,g⟩:=up hd
  refine q_to (t28 NN d _) ?_
  unfold b28 m28
  exact q_leno 0 rfl<|q_p (fun _=>cvt3_70 _ _)<|q_c0 (aF1 (cv_p rfl) fun l0_=>w42 (by omega) (wi .u64 (a0.length:Int))) fun y1 hy1=>q_s (mg:=m41 64 a0 0 (a0.length:Int) y1) (w41 64 _ (by omega) _ _ a0 0 (a0.length:Int) y1) fun y2 hy2=>q_ret2 0 rfl rfl
def ms29_0 (lo n:Int) (s:Int×Int×List Int):Option (LO (Int×Int×List Int)):=bif decide (s.2.1 < n - lo) then ((getV s.2.2 lo n s.2.1).bind fun x1=>(getV s.2.2 lo n (wi .i64 (s.2.1 - 1))).bind fun x2=>bif x1 != x2 then (getV s.2.2 lo n s.2.1).bind fun x3=>(getI s.2.2 s.1).bind fun _=>some (LO.norm (wi .i64 (s.1 + 1),s.2.2.set s.1.toNat x3)) else some (LO.norm (s.1,s.2.2))).bind (contO (fun s'=>some (LO.norm (s'.1,wi .i64 (s.2.1 + 1),s'.2))) (fun i s'=>some (LO.exit i (s'.1,s.2.1,s'.2))) (fun s'=>some (LO.ret (s'.1,s.2.1,s'.2)))) else some (LO.exit 2 s)
def ms29_1 (xs:List Int) (s:Option (List Int)×Int):Option (LO (Option (List Int)×Int)):=
  match s.1 with
  | some _=>none
  | none=>
    bif decide (s.2 < (xs.length:Int)) then
      (getI xs s.2).bind fun x1=>(getI xs (wi .i64 (s.2 - 1))).bind fun x2=>
      bif x1 == x2 then
        (viO xs.length s.2 xs.length).bind fun _=>(loopO (ms29_0 s.2 xs.length) NN (s.2,1,xs)).bind (contO (fun _=>none) (fun i t=>if i = 2 then (viO t.2.2.length t.1 t.2.2.length).bind fun _=>(viO (clr t.2.2 t.1).length 0 t.1).bind fun _=>some (LO.ret (some ((clr t.2.2 t.1).take t.1.toNat),t.1)) else none) (fun _=>none))
      else some (LO.norm (none,wi .i64 (s.2 + 1)))
    else some (LO.exit 0 (none,s.2))
def m29 (xs:List Int):Option (List Int):=
  bif decide ((xs.length:Int) < 2) then some xs
  else (loopO (ms29_1 xs) NN (none,1)).bind (contO (fun _=>none) (fun i s=>if i = 0 then (match s.1 with | none=>some xs | some _=>none) else none) (fun s=>s.1))
theorem und29:Tryd.prog.underlying 33 = some (.slice 2):=by kernel_rfl
theorem zer29:zeroA Tryd.prog 2 = some (Enc.cs false (0:Int)):=by kernel_rfl
theorem w29 {d:Nat} (hd:1≤d) (L0:List En) (v0_:AV) (a0:List Int):Okh (sl false v0_ a0::L0) (fun S=>R NN d 29 [v0_] S) (m29 a0) (P2 (fun (t:List Int)=>cpv v0_ t.length) (fun (t:List Int)=>cl v0_ t::L0)):=by
  obtain ⟨d,rfl,g⟩:=up hd
  rw [show (fun S=>R NN (d + 1) 29 [v0_] S) = fun S=>b29 (cfg NN) (R NN d) (v0_) S from funext fun S=>t29 NN d v0_ S]
  have hwhole:Okh (sl false v0_ a0::L0) (fun S=>some (v0_,S)) (some a0) (P2 (fun (t:List Int)=>cpv v0_ t.length) (fun (t:List Int)=>cl v0_ t::L0)):=fun S hS t ht=>by
    injection ht with ht; subst ht
    refine ⟨_,rfl,?_,?_⟩
    · rcases hS.get (k:=0) rfl with ⟨rfl,rfl⟩ | ⟨b,fl,pl,rfl,_,_⟩
      · rfl
      · simp [cpv]
    · have h:=q_cl (L0:=L0) (v:=v0_) (xs:=a0) (k:=fun S=>some S) (m:=some ()) (P:=fun _ S'=>HP S' (cl v0_ a0::L0)) (fun S hS t ht=>⟨S,rfl,hS⟩) S hS () rfl
      obtain ⟨S',h1,h2⟩:=h
      injection h1 with h1; subst h1; exact h2
  unfold b29 m29
  refine q_leno 0 rfl ?_
  refine q_p (fun _=>rfl) ?_
  refine q_if (fun h1=>?_) (fun h1=>?_)
  · exact hwhole
  · refine q_loop (I:=(fun (s:Option (List Int)×Int) l L=>match s.1 with | none=>l = [.rsl false true [],.int .i64 s.2]∧L = sl false v0_ a0::L0 | some ys=>l = [cpv v0_ ys.length,.int .i64 s.2]∧L = cl v0_ ys::L0)) 0 rr ?_ ?_ ?_
    · rintro ⟨s1,k⟩ l L' hI
      cases s1 with
      | some ys=>exact q_none
      | none=>
        obtain ⟨rfl,rfl⟩:=hI
        unfold s29_1 ms29_1
        refine q_leno 0 rfl ?_
        refine q_p (fun _=>rfl) ?_
        refine q_if (fun h2=>?_) (fun h2=>?_)
        · refine q_ixo 0 rfl rfl fun x1 hx1=>?_
          refine q_ldo 0 rfl hx1 rfl ?_
          refine q_p (fun _=>rfl) ?_
          refine q_ixo 0 rfl rfl fun x2 hx2=>?_
          refine q_ldo 0 rfl hx2 rfl ?_
          refine q_p (fun _=>rfl) ?_
          refine q_i ?_ ?_
          · refine q_vi 0 rfl rfl (.inl rfl) (.inr ⟨rfl,rfl⟩) fun g1 g2 g3=>?_
            refine q_loop (I:=(fun (s:Int×Int×List Int) l L=>l = [.int .i64 s.1,.int .i64 s.2.1]∧L = sl false v0_ s.2.2::L0∧s.2.2.length = a0.length)) 0 ⟨rfl,rfl,rfl⟩ ?_ ?_ ?_
            · rintro ⟨i,k2,ys⟩ _ _ ⟨rfl,rfl,hl⟩
              unfold s29_0 ms29_0
              refine q_vlen 0 rfl g1 g2 (by dsimp only at hl ⊢; omega) ?_
              refine q_p (fun _=>rfl) ?_
              refine q_i ?_ ?_
              · refine q_cut (I:=(fun (s:Int×List Int) l L=>l = [.int .i64 s.1]∧L = sl false v0_ s.2::L0∧s.2.length = a0.length)) ?_ ?_ ?_ ?_
                · refine q_vix 0 rfl rfl g1 g2 (by dsimp only at hl ⊢; omega) fun x3 hx3=>?_
                  refine q_ldo 0 rfl hx3 rfl ?_
                  refine q_p (fun _=>rfl) ?_
                  refine q_vix 0 rfl rfl g1 g2 (by dsimp only at hl ⊢; omega) fun x4 hx4=>?_
                  refine q_ldo 0 rfl hx4 rfl ?_
                  refine q_p (fun _=>rfl) ?_
                  refine q_i ?_ ?_
                  · refine q_vix 0 rfl rfl g1 g2 (by dsimp only at hl ⊢; omega) fun x5 hx5=>?_
                    refine q_ldo 0 rfl hx5 rfl ?_
                    refine q_ixo 0 rfl rfl fun x6 hx6=>?_
                    refine q_stoe 0 rfl rfl hx6 rfl (by decide) ?_
                    refine q_p (fun _=>rfl) ?_
                    exact q_norm 0 ⟨rfl,rfl,by simpa using hl⟩
                  · exact q_norm 0 ⟨rfl,rfl,hl⟩
                · rintro ⟨i',ys'⟩ _ _ ⟨rfl,rfl,hl'⟩
                  refine q_p (fun _=>rfl) ?_
                  exact q_norm 0 ⟨rfl,rfl,hl'⟩
                · rintro j ⟨i',ys'⟩ _ _ ⟨rfl,rfl,hl'⟩
                  exact q_exit 0 ⟨rfl,rfl,hl'⟩
                · rintro ⟨i',ys'⟩ _ _ ⟨rfl,rfl,hl'⟩
                  exact q_lret 0 ⟨rfl,rfl,hl'⟩
              · exact q_exit 0 ⟨rfl,rfl,hl⟩
            · rintro j ⟨i,k2,ys⟩ _ _ ⟨rfl,rfl,hl⟩
              refine q_n ?_ ?_
              · refine q_vi 0 rfl rfl (.inl rfl) (.inr ⟨rfl,rfl⟩) fun g4 g5 g6=>?_
                refine q_vclr (te:=2) (z:=(0:Int)) 0 rfl und29 zer29 g4 g5 g6 ?_
                refine q_vi (xs:=clr ys i) (i:=0) 0 rfl rfl (.inr ⟨rfl,rfl⟩) (.inl rfl) fun g7 g8 g9=>?_
                have e1:((clr ys i).take i.toNat).length = i.toNat:=by rw [List.length_take]; omega
                refine q_cut0 (ys:=(clr ys i).take i.toNat) (by rw [e1]; rfl) ?_
                refine q_lret 0 ⟨?_,rfl⟩
                rw [e1]
                show [viA v0_ 0 i.toNat,_] = _
                rw [viA0]; rfl
              · exact q_none
            · rintro ⟨i,k2,ys⟩ _ _ ⟨rfl,rfl,hl⟩
              exact q_none
          · refine q_p (fun _=>rfl) ?_
            exact q_norm 0 rr
        · exact q_exit 0 rr
    · rintro i ⟨s1,k⟩ l L' hI
      refine q_n ?_ ?_
      · cases s1 with
        | some ys=>exact q_none
        | none=>obtain ⟨rfl,rfl⟩:=hI; exact hwhole
      · exact q_none
    · rintro ⟨s1,k⟩ l L' hI
      cases s1 with
      | none=>exact q_none
      | some ys=>
        obtain ⟨rfl,rfl⟩:=hI
        exact q_ret2 0 rfl rfl
def ms14_0 (a0:List TVote) (a1:TReply) (s1:Int×(List Int)):Option (LO (Int×(List Int))):=bif decide (s1.1 < (a0.length:Int)) then ( (getI a0 s1.1).bind fun x1=>bif ((x1.Reply.Code == a1.Code) && ((x1.Reply.Value == a1.Value) && ((x1.Reply.Path == a1.Path) && true))) then (appO 8 s1.2 [x1.From]).bind fun z1=>some (LO.norm z1) else some (LO.norm s1.2)).bind (contO (fun s3=>some (LO.norm (wi .i64 (s1.1 + 1),s3))) (fun i1 s3=>some (LO.exit i1 (s1.1,s3))) (fun s3=>some (LO.ret (s1.1,s3)))) else some (LO.exit 0 (s1.1,s1.2))
def m14 (a0:List TVote) (a1:TReply):Option ((List Int)):=(loopO (ms14_0 a0 a1) NN (0,[])).bind (contO (fun _=>none) (fun i2 s4=>if i2 = 0 then (m28 s4.2).bind fun y1=>(m29 y1).bind fun y2=>some y2 else none) (fun s4=>some []))
theorem w14 {d:Nat} (hd:137≤d) (k0:Bool) (a0:List TVote) (k1:Bool) (a1:TReply):Fit (R NN d 14 [.rsl k0 false (a0.map (Enc.cs k0)),.agg (Enc.cs k1 a1)] []) (m14 a0 a1) (P0 (fun (t:List Int)=>AV.rsl false false (t.map (Enc.cs false)))):=by
  obtain ⟨d,rfl,g⟩:=up hd
  refine q_in (t14 NN d _ _) ?_
  unfold b14 m14
  refine q_box (n:=3) rfl rfl (by decide) fun b1=>q_q (fun _=>qs33_0)<|q_len<|q_nil (α:=Int) false<|q_loop (I:=(fun (s:Int×(List Int)) l L=>∃ (v1:AV),l = [v1,.int .i64 s.1]∧L = [sl false v1 (s.2:List Int),bx b1 [.int .i64 a1.Code,.int .i64 a1.Value,encS a1.Path]])) 0 ⟨(.rsl false true []),rfl,rfl⟩ ?_ ?_ ?_
  ·rintro s1 _ _ ⟨v1,rfl,rfl⟩
   unfold s14_0 ms14_0
   refine q_p fr<|q_i ?_ ?_
   ·refine q_cut (I:=(fun (s:(List Int)) l L=>∃ (v2:AV),l = [v2]∧L = [sl false v2 (s:List Int),bx b1 [.int .i64 a1.Code,.int .i64 a1.Value,encS a1.Path]])) ?_ ?_ ?_ ?_
    ·exact q_ix rfl fun x1 hx1=>q_p fr<|q_new rfl fun b2=>q_st 0 rfl rfl rfl (by decide) rfl<|q_p fr<|q_lda 0 rfl rfl rfl<|q_lda 2 rfl rfl rfl<|q_p (fun _=>seql282 _ _ _ _ _ _)<|q_i (q_p fr<|q_ld 0 rfl rfl<|q_e (fun _=>bs33_1 rfl)<|q_app (ys:=[x1.From]) 1 rfl rfl (fun _ _=>rfl) fun v2 z1 hz1=>q_norm 1 ⟨v2,rfl,rfl⟩)<|q_norm 1 ⟨v1,rfl,rfl⟩
    ·rintro s3 _ _ ⟨v3,rfl,rfl⟩
     exact q_p fr<|q_norm 0 ⟨v3,rfl,rfl⟩
    ·rintro i1 s3 _ _ ⟨v4,rfl,rfl⟩
     exact q_exit 0 ⟨v4,rfl,rfl⟩
    ·rintro s3 _ _ ⟨v5,rfl,rfl⟩
     exact q_lret 0 ⟨v5,rfl,rfl⟩
   ·exact q_exit 0 ⟨v1,rfl,rfl⟩
  ·rintro i2 s4 _ _ ⟨v6,rfl,rfl⟩
   exact q_n (q_s (mg:=m28 s4.2) (w28 (by omega) _ _ s4.2) fun y1 hy1=>q_s (mg:=m29 y1) (w29 (by omega) _ _ y1) fun y2 hy2=>q_ret (cv_cl 0 rfl) rfl)<|q_none
  ·rintro s4 _ _ ⟨v7,rfl,rfl⟩
   exact q_ret (cv_r (α:=Int) (l0:=false) (fl:=true) (xs:=[])) rfl
def ms6_0 (a0:Int) (a1:List TVote) (s1:Int×Int×Int×Str):Option (LO (Int×Int×Int×Str)):=bif decide (s1.1 < (a1.length:Int)) then (getI a1 s1.1).bind fun x1=>(m14 a1 x1.Reply).bind fun y2=>bif decide ((y2.length:Int) > a0) then some (LO.ret (s1.1,x1.Reply.Code,x1.Reply.Value,x1.Reply.Path)) else some (LO.norm (wi .i64 (s1.1 + 1),s1.2.1,s1.2.2.1,s1.2.2.2)) else some (LO.exit 0 (s1.1,s1.2.1,s1.2.2.1,s1.2.2.2))
def m6 (a0:Int) (a1:List TVote):Option (TReplyResult):=(m8 a0 a1).bind fun y1=>bif y1 != 0 then some (⟨y1,(⟨0,0,[]⟩:TReply)⟩:TReplyResult) else (loopO (ms6_0 a0 a1) NN (0,0,0,[])).bind (contO (fun _=>none) (fun i1 s2=>if i1 = 0 then some (⟨10,(⟨0,0,[]⟩:TReply)⟩:TReplyResult) else none) (fun s2=>some (⟨0,(⟨s2.2.1,s2.2.2.1,s2.2.2.2⟩:TReply)⟩:TReplyResult)))
theorem w6 {d:Nat} (hd:138≤d) (a0:Int) (k1:Bool) (a1:List TVote):Fit (R NN d 6 [.int .i64 a0,.rsl k1 false (a1.map (Enc.cs k1))] []) (m6 a0 a1) (P0 (fun (t:TReplyResult)=>AV.agg (Enc.cs false t))):=by
  obtain ⟨d,rfl,g⟩:=up hd
  refine q_in (t6 NN d _ _) ?_
  unfold b6 m6
  refine q_new rfl fun b1=>q_c0 (aF2 (cv_p rfl) cv_r fun l0_ l1_=>w8 (by omega) a0 l1_ a1) fun y1 hy1=>q_p fr<|q_i ?_ ?_
  ·exact q_p (fun _=>bd30_0 rfl)<|q_st 0 rfl rfl rfl (by decide) rfl<|q_retm (fun S hS=>hS.lda 0 rfl rfl) (cv_a (cvs_cons (cv_p rfl) (cvs_cons (cv_p rfl) (cvs_cons (cv_p rfl) (cvs_cons (cv_p rfl) cvs_nil))))) rfl
  ·refine q_len<|q_lp (A:=fun (s:Int×Int×Int×Str)=>[.int .i64 s.1]) (B:=fun s=>[bx b1 [.int .i64 0,.int .i64 s.2.1,.int .i64 s.2.2.1,encS s.2.2.2]]) 0 rr ?_ ?_ ?_
   ·intro s1
    unfold s6_0 ms6_0
    exact q_p fr<|q_i (q_ix rfl fun x1 hx1=>q_p fr<|q_new rfl fun b2=>q_st 0 rfl rfl rfl (by decide) rfl<|q_p fr<|q_lda 0 rfl rfl rfl<|q_c0 (aF2 cv_r (cv_a (cvs_e (l0:=false) (x:=x1.Reply))) fun l0_ l1_=>w14 (by omega) l0_ a1 l1_ x1.Reply) fun y2 hy2=>q_len<|q_p fr<|q_i (q_p fr<|q_lda 0 rfl rfl rfl<|q_p (fun _=>bd30_1 rfl)<|q_st 1 rfl rfl rfl (by decide) rfl<|q_lret 1 rr)<|q_p fr<|q_norm 1 rr)<|q_exit 0 rr
   ·exact fun i1 s2=>q_n (q_p (fun _=>bd30_0 rfl)<|q_st 0 rfl rfl rfl (by decide) rfl<|q_retm (fun S hS=>hS.lda 0 rfl rfl) (cv_a (cvs_cons (cv_p rfl) (cvs_cons (cv_p rfl) (cvs_cons (cv_p rfl) (cvs_cons (cv_p rfl) cvs_nil))))) rfl)<|q_none
   ·exact fun s2=>q_retm (fun S hS=>hS.lda 0 rfl rfl) (cv_a (cvs_cons (cv_p rfl) (cvs_cons (cv_p rfl) (cvs_cons (cv_p rfl) (cvs_cons (cv_p rfl) cvs_nil))))) rfl
def m36 (a0:Int) (a1:Int) (a2:Int):Bool:=bif decide (a0 ≥ a1) then decide (a0≤a2) else false
theorem w36 {d:Nat} (hd:1≤d) (a0:Int) (a1:Int) (a2:Int):Fit (R NN d 36 [.int .i64 a0,.int .i64 a1,.int .i64 a2] []) (some (m36 a0 a1 a2)) PB:=by
  obtain ⟨d,rfl,g⟩:=up hd
  refine q_in (t36 NN d _ _ _) ?_
  unfold b36 m36
  exact q_p fr<|q_gTt (fun h1=>q_p fr<|q_ret (cv_p rfl) rfl) fun h1=>q_ret (cv_p rfl) rfl
def m23 (a0:TReply):Option (Bool):=( bif (m36 a0.Code 0 10) then bif (m36 a0.Value (-1) 9999) then some (LO.norm (decide ((a0.Path.length:Int)≤24))) else some (LO.norm false) else some (LO.norm false)).bind (contO (fun s2=>some s2) (fun i1 s2=>none) (fun s2=>some s2))
theorem w23 {d:Nat} (hd:2≤d) (k0:Bool) (a0:TReply):Fit (R NN d 23 [.rp k0 (Enc.cs k0 a0)] []) (m23 a0) PB:=by
  obtain ⟨d,rfl,g⟩:=up hd
  refine q_in (t23 NN d _) ?_
  unfold b23 m23
  refine q_cu (A:=fun (s:Bool)=>[.bool s]) (B:=fun s=>[]) ?_ ?_ ?_ ?_
  ·exact q_q fr<|q_p fr<|q_p fr<|q_c0t (aF3 (cv_p rfl) (cv_p rfl) (cv_p rfl) fun l0_ l1_ l2_=>w36 (by omega) a0.Code 0 10)<|q_k (q_q fr<|q_p fr<|q_p fr<|q_c0t (aF3 (cv_p rfl) (cv_p rfl) (cv_p rfl) fun l0_ l1_ l2_=>w36 (by omega) a0.Value (-1) 9999)<|q_k (q_q fr<|q_p fr<|q_p fr<|q_slen<|q_p fr<|q_norm 0 rr)<|q_norm 0 rr)<|q_norm 0 rr
  ·exact fun s2=>q_ret (cv_p rfl) rfl
  ·exact fun i1 s2=>q_none
  ·exact fun s2=>q_ret (cv_p rfl) rfl
def m30 (a0:Int):Bool:=(m36 a0 1 2)
theorem w30 {d:Nat} (hd:2≤d) (a0:Int):Fit (R NN d 30 [.int .i64 a0] []) (some (m30 a0)) PB:=by
  obtain ⟨d,rfl,g⟩:=up hd
  refine q_in (t30 NN d _) ?_
  unfold b30 m30
  exact q_c0t (aF3 (cv_p rfl) (cv_p rfl) (cv_p rfl) fun l0_ l1_ l2_=>w36 (by omega) a0 1 2)<|q_ret (cv_p rfl) rfl
def m31 (a0:Int) (a1:Int):Bool:=(m36 a1 1 (wi .i64 ((wi .i64 (3 * a0)) + 1)))
theorem w31 {d:Nat} (hd:2≤d) (a0:Int) (a1:Int):Fit (R NN d 31 [.int .i64 a0,.int .i64 a1] []) (some (m31 a0 a1)) PB:=by
  obtain ⟨d,rfl,g⟩:=up hd
  refine q_in (t31 NN d _ _) ?_
  unfold b31 m31
  exact q_p fr<|q_p fr<|q_c0t (aF3 (cv_p rfl) (cv_p rfl) (cv_p rfl) fun l0_ l1_ l2_=>w36 (by omega) a1 1 (wi .i64 ((wi .i64 (3 * a0)) + 1)))<|q_ret (cv_p rfl) rfl
def ms15_0 (a0:Int) (a1:List TVote) (s1:Int×Int):Option (LO (Int×Int)):=bif decide (s1.2 < (a1.length:Int)) then ( (getI a1 s1.2).bind fun x1=>bif !(m31 a0 x1.From) then some (LO.ret 3) else (getI a1 s1.2).bind fun x2=>(m23 x2.Reply).bind fun y1=>bif !y1 then some (LO.ret 3) else some (LO.norm s1.1)).bind (contO (fun s3=>some (LO.norm (s3,wi .i64 (s1.2 + 1)))) (fun i1 s3=>some (LO.exit i1 (s3,s1.2))) (fun s3=>some (LO.ret (s3,s1.2)))) else some (LO.exit 0 (s1.1,s1.2))
def m15 (a0:Int) (a1:List TVote):Option (Int):=bif !(m30 a0) then some 3 else bif decide ((a1.length:Int) > 40) then some 2 else (loopO (ms15_0 a0 a1) NN (0,0)).bind (contO (fun _=>none) (fun i2 s4=>if i2 = 0 then some 0 else none) (fun s4=>some s4.1))
theorem w15 {d:Nat} (hd:3≤d) (a0:Int) (k1:Bool) (a1:List TVote):Fit (R NN d 15 [.int .i64 a0,.rsl k1 false (a1.map (Enc.cs k1))] []) (m15 a0 a1) PI:=by
  obtain ⟨d,rfl,g⟩:=up hd
  refine q_in (t15 NN d _ _) ?_
  unfold b15 m15
  refine q_c0t (aF1 (cv_p rfl) fun l0_=>w30 (by omega) a0)<|q_p fr<|q_i ?_ ?_
  ·exact q_ret (cv_p rfl) rfl
  ·refine q_len<|q_p fr<|q_i ?_ ?_
   ·exact q_ret (cv_p rfl) rfl
   ·refine q_lp (A:=fun (s:Int×Int)=>[.int .i64 s.1,.int .i64 s.2]) (B:=fun s=>[]) 0 rr ?_ ?_ ?_
    ·intro s1
     unfold s15_0 ms15_0
     refine q_len<|q_p fr<|q_i ?_ ?_
     ·refine q_cu (A:=fun (s:Int)=>[.int .i64 s]) (B:=fun s=>[]) ?_ ?_ ?_ ?_
      ·refine q_ix rfl fun x1 hx1=>q_p fr<|q_p fr<|q_c0t (aF2 (cv_p rfl) (cv_p rfl) fun l0_ l1_=>w31 (by omega) a0 x1.From)<|q_p fr<|q_j ?_ ?_
       ·first | refine q_ifT1 ?_ | skip
        exact q_lret 0 rr
       ·exact q_ix rfl fun x2 hx2=>q_p fr<|q_c0 (aF1 (cv_rp (cvs_e (l0:=k1) (x:=x2.Reply)) (fun _ _ _ h=>Enc.frz k1 x2.Reply _ _ _ h)) fun l0_=>w23 (by omega) l0_ x2.Reply) fun y1 hy1=>q_p fr<|q_i (q_lret 0 rr)<|q_norm 0 rr
      ·exact fun s3=>q_p fr<|q_norm 0 rr
      ·exact fun i1 s3=>q_exit 0 rr
      ·exact fun s3=>q_lret 0 rr
     ·exact q_exit 0 rr
    ·exact fun i2 s4=>q_n (q_ret (cv_p rfl) rfl)<|q_none
    ·exact fun s4=>q_ret (cv_p rfl) rfl
def ms16_0 (a1:List TVote) (a2:TReply) (s1:Int×(List Int)) (s3:Bool×Int):Option (LO (Bool×Int)):=bif decide (s3.2 < (a1.length:Int)) then ( bif s3.1 then some (LO.norm true) else (getI a1 s3.2).bind fun x1=>bif x1.From == s1.1 then (getI a1 s3.2).bind fun x2=>some (LO.norm ((x2.Reply.Code == a2.Code) && ((x2.Reply.Value == a2.Value) && ((x2.Reply.Path == a2.Path) && true)))) else some (LO.norm false)).bind (contO (fun s5=>some (LO.norm (s5,wi .i64 (s3.2 + 1)))) (fun i1 s5=>some (LO.exit i1 (s5,s3.2))) (fun s5=>some (LO.ret (s5,s3.2)))) else some (LO.exit 2 (s3.1,s3.2))
def ms16_1 (a0:Int) (a1:List TVote) (a2:TReply) (s1:Int×(List Int)):Option (LO (Int×(List Int))):=bif decide (s1.1≤(wi .i64 ((wi .i64 (3 * a0)) + 1))) then ( (loopO (ms16_0 a1 a2 s1) NN (false,0)).bind (contO (fun _=>none) (fun i2 s6=>if i2 = 2 then bif s6.1 then (appO 8 s1.2 [s1.1]).bind fun z1=>some (LO.norm z1) else some (LO.norm s1.2) else if i2 = 1 then some (LO.norm s1.2) else some (LO.exit i2 s1.2)) (fun s6=>some (LO.ret s1.2)))).bind (contO (fun s7=>some (LO.norm (wi .i64 (s1.1 + 1),s7))) (fun i3 s7=>some (LO.exit i3 (s1.1,s7))) (fun s7=>some (LO.ret (s1.1,s7)))) else some (LO.exit 0 (s1.1,s1.2))
def m16 (a0:Int) (a1:List TVote) (a2:TReply):Option ((List Int)):=(loopO (ms16_1 a0 a1 a2) NN (1,[])).bind (contO (fun _=>none) (fun i4 s8=>if i4 = 0 then some s8.2 else none) (fun s8=>some []))
theorem w16 {d:Nat} (hd:1≤d) (a0:Int) (k1:Bool) (a1:List TVote) (k2:Bool) (a2:TReply):Fit (R NN d 16 [.int .i64 a0,.rsl k1 false (a1.map (Enc.cs k1)),.agg (Enc.cs k2 a2)] []) (m16 a0 a1 a2) (P0 (fun (t:List Int)=>AV.rsl false false (t.map (Enc.cs false)))):=by
  obtain ⟨d,rfl,g⟩:=up hd
  refine q_in (t16 NN d _ _ _) ?_
  unfold b16 m16
  refine q_box (n:=3) rfl rfl (by decide) fun b1=>q_q (fun _=>qs33_0)<|q_nil (α:=Int) false<|q_loop (I:=(fun (s:Int×(List Int)) l L=>∃ (v1:AV),l = [v1,.int .i64 s.1]∧L = [sl false v1 (s.2:List Int),bx b1 [.int .i64 a2.Code,.int .i64 a2.Value,encS a2.Path]])) 0 ⟨(.rsl false true []),rfl,rfl⟩ ?_ ?_ ?_
  ·rintro s1 _ _ ⟨v1,rfl,rfl⟩
   unfold s16_1 ms16_1
   refine q_p fr<|q_p fr<|q_p fr<|q_i ?_ ?_
   ·refine q_cut (I:=(fun (s:(List Int)) l L=>∃ (v2:AV),l = [v2]∧L = [sl false v2 (s:List Int),bx b1 [.int .i64 a2.Code,.int .i64 a2.Value,encS a2.Path]])) ?_ ?_ ?_ ?_
    ·refine q_lp (A:=fun (s:Bool×Int)=>[.bool s.1,.int .i64 s.2]) (B:=fun s=>[sl false v1 (s1.2:List Int),bx b1 [.int .i64 a2.Code,.int .i64 a2.Value,encS a2.Path]]) 0 rr ?_ ?_ ?_
     ·intro s3
      unfold s16_0 ms16_0
      refine q_len<|q_p fr<|q_i ?_ ?_
      ·refine q_cu (A:=fun (s:Bool)=>[.bool s]) (B:=fun s=>[sl false v1 (s1.2:List Int),bx b1 [.int .i64 a2.Code,.int .i64 a2.Value,encS a2.Path]]) ?_ ?_ ?_ ?_
       ·exact q_j (q_norm 0 rr)<|q_ix rfl fun x1 hx1=>q_p fr<|q_p fr<|q_p fr<|q_k (q_ix rfl fun x2 hx2=>q_p fr<|q_p fr<|q_lda 1 rfl rfl rfl<|q_p (fun _=>seql282 _ _ _ _ _ _)<|q_norm 0 rr)<|q_norm 0 rr
       ·exact fun s5=>q_p fr<|q_norm 0 rr
       ·exact fun i1 s5=>q_exit 0 rr
       ·exact fun s5=>q_lret 0 rr
      ·exact q_exit 0 rr
     ·exact fun i2 s6=>q_n (q_i (q_e (fun _=>bs33_1 rfl)<|q_app (ys:=[s1.1]) 0 rfl rfl (fun _ _=>rfl) fun v2 z1 hz1=>q_norm 0 ⟨v2,rfl,rfl⟩)<|q_norm 0 ⟨v1,rfl,rfl⟩)<|q_n (q_norm 0 ⟨v1,rfl,rfl⟩)<|q_exit 0 ⟨v1,rfl,rfl⟩
     ·exact fun s6=>q_lret 0 ⟨v1,rfl,rfl⟩
    ·rintro s7 _ _ ⟨v3,rfl,rfl⟩
     exact q_p fr<|q_norm 0 ⟨v3,rfl,rfl⟩
    ·rintro i3 s7 _ _ ⟨v4,rfl,rfl⟩
     exact q_exit 0 ⟨v4,rfl,rfl⟩
    ·rintro s7 _ _ ⟨v5,rfl,rfl⟩
     exact q_lret 0 ⟨v5,rfl,rfl⟩
   ·exact q_exit 0 ⟨v1,rfl,rfl⟩
  ·rintro i4 s8 _ _ ⟨v6,rfl,rfl⟩
   exact q_n (q_ret (cv_o 0 rfl) rfl)<|q_none
  ·rintro s8 _ _ ⟨v7,rfl,rfl⟩
   exact q_ret (cv_r (α:=Int) (l0:=false) (fl:=true) (xs:=[])) rfl
def ms7_0 (a0:Int) (a1:List TVote) (s1:Int×Int×Int×Str):Option (LO (Int×Int×Int×Str)):=bif decide (s1.1 < (a1.length:Int)) then (getI a1 s1.1).bind fun x1=>(m16 a0 a1 x1.Reply).bind fun y2=>bif decide ((y2.length:Int) > a0) then (getI a1 s1.1).bind fun x2=>some (LO.ret (s1.1,x2.Reply.Code,x2.Reply.Value,x2.Reply.Path)) else some (LO.norm (wi .i64 (s1.1 + 1),s1.2.1,s1.2.2.1,s1.2.2.2)) else some (LO.exit 0 (s1.1,s1.2.1,s1.2.2.1,s1.2.2.2))
def m7 (a0:Int) (a1:List TVote):Option (TReplyResult):=(m15 a0 a1).bind fun y1=>bif y1 != 0 then some (⟨y1,(⟨0,0,[]⟩:TReply)⟩:TReplyResult) else (loopO (ms7_0 a0 a1) NN (0,0,0,[])).bind (contO (fun _=>none) (fun i1 s2=>if i1 = 0 then some (⟨10,(⟨0,0,[]⟩:TReply)⟩:TReplyResult) else none) (fun s2=>some (⟨0,(⟨s2.2.1,s2.2.2.1,s2.2.2.2⟩:TReply)⟩:TReplyResult)))
theorem w7 {d:Nat} (hd:4≤d) (a0:Int) (k1:Bool) (a1:List TVote):Fit (R NN d 7 [.int .i64 a0,.rsl k1 false (a1.map (Enc.cs k1))] []) (m7 a0 a1) (P0 (fun (t:TReplyResult)=>AV.agg (Enc.cs false t))):=by
  obtain ⟨d,rfl,g⟩:=up hd
  refine q_in (t7 NN d _ _) ?_
  unfold b7 m7
  refine q_new rfl fun b1=>q_c0 (aF2 (cv_p rfl) cv_r fun l0_ l1_=>w15 (by omega) a0 l1_ a1) fun y1 hy1=>q_p fr<|q_i ?_ ?_
  ·exact q_p (fun _=>bd30_0 rfl)<|q_st 0 rfl rfl rfl (by decide) rfl<|q_retm (fun S hS=>hS.lda 0 rfl rfl) (cv_a (cvs_cons (cv_p rfl) (cvs_cons (cv_p rfl) (cvs_cons (cv_p rfl) (cvs_cons (cv_p rfl) cvs_nil))))) rfl
  ·refine q_lp (A:=fun (s:Int×Int×Int×Str)=>[.int .i64 s.1]) (B:=fun s=>[bx b1 [.int .i64 0,.int .i64 s.2.1,.int .i64 s.2.2.1,encS s.2.2.2]]) 0 rr ?_ ?_ ?_
   ·intro s1
    unfold s7_0 ms7_0
    exact q_len<|q_p fr<|q_i (q_ix rfl fun x1 hx1=>q_p fr<|q_p fr<|q_c0 (aF3 (cv_p rfl) cv_r (cv_a (cvs_e (l0:=k1) (x:=x1.Reply))) fun l0_ l1_ l2_=>w16 (by omega) a0 l1_ a1 l2_ x1.Reply) fun y2 hy2=>q_len<|q_p fr<|q_i (q_ix rfl fun x2 hx2=>q_p fr<|q_p fr<|q_p (fun _=>bd30_1 rfl)<|q_st 0 rfl rfl rfl (by decide) rfl<|q_lret 0 rr)<|q_p fr<|q_norm 0 rr)<|q_exit 0 rr
   ·exact fun i1 s2=>q_n (q_p (fun _=>bd30_0 rfl)<|q_st 0 rfl rfl rfl (by decide) rfl<|q_retm (fun S hS=>hS.lda 0 rfl rfl) (cv_a (cvs_cons (cv_p rfl) (cvs_cons (cv_p rfl) (cvs_cons (cv_p rfl) (cvs_cons (cv_p rfl) cvs_nil))))) rfl)<|q_none
   ·exact fun s2=>q_retm (fun S hS=>hS.lda 0 rfl rfl) (cv_a (cvs_cons (cv_p rfl) (cvs_cons (cv_p rfl) (cvs_cons (cv_p rfl) (cvs_cons (cv_p rfl) cvs_nil))))) rfl
def m9 (a0:Int) (a1:List TVote):Option (Int):=(m15 a0 a1).bind fun y1=>some y1
theorem w9 {d:Nat} (hd:4≤d) (a0:Int) (k1:Bool) (a1:List TVote):Fit (R NN d 9 [.int .i64 a0,.rsl k1 false (a1.map (Enc.cs k1))] []) (m9 a0 a1) PI:=by
  obtain ⟨d,rfl,g⟩:=up hd
  refine q_in (t9 NN d _ _) ?_
  unfold b9 m9
  exact q_c0 (aF2 (cv_p rfl) cv_r fun l0_ l1_=>w15 (by omega) a0 l1_ a1) fun y1 hy1=>q_ret (cv_p rfl) rfl
def m10 (a0:Int) (a1:List TVote) (a2:TReply):Option (TIntsResult):=(m8 a0 a1).bind fun y1=>bif y1 != 0 then some (⟨y1,[]⟩:TIntsResult) else (m14 a1 a2).bind fun y2=>some (⟨0,y2⟩:TIntsResult)
theorem w10 {d:Nat} (hd:138≤d) (a0:Int) (k1:Bool) (a1:List TVote) (k2:Bool) (a2:TReply):Fit (R NN d 10 [.int .i64 a0,.rsl k1 false (a1.map (Enc.cs k1)),.agg (Enc.cs k2 a2)] []) (m10 a0 a1 a2) (P0 (fun (t:TIntsResult)=>AV.agg (Enc.cs false t))):=by
  obtain ⟨d,rfl,g⟩:=up hd
  refine q_in (t10 NN d _ _ _) ?_
  unfold b10 m10
  exact q_box (n:=3) rfl rfl (by decide) fun b1=>q_new rfl fun b2=>q_c0 (aF2 (cv_p rfl) cv_r fun l0_ l1_=>w8 (by omega) a0 l1_ a1) fun y1 hy1=>q_p fr<|q_i (q_p (fun _=>bd35_0 rfl)<|q_st 0 rfl rfl rfl (by decide) rfl<|q_retm (fun S hS=>hS.lda 0 rfl rfl) (cv_a (cvs_cons (cv_p rfl) (cvs_cons (cv_r (α:=Int) (l0:=false) (fl:=true) (xs:=[])) cvs_nil))) rfl)<|q_lda 1 rfl rfl rfl<|q_c0 (aF2 cv_r (cv_a (cvs_e (l0:=false) (x:=a2))) fun l0_ l1_=>w14 (by omega) l0_ a1 l1_ a2) fun y2 hy2=>q_p (fun _=>bd35_1 rfl)<|q_st 0 rfl rfl rfl (by decide) rfl<|q_retm (fun S hS=>hS.lda 0 rfl rfl) (cv_a (cvs_cons (cv_p rfl) (cvs_cons cv_r cvs_nil))) rfl
def m35 (a0 a1:Int):Option Str:=fmtO a0 a1
theorem w35 {d:Nat} (hd:1≤d) (a0 a1:Int):Fit (R NN d 35 [.int .i64 a0,.int .i64 a1] []) (m35 a0 a1) (P0 encS):=by
  obtain ⟨d,rfl,g⟩:=up hd
  exact fit_fi (R:=R) (fun _ _ _=>t35 _ _ _ _ _) a0 a1
def m22 (a0:Int):Option (Str):=(m35 a0 10).bind fun y1=>some y1
theorem w22 {d:Nat} (hd:2≤d) (a0:Int):Fit (R NN d 22 [.int .i64 a0] []) (m22 a0) (P0 encS):=by
  obtain ⟨d,rfl,g⟩:=up hd
  refine q_in (t22 NN d _) ?_
  unfold b22 m22
  exact q_c0 (aF2 (cv_p rfl) (cv_p rfl) fun l0_ l1_=>w35 (by omega) a0 10) fun y1 hy1=>q_ret (cv_p rfl) rfl
def m11 (a0:TReply):Option (TTextResult):=(m21 a0).bind fun y1=>bif !y1 then some (⟨3,[]⟩:TTextResult) else (m22 a0.Code).bind fun y2=>(catO ([99,111,100,101,32]:Str) y2).bind fun t1=>(catO t1 ([32]:Str)).bind fun t2=>(m22 a0.Value).bind fun y3=>(catO t2 y3).bind fun t3=>( bif !(a0.Path == ([]:Str)) then (catO ([32]:Str) a0.Path).bind fun t4=>(catO t3 t4).bind fun t5=>some (LO.norm t5) else some (LO.norm t3)).bind (contO (fun s2=>some (⟨0,s2⟩:TTextResult)) (fun i1 s2=>none) (fun s2=>some (⟨0,[]⟩:TTextResult)))
theorem w11 {d:Nat} (hd:3≤d) (k0:Bool) (a0:TReply):Fit (R NN d 11 [.agg (Enc.cs k0 a0)] []) (m11 a0) (P0 (fun (t:TTextResult)=>AV.agg (Enc.cs false t))):=by
  obtain ⟨d,rfl,g⟩:=up hd
  refine q_in (t11 NN d _) ?_
  unfold b11 m11
  refine q_box (n:=3) rfl rfl (by decide) fun b1=>q_new rfl fun b2=>q_lda 1 rfl rfl rfl<|q_c0 (aF1 (cv_a (cvs_e (l0:=false) (x:=a0))) fun l0_=>w21 (by omega) l0_ a0) fun y1 hy1=>q_p fr<|q_i ?_ ?_
  ·exact q_p (fun _=>bd38_0 rfl)<|q_st 0 rfl rfl rfl (by decide) rfl<|q_retm (fun S hS=>hS.lda 0 rfl rfl) (cv_a (cvs_cons (cv_p rfl) (cvs_cons (cv_p rfl) cvs_nil))) rfl
  ·refine q_p fr<|q_ld 1 rfl rfl<|q_c0 (aF1 (cv_p rfl) fun l0_=>w22 (by omega) a0.Code) fun y2 hy2=>q_cat fun t1 ht1=>q_cat fun t2 ht2=>q_p fr<|q_ld 1 rfl rfl<|q_c0 (aF1 (cv_p rfl) fun l0_=>w22 (by omega) a0.Value) fun y3 hy3=>q_cat2 fun t3 ht3=>q_cu (A:=fun (s:Str)=>[encS s]) (B:=fun s=>[bx b2 [.int .i64 0,encS []],bx b1 [.int .i64 a0.Code,.int .i64 a0.Value,encS a0.Path]]) ?_ ?_ ?_ ?_
   ·exact q_p fr<|q_ld 1 rfl rfl<|q_p (fun _=>seq_neq)<|q_i (q_p fr<|q_ld 1 rfl rfl<|q_cat fun t4 ht4=>q_cat2 fun t5 ht5=>q_norm 0 rr)<|q_norm 0 rr
   ·exact fun s2=>q_p (fun _=>bd38_1 rfl)<|q_st 0 rfl rfl rfl (by decide) rfl<|q_retm (fun S hS=>hS.lda 0 rfl rfl) (cv_a (cvs_cons (cv_p rfl) (cvs_cons (cv_p rfl) cvs_nil))) rfl
   ·exact fun i1 s2=>q_none
   ·exact fun s2=>q_retm (fun S hS=>hS.lda 0 rfl rfl) (cv_a (cvs_cons (cv_p rfl) (cvs_cons (cv_p rfl) cvs_nil))) rfl
def m37F (rec_:Int→Option (Str)) (a0:Int):Option (Str):=bif decide (a0 < 0) then (rec_ (wi .i64 (0 - a0))).bind fun y1=>(catO ([45]:Str) y1).bind fun t1=>some t1 else bif decide (a0 < 10) then some ([UInt8.ofNat (Int.toNat (wi .u8 (wi .i64 (48 + a0))))]:Str) else (rec_ (wi .i64 (Int.tdiv a0 10))).bind fun y2=>(catO y2 ([UInt8.ofNat (Int.toNat (wi .u8 (wi .i64 (48 + (Int.tmod a0 10)))))]:Str)).bind fun t2=>some t2
def m37 (n:Nat):Int→Option (Str):=Nat.rec (fun _=>none) (fun _ ih=>m37F ih) n
theorem w37:∀ (n d:Nat) (hd:n + 65≤d) (a0:Int),Fit (R NN d 37 [.int .i64 a0] []) (m37 n a0) (P0 encS)
  | 0,_,_,a0=>(fun t ht=>by cases ht)
  | n + 1,d,hd,a0=>by
    have ih:=w37 n
    obtain ⟨d,rfl,g⟩:=up (n:=n + 65) (d:=d) (by omega)
    refine q_in (t37 NN d _) ?_
    rw [show m37 (n + 1) = m37F (m37 n) from rfl]
    unfold b37 m37F
    refine q_p fr<|q_i ?_ ?_
    ·exact q_p fr<|q_c0 (aF1 (cv_p rfl) fun l0_=>ih d (by omega) (wi .i64 (0 - a0))) fun y1 hy1=>q_cat fun t1 ht1=>q_ret (cv_p rfl) rfl
    ·refine q_p fr<|q_i ?_ ?_
     ·exact q_p fr<|q_p (fun _=>cvt2_5 _ _)<|q_q (fun _=>qb22)<|q_p (fun _=>cvb22_9 _ _)<|q_ret (cv_p rfl) rfl
     ·exact q_p fr<|q_c0 (aF1 (cv_p rfl) fun l0_=>ih d (by omega) (wi .i64 (Int.tdiv a0 10))) fun y2 hy2=>q_p fr<|q_p fr<|q_p (fun _=>cvt2_5 _ _)<|q_q (fun _=>qb22)<|q_p (fun _=>cvb22_9 _ _)<|q_cat2 fun t2 ht2=>q_ret (cv_p rfl) rfl
def m24 (a0:TReply):Option (Str):=(m37 64 a0.Code).bind fun y1=>(catO ([99,111,100,101,32]:Str) y1).bind fun t1=>(catO t1 ([32]:Str)).bind fun t2=>(m37 64 a0.Value).bind fun y2=>(catO t2 y2).bind fun t3=>bif !(a0.Path == ([]:Str)) then (catO t3 ([32]:Str)).bind fun t4=>(catO t4 a0.Path).bind fun t5=>some t5 else some t3
theorem w24 {d:Nat} (hd:130≤d) (k0:Bool) (a0:TReply):Fit (R NN d 24 [.rp k0 (Enc.cs k0 a0)] []) (m24 a0) (P0 encS):=by
  obtain ⟨d,rfl,g⟩:=up hd
  refine q_in (t24 NN d _) ?_
  unfold b24 m24
  exact q_q fr<|q_p fr<|q_p fr<|q_c0 (aF1 (cv_p rfl) fun l0_=>w37 64 _ (by omega) a0.Code) fun y1 hy1=>q_cat fun t1 ht1=>q_cat fun t2 ht2=>q_q fr<|q_p fr<|q_p fr<|q_c0 (aF1 (cv_p rfl) fun l0_=>w37 64 _ (by omega) a0.Value) fun y2 hy2=>q_cat2 fun t3 ht3=>q_q fr<|q_p fr<|q_p fr<|q_p (fun _=>seq_neq)<|q_i (q_cat fun t4 ht4=>q_q fr<|q_p fr<|q_p fr<|q_cat2 fun t5 ht5=>q_ret (cv_p rfl) rfl)<|q_ret (cv_p rfl) rfl
def m12 (a0:TReply):Option (TTextResult):=(m23 a0).bind fun y1=>bif !y1 then some (⟨3,[]⟩:TTextResult) else (m24 a0).bind fun y2=>some (⟨0,y2⟩:TTextResult)
theorem w12 {d:Nat} (hd:131≤d) (k0:Bool) (a0:TReply):Fit (R NN d 12 [.agg (Enc.cs k0 a0)] []) (m12 a0) (P0 (fun (t:TTextResult)=>AV.agg (Enc.cs false t))):=by
  obtain ⟨d,rfl,g⟩:=up hd
  refine q_in (t12 NN d _) ?_
  unfold b12 m12
  exact q_box (n:=3) rfl rfl (by decide) fun b1=>q_new rfl fun b2=>q_c0 (aF1 (cv_b 1 rfl (cvs_cons (cv_p rfl) (cvs_cons (cv_p rfl) (cvs_cons (cv_p rfl) cvs_nil)))) fun l0_=>w23 (by omega) l0_ a0) fun y1 hy1=>q_p fr<|q_i (q_p (fun _=>bd38_0 rfl)<|q_st 0 rfl rfl rfl (by decide) rfl<|q_retm (fun S hS=>hS.lda 0 rfl rfl) (cv_a (cvs_cons (cv_p rfl) (cvs_cons (cv_p rfl) cvs_nil))) rfl)<|q_c0 (aF1 (cv_b 1 rfl (cvs_cons (cv_p rfl) (cvs_cons (cv_p rfl) (cvs_cons (cv_p rfl) cvs_nil)))) fun l0_=>w24 (by omega) l0_ a0) fun y2 hy2=>q_p (fun _=>bd38_1 rfl)<|q_st 0 rfl rfl rfl (by decide) rfl<|q_retm (fun S hS=>hS.lda 0 rfl rfl) (cv_a (cvs_cons (cv_p rfl) (cvs_cons (cv_p rfl) cvs_nil))) rfl
def ms3_0 (s1:Bool×Int) (y1:Int×(List TVote)) (y2:TReplyResult) (y6:TIntsResult) (s2:Bool×Int):Option (LO (Bool×Int)):=bif decide (s2.2 < (y1.2.length:Int)) then ( bif s2.1 then some (LO.norm true) else (getI y1.2 s2.2).bind fun x1=>(getI y6.List s1.2).bind fun x2=>bif x1.From == x2 then (getI y1.2 s2.2).bind fun x3=>some (LO.norm ((x3.Reply.Code == y2.Reply.Code) && ((x3.Reply.Value == y2.Reply.Value) && ((x3.Reply.Path == y2.Reply.Path) && true)))) else some (LO.norm false)).bind (contO (fun s4=>some (LO.norm (s4,wi .i64 (s2.2 + 1)))) (fun i1 s4=>some (LO.exit i1 (s4,s2.2))) (fun s4=>some (LO.ret (s4,s2.2)))) else some (LO.exit 2 (s2.1,s2.2))
def ms3_1 (y1:Int×(List TVote)) (y2:TReplyResult) (y6:TIntsResult) (s1:Bool×Int):Option (LO (Bool×Int)):=bif decide (s1.2 < (y6.List.length:Int)) then (loopO (ms3_0 s1 y1 y2 y6) NN (false,0)).bind (contO (fun _=>none) (fun i2 s5=>if i2 = 2 then bif !s5.1 then some (LO.ret (false,s1.2)) else some (LO.norm (s1.1,wi .i64 (s1.2 + 1))) else if i2 = 1 then some (LO.norm (s1.1,wi .i64 (s1.2 + 1))) else some (LO.exit i2 (s1.1,s1.2))) (fun s5=>some (LO.ret (s1.1,s1.2)))) else some (LO.exit 0 (s1.1,s1.2))
def m3 (a0:List U8):Option (Bool):=bif (m4 a0) then some true else (m5 a0).bind fun y1=>(m6 y1.1 y1.2).bind fun y2=>bif y2.Code != 0 then (m7 y1.1 y1.2).bind fun y3=>bif y3.Code == y2.Code then (m8 y1.1 y1.2).bind fun y4=>(m9 y1.1 y1.2).bind fun y5=>some (y4 == y5) else some false else (m10 y1.1 y1.2 y2.Reply).bind fun y6=>(m11 y2.Reply).bind fun y7=>(loopO (ms3_1 y1 y2 y6) NN (false,0)).bind (contO (fun _=>none) (fun i3 s6=>if i3 = 0 then ( bif y6.Code == 0 then bif decide ((y6.List.length:Int) > y1.1) then (m7 y1.1 y1.2).bind fun y8=>bif ((y2.Reply.Code == y8.Reply.Code) && ((y2.Reply.Value == y8.Reply.Value) && ((y2.Reply.Path == y8.Reply.Path) && true))) then bif y7.Code == 0 then (m12 y2.Reply).bind fun y9=>some (LO.norm (y7.Text == y9.Text)) else some (LO.norm false) else some (LO.norm false) else some (LO.norm false) else some (LO.norm false)).bind (contO (fun s8=>some s8) (fun i4 s8=>none) (fun s8=>some s8)) else none) (fun s6=>some s6.1))
theorem w3 {d:Nat} (hd:139≤d) (k0:Bool) (a0:List U8):Fit (R NN d 3 [.rsl k0 false (a0.map (Enc.cs k0))] []) (m3 a0) PB:=by
  obtain ⟨d,rfl,g⟩:=up hd
  refine q_in (t3 NN d _) ?_
  unfold b3 m3
  refine q_c0t (aF1 cv_r fun l0_=>w4 (by omega) l0_ a0)<|q_i ?_ ?_
  ·exact q_ret (cv_p rfl) rfl
  ·refine q_c0 (aF1 cv_r fun l0_=>w5 (by omega) l0_ a0) fun y1 hy1=>q_q fr<|q_q fr<|q_c0 (aF2 (cv_p rfl) cv_r fun l0_ l1_=>w6 (by omega) y1.1 l1_ y1.2) fun y2 hy2=>q_new rfl fun b1=>q_st 0 rfl rfl rfl (by decide) rfl<|q_p fr<|q_ld 0 rfl rfl<|q_p fr<|q_i ?_ ?_
   ·exact q_c0 (aF2 (cv_p rfl) cv_r fun l0_ l1_=>w7 (by omega) y1.1 l1_ y1.2) fun y3 hy3=>q_p fr<|q_p fr<|q_ld 0 rfl rfl<|q_p fr<|q_k (q_c0 (aF2 (cv_p rfl) cv_r fun l0_ l1_=>w8 (by omega) y1.1 l1_ y1.2) fun y4 hy4=>q_c0 (aF2 (cv_p rfl) cv_r fun l0_ l1_=>w9 (by omega) y1.1 l1_ y1.2) fun y5 hy5=>q_p fr<|q_ret (cv_p rfl) rfl)<|q_ret (cv_p rfl) rfl
   ·refine q_p fr<|q_lda 0 rfl rfl rfl<|q_c0 (aF3 (cv_p rfl) cv_r (cv_a (cvs_e (l0:=false) (x:=y2.Reply))) fun l0_ l1_ l2_=>w10 (by omega) y1.1 l1_ y1.2 l2_ y2.Reply) fun y6 hy6=>q_new rfl fun b2=>q_st 0 rfl rfl rfl (by decide) rfl<|q_p fr<|q_lda 1 rfl rfl rfl<|q_c0 (aF1 (cv_a (cvs_e (l0:=false) (x:=y2.Reply))) fun l0_=>w11 (by omega) l0_ y2.Reply) fun y7 hy7=>q_new rfl fun b3=>q_st 0 rfl rfl rfl (by decide) rfl<|q_lp (A:=fun (s:Bool×Int)=>[.bool s.1,.int .i64 s.2]) (B:=fun s=>[bx b3 [.int .i64 y7.Code,encS y7.Text],bx b2 [.int .i64 y6.Code,.rsl false false (y6.List.map (Enc.cs false))],bx b1 [.int .i64 y2.Code,.int .i64 y2.Reply.Code,.int .i64 y2.Reply.Value,encS y2.Reply.Path]]) 0 rr ?_ ?_ ?_
    ·intro s1
     unfold s3_1 ms3_1
     refine q_p fr<|q_ld 1 rfl rfl<|q_len<|q_p fr<|q_i ?_ ?_
     ·refine q_lp (A:=fun (s:Bool×Int)=>[.bool s.1,.int .i64 s.2]) (B:=fun s=>[bx b3 [.int .i64 y7.Code,encS y7.Text],bx b2 [.int .i64 y6.Code,.rsl false false (y6.List.map (Enc.cs false))],bx b1 [.int .i64 y2.Code,.int .i64 y2.Reply.Code,.int .i64 y2.Reply.Value,encS y2.Reply.Path]]) 0 rr ?_ ?_ ?_
      ·intro s2
       unfold s3_0 ms3_0
       refine q_len<|q_p fr<|q_i ?_ ?_
       ·refine q_cu (A:=fun (s:Bool)=>[.bool s]) (B:=fun s=>[bx b3 [.int .i64 y7.Code,encS y7.Text],bx b2 [.int .i64 y6.Code,.rsl false false (y6.List.map (Enc.cs false))],bx b1 [.int .i64 y2.Code,.int .i64 y2.Reply.Code,.int .i64 y2.Reply.Value,encS y2.Reply.Path]]) ?_ ?_ ?_ ?_
        ·exact q_j (q_norm 0 rr)<|q_ix rfl fun x1 hx1=>q_p fr<|q_p fr<|q_p fr<|q_ld 1 rfl rfl<|q_ix rfl fun x2 hx2=>q_p fr<|q_p fr<|q_k (q_ix rfl fun x3 hx3=>q_p fr<|q_p fr<|q_p fr<|q_lda 2 rfl rfl rfl<|q_p (fun _=>seql282 _ _ _ _ _ _)<|q_norm 0 rr)<|q_norm 0 rr
        ·exact fun s4=>q_p fr<|q_norm 0 rr
        ·exact fun i1 s4=>q_exit 0 rr
        ·exact fun s4=>q_lret 0 rr
       ·exact q_exit 0 rr
      ·exact fun i2 s5=>q_n (q_p fr<|q_i (q_lret 0 rr)<|q_p fr<|q_norm 0 rr)<|q_n (q_p fr<|q_norm 0 rr)<|q_exit 0 rr
      ·exact fun s5=>q_lret 0 rr
     ·exact q_exit 0 rr
    ·intro i3 s6
     refine q_n ?_ ?_
     ·refine q_cu (A:=fun (s:Bool)=>[.bool s]) (B:=fun s=>[bx b3 [.int .i64 y7.Code,encS y7.Text],bx b2 [.int .i64 y6.Code,.rsl false false (y6.List.map (Enc.cs false))],bx b1 [.int .i64 y2.Code,.int .i64 y2.Reply.Code,.int .i64 y2.Reply.Value,encS y2.Reply.Path]]) ?_ ?_ ?_ ?_
      ·exact q_p fr<|q_ld 1 rfl rfl<|q_p fr<|q_k (q_p fr<|q_ld 1 rfl rfl<|q_len<|q_p fr<|q_k (q_p fr<|q_lda 2 rfl rfl rfl<|q_c0 (aF2 (cv_p rfl) cv_r fun l0_ l1_=>w7 (by omega) y1.1 l1_ y1.2) fun y8 hy8=>q_p fr<|q_p (fun _=>seql282 _ _ _ _ _ _)<|q_k (q_p fr<|q_ld 0 rfl rfl<|q_p fr<|q_k (q_p fr<|q_ld 0 rfl rfl<|q_p fr<|q_lda 2 rfl rfl rfl<|q_c0 (aF1 (cv_a (cvs_e (l0:=false) (x:=y2.Reply))) fun l0_=>w12 (by omega) l0_ y2.Reply) fun y9 hy9=>q_p fr<|q_p (fun _=>seq_eql2)<|q_norm 0 rr)<|q_norm 0 rr)<|q_norm 0 rr)<|q_norm 0 rr)<|q_norm 0 rr
      ·exact fun s8=>q_ret (cv_p rfl) rfl
      ·exact fun i4 s8=>q_none
      ·exact fun s8=>q_ret (cv_p rfl) rfl
     ·exact q_none
    ·exact fun s6=>q_ret (cv_p rfl) rfl
end
end Go.Proofs.YtocbahgmnandaaaDoor
