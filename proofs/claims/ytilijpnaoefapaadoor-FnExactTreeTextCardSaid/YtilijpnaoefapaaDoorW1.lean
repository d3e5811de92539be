/- Plain functions, and that the evaluator computes them. -/
import Derived.Test.YtilijpnaoefapaaDoorT
import Derived.Test.YtilijpnaoefapaaDoorRh6
import Derived.Test.YtilijpnaoefapaaDoorRh10
import Derived.Test.YtilijpnaoefapaaDoorRh11
namespace Go.Proofs.YtilijpnaoefapaaDoor
open Go Go.Rf
set_option linter.unusedVariables false
set_option linter.unusedSimpArgs false
noncomputable section
structure TZnode where
  Path:Str
  Data:Int
  Version:Int
  Owner:Int
  Next:Int
  deriving DecidableEq
instance:Enc TZnode:=(Enc.of fun x:TZnode=>(x.Path,x.Data,x.Version,x.Owner,x.Next)).copy (fun l x=>[encS x.Path,.int .i64 x.Data,.int .i64 x.Version,.int .i64 x.Owner,.int .i64 x.Next]) (fun _ _=>rfl) 5 0 rfl rfl
structure TTextResult where
  Code:Int
  Text:Str
  deriving DecidableEq
instance:Enc TTextResult:=(Enc.of fun x:TTextResult=>(x.Code,x.Text)).copy (fun l x=>[.int .i64 x.Code,encS x.Text]) (fun _ _=>rfl) 2 0 rfl rfl
theorem bd25_0 {x0 r:AV} (hr:(afill (plc [(0,1),(1,1)]) [.int .i64 0,.str ⟨#[]⟩] [(0,x0)]).map AV.agg = some r):abuild Tryd.prog 25 [(0,x0)] = some r:=Eq.trans (by kernel_rfl) hr
theorem bd25_1 {x1 r:AV} (hr:(afill (plc [(0,1),(1,1)]) [.int .i64 0,.str ⟨#[]⟩] [(1,x1)]).map AV.agg = some r):abuild Tryd.prog 25 [(1,x1)] = some r:=Eq.trans (by kernel_rfl) hr
theorem qb59 {n:Int} {S:St}:quietS (abuildS Tryd.prog 59 1 [(0,.int .u8 n)] S) S = some (.rsl false true [[.int .u8 n]],S):=by kernel_rfl
theorem qs53_0 {S:St}:quietS (abuildS Tryd.prog 53 0 [] S) S = some (.rsl false true [],S):=by kernel_rfl
theorem qs53_1 {x0:Str} {S:St}:quietS (abuildS Tryd.prog 53 1 [(0,encS x0)] S) S = some (.rsl false true [[encS x0]],S):=by kernel_rfl
theorem bs72_3 {x0 x1 x2 r:AV} {S:St} (hr:(aparts 1 0 [(0,x0),(1,x1),(2,x2)]).map (fun es=>mkS 1 es S) = some (r,S)):abuildS Tryd.prog 72 3 [(0,x0),(1,x1),(2,x2)] S = some (r,S):=Eq.trans (by kernel_rfl) hr
theorem cv36_37 (run:FuncId→List AV→St→Option (AV×St)) (cap args:List AV) (S:St):callV (cfg NN) run 36 (.fn 37 cap) args S = call0 run 37 (args++cap) S:=by kernel_rfl
theorem cvt2_5 (n:Int) (S:St):aconv Tryd.prog 2 5 (.int .i64 n) S = some (.int .u8 (wi .u8 n)):=by kernel_rfl
theorem cvt3_75 (n:Int) (S:St):aconv Tryd.prog 3 75 (.int .i64 n) S = some (.int .u64 (wi .u64 n)):=by kernel_rfl
theorem cvt5_80 (n:Int) (S:St):aconv Tryd.prog 5 80 (.int .u8 n) S = some (.int .u32 (wi .u32 n)):=by kernel_rfl
theorem cvt75_3 (n:Int) (S:St):aconv Tryd.prog 75 3 (.int .u64 n) S = some (.int .i64 (wi .i64 n)):=by kernel_rfl
theorem cvb59_9 (n:Int) (S:St):aconv Tryd.prog 59 9 (.rsl false true [[.int .u8 n]]) S = some (encS [UInt8.ofNat n.toNat]):=by kernel_rfl
theorem mk27 (S:St) (n:Nat) (h:(n + 1) * (48 + 1)≤70368744177664):amake Tryd.prog 27 (.int .i64 n) (.int .i64 n) S = some (.bsl S.length 0 n n true,S++[⟨5,List.replicate n [.str ⟨#[]⟩,.int .i64 0,.int .i64 0,.int .i64 0,.int .i64 0],true⟩]):=
  amake_ok (e:=37) (sz:=5) (by_:=48) (z:=[.str ⟨#[]⟩,.int .i64 0,.int .i64 0,.int .i64 0,.int .i64 0]) (z0:=[.str ⟨#[]⟩,.int .i64 0,.int .i64 0,.int .i64 0,.int .i64 0]) (by kernel_rfl) (by kernel_rfl) (by kernel_rfl) rfl rfl (by omega) rfl rfl h
theorem mk53 (S:St) (n:Nat) (h:(n + 1) * (16 + 1)≤70368744177664):amake Tryd.prog 53 (.int .i64 n) (.int .i64 n) S = some (.bsl S.length 0 n n true,S++[⟨1,List.replicate n [.str ⟨#[]⟩],true⟩]):=
  amake_ok (e:=9) (sz:=1) (by_:=16) (z:=[.str ⟨#[]⟩]) (z0:=[.str ⟨#[]⟩]) (by kernel_rfl) (by kernel_rfl) (by kernel_rfl) rfl rfl (by omega) rfl rfl h
def m10 (a0:TZnode) (a1:Int):Int:=bif decide ((wi .i64 (a1 - (a0.Path.length:Int))) < 0) then (-1) else wi .i64 (a1 - (a0.Path.length:Int))
theorem w10 {d:Nat} (hd:1≤d) (k0:Bool) (a0:TZnode) (a1:Int):Fit (R NN d 10 [.agg (Enc.cs k0 a0),.int .i64 a1] []) (some (m10 a0 a1)) PI:=by
  obtain ⟨d,rfl,g⟩:=up hd
  refine q_in (t10 NN d _ _) ?_
  unfold b10 m10
  exact q_box (n:=5) rfl rfl (by decide) fun b1=>q_p fr<|q_ld 0 rfl rfl<|q_slen<|q_p fr<|q_p fr<|q_ift (fun h1=>q_ret (cv_p rfl) rfl) fun h1=>q_ret (cv_p rfl) rfl
def ms4_0 (a0:List TZnode) (s1:Int×Int×Int):Option (LO (Int×Int×Int)):=bif decide (s1.2.2 < (a0.length:Int)) then (getI a0 s1.2.2).bind fun x1=>bif decide ((m10 x1 s1.1) < 0) then some (LO.ret ((m10 x1 s1.1),(-1),s1.2.2)) else some (LO.norm ((m10 x1 s1.1),s1.2.1,wi .i64 (s1.2.2 + 1))) else some (LO.exit 0 (s1.1,s1.2.1,s1.2.2))
def m4 (a0:List TZnode) (a1:Int):Option (Int):=bif decide ((wi .i64 (a1 - (a0.length:Int))) < 0) then some (-1) else (loopO (ms4_0 a0) NN (wi .i64 (a1 - (a0.length:Int)),0,0)).bind (contO (fun _=>none) (fun i1 s2=>if i1 = 0 then some s2.1 else none) (fun s2=>some s2.2.1))
theorem w4 {d:Nat} (hd:2≤d) (k0:Bool) (a0:List TZnode) (a1:Int):Fit (R NN d 4 [.rsl k0 false (a0.map (Enc.cs k0)),.int .i64 a1] []) (m4 a0 a1) PI:=by
  obtain ⟨d,rfl,g⟩:=up hd
  refine q_in (t4 NN d _ _) ?_
  unfold b4 m4
  refine q_len<|q_p fr<|q_p fr<|q_i ?_ ?_
  ·exact q_ret (cv_p rfl) rfl
  ·refine q_lp (A:=fun (s:Int×Int×Int)=>[.int .i64 s.1,.int .i64 s.2.1,.int .i64 s.2.2]) (B:=fun s=>[]) 0 rr ?_ ?_ ?_
   ·intro s1
    unfold s4_0 ms4_0
    exact q_len<|q_p fr<|q_i (q_ix rfl fun x1 hx1=>q_p fr<|q_c0t (aF2 (cv_a (cvs_e (l0:=k0) (x:=x1))) (cv_p rfl) fun l0_ l1_=>w10 (by omega) l0_ x1 s1.1)<|q_p fr<|q_i (q_lret 0 rr)<|q_p fr<|q_norm 0 rr)<|q_exit 0 rr
   ·exact fun i1 s2=>q_n (q_ret (cv_p rfl) rfl)<|q_none
   ·exact fun s2=>q_ret (cv_p rfl) rfl
def ms29_0 (a0:Str) (a1:Int) (s1:Int×Int×(List Str)):Option (LO (Int×Int×(List Str))):=bif decide (s1.2.1≤(a0.length:Int)) then ( bif s1.2.1 == (a0.length:Int) then (subI a0 s1.1 s1.2.1).bind fun t2=>(appO 16 s1.2.2 [t2]).bind fun z2=>some (LO.norm (wi .i64 (s1.2.1 + 1),z2)) else (getI a0 s1.2.1).bind fun c1=>bif (c1.toNat:Int) == a1 then (subI a0 s1.1 s1.2.1).bind fun t1=>(appO 16 s1.2.2 [t1]).bind fun z1=>some (LO.norm (wi .i64 (s1.2.1 + 1),z1)) else some (LO.norm (s1.1,s1.2.2))).bind (contO (fun s3=>some (LO.norm (s3.1,wi .i64 (s1.2.1 + 1),s3.2))) (fun i1 s3=>some (LO.exit i1 (s3.1,s1.2.1,s3.2))) (fun s3=>some (LO.ret (s3.1,s1.2.1,s3.2)))) else some (LO.exit 0 (s1.1,s1.2.1,s1.2.2))
def m29 (a0:Str) (a1:Int):Option ((List Str)):=(loopO (ms29_0 a0 a1) NN (0,0,[])).bind (contO (fun _=>none) (fun i2 s4=>if i2 = 0 then some s4.2.2 else none) (fun s4=>some []))
theorem w29 {d:Nat} (hd:1≤d) (a0:Str) (a1:Int):Fit (R NN d 29 [encS a0,.int .u8 a1] []) (m29 a0 a1) (P0 (fun (t:List Str)=>AV.rsl false false (t.map (Enc.cs false)))):=by
  obtain ⟨d,rfl,g⟩:=up hd
  refine q_in (t29 NN d _ _) ?_
  unfold b29 m29
  refine q_q (fun _=>qs53_0)<|q_nil (α:=Str) false<|q_loop (I:=(fun (s:Int×Int×(List Str)) l L=>∃ (v1:AV),l = [v1,.int .i64 s.1,.int .i64 s.2.1]∧L = [sl false v1 (s.2.2:List Str)])) 0 ⟨(.rsl false true []),rfl,rfl⟩ ?_ ?_ ?_
  ·rintro s1 _ _ ⟨v1,rfl,rfl⟩
   unfold s29_0 ms29_0
   refine q_slen<|q_p fr<|q_i ?_ ?_
   ·refine q_cut (I:=(fun (s:Int×(List Str)) l L=>∃ (v2:AV),l = [v2,.int .i64 s.1]∧L = [sl false v2 (s.2:List Str)])) ?_ ?_ ?_ ?_
    ·refine q_slen<|q_p fr<|q_j ?_ ?_
     ·first | refine q_ifT1 ?_ | skip
      exact q_ssub (.inl rfl) (.inl rfl) fun t2 ht2=>q_q (fun _=>qs53_1)<|q_app (ys:=[t2]) 0 rfl rfl (fun _ _=>rfl) fun v3 z2 hz2=>q_p fr<|q_norm 0 ⟨v3,rfl,rfl⟩
     ·exact q_sx fun c1 hc1=>q_p fr<|q_i (q_ssub (.inl rfl) (.inl rfl) fun t1 ht1=>q_q (fun _=>qs53_1)<|q_app (ys:=[t1]) 0 rfl rfl (fun _ _=>rfl) fun v2 z1 hz1=>q_p fr<|q_norm 0 ⟨v2,rfl,rfl⟩)<|q_norm 0 ⟨v1,rfl,rfl⟩
    ·rintro s3 _ _ ⟨v4,rfl,rfl⟩
     exact q_p fr<|q_norm 0 ⟨v4,rfl,rfl⟩
    ·rintro i1 s3 _ _ ⟨v5,rfl,rfl⟩
     exact q_exit 0 ⟨v5,rfl,rfl⟩
    ·rintro s3 _ _ ⟨v6,rfl,rfl⟩
     exact q_lret 0 ⟨v6,rfl,rfl⟩
   ·exact q_exit 0 ⟨v1,rfl,rfl⟩
  ·rintro i2 s4 _ _ ⟨v7,rfl,rfl⟩
   exact q_n (q_ret (cv_o 0 rfl) rfl)<|q_none
  ·rintro s4 _ _ ⟨v8,rfl,rfl⟩
   exact q_ret (cv_r (α:=Str) (l0:=false) (fl:=true) (xs:=[])) rfl
def m19 (a0:Int) (a1:Int) (a2:Int):Bool:=bif decide (a0 ≥ a1) then decide (a0≤a2) else false
theorem w19 {d:Nat} (hd:1≤d) (a0:Int) (a1:Int) (a2:Int):Fit (R NN d 19 [.int .i64 a0,.int .i64 a1,.int .i64 a2] []) (some (m19 a0 a1 a2)) PB:=by
  obtain ⟨d,rfl,g⟩:=up hd
  refine q_in (t19 NN d _ _ _) ?_
  unfold b19 m19
  exact q_p fr<|q_gTt (fun h1=>q_p fr<|q_ret (cv_p rfl) rfl) fun h1=>q_ret (cv_p rfl) rfl
def ms43_0 (a0:Str) (s1:Bool×Int):Option (LO (Bool×Int)):=bif decide (s1.2 < (a0.length:Int)) then ( ( (getI a0 s1.2).bind fun c1=>bif decide ((c1.toNat:Int) < 97) then (getI a0 s1.2).bind fun c5=>bif decide ((c5.toNat:Int) < 48) then some (LO.norm true) else (getI a0 s1.2).bind fun c6=>some (LO.norm (decide ((c6.toNat:Int) > 57))) else (getI a0 s1.2).bind fun c2=>bif decide ((c2.toNat:Int) > 122) then (getI a0 s1.2).bind fun c3=>bif decide ((c3.toNat:Int) < 48) then some (LO.norm true) else (getI a0 s1.2).bind fun c4=>some (LO.norm (decide ((c4.toNat:Int) > 57))) else some (LO.norm false)).bind (contO (fun s4=>bif s4 then some (LO.ret false) else some (LO.norm s1.1)) (fun i1 s4=>if i1 = 1 then some (LO.norm s1.1) else some (LO.exit i1 s1.1)) (fun s4=>some (LO.ret s1.1)))).bind (contO (fun s5=>some (LO.norm (s5,wi .i64 (s1.2 + 1)))) (fun i2 s5=>some (LO.exit i2 (s5,s1.2))) (fun s5=>some (LO.ret (s5,s1.2)))) else some (LO.exit 0 (s1.1,s1.2))
def m43 (a0:Str):Option (Bool):=(loopO (ms43_0 a0) NN (false,0)).bind (contO (fun _=>none) (fun i3 s6=>if i3 = 0 then some (m19 (a0.length:Int) 1 8) else none) (fun s6=>some s6.1))
theorem w43 {d:Nat} (hd:2≤d) (a0:Str):Fit (R NN d 43 [encS a0] []) (m43 a0) PB:=by
  obtain ⟨d,rfl,g⟩:=up hd
  refine q_in (t43 NN d _) ?_
  unfold b43 m43
  refine q_lp (A:=fun (s:Bool×Int)=>[.bool s.1,.int .i64 s.2]) (B:=fun s=>[]) 0 rr ?_ ?_ ?_
  ·intro s1
   unfold s43_0 ms43_0
   refine q_slen<|q_p fr<|q_i ?_ ?_
   ·refine q_cu (A:=fun (s:Bool)=>[.bool s]) (B:=fun s=>[]) ?_ ?_ ?_ ?_
    ·refine q_cu (A:=fun (s:Bool)=>[.bool s]) (B:=fun s=>[]) ?_ ?_ ?_ ?_
     ·exact q_sx fun c1 hc1=>q_p fr<|q_j (q_sx fun c5 hc5=>q_p fr<|q_j (q_norm 0 rr)<|q_sx fun c6 hc6=>q_p fr<|q_norm 0 rr)<|q_sx fun c2 hc2=>q_p fr<|q_k (q_sx fun c3 hc3=>q_p fr<|q_j (q_norm 0 rr)<|q_sx fun c4 hc4=>q_p fr<|q_norm 0 rr)<|q_norm 0 rr
     ·exact fun s4=>q_i (q_lret 0 rr)<|q_norm 0 rr
     ·exact fun i1 s4=>q_n (q_norm 0 rr)<|q_exit 0 rr
     ·exact fun s4=>q_lret 0 rr
    ·exact fun s5=>q_p fr<|q_norm 0 rr
    ·exact fun i2 s5=>q_exit 0 rr
    ·exact fun s5=>q_lret 0 rr
   ·exact q_exit 0 rr
  ·exact fun i3 s6=>q_n (q_slen<|q_c0t (aF3 (cv_p rfl) (cv_p rfl) (cv_p rfl) fun l0_ l1_ l2_=>w19 (by omega) (a0.length:Int) 1 8)<|q_ret (cv_p rfl) rfl)<|q_none
  ·exact fun s6=>q_ret (cv_p rfl) rfl
def ms30_0 (y1:(List Str)) (s3:(List Str)×Bool×Int):Option (LO ((List Str)×Bool×Int)):=bif decide (s3.2.2 < (y1.length:Int)) then (getI y1 s3.2.2).bind fun x2=>(m43 x2).bind fun y2=>bif !y2 then some (LO.ret ([],false,s3.2.2)) else some (LO.norm (s3.1,s3.2.1,wi .i64 (s3.2.2 + 1))) else some (LO.exit 0 (s3.1,s3.2.1,s3.2.2))
def m30 (a0:Str):Option ((List Str)×Bool):=bif a0 == ([47]:Str) then some ([],true) else (m29 a0 47).bind fun y1=>( bif decide ((y1.length:Int) < 2) then some (LO.ret ([],false)) else (getI y1 0).bind fun x1=>bif !(x1 == ([]:Str)) then some (LO.ret ([],false)) else some (LO.norm ([],false))).bind (contO (fun s2=>(loopO (ms30_0 y1) NN (s2.1,s2.2,1)).bind (contO (fun _=>none) (fun i2 s4=>if i2 = 0 then (subI y1 1 (y1.length:Int)).bind fun ys1=>some (ys1,true) else none) (fun s4=>some (s4.1,s4.2.1)))) (fun i1 s2=>none) (fun s2=>some (s2.1,s2.2)))
theorem w30 {d:Nat} (hd:3≤d) (a0:Str):Fit (R NN d 30 [encS a0] []) (m30 a0) (P0 (fun (t:(List Str)×Bool)=>AV.tup [.rsl false false (t.1.map (Enc.cs false)),.bool t.2])):=by
  obtain ⟨d,rfl,g⟩:=up hd
  refine q_in (t30 NN d _) ?_
  unfold b30 m30
  refine q_p (fun _=>seq_eql)<|q_i ?_ ?_
  ·exact q_q (fun _=>qs53_0)<|q_ret (cv_t (cvs_cons (cv_r (α:=Str) (l0:=false) (fl:=true) (xs:=[])) (cvs_cons (cv_p rfl) cvs_nil))) rfl
  ·refine q_c0 (aF2 (cv_p rfl) (cv_p rfl) fun l0_ l1_=>w29 (by omega) a0 47) fun y1 hy1=>q_cut (I:=(fun (s:(List Str)×Bool) l L=>∃ (fl1:Bool),l = [.rsl false fl1 (s.1.map (Enc.cs false)),.bool s.2]∧L = [])) ?_ ?_ ?_ ?_
   ·refine q_len<|q_p fr<|q_j ?_ ?_
    ·first | refine q_ifT1 ?_ | skip
     exact q_lret 0 ⟨true,rfl,rfl⟩
    ·exact q_ix rfl fun x1 hx1=>q_p fr<|q_p (fun _=>seq_neq)<|q_i (q_lret 0 ⟨true,rfl,rfl⟩)<|q_norm 0 ⟨true,rfl,rfl⟩
   ·rintro s2 _ _ ⟨fl1,rfl,rfl⟩
    refine q_loop (I:=(fun (s:(List Str)×Bool×Int) l L=>∃ (fl2:Bool),l = [.rsl false fl2 (s.1.map (Enc.cs false)),.bool s.2.1,.int .i64 s.2.2]∧L = [])) 0 ⟨fl1,rfl,rfl⟩ ?_ ?_ ?_
    ·rintro s3 _ _ ⟨fl2,rfl,rfl⟩
     unfold s30_0 ms30_0
     exact q_len<|q_p fr<|q_i (q_ix rfl fun x2 hx2=>q_p fr<|q_c0 (aF1 (cv_p rfl) fun l0_=>w43 (by omega) x2) fun y2 hy2=>q_p fr<|q_i (q_lret 0 ⟨true,rfl,rfl⟩)<|q_p fr<|q_norm 0 ⟨fl2,rfl,rfl⟩)<|q_exit 0 ⟨fl2,rfl,rfl⟩
    ·rintro i2 s4 _ _ ⟨fl3,rfl,rfl⟩
     exact q_n (q_sub rfl (.inl rfl) (.inr ⟨rfl,rfl⟩) fun fl4 ys1 hys1=>q_ret (cv_t (cvs_cons cv_r (cvs_cons (cv_p rfl) cvs_nil))) rfl)<|q_none
    ·rintro s4 _ _ ⟨fl5,rfl,rfl⟩
     exact q_ret (cv_t (cvs_cons cv_r (cvs_cons (cv_p rfl) cvs_nil))) rfl
   ·rintro i1 s2 _ _ ⟨fl6,rfl,rfl⟩
    exact q_none
   ·rintro s2 _ _ ⟨fl7,rfl,rfl⟩
    exact q_ret (cv_t (cvs_cons cv_r (cvs_cons (cv_p rfl) cvs_nil))) rfl
def m17 (a0:Str):Option (Int):=( ( bif decide ((a0.length:Int) > 24) then some (LO.norm true) else bif !(a0 == ([47]:Str)) then (m29 a0 47).bind fun y1=>some (LO.norm (decide ((y1.length:Int) > 5))) else some (LO.norm false)).bind (contO (fun s3=>bif s3 then some (LO.ret 2) else some (LO.norm 0)) (fun i1 s3=>some (LO.exit i1 0)) (fun s3=>some (LO.ret 0)))).bind (contO (fun s4=>(m30 a0).bind fun y2=>bif !y2.2 then some 5 else some 0) (fun i2 s4=>none) (fun s4=>some s4))
theorem w17 {d:Nat} (hd:4≤d) (a0:Str):Fit (R NN d 17 [encS a0] []) (m17 a0) PI:=by
  obtain ⟨d,rfl,g⟩:=up hd
  refine q_in (t17 NN d _) ?_
  unfold b17 m17
  refine q_cu (A:=fun (s:Int)=>[.int .i64 s]) (B:=fun s=>[]) ?_ ?_ ?_ ?_
  ·refine q_cu (A:=fun (s:Bool)=>[.bool s]) (B:=fun s=>[]) ?_ ?_ ?_ ?_
   ·exact q_slen<|q_p fr<|q_j (q_norm 0 rr)<|q_p (fun _=>seq_neq)<|q_k (q_c0 (aF2 (cv_p rfl) (cv_p rfl) fun l0_ l1_=>w29 (by omega) a0 47) fun y1 hy1=>q_len<|q_p fr<|q_norm 0 rr)<|q_norm 0 rr
   ·exact fun s3=>q_i (q_lret 0 rr)<|q_norm 0 rr
   ·exact fun i1 s3=>q_exit 0 rr
   ·exact fun s3=>q_lret 0 rr
  ·exact fun s4=>q_c0 (aF1 (cv_p rfl) fun l0_=>w30 (by omega) a0) fun y2 hy2=>q_q fr<|q_q fr<|q_p fr<|q_i (q_ret (cv_p rfl) rfl)<|q_ret (cv_p rfl) rfl
  ·exact fun i2 s4=>q_none
  ·exact fun s4=>q_ret (cv_p rfl) rfl
def m18 (a0:Int):Bool:=(m19 a0 0 9999)
theorem w18 {d:Nat} (hd:2≤d) (a0:Int):Fit (R NN d 18 [.int .i64 a0] []) (some (m18 a0)) PB:=by
  obtain ⟨d,rfl,g⟩:=up hd
  refine q_in (t18 NN d _) ?_
  unfold b18 m18
  exact q_c0t (aF3 (cv_p rfl) (cv_p rfl) (cv_p rfl) fun l0_ l1_ l2_=>w19 (by omega) a0 0 9999)<|q_ret (cv_p rfl) rfl
def m20 (a0:Int):Bool:=(m19 a0 0 9)
theorem w20 {d:Nat} (hd:2≤d) (a0:Int):Fit (R NN d 20 [.int .i64 a0] []) (some (m20 a0)) PB:=by
  obtain ⟨d,rfl,g⟩:=up hd
  refine q_in (t20 NN d _) ?_
  unfold b20 m20
  exact q_c0t (aF3 (cv_p rfl) (cv_p rfl) (cv_p rfl) fun l0_ l1_ l2_=>w19 (by omega) a0 0 9)<|q_ret (cv_p rfl) rfl
def ms21_0 (a0:List TZnode) (a1:Str) (s1:Int×Int):Option (LO (Int×Int)):=bif decide (s1.2 < (a0.length:Int)) then (getI a0 s1.2).bind fun x1=>bif x1.Path == a1 then some (LO.ret (s1.2,s1.2)) else some (LO.norm (s1.1,wi .i64 (s1.2 + 1))) else some (LO.exit 0 (s1.1,s1.2))
def m21 (a0:List TZnode) (a1:Str):Option (Int):=(loopO (ms21_0 a0 a1) NN (0,0)).bind (contO (fun _=>none) (fun i1 s2=>if i1 = 0 then some (-1) else none) (fun s2=>some s2.1))
theorem w21 {d:Nat} (hd:1≤d) (k0:Bool) (a0:List TZnode) (a1:Str):Fit (R NN d 21 [.rsl k0 false (a0.map (Enc.cs k0)),encS a1] []) (m21 a0 a1) PI:=by
  obtain ⟨d,rfl,g⟩:=up hd
  refine q_in (t21 NN d _ _) ?_
  unfold b21 m21
  refine q_lp (A:=fun (s:Int×Int)=>[.int .i64 s.1,.int .i64 s.2]) (B:=fun s=>[]) 0 rr ?_ ?_ ?_
  ·intro s1
   unfold s21_0 ms21_0
   exact q_len<|q_p fr<|q_i (q_ix rfl fun x1 hx1=>q_p fr<|q_p fr<|q_p (fun _=>seq_eql2)<|q_i (q_lret 0 rr)<|q_p fr<|q_norm 0 rr)<|q_exit 0 rr
  ·exact fun i1 s2=>q_n (q_ret (cv_p rfl) rfl)<|q_none
  ·exact fun s2=>q_ret (cv_p rfl) rfl
def ms31_0 (a0:Str) (s1:Int×Int):Option (LO (Int×Int)):=bif decide (s1.2 < (a0.length:Int)) then ( (getI a0 s1.2).bind fun c1=>bif (c1.toNat:Int) == 47 then some (LO.norm s1.2) else some (LO.norm s1.1)).bind (contO (fun s3=>some (LO.norm (s3,wi .i64 (s1.2 + 1)))) (fun i1 s3=>some (LO.exit i1 (s3,s1.2))) (fun s3=>some (LO.ret (s3,s1.2)))) else some (LO.exit 0 (s1.1,s1.2))
def m31 (a0:Str):Option (Int):=(loopO (ms31_0 a0) NN (0,0)).bind (contO (fun _=>none) (fun i2 s4=>if i2 = 0 then some s4.1 else none) (fun s4=>some 0))
theorem w31 {d:Nat} (hd:1≤d) (a0:Str):Fit (R NN d 31 [encS a0] []) (m31 a0) PI:=by
  obtain ⟨d,rfl,g⟩:=up hd
  refine q_in (t31 NN d _) ?_
  unfold b31 m31
  refine q_lp (A:=fun (s:Int×Int)=>[.int .i64 s.1,.int .i64 s.2]) (B:=fun s=>[]) 0 rr ?_ ?_ ?_
  ·intro s1
   unfold s31_0 ms31_0
   refine q_slen<|q_p fr<|q_i ?_ ?_
   ·refine q_cu (A:=fun (s:Int)=>[.int .i64 s]) (B:=fun s=>[]) ?_ ?_ ?_ ?_
    ·exact q_sx fun c1 hc1=>q_p fr<|q_i (q_norm 0 rr)<|q_norm 0 rr
    ·exact fun s3=>q_p fr<|q_norm 0 rr
    ·exact fun i1 s3=>q_exit 0 rr
    ·exact fun s3=>q_lret 0 rr
   ·exact q_exit 0 rr
  ·exact fun i2 s4=>q_n (q_ret (cv_p rfl) rfl)<|q_none
  ·exact fun s4=>q_ret (cv_p rfl) rfl
def m22 (a0:Str):Option (Str):=(m31 a0).bind fun y1=>bif y1 == 0 then some ([47]:Str) else (subI a0 0 y1).bind fun t1=>some t1
theorem w22 {d:Nat} (hd:2≤d) (a0:Str):Fit (R NN d 22 [encS a0] []) (m22 a0) (P0 encS):=by
  obtain ⟨d,rfl,g⟩:=up hd
  refine q_in (t22 NN d _) ?_
  unfold b22 m22
  exact q_c0 (aF1 (cv_p rfl) fun l0_=>w31 (by omega) a0) fun y1 hy1=>q_p fr<|q_i (q_ret (cv_p rfl) rfl)<|q_ssub (.inr ⟨rfl,rfl⟩) (.inl rfl) fun t1 ht1=>q_ret (cv_p rfl) rfl
def ms11_0 (a0:List TZnode) (s1:Int×Int):Option (LO (Int×Int)):=bif decide (s1.2 < (a0.length:Int)) then ( (getI a0 s1.2).bind fun x1=>(m17 x1.Path).bind fun y1=>bif y1 != 0 then some (LO.ret y1) else ( ( bif !(m18 x1.Data) then some (LO.norm true) else bif !(m19 x1.Version 0 999) then some (LO.norm true) else bif !(m20 x1.Owner) then some (LO.norm true) else some (LO.norm (!(m19 x1.Next 0 100)))).bind (contO (fun s5=>bif s5 then some (LO.ret 3) else some (LO.norm s1.1)) (fun i1 s5=>some (LO.exit i1 s1.1)) (fun s5=>some (LO.ret s1.1)))).bind (contO (fun s6=>bif decide (s1.2 > 0) then (getI a0 (wi .i64 (s1.2 - 1))).bind fun x2=>bif Op.bytesLess x1.Path x2.Path || x1.Path == x2.Path then some (LO.ret 1) else some (LO.norm s6) else some (LO.norm s6)) (fun i2 s6=>if i2 = 1 then some (LO.norm s6) else some (LO.exit i2 s6)) (fun s6=>some (LO.ret s6)))).bind (contO (fun s7=>some (LO.norm (s7,wi .i64 (s1.2 + 1)))) (fun i3 s7=>some (LO.exit i3 (s7,s1.2))) (fun s7=>some (LO.ret (s7,s1.2)))) else some (LO.exit 0 (s1.1,s1.2))
def ms11_1 (a0:List TZnode) (s9:Int×Int):Option (LO (Int×Int)):=bif decide (s9.2 < (a0.length:Int)) then (getI a0 s9.2).bind fun x3=>(m22 x3.Path).bind fun y3=>(m21 a0 y3).bind fun y4=>bif decide (y4 < 0) then some (LO.ret (4,s9.2)) else some (LO.norm (s9.1,wi .i64 (s9.2 + 1))) else some (LO.exit 2 (s9.1,s9.2))
def ms11_2 (a0:List TZnode) (s11:Int×Int):Option (LO (Int×Int)):=bif decide (s11.2 < (a0.length:Int)) then (getI a0 s11.2).bind fun x4=>(m22 x4.Path).bind fun y5=>(m21 a0 y5).bind fun y6=>(getI a0 y6).bind fun x5=>bif x5.Owner != 0 then some (LO.ret (1,s11.2)) else some (LO.norm (s11.1,wi .i64 (s11.2 + 1))) else some (LO.exit 4 (s11.1,s11.2))
def m11 (a0:List TZnode):Option (Int):=bif decide ((a0.length:Int) > 20) then some 2 else (loopO (ms11_0 a0) NN (0,0)).bind (contO (fun _=>none) (fun i4 s8=>if i4 = 0 then (m21 a0 ([47]:Str)).bind fun y2=>bif decide (y2 < 0) then some 4 else (loopO (ms11_1 a0) NN (s8.1,0)).bind (contO (fun _=>none) (fun i5 s10=>if i5 = 2 then (loopO (ms11_2 a0) NN (s10.1,0)).bind (contO (fun _=>none) (fun i6 s12=>if i6 = 4 then some 0 else none) (fun s12=>some s12.1)) else none) (fun s10=>some s10.1)) else none) (fun s8=>some s8.1))
theorem w11 {d:Nat} (hd:5≤d) (k0:Bool) (a0:List TZnode):Fit (R NN d 11 [.rsl k0 false (a0.map (Enc.cs k0))] []) (m11 a0) PI:=by
  obtain ⟨d,rfl,g⟩:=up hd
  refine q_in (t11 NN d _) ?_
  unfold b11 m11
  refine q_len<|q_p fr<|q_i ?_ ?_
  ·exact q_ret (cv_p rfl) rfl
  ·refine q_lp (A:=fun (s:Int×Int)=>[.int .i64 s.1,.int .i64 s.2]) (B:=fun s=>[]) 0 rr ?_ ?_ ?_
   ·intro s1
    unfold s11_0 ms11_0
    refine q_len<|q_p fr<|q_i ?_ ?_
    ·refine q_cu (A:=fun (s:Int)=>[.int .i64 s]) (B:=fun s=>[]) ?_ ?_ ?_ ?_
     ·refine q_ix rfl fun x1 hx1=>q_q fr<|q_p fr<|q_p fr<|q_c0 (aF1 (cv_p rfl) fun l0_=>w17 (by omega) x1.Path) fun y1 hy1=>q_p fr<|q_i ?_ ?_
      ·exact q_lret 0 rr
      ·refine q_cu (A:=fun (s:Int)=>[.int .i64 s]) (B:=fun s=>[]) ?_ ?_ ?_ ?_
       ·refine q_cu (A:=fun (s:Bool)=>[.bool s]) (B:=fun s=>[]) ?_ ?_ ?_ ?_
        ·exact q_q fr<|q_p fr<|q_p fr<|q_c0t (aF1 (cv_p rfl) fun l0_=>w18 (by omega) x1.Data)<|q_p fr<|q_j (q_norm 0 rr)<|q_q fr<|q_p fr<|q_p fr<|q_c0t (aF3 (cv_p rfl) (cv_p rfl) (cv_p rfl) fun l0_ l1_ l2_=>w19 (by omega) x1.Version 0 999)<|q_p fr<|q_j (q_norm 0 rr)<|q_q fr<|q_p fr<|q_p fr<|q_c0t (aF1 (cv_p rfl) fun l0_=>w20 (by omega) x1.Owner)<|q_p fr<|q_j (q_norm 0 rr)<|q_q fr<|q_p fr<|q_p fr<|q_c0t (aF3 (cv_p rfl) (cv_p rfl) (cv_p rfl) fun l0_ l1_ l2_=>w19 (by omega) x1.Next 0 100)<|q_p fr<|q_norm 0 rr
        ·exact fun s5=>q_i (q_lret 0 rr)<|q_norm 0 rr
        ·exact fun i1 s5=>q_exit 0 rr
        ·exact fun s5=>q_lret 0 rr
       ·intro s6
        refine q_p fr<|q_k ?_ ?_
        ·exact q_q fr<|q_p fr<|q_p fr<|q_p fr<|q_ix rfl fun x2 hx2=>q_p fr<|q_p fr<|q_p (fun _=>seq_leq2)<|q_i (q_lret 0 rr)<|q_norm 0 rr
        ·first | refine q_ifF1 ?_ | skip
         exact q_norm 0 rr
       ·exact fun i2 s6=>q_n (q_norm 0 rr)<|q_exit 0 rr
       ·exact fun s6=>q_lret 0 rr
     ·exact fun s7=>q_p fr<|q_norm 0 rr
     ·exact fun i3 s7=>q_exit 0 rr
     ·exact fun s7=>q_lret 0 rr
    ·exact q_exit 0 rr
   ·intro i4 s8
    refine q_n ?_ ?_
    ·refine q_c0 (aF2 cv_r (cv_p rfl) fun l0_ l1_=>w21 (by omega) l0_ a0 ([47]:Str)) fun y2 hy2=>q_p fr<|q_i ?_ ?_
     ·exact q_ret (cv_p rfl) rfl
     ·refine q_lp (A:=fun (s:Int×Int)=>[.int .i64 s.1,.int .i64 s.2]) (B:=fun s=>[]) 0 rr ?_ ?_ ?_
      ·intro s9
       unfold s11_1 ms11_1
       exact q_len<|q_p fr<|q_i (q_ix rfl fun x3 hx3=>q_p fr<|q_p fr<|q_c0 (aF1 (cv_p rfl) fun l0_=>w22 (by omega) x3.Path) fun y3 hy3=>q_c0 (aF2 cv_r (cv_p rfl) fun l0_ l1_=>w21 (by omega) l0_ a0 y3) fun y4 hy4=>q_p fr<|q_i (q_lret 0 rr)<|q_p fr<|q_norm 0 rr)<|q_exit 0 rr
      ·intro i5 s10
       refine q_n ?_ ?_
       ·refine q_lp (A:=fun (s:Int×Int)=>[.int .i64 s.1,.int .i64 s.2]) (B:=fun s=>[]) 0 rr ?_ ?_ ?_
        ·intro s11
         unfold s11_2 ms11_2
         exact q_len<|q_p fr<|q_i (q_ix rfl fun x4 hx4=>q_p fr<|q_p fr<|q_c0 (aF1 (cv_p rfl) fun l0_=>w22 (by omega) x4.Path) fun y5 hy5=>q_c0 (aF2 cv_r (cv_p rfl) fun l0_ l1_=>w21 (by omega) l0_ a0 y5) fun y6 hy6=>q_ix rfl fun x5 hx5=>q_p fr<|q_p fr<|q_p fr<|q_i (q_lret 0 rr)<|q_p fr<|q_norm 0 rr)<|q_exit 0 rr
        ·exact fun i6 s12=>q_n (q_ret (cv_p rfl) rfl)<|q_none
        ·exact fun s12=>q_ret (cv_p rfl) rfl
       ·exact q_none
      ·exact fun s10=>q_ret (cv_p rfl) rfl
    ·exact q_none
   ·exact fun s8=>q_ret (cv_p rfl) rfl
def m23F (rec_:Int→Option (Str)) (a0:Int):Option (Str):=bif decide (a0 < 0) then (rec_ (wi .i64 (0 - a0))).bind fun y1=>(catO ([45]:Str) y1).bind fun t1=>some t1 else bif decide (a0 < 10) then some ([UInt8.ofNat (Int.toNat (wi .u8 (wi .i64 (48 + a0))))]:Str) else (rec_ (wi .i64 (Int.tdiv a0 10))).bind fun y2=>(catO y2 ([UInt8.ofNat (Int.toNat (wi .u8 (wi .i64 (48 + (Int.tmod a0 10)))))]:Str)).bind fun t2=>some t2
def m23 (n:Nat):Int→Option (Str):=Nat.rec (fun _=>none) (fun _ ih=>m23F ih) n
theorem w23:∀ (n d:Nat) (hd:n + 65≤d) (a0:Int),Fit (R NN d 23 [.int .i64 a0] []) (m23 n a0) (P0 encS)
  | 0,_,_,a0=>(fun t ht=>by cases ht)
  | n + 1,d,hd,a0=>by
    have ih:=w23 n
    obtain ⟨d,rfl,g⟩:=up (n:=n + 65) (d:=d) (by omega)
    refine q_in (t23 NN d _) ?_
    rw [show m23 (n + 1) = m23F (m23 n) from rfl]
    unfold b23 m23F
    refine q_p fr<|q_i ?_ ?_
    ·exact q_p fr<|q_c0 (aF1 (cv_p rfl) fun l0_=>ih d (by omega) (wi .i64 (0 - a0))) fun y1 hy1=>q_cat fun t1 ht1=>q_ret (cv_p rfl) rfl
    ·refine q_p fr<|q_i ?_ ?_
     ·exact q_p fr<|q_p (fun _=>cvt2_5 _ _)<|q_q (fun _=>qb59)<|q_p (fun _=>cvb59_9 _ _)<|q_ret (cv_p rfl) rfl
     ·exact q_p fr<|q_c0 (aF1 (cv_p rfl) fun l0_=>ih d (by omega) (wi .i64 (Int.tdiv a0 10))) fun y2 hy2=>q_p fr<|q_p fr<|q_p (fun _=>cvt2_5 _ _)<|q_q (fun _=>qb59)<|q_p (fun _=>cvb59_9 _ _)<|q_cat2 fun t2 ht2=>q_ret (cv_p rfl) rfl
def ms12_0 (a0:List TZnode) (s1:Str×Int):Option (LO (Str×Int)):=bif decide (s1.2 < (a0.length:Int)) then (getI a0 s1.2).bind fun x1=>(catO s1.1 x1.Path).bind fun t1=>(catO t1 ([32]:Str)).bind fun t2=>(m23 64 x1.Data).bind fun y1=>(catO t2 y1).bind fun t3=>(catO t3 ([32]:Str)).bind fun t4=>(m23 64 x1.Version).bind fun y2=>(catO t4 y2).bind fun t5=>(catO t5 ([32]:Str)).bind fun t6=>(m23 64 x1.Owner).bind fun y3=>(catO t6 y3).bind fun t7=>(catO t7 ([10]:Str)).bind fun t8=>some (LO.norm (t8,wi .i64 (s1.2 + 1))) else some (LO.exit 0 (s1.1,s1.2))
def m12 (a0:List TZnode):Option (Str):=(loopO (ms12_0 a0) NN (([]:Str),0)).bind (contO (fun _=>none) (fun i1 s2=>if i1 = 0 then some s2.1 else none) (fun s2=>some ([]:Str)))
theorem w12 {d:Nat} (hd:130≤d) (k0:Bool) (a0:List TZnode):Fit (R NN d 12 [.rsl k0 false (a0.map (Enc.cs k0))] []) (m12 a0) (P0 encS):=by
  obtain ⟨d,rfl,g⟩:=up hd
  refine q_in (t12 NN d _) ?_
  unfold b12 m12
  refine q_lp (A:=fun (s:Str×Int)=>[encS s.1,.int .i64 s.2]) (B:=fun s=>[]) 0 rr ?_ ?_ ?_
  ·intro s1
   unfold s12_0 ms12_0
   exact q_len<|q_p fr<|q_i (q_ix rfl fun x1 hx1=>q_q fr<|q_p fr<|q_p fr<|q_cat2 fun t1 ht1=>q_cat fun t2 ht2=>q_q fr<|q_p fr<|q_p fr<|q_c0 (aF1 (cv_p rfl) fun l0_=>w23 64 _ (by omega) x1.Data) fun y1 hy1=>q_cat2 fun t3 ht3=>q_cat fun t4 ht4=>q_q fr<|q_p fr<|q_p fr<|q_c0 (aF1 (cv_p rfl) fun l0_=>w23 64 _ (by omega) x1.Version) fun y2 hy2=>q_cat2 fun t5 ht5=>q_cat fun t6 ht6=>q_q fr<|q_p fr<|q_p fr<|q_c0 (aF1 (cv_p rfl) fun l0_=>w23 64 _ (by omega) x1.Owner) fun y3 hy3=>q_cat2 fun t7 ht7=>q_cat fun t8 ht8=>q_p fr<|q_norm 0 rr)<|q_exit 0 rr
  ·exact fun i1 s2=>q_n (q_ret (cv_p rfl) rfl)<|q_none
  ·exact fun s2=>q_ret (cv_p rfl) rfl
def m5 (a0:List TZnode):Option (TTextResult):=(m11 a0).bind fun y1=>bif y1 != 0 then some (⟨y1,[]⟩:TTextResult) else (m12 a0).bind fun y2=>some (⟨0,y2⟩:TTextResult)
theorem w5 {d:Nat} (hd:131≤d) (k0:Bool) (a0:List TZnode):Fit (R NN d 5 [.rsl k0 false (a0.map (Enc.cs k0))] []) (m5 a0) (P0 (fun (t:TTextResult)=>AV.agg (Enc.cs false t))):=by
  obtain ⟨d,rfl,g⟩:=up hd
  refine q_in (t5 NN d _) ?_
  unfold b5 m5
  exact q_new rfl fun b1=>q_c0 (aF1 cv_r fun l0_=>w11 (by omega) l0_ a0) fun y1 hy1=>q_p fr<|q_i (q_p (fun _=>bd25_0 rfl)<|q_st 0 rfl rfl rfl (by decide) rfl<|q_retm (fun S hS=>hS.lda 0 rfl rfl) (cv_a (cvs_cons (cv_p rfl) (cvs_cons (cv_p rfl) cvs_nil))) rfl)<|q_c0 (aF1 cv_r fun l0_=>w12 (by omega) l0_ a0) fun y2 hy2=>q_p (fun _=>bd25_1 rfl)<|q_st 0 rfl rfl rfl (by decide) rfl<|q_retm (fun S hS=>hS.lda 0 rfl rfl) (cv_a (cvs_cons (cv_p rfl) (cvs_cons (cv_p rfl) cvs_nil))) rfl
def m13 (a0:TZnode):TZnode:=a0
theorem w13 {d:Nat} (hd:1≤d) (k0:Bool) (a0:TZnode):Fit (R NN d 13 [.agg (Enc.cs k0 a0)] []) (some (m13 a0)) (P0 (fun (t:TZnode)=>AV.agg (Enc.cs false t))):=by
  obtain ⟨d,rfl,g⟩:=up hd
  refine q_in (t13 NN d _) ?_
  unfold b13 m13
  exact q_box (n:=5) rfl rfl (by decide) fun b1=>q_new rfl fun b2=>q_new rfl fun b3=>q_p fr<|q_ld 2 rfl rfl<|q_p fr<|q_st 0 rfl rfl rfl (by decide) rfl<|q_p fr<|q_ld 2 rfl rfl<|q_p fr<|q_st 0 rfl rfl rfl (by decide) rfl<|q_p fr<|q_ld 2 rfl rfl<|q_p fr<|q_st 0 rfl rfl rfl (by decide) rfl<|q_p fr<|q_ld 2 rfl rfl<|q_p fr<|q_st 0 rfl rfl rfl (by decide) rfl<|q_p fr<|q_ld 2 rfl rfl<|q_p fr<|q_st 0 rfl rfl rfl (by decide) rfl<|q_lda 0 rfl rfl rfl<|q_st 1 rfl rfl rfl (by decide) rfl<|q_retm (fun S hS=>hS.lda 1 rfl rfl) (cv_a (cvs_e (l0:=false) (x:=a0))) rfl
def ms6_0 (a0:List TZnode) (s1:Int×(List TZnode)):Option (LO (Int×(List TZnode))):=bif decide (s1.1 < (a0.length:Int)) then (getI a0 s1.1).bind fun x1=>(getI s1.2 s1.1).bind fun x2=>some (LO.norm (wi .i64 (s1.1 + 1),s1.2.set (Int.toNat s1.1) (m13 x1))) else some (LO.exit 0 (s1.1,s1.2))
def m6 (a0:List TZnode):Option ((List TZnode)):=(mkO 48 (a0.length:Int) (⟨[],0,0,0,0⟩:TZnode)).bind fun z1=>(loopO (ms6_0 a0) NN (0,z1)).bind (contO (fun _=>none) (fun i1 s2=>if i1 = 0 then some s2.2 else none) (fun s2=>some []))
theorem w6 {d:Nat} (hd:2≤d) (k0:Bool) (a0:List TZnode):Fit (R NN d 6 [.rsl k0 false (a0.map (Enc.cs k0))] []) (m6 a0) (P0 (fun (t:List TZnode)=>AV.rsl false false (t.map (Enc.cs false)))):=by
  obtain ⟨d,rfl,g⟩:=up hd
  refine q_in (t6 NN d _) ?_
  unfold b6 m6
  refine q_len<|q_mk (z:=(⟨[],0,0,0,0⟩:TZnode)) mk27 fun v1 z1 hz1=>q_lp (A:=fun (s:Int×(List TZnode))=>[.int .i64 s.1]) (B:=fun s=>[sl false v1 (s.2:List TZnode)]) 0 rr ?_ ?_ ?_
  ·intro s1
   unfold s6_0 ms6_0
   exact q_len<|q_p fr<|q_i (q_ix rfl fun x1 hx1=>q_p fr<|q_c0t (aF1 (cv_a (cvs_e (l0:=k0) (x:=x1))) fun l0_=>w13 (by omega) l0_ x1)<|q_ixo 0 rfl rfl fun x2 hx2=>q_stoe (y:=(m13 x1)) 0 rfl rfl hx2 rfl (by decide)<|q_p fr<|q_norm 0 rr)<|q_exit 0 rr
  ·exact fun i1 s2=>q_n (q_ret (cv_o 0 rfl) rfl)<|q_none
  ·exact fun s2=>q_ret (cv_r (α:=TZnode) (l0:=false) (fl:=true) (xs:=[])) rfl
def m44 (a0 a1:Str):Option Int:=match a1 with
  | [c]=>some (Lib.countByte a0 c:Int)
  | _=>none
theorem w44 {d:Nat} (hd:1≤d) (a0 a1:Str):Fit (R NN d 44 [encS a0,encS a1] []) (m44 a0 a1) PI:=by
  obtain ⟨d,rfl,g⟩:=up hd
  rw [t44]
  intro t ht
  unfold m44 at ht
  split at ht
  · injection ht with ht
    subst ht
    exact ⟨_,rfl,rfl⟩
  · cases ht
def m55 (a0 a1:Str):Option Int:=match a1 with
  | [c]=>some (Lib.indexByte a0 c:Int)
  | _=>none
theorem w55 {d:Nat} (hd:1≤d) (a0 a1:Str):Fit (R NN d 55 [encS a0,encS a1] []) (m55 a0 a1) PI:=by
  obtain ⟨d,rfl,g⟩:=up hd
  rw [t55]
  intro t ht
  unfold m55 at ht
  split at ht
  · injection ht with ht
    subst ht
    exact ⟨_,rfl,rfl⟩
  · cases ht
def ms56_0 (a0:Str) (a1:Str) (a2:Int) (s2:Int) (s3:Str×Int×(List Str)):Option (LO (Str×Int×(List Str))):=bif decide (s3.2.1 < (wi .i64 ((minI s2 (wi .i64 ((a0.length:Int) + 1))) - 1))) then (m55 s3.1 a1).bind fun y2=>bif decide (y2 < 0) then some (LO.exit 0 (s3.1,s3.2.1,s3.2.2)) else (subI s3.1 0 (wi .i64 (y2 + a2))).bind fun t1=>(getI s3.2.2 s3.2.1).bind fun x1=>(subI s3.1 (wi .i64 (y2 + (a1.length:Int))) (s3.1.length:Int)).bind fun t2=>some (LO.norm (t2,wi .i64 (s3.2.1 + 1),s3.2.2.set (Int.toNat s3.2.1) t1)) else some (LO.exit 0 (s3.1,s3.2.1,s3.2.2))
def m56 (a0:Str) (a1:Str) (a2:Int) (a3:Int):Option ((List Str)):=bif a3 == 0 then some [] else bif a1 == ([]:Str) then none else ( bif decide (a3 < 0) then (m44 a0 a1).bind fun y1=>some (LO.norm (wi .i64 (y1 + 1))) else some (LO.norm a3)).bind (contO (fun s2=>(mkO 16 (minI s2 (wi .i64 ((a0.length:Int) + 1))) []).bind fun z1=>(loopO (ms56_0 a0 a1 a2 s2) NN (a0,0,z1)).bind (contO (fun _=>none) (fun i2 s4=>if i2 = 0 then (getI s4.2.2 s4.2.1).bind fun x2=>(subI (s4.2.2.set (Int.toNat s4.2.1) s4.1) 0 (wi .i64 (s4.2.1 + 1))).bind fun ys1=>some ys1 else none) (fun s4=>some []))) (fun i1 s2=>none) (fun s2=>some []))
theorem w56 {d:Nat} (hd:2≤d) (a0:Str) (a1:Str) (a2:Int) (a3:Int):Fit (R NN d 56 [encS a0,encS a1,.int .i64 a2,.int .i64 a3] []) (m56 a0 a1 a2 a3) (P0 (fun (t:List Str)=>AV.rsl false false (t.map (Enc.cs false)))):=by
  obtain ⟨d,rfl,g⟩:=up hd
  refine q_in (t56 NN d _ _ _ _) ?_
  unfold b56 m56
  refine q_p fr<|q_i ?_ ?_
  ·exact q_ret (cv_r (α:=Str) (l0:=false) (fl:=true) (xs:=[])) rfl
  ·refine q_p (fun _=>seq_eql)<|q_i ?_ ?_
   ·exact q_none
   ·refine q_cu (A:=fun (s:Int)=>[.int .i64 s]) (B:=fun s=>[]) ?_ ?_ ?_ ?_
    ·exact q_p fr<|q_i (q_c0 (aF2 (cv_p rfl) (cv_p rfl) fun l0_ l1_=>w44 (by omega) a0 a1) fun y1 hy1=>q_p fr<|q_norm 0 rr)<|q_norm 0 rr
    ·intro s2
     refine q_slen<|q_p fr<|q_p (fun _=>amin_)<|q_mk (z:=[]) mk53 fun v1 z1 hz1=>q_p fr<|q_lp (A:=fun (s:Str×Int×(List Str))=>[encS s.1,.int .i64 s.2.1]) (B:=fun s=>[sl false v1 (s.2.2:List Str)]) 0 rr ?_ ?_ ?_
     ·intro s3
      unfold s56_0 ms56_0
      exact q_p fr<|q_i (q_c0 (aF2 (cv_p rfl) (cv_p rfl) fun l0_ l1_=>w55 (by omega) s3.1 a1) fun y2 hy2=>q_p fr<|q_i (q_exit 0 rr)<|q_p fr<|q_ssub (.inr ⟨rfl,rfl⟩) (.inl rfl) fun t1 ht1=>q_ixo 0 rfl rfl fun x1 hx1=>q_stoe (y:=t1) 0 rfl rfl hx1 rfl (by decide)<|q_slen<|q_p fr<|q_ssub (.inl rfl) (.inr ⟨rfl,rfl⟩) fun t2 ht2=>q_p fr<|q_norm 0 rr)<|q_exit 0 rr
     ·exact fun i2 s4=>q_n (q_ixo 0 rfl rfl fun x2 hx2=>q_stoe (y:=s4.1) 0 rfl rfl hx2 rfl (by decide)<|q_p fr<|q_cutv rfl (.inr ⟨rfl,rfl⟩) (.inl rfl) fun ys1 hys1=>q_ret (cv_cl 0 rfl) rfl)<|q_none
     ·exact fun s4=>q_ret (cv_r (α:=Str) (l0:=false) (fl:=true) (xs:=[])) rfl
    ·exact fun i1 s2=>q_none
    ·exact fun s2=>q_ret (cv_r (α:=Str) (l0:=false) (fl:=true) (xs:=[])) rfl
def m45 (a0:Str) (a1:Str):Option ((List Str)):=(m56 a0 a1 0 (-1)).bind fun y1=>some y1
theorem w45 {d:Nat} (hd:3≤d) (a0:Str) (a1:Str):Fit (R NN d 45 [encS a0,encS a1] []) (m45 a0 a1) (P0 (fun (t:List Str)=>AV.rsl false false (t.map (Enc.cs false)))):=by
  obtain ⟨d,rfl,g⟩:=up hd
  refine q_in (t45 NN d _ _) ?_
  unfold b45 m45
  exact q_c0 (fun S hS=>argF4 (cv_p rfl) (cv_p rfl) (cv_p rfl) (cv_p rfl) hS fun l0_ l1_ l2_ l3_=>w56 (by omega) a0 a1 0 (-1)) fun y1 hy1=>q_ret cv_r rfl
def m34 (a0:Int) (a1:Int) (a2:Int):Bool:=bif decide (a1≤a0) then decide (a0≤a2) else false
theorem w34 {d:Nat} (hd:1≤d) (a0:Int) (a1:Int) (a2:Int):Fit (R NN d 34 [.int .i64 a0,.int .i64 a1,.int .i64 a2] []) (some (m34 a0 a1 a2)) PB:=by
  obtain ⟨d,rfl,g⟩:=up hd
  refine q_in (t34 NN d _ _ _) ?_
  unfold b34 m34
  exact q_p fr<|q_gTt (fun h1=>q_p fr<|q_ret (cv_p rfl) rfl) fun h1=>q_ret (cv_p rfl) rfl
def ms46_0 (a0:Str) (s1:Bool×Int):Option (LO (Bool×Int)):=bif decide (s1.2 < (a0.length:Int)) then ( ( (getI a0 s1.2).bind fun c1=>bif decide ((c1.toNat:Int) < 97) then (getI a0 s1.2).bind fun c5=>bif decide ((c5.toNat:Int) < 48) then some (LO.norm true) else (getI a0 s1.2).bind fun c6=>some (LO.norm (decide ((c6.toNat:Int) > 57))) else (getI a0 s1.2).bind fun c2=>bif decide ((c2.toNat:Int) > 122) then (getI a0 s1.2).bind fun c3=>bif decide ((c3.toNat:Int) < 48) then some (LO.norm true) else (getI a0 s1.2).bind fun c4=>some (LO.norm (decide ((c4.toNat:Int) > 57))) else some (LO.norm false)).bind (contO (fun s4=>bif s4 then some (LO.ret false) else some (LO.norm s1.1)) (fun i1 s4=>if i1 = 1 then some (LO.norm s1.1) else some (LO.exit i1 s1.1)) (fun s4=>some (LO.ret s1.1)))).bind (contO (fun s5=>some (LO.norm (s5,wi .i64 (s1.2 + 1)))) (fun i2 s5=>some (LO.exit i2 (s5,s1.2))) (fun s5=>some (LO.ret (s5,s1.2)))) else some (LO.exit 0 (s1.1,s1.2))
def m46 (a0:Str):Option (Bool):=(loopO (ms46_0 a0) NN (false,0)).bind (contO (fun _=>none) (fun i3 s6=>if i3 = 0 then some (m34 (a0.length:Int) 1 8) else none) (fun s6=>some s6.1))
theorem w46 {d:Nat} (hd:2≤d) (a0:Str):Fit (R NN d 46 [encS a0] []) (m46 a0) PB:=by
  obtain ⟨d,rfl,g⟩:=up hd
  refine q_in (t46 NN d _) ?_
  unfold b46 m46
  refine q_slen<|q_lp (A:=fun (s:Bool×Int)=>[.bool s.1,.int .i64 s.2]) (B:=fun s=>[]) 0 rr ?_ ?_ ?_
  ·intro s1
   unfold s46_0 ms46_0
   refine q_p fr<|q_i ?_ ?_
   ·refine q_cu (A:=fun (s:Bool)=>[.bool s]) (B:=fun s=>[]) ?_ ?_ ?_ ?_
    ·refine q_cu (A:=fun (s:Bool)=>[.bool s]) (B:=fun s=>[]) ?_ ?_ ?_ ?_
     ·exact q_sx fun c1 hc1=>q_p fr<|q_j (q_sx fun c5 hc5=>q_p fr<|q_j (q_norm 0 rr)<|q_sx fun c6 hc6=>q_p fr<|q_norm 0 rr)<|q_sx fun c2 hc2=>q_p fr<|q_k (q_sx fun c3 hc3=>q_p fr<|q_j (q_norm 0 rr)<|q_sx fun c4 hc4=>q_p fr<|q_norm 0 rr)<|q_norm 0 rr
     ·exact fun s4=>q_i (q_lret 0 rr)<|q_norm 0 rr
     ·exact fun i1 s4=>q_n (q_norm 0 rr)<|q_exit 0 rr
     ·exact fun s4=>q_lret 0 rr
    ·exact fun s5=>q_p fr<|q_norm 0 rr
    ·exact fun i2 s5=>q_exit 0 rr
    ·exact fun s5=>q_lret 0 rr
   ·exact q_exit 0 rr
  ·exact fun i3 s6=>q_n (q_slen<|q_c0t (aF3 (cv_p rfl) (cv_p rfl) (cv_p rfl) fun l0_ l1_ l2_=>w34 (by omega) (a0.length:Int) 1 8)<|q_ret (cv_p rfl) rfl)<|q_none
  ·exact fun s6=>q_ret (cv_p rfl) rfl
def ms32_0 (ys1:List Str) (s5:Int×Int):Option (LO (Int×Int)):=bif decide (s5.2 < (ys1.length:Int)) then (getI ys1 s5.2).bind fun x2=>(m46 x2).bind fun y3=>bif !y3 then some (LO.ret (5,s5.2)) else some (LO.norm (s5.1,wi .i64 (s5.2 + 1))) else some (LO.exit 0 (s5.1,s5.2))
def m32 (a0:Str):Option (Int):=( bif decide ((a0.length:Int) > 24) then some (LO.ret 2) else (m44 a0 ([47]:Str)).bind fun y1=>bif decide (y1 > 4) then some (LO.ret 2) else some (LO.norm 0)).bind (contO (fun s2=>bif a0 == ([47]:Str) then some 0 else (m45 a0 ([47]:Str)).bind fun y2=>( bif decide ((y2.length:Int) < 2) then some (LO.ret 5) else (getI y2 0).bind fun x1=>bif !(x1 == ([]:Str)) then some (LO.ret 5) else some (LO.norm s2)).bind (contO (fun s4=>(subI y2 1 (y2.length:Int)).bind fun ys1=>(loopO (ms32_0 ys1) NN (s4,0)).bind (contO (fun _=>none) (fun i3 s6=>if i3 = 0 then some 0 else none) (fun s6=>some s6.1))) (fun i2 s4=>none) (fun s4=>some s4))) (fun i1 s2=>none) (fun s2=>some s2))
theorem w32 {d:Nat} (hd:4≤d) (a0:Str):Fit (R NN d 32 [encS a0] []) (m32 a0) PI:=by
  obtain ⟨d,rfl,g⟩:=up hd
  refine q_in (t32 NN d _) ?_
  unfold b32 m32
  refine q_cu (A:=fun (s:Int)=>[.int .i64 s]) (B:=fun s=>[]) ?_ ?_ ?_ ?_
  ·refine q_slen<|q_p fr<|q_j ?_ ?_
   ·first | refine q_ifT1 ?_ | skip
    exact q_lret 0 rr
   ·exact q_c0 (aF2 (cv_p rfl) (cv_p rfl) fun l0_ l1_=>w44 (by omega) a0 ([47]:Str)) fun y1 hy1=>q_p fr<|q_i (q_lret 0 rr)<|q_norm 0 rr
  ·intro s2
   refine q_p (fun _=>seq_eql)<|q_i ?_ ?_
   ·exact q_ret (cv_p rfl) rfl
   ·refine q_c0 (aF2 (cv_p rfl) (cv_p rfl) fun l0_ l1_=>w45 (by omega) a0 ([47]:Str)) fun y2 hy2=>q_cu (A:=fun (s:Int)=>[.int .i64 s]) (B:=fun s=>[]) ?_ ?_ ?_ ?_
    ·refine q_len<|q_p fr<|q_j ?_ ?_
     ·first | refine q_ifT1 ?_ | skip
      exact q_lret 0 rr
     ·exact q_ix rfl fun x1 hx1=>q_p fr<|q_p (fun _=>seq_neq)<|q_i (q_lret 0 rr)<|q_norm 0 rr
    ·intro s4
     refine q_sub rfl (.inl rfl) (.inr ⟨rfl,rfl⟩) fun fl1 ys1 hys1=>q_len<|q_lp (A:=fun (s:Int×Int)=>[.int .i64 s.1,.int .i64 s.2]) (B:=fun s=>[]) 0 rr ?_ ?_ ?_
     ·intro s5
      unfold s32_0 ms32_0
      exact q_p fr<|q_i (q_ix rfl fun x2 hx2=>q_p fr<|q_c0 (aF1 (cv_p rfl) fun l0_=>w46 (by omega) x2) fun y3 hy3=>q_p fr<|q_i (q_lret 0 rr)<|q_p fr<|q_norm 0 rr)<|q_exit 0 rr
     ·exact fun i3 s6=>q_n (q_ret (cv_p rfl) rfl)<|q_none
     ·exact fun s6=>q_ret (cv_p rfl) rfl
    ·exact fun i2 s4=>q_none
    ·exact fun s4=>q_ret (cv_p rfl) rfl
  ·exact fun i1 s2=>q_none
  ·exact fun s2=>q_ret (cv_p rfl) rfl
def m33 (a0:Int):Bool:=(m34 a0 0 9999)
theorem w33 {d:Nat} (hd:2≤d) (a0:Int):Fit (R NN d 33 [.int .i64 a0] []) (some (m33 a0)) PB:=by
  obtain ⟨d,rfl,g⟩:=up hd
  refine q_in (t33 NN d _) ?_
  unfold b33 m33
  exact q_c0t (aF3 (cv_p rfl) (cv_p rfl) (cv_p rfl) fun l0_ l1_ l2_=>w34 (by omega) a0 0 9999)<|q_ret (cv_p rfl) rfl
def m35 (a0:Int):Bool:=(m34 a0 0 9)
theorem w35 {d:Nat} (hd:2≤d) (a0:Int):Fit (R NN d 35 [.int .i64 a0] []) (some (m35 a0)) PB:=by
  obtain ⟨d,rfl,g⟩:=up hd
  refine q_in (t35 NN d _) ?_
  unfold b35 m35
  exact q_c0t (aF3 (cv_p rfl) (cv_p rfl) (cv_p rfl) fun l0_ l1_ l2_=>w34 (by omega) a0 0 9)<|q_ret (cv_p rfl) rfl
def m24 (a0:TZnode):Option (Int):=(m32 a0.Path).bind fun y1=>bif y1 != 0 then some y1 else ( ( bif !(m33 a0.Data) then some (LO.norm true) else bif !(m34 a0.Version 0 999) then some (LO.norm true) else bif !(m35 a0.Owner) then some (LO.norm true) else some (LO.norm (!(m34 a0.Next 0 100)))).bind (contO (fun s3=>bif s3 then some (LO.ret 3) else some (LO.norm 0)) (fun i1 s3=>some (LO.exit i1 0)) (fun s3=>some (LO.ret 0)))).bind (contO (fun s4=>some 0) (fun i2 s4=>none) (fun s4=>some s4))
theorem w24 {d:Nat} (hd:5≤d) (k0:Bool) (a0:TZnode):Fit (R NN d 24 [.agg (Enc.cs k0 a0)] []) (m24 a0) PI:=by
  obtain ⟨d,rfl,g⟩:=up hd
  refine q_in (t24 NN d _) ?_
  unfold b24 m24
  refine q_box (n:=5) rfl rfl (by decide) fun b1=>q_p fr<|q_ld 0 rfl rfl<|q_c0 (aF1 (cv_p rfl) fun l0_=>w32 (by omega) a0.Path) fun y1 hy1=>q_p fr<|q_i ?_ ?_
  ·exact q_ret (cv_p rfl) rfl
  ·refine q_cu (A:=fun (s:Int)=>[.int .i64 s]) (B:=fun s=>[bx b1 [encS a0.Path,.int .i64 a0.Data,.int .i64 a0.Version,.int .i64 a0.Owner,.int .i64 a0.Next]]) ?_ ?_ ?_ ?_
   ·refine q_cu (A:=fun (s:Bool)=>[.bool s]) (B:=fun s=>[bx b1 [encS a0.Path,.int .i64 a0.Data,.int .i64 a0.Version,.int .i64 a0.Owner,.int .i64 a0.Next]]) ?_ ?_ ?_ ?_
    ·exact q_p fr<|q_ld 0 rfl rfl<|q_c0t (aF1 (cv_p rfl) fun l0_=>w33 (by omega) a0.Data)<|q_p fr<|q_j (q_norm 0 rr)<|q_p fr<|q_ld 0 rfl rfl<|q_c0t (aF3 (cv_p rfl) (cv_p rfl) (cv_p rfl) fun l0_ l1_ l2_=>w34 (by omega) a0.Version 0 999)<|q_p fr<|q_j (q_norm 0 rr)<|q_p fr<|q_ld 0 rfl rfl<|q_c0t (aF1 (cv_p rfl) fun l0_=>w35 (by omega) a0.Owner)<|q_p fr<|q_j (q_norm 0 rr)<|q_p fr<|q_ld 0 rfl rfl<|q_c0t (aF3 (cv_p rfl) (cv_p rfl) (cv_p rfl) fun l0_ l1_ l2_=>w34 (by omega) a0.Next 0 100)<|q_p fr<|q_norm 0 rr
    ·exact fun s3=>q_i (q_lret 0 rr)<|q_norm 0 rr
    ·exact fun i1 s3=>q_exit 0 rr
    ·exact fun s3=>q_lret 0 rr
   ·exact fun s4=>q_ret (cv_p rfl) rfl
   ·exact fun i2 s4=>q_none
   ·exact fun s4=>q_ret (cv_p rfl) rfl
def ms36_0 (a0:List TZnode) (a1:Str) (a2:TZnode→Str→Option (Int)) (s1:Int×Int):Option (LO (Int×Int)):=bif decide (s1.1 < s1.2) then (getI a0 (wi .i64 (shrI .u64 (wi .u64 (wi .i64 (s1.1 + s1.2))) 1))).bind fun x1=>(a2 x1 a1).bind fun y1=>bif decide (y1 < 0) then some (LO.norm (wi .i64 ((wi .i64 (shrI .u64 (wi .u64 (wi .i64 (s1.1 + s1.2))) 1)) + 1),s1.2)) else some (LO.norm (s1.1,wi .i64 (shrI .u64 (wi .u64 (wi .i64 (s1.1 + s1.2))) 1))) else some (LO.exit 0 (s1.1,s1.2))
def m36 (a0:List TZnode) (a1:Str) (a2:TZnode→Str→Option (Int)):Option (Int×Bool):=(loopO (ms36_0 a0 a1 a2) NN (0,(a0.length:Int))).bind (contO (fun _=>none) (fun i1 s2=>if i1 = 0 then bif decide (s2.1 < (a0.length:Int)) then (getI a0 s2.1).bind fun x2=>(a2 x2 a1).bind fun y2=>some (s2.1,y2 == 0) else some (s2.1,false) else none) (fun s2=>some (0,false)))
theorem w36 {Dc:Nat} {d:Nat} (hd:Dc + 1≤d) (k0:Bool) (a0:List TZnode) (a1:Str) (c2:Bool→AV) (hc2:∀ l,CV 8 [] false (c2 l) c2) (a2:TZnode→Str→Option (Int)) (tc2:∀ (d:Nat),Dc≤d→∀ (l:Bool) (q0:Bool) (x0:TZnode) (x1:Str) (S:St) (t:Int),a2 x0 x1 = some t→callV (cfg NN) (R NN d) 36 (c2 l) [.agg (Enc.cs q0 x0),encS x1] S = some ((fun (t:Int)=>AV.int .i64 t) t,S)) (k2:Bool):Fit (R NN d 36 [.rsl k0 false (a0.map (Enc.cs k0)),encS a1,c2 k2] []) (m36 a0 a1 a2) (P0 (fun (t:Int×Bool)=>AV.tup [.int .i64 t.1,.bool t.2])):=by
  obtain ⟨d,rfl,g⟩:=up hd
  refine q_in (t36 NN d _ _ _) ?_
  unfold b36 m36
  refine q_len<|q_lp (A:=fun (s:Int×Int)=>[.int .i64 s.1,.int .i64 s.2]) (B:=fun s=>[]) 0 rr ?_ ?_ ?_
  ·intro s1
   unfold s36_0 ms36_0
   exact q_p fr<|q_i (q_p fr<|q_p (fun _=>cvt3_75 _ _)<|q_p fr<|q_p (fun _=>cvt75_3 _ _)<|q_ix rfl fun x1 hx1=>q_p fr<|q_cv (mg:=a2 x1 a1) (E:=(fun (t:Int)=>AV.int .i64 t)) (fun S t ht=>tc2 d (by omega) k2 k0 x1 a1 S t ht) fun y1 hy1=>q_p fr<|q_i (q_p fr<|q_norm 0 rr)<|q_norm 0 rr)<|q_exit 0 rr
  ·exact fun i1 s2=>q_n (q_p fr<|q_k (q_ix rfl fun x2 hx2=>q_p fr<|q_cv (mg:=a2 x2 a1) (E:=(fun (t:Int)=>AV.int .i64 t)) (fun S t ht=>tc2 d (by omega) k2 k0 x2 a1 S t ht) fun y2 hy2=>q_p fr<|q_ret (cv_t (cvs_cons (cv_p rfl) (cvs_cons (cv_p rfl) cvs_nil))) rfl)<|q_ret (cv_t (cvs_cons (cv_p rfl) (cvs_cons (cv_p rfl) cvs_nil))) rfl)<|q_none
  ·exact fun s2=>q_ret (cv_t (cvs_cons (cv_p rfl) (cvs_cons (cv_p rfl) cvs_nil))) rfl
def m47 (a0 a1:Str):Option Int:=some (Lib.compareBytes a0 a1)
theorem w47 {d:Nat} (hd:1≤d) (a0 a1:Str):Fit (R NN d 47 [encS a0,encS a1] []) (m47 a0 a1) PI:=by
  obtain ⟨d,rfl,g⟩:=up hd
  exact fit_cmp (R:=R NN (d + 1)) (fun _ _ _=>t47 _ _ _ _ _) a0 a1
def m37 (a0:TZnode) (a1:Str):Option (Int):=(m47 a0.Path a1).bind fun y1=>some y1
theorem w37 {d:Nat} (hd:2≤d) (k0:Bool) (a0:TZnode) (a1:Str):Fit (R NN d 37 [.agg (Enc.cs k0 a0),encS a1] []) (m37 a0 a1) PI:=by
  obtain ⟨d,rfl,g⟩:=up hd
  refine q_in (t37 NN d _ _) ?_
  unfold b37 m37
  exact q_box (n:=5) rfl rfl (by decide) fun b1=>q_p fr<|q_ld 0 rfl rfl<|q_c0 (aF2 (cv_p rfl) (cv_p rfl) fun l0_ l1_=>w47 (by omega) a0.Path a1) fun y1 hy1=>q_ret (cv_p rfl) rfl
def m25 (a0:List TZnode) (a1:Str):Option (Int×Bool):=(m36 a0 a1 (fun x0_ x1_=>m37 x0_ x1_)).bind fun y1=>some (y1.1,y1.2)
theorem w25 {d:Nat} (hd:4≤d) (k0:Bool) (a0:List TZnode) (a1:Str):Fit (R NN d 25 [.rsl k0 false (a0.map (Enc.cs k0)),encS a1] []) (m25 a0 a1) (P0 (fun (t:Int×Bool)=>AV.tup [.int .i64 t.1,.bool t.2])):=by
  obtain ⟨d,rfl,g⟩:=up hd
  refine q_in (t25 NN d _ _) ?_
  unfold b25 m25
  exact q_c0 (aF3 cv_r (cv_p rfl) (cv_f cvs_nil) fun l0_ l1_ l2_=>w36 (Dc:=2) (by omega) l0_ a0 a1 (fun l=>.fn 37 []) (fun l=>cv_f cvs_nil) (fun x0_ x1_=>m37 x0_ x1_) (fun d hd l q0_ x0_ x1_ S t ht=>(cv36_37 _ _ _ _).trans (call0_of (E:=(fun (t:Int)=>AV.int .i64 t)) (mg:=m37 x0_ x1_) (args2 (M:=fun a=>Fit (R NN d 37 a []) _ _) (cv_a (cvs_e (l0:=q0_) (x:=x0_))) (cv_p rfl) HP.nil fun u0_ u1_=>w37 hd u0_ x0_ x1_) ht)) l2_) fun y1 hy1=>q_q fr<|q_q fr<|q_ret (cv_t (cvs_cons (cv_p rfl) (cvs_cons (cv_p rfl) cvs_nil))) rfl
def ms48_0 (a0:Str) (a1:Int) (s1:Int×Int):Option (LO (Int×Int)):=bif decide (s1.2 ≥ 0) then (getI a0 s1.2).bind fun c1=>bif (c1.toNat:Int) == a1 then some (LO.ret (s1.2,s1.2)) else some (LO.norm (s1.1,wi .i64 (s1.2 - 1))) else some (LO.exit 0 (s1.1,s1.2))
def m48 (a0:Str) (a1:Int):Option (Int):=(loopO (ms48_0 a0 a1) NN (0,wi .i64 ((a0.length:Int) - 1))).bind (contO (fun _=>none) (fun i1 s2=>if i1 = 0 then some (-1) else none) (fun s2=>some s2.1))
theorem w48 {d:Nat} (hd:1≤d) (a0:Str) (a1:Int):Fit (R NN d 48 [encS a0,.int .u8 a1] []) (m48 a0 a1) PI:=by
  obtain ⟨d,rfl,g⟩:=up hd
  refine q_in (t48 NN d _ _) ?_
  unfold b48 m48
  refine q_slen<|q_p fr<|q_lp (A:=fun (s:Int×Int)=>[.int .i64 s.1,.int .i64 s.2]) (B:=fun s=>[]) 0 rr ?_ ?_ ?_
  ·intro s1
   unfold s48_0 ms48_0
   exact q_p fr<|q_i (q_sx fun c1 hc1=>q_p fr<|q_i (q_lret 0 rr)<|q_p fr<|q_norm 0 rr)<|q_exit 0 rr
  ·exact fun i1 s2=>q_n (q_ret (cv_p rfl) rfl)<|q_none
  ·exact fun s2=>q_ret (cv_p rfl) rfl
def ms58_0 (a0:Str) (s1:Int×Int):Option (LO (Int×Int)):=bif decide (s1.2 ≥ 0) then (getI a0 s1.2).bind fun c1=>some (LO.norm (wi .u32 ((wi .u32 (s1.1 * 16777619)) + (wi .u32 (c1.toNat:Int))),wi .i64 (s1.2 - 1))) else some (LO.exit 0 (s1.1,s1.2))
def ms58_1 (s3:Int×Int×Int):Option (LO (Int×Int×Int)):=bif decide (s3.2.2 > 0) then ( ( bif (andI .i64 s3.2.2 1) != 0 then some (LO.norm (wi .u32 (s3.1 * s3.2.1))) else some (LO.norm s3.1)).bind (contO (fun s6=>some (LO.norm (s6,wi .u32 (s3.2.1 * s3.2.1)))) (fun i2 s6=>if i2 = 3 then some (LO.norm (s6,s3.2.1)) else some (LO.exit i2 (s6,s3.2.1))) (fun s6=>some (LO.ret (s6,s3.2.1))))).bind (contO (fun s7=>some (LO.norm (s7.1,s7.2,shrI .i64 s3.2.2 1))) (fun i3 s7=>some (LO.exit i3 (s7.1,s7.2,s3.2.2))) (fun s7=>some (LO.ret (s7.1,s7.2,s3.2.2)))) else some (LO.exit 2 (s3.1,s3.2.1,s3.2.2))
def m58 (a0:Str):Option (Int×Int):=(loopO (ms58_0 a0) NN (0,wi .i64 ((a0.length:Int) - 1))).bind (contO (fun _=>none) (fun i1 s2=>if i1 = 0 then (loopO (ms58_1) NN (1,16777619,(a0.length:Int))).bind (contO (fun _=>none) (fun i4 s8=>if i4 = 2 then some (s2.1,s8.1) else none) (fun s8=>some (0,0))) else none) (fun s2=>some (0,0)))
theorem w58 {d:Nat} (hd:1≤d) (a0:Str):Fit (R NN d 58 [encS a0] []) (m58 a0) (P0 (fun (t:Int×Int)=>AV.tup [.int .u32 t.1,.int .u32 t.2])):=by
  obtain ⟨d,rfl,g⟩:=up hd
  refine q_in (t58 NN d _) ?_
  unfold b58 m58
  refine q_slen<|q_p fr<|q_lp (A:=fun (s:Int×Int)=>[.int .u32 s.1,.int .i64 s.2]) (B:=fun s=>[]) 0 rr ?_ ?_ ?_
  ·intro s1
   unfold s58_0 ms58_0
   exact q_p fr<|q_i (q_p fr<|q_sx fun c1 hc1=>q_p (fun _=>cvt5_80 _ _)<|q_p fr<|q_p fr<|q_norm 0 rr)<|q_exit 0 rr
  ·intro i1 s2
   refine q_n ?_ ?_
   ·refine q_slen<|q_lp (A:=fun (s:Int×Int×Int)=>[.int .u32 s.1,.int .u32 s.2.1,.int .i64 s.2.2]) (B:=fun s=>[]) 0 rr ?_ ?_ ?_
    ·intro s3
     unfold s58_1 ms58_1
     refine q_p fr<|q_i ?_ ?_
     ·refine q_cu (A:=fun (s:Int×Int)=>[.int .u32 s.1,.int .u32 s.2]) (B:=fun s=>[]) ?_ ?_ ?_ ?_
      ·refine q_cu (A:=fun (s:Int)=>[.int .u32 s]) (B:=fun s=>[]) ?_ ?_ ?_ ?_
       ·exact q_p fr<|q_p fr<|q_i (q_p fr<|q_norm 0 rr)<|q_norm 0 rr
       ·exact fun s6=>q_p fr<|q_norm 0 rr
       ·exact fun i2 s6=>q_n (q_norm 0 rr)<|q_exit 0 rr
       ·exact fun s6=>q_lret 0 rr
      ·exact fun s7=>q_p fr<|q_norm 0 rr
      ·exact fun i3 s7=>q_exit 0 rr
      ·exact fun s7=>q_lret 0 rr
     ·exact q_exit 0 rr
    ·exact fun i4 s8=>q_n (q_ret (cv_t (cvs_cons (cv_p rfl) (cvs_cons (cv_p rfl) cvs_nil))) rfl)<|q_none
    ·exact fun s8=>q_ret (cv_t (cvs_cons (cv_p rfl) (cvs_cons (cv_p rfl) cvs_nil))) rfl
   ·exact q_none
  ·exact fun s2=>q_ret (cv_t (cvs_cons (cv_p rfl) (cvs_cons (cv_p rfl) cvs_nil))) rfl
def ms49_0 (a0:Str) (a1:Str) (s1:Int×Int):Option (LO (Int×Int)):=bif decide (s1.2 ≥ (wi .i64 ((a0.length:Int) - (a1.length:Int)))) then (getI a0 s1.2).bind fun c1=>some (LO.norm (wi .u32 ((wi .u32 (s1.1 * 16777619)) + (wi .u32 (c1.toNat:Int))),wi .i64 (s1.2 - 1))) else some (LO.exit 0 (s1.1,s1.2))
def ms49_1 (a0:Str) (a1:Str) (y1:Int×Int) (s5:Int×Int×Int):Option (LO (Int×Int×Int)):=bif decide (s5.2.2 ≥ 0) then ( (getI a0 s5.2.2).bind fun c2=>(getI a0 (wi .i64 (s5.2.2 + (a1.length:Int)))).bind fun c3=>bif (wi .u32 ((wi .u32 ((wi .u32 (s5.2.1 * 16777619)) + (wi .u32 (c2.toNat:Int)))) - (wi .u32 (y1.2 * (wi .u32 (c3.toNat:Int)))))) == y1.1 then (subI a0 s5.2.2 (wi .i64 (s5.2.2 + (a1.length:Int)))).bind fun t2=>bif t2 == a1 then some (LO.ret (s5.2.2,wi .u32 ((wi .u32 ((wi .u32 (s5.2.1 * 16777619)) + (wi .u32 (c2.toNat:Int)))) - (wi .u32 (y1.2 * (wi .u32 (c3.toNat:Int))))))) else some (LO.norm (s5.1,wi .u32 ((wi .u32 ((wi .u32 (s5.2.1 * 16777619)) + (wi .u32 (c2.toNat:Int)))) - (wi .u32 (y1.2 * (wi .u32 (c3.toNat:Int))))))) else some (LO.norm (s5.1,wi .u32 ((wi .u32 ((wi .u32 (s5.2.1 * 16777619)) + (wi .u32 (c2.toNat:Int)))) - (wi .u32 (y1.2 * (wi .u32 (c3.toNat:Int)))))))).bind (contO (fun s7=>some (LO.norm (s7.1,s7.2,wi .i64 (s5.2.2 - 1)))) (fun i3 s7=>some (LO.exit i3 (s7.1,s7.2,s5.2.2))) (fun s7=>some (LO.ret (s7.1,s7.2,s5.2.2)))) else some (LO.exit 2 (s5.1,s5.2.1,s5.2.2))
def m49 (a0:Str) (a1:Str):Option (Int):=(m58 a1).bind fun y1=>(loopO (ms49_0 a0 a1) NN (0,wi .i64 ((a0.length:Int) - 1))).bind (contO (fun _=>none) (fun i1 s2=>if i1 = 0 then ( bif s2.1 == y1.1 then (subI a0 (wi .i64 ((a0.length:Int) - (a1.length:Int))) (a0.length:Int)).bind fun t1=>bif t1 == a1 then some (LO.ret (wi .i64 ((a0.length:Int) - (a1.length:Int)))) else some (LO.norm 0) else some (LO.norm 0)).bind (contO (fun s4=>(loopO (ms49_1 a0 a1 y1) NN (s4,s2.1,wi .i64 ((wi .i64 ((a0.length:Int) - (a1.length:Int))) - 1))).bind (contO (fun _=>none) (fun i4 s8=>if i4 = 2 then some (-1) else none) (fun s8=>some s8.1))) (fun i2 s4=>none) (fun s4=>some s4)) else none) (fun s2=>some 0))
theorem w49 {d:Nat} (hd:2≤d) (a0:Str) (a1:Str):Fit (R NN d 49 [encS a0,encS a1] []) (m49 a0 a1) PI:=by
  obtain ⟨d,rfl,g⟩:=up hd
  refine q_in (t49 NN d _ _) ?_
  unfold b49 m49
  refine q_c0 (aF1 (cv_p rfl) fun l0_=>w58 (by omega) a1) fun y1 hy1=>q_q fr<|q_q fr<|q_slen<|q_slen<|q_p fr<|q_slen<|q_p fr<|q_lp (A:=fun (s:Int×Int)=>[.int .u32 s.1,.int .i64 s.2]) (B:=fun s=>[]) 0 rr ?_ ?_ ?_
  ·intro s1
   unfold s49_0 ms49_0
   exact q_p fr<|q_i (q_p fr<|q_sx fun c1 hc1=>q_p (fun _=>cvt5_80 _ _)<|q_p fr<|q_p fr<|q_norm 0 rr)<|q_exit 0 rr
  ·intro i1 s2
   refine q_n ?_ ?_
   ·refine q_cu (A:=fun (s:Int)=>[.int .i64 s]) (B:=fun s=>[]) ?_ ?_ ?_ ?_
    ·refine q_p fr<|q_k ?_ ?_
     ·exact q_ssub (.inl rfl) (.inr ⟨rfl,rfl⟩) fun t1 ht1=>q_p (fun _=>seq_eql2)<|q_i (q_lret 0 rr)<|q_norm 0 rr
     ·first | refine q_ifF1 ?_ | skip
      exact q_norm 0 rr
    ·intro s4
     refine q_p fr<|q_lp (A:=fun (s:Int×Int×Int)=>[.int .i64 s.1,.int .u32 s.2.1,.int .i64 s.2.2]) (B:=fun s=>[]) 0 rr ?_ ?_ ?_
     ·intro s5
      unfold s49_1 ms49_1
      refine q_p fr<|q_i ?_ ?_
      ·refine q_cu (A:=fun (s:Int×Int)=>[.int .i64 s.1,.int .u32 s.2]) (B:=fun s=>[]) ?_ ?_ ?_ ?_
       ·refine q_p fr<|q_sx fun c2 hc2=>q_p (fun _=>cvt5_80 _ _)<|q_p fr<|q_p fr<|q_sx fun c3 hc3=>q_p (fun _=>cvt5_80 _ _)<|q_p fr<|q_p fr<|q_p fr<|q_k ?_ ?_
        ·exact q_p fr<|q_ssub (.inl rfl) (.inl rfl) fun t2 ht2=>q_p (fun _=>seq_eql2)<|q_i (q_lret 0 rr)<|q_norm 0 rr
        ·first | refine q_ifF1 ?_ | skip
         exact q_norm 0 rr
       ·exact fun s7=>q_p fr<|q_norm 0 rr
       ·exact fun i3 s7=>q_exit 0 rr
       ·exact fun s7=>q_lret 0 rr
      ·exact q_exit 0 rr
     ·exact fun i4 s8=>q_n (q_ret (cv_p rfl) rfl)<|q_none
     ·exact fun s8=>q_ret (cv_p rfl) rfl
    ·exact fun i2 s4=>q_none
    ·exact fun s4=>q_ret (cv_p rfl) rfl
   ·exact q_none
  ·exact fun s2=>q_ret (cv_p rfl) rfl
def m38 (a0:Str) (a1:Str):Option (Int):=bif (a1.length:Int) == 0 then some (a0.length:Int) else bif (a1.length:Int) == 1 then (getI a1 0).bind fun c1=>(m48 a0 (c1.toNat:Int)).bind fun y1=>some y1 else bif (a1.length:Int) == (a0.length:Int) then bif a1 == a0 then some 0 else some (-1) else bif decide ((a1.length:Int) > (a0.length:Int)) then some (-1) else (m49 a0 a1).bind fun y2=>some y2
theorem w38 {d:Nat} (hd:3≤d) (a0:Str) (a1:Str):Fit (R NN d 38 [encS a0,encS a1] []) (m38 a0 a1) PI:=by
  obtain ⟨d,rfl,g⟩:=up hd
  refine q_in (t38 NN d _ _) ?_
  unfold b38 m38
  exact q_slen<|q_p fr<|q_i (q_slen<|q_ret (cv_p rfl) rfl)<|q_p fr<|q_i (q_sx fun c1 hc1=>q_c0 (aF2 (cv_p rfl) (cv_p rfl) fun l0_ l1_=>w48 (by omega) a0 (c1.toNat:Int)) fun y1 hy1=>q_ret (cv_p rfl) rfl)<|q_slen<|q_p fr<|q_i (q_p (fun _=>seq_eql2)<|q_i (q_ret (cv_p rfl) rfl)<|q_ret (cv_p rfl) rfl)<|q_slen<|q_p fr<|q_i (q_ret (cv_p rfl) rfl)<|q_c0 (aF2 (cv_p rfl) (cv_p rfl) fun l0_ l1_=>w49 (by omega) a0 a1) fun y2 hy2=>q_ret (cv_p rfl) rfl
def m26 (a0:Str):Option (Str×Str):=(m38 a0 ([47]:Str)).bind fun y1=>(subI a0 0 (maxI y1 1)).bind fun t1=>(subI a0 (wi .i64 (y1 + 1)) (a0.length:Int)).bind fun t2=>some (t1,t2)
theorem w26 {d:Nat} (hd:4≤d) (a0:Str):Fit (R NN d 26 [encS a0] []) (m26 a0) (P0 (fun (t:Str×Str)=>AV.tup [encS t.1,encS t.2])):=by
  obtain ⟨d,rfl,g⟩:=up hd
  refine q_in (t26 NN d _) ?_
  unfold b26 m26
  exact q_c0 (aF2 (cv_p rfl) (cv_p rfl) fun l0_ l1_=>w38 (by omega) a0 ([47]:Str)) fun y1 hy1=>q_p (fun _=>amax_)<|q_ssub (.inr ⟨rfl,rfl⟩) (.inl rfl) fun t1 ht1=>q_p fr<|q_ssub (.inl rfl) (.inr ⟨rfl,rfl⟩) fun t2 ht2=>q_ret (cv_t (cvs_cons (cv_p rfl) (cvs_cons (cv_p rfl) cvs_nil))) rfl
def ms14_0 (a0:List TZnode) (s1:Int×Int):Option (LO (Int×Int)):=bif decide (s1.2 < (a0.length:Int)) then ( (getI a0 s1.2).bind fun x1=>(m24 x1).bind fun y1=>bif y1 != 0 then some (LO.ret y1) else bif decide (s1.2 > 0) then (getI a0 (wi .i64 (s1.2 - 1))).bind fun x2=>bif Op.bytesLess x1.Path x2.Path || x1.Path == x2.Path then some (LO.ret 1) else some (LO.norm s1.1) else some (LO.norm s1.1)).bind (contO (fun s3=>some (LO.norm (s3,wi .i64 (s1.2 + 1)))) (fun i1 s3=>some (LO.exit i1 (s3,s1.2))) (fun s3=>some (LO.ret (s3,s1.2)))) else some (LO.exit 0 (s1.1,s1.2))
def ms14_1 (a0:List TZnode) (ys1:List TZnode) (s5:Int×Bool×Int):Option (LO (Int×Bool×Int)):=bif decide (s5.2.2 < (ys1.length:Int)) then ( (getI ys1 s5.2.2).bind fun x4=>(m26 x4.Path).bind fun y3=>(m25 a0 y3.1).bind fun y4=>bif !y4.2 then some (LO.ret (4,s5.2.1)) else bif s5.2.1 then some (LO.norm (s5.1,true)) else (getI a0 y4.1).bind fun x5=>some (LO.norm (s5.1,x5.Owner != 0))).bind (contO (fun s7=>some (LO.norm (s7.1,s7.2,wi .i64 (s5.2.2 + 1)))) (fun i3 s7=>some (LO.exit i3 (s7.1,s7.2,s5.2.2))) (fun s7=>some (LO.ret (s7.1,s7.2,s5.2.2)))) else some (LO.exit 2 (s5.1,s5.2.1,s5.2.2))
def m14 (a0:List TZnode):Option (Int):=bif decide ((a0.length:Int) > 20) then some 2 else (loopO (ms14_0 a0) NN (0,0)).bind (contO (fun _=>none) (fun i2 s4=>if i2 = 0 then (m25 a0 ([47]:Str)).bind fun y2=>bif !y2.2 then some 4 else (getI a0 0).bind fun x3=>(subI a0 1 (a0.length:Int)).bind fun ys1=>(loopO (ms14_1 a0 ys1) NN (s4.1,x3.Owner != 0,0)).bind (contO (fun _=>none) (fun i4 s8=>if i4 = 2 then bif s8.2.1 then some 1 else some 0 else none) (fun s8=>some s8.1)) else none) (fun s4=>some s4.1))
theorem w14 {d:Nat} (hd:6≤d) (k0:Bool) (a0:List TZnode):Fit (R NN d 14 [.rsl k0 false (a0.map (Enc.cs k0))] []) (m14 a0) PI:=by
  obtain ⟨d,rfl,g⟩:=up hd
  refine q_in (t14 NN d _) ?_
  unfold b14 m14
  refine q_len<|q_p fr<|q_i ?_ ?_
  ·exact q_ret (cv_p rfl) rfl
  ·refine q_len<|q_lp (A:=fun (s:Int×Int)=>[.int .i64 s.1,.int .i64 s.2]) (B:=fun s=>[]) 0 rr ?_ ?_ ?_
   ·intro s1
    unfold s14_0 ms14_0
    refine q_p fr<|q_i ?_ ?_
    ·refine q_cu (A:=fun (s:Int)=>[.int .i64 s]) (B:=fun s=>[]) ?_ ?_ ?_ ?_
     ·refine q_ix rfl fun x1 hx1=>q_p fr<|q_new rfl fun b1=>q_st 0 rfl rfl rfl (by decide) rfl<|q_lda 0 rfl rfl rfl<|q_c0 (aF1 (cv_a (cvs_e (l0:=false) (x:=x1))) fun l0_=>w24 (by omega) l0_ x1) fun y1 hy1=>q_p fr<|q_i ?_ ?_
      ·exact q_lret 1 rr
      ·refine q_p fr<|q_k ?_ ?_
       ·exact q_p fr<|q_ld 0 rfl rfl<|q_p fr<|q_ix rfl fun x2 hx2=>q_p fr<|q_p fr<|q_p (fun _=>seq_leq2)<|q_i (q_lret 1 rr)<|q_norm 1 rr
       ·first | refine q_ifF1 ?_ | skip
        exact q_norm 1 rr
     ·exact fun s3=>q_p fr<|q_norm 0 rr
     ·exact fun i1 s3=>q_exit 0 rr
     ·exact fun s3=>q_lret 0 rr
    ·exact q_exit 0 rr
   ·intro i2 s4
    refine q_n ?_ ?_
    ·refine q_c0 (aF2 cv_r (cv_p rfl) fun l0_ l1_=>w25 (by omega) l0_ a0 ([47]:Str)) fun y2 hy2=>q_q fr<|q_q fr<|q_p fr<|q_i ?_ ?_
     ·exact q_ret (cv_p rfl) rfl
     ·refine q_ix rfl fun x3 hx3=>q_p fr<|q_p fr<|q_p fr<|q_sub rfl (.inl rfl) (.inr ⟨rfl,rfl⟩) fun fl1 ys1 hys1=>q_len<|q_lp (A:=fun (s:Int×Bool×Int)=>[.int .i64 s.1,.bool s.2.1,.int .i64 s.2.2]) (B:=fun s=>[]) 0 rr ?_ ?_ ?_
      ·intro s5
       unfold s14_1 ms14_1
       refine q_p fr<|q_i ?_ ?_
       ·refine q_cu (A:=fun (s:Int×Bool)=>[.int .i64 s.1,.bool s.2]) (B:=fun s=>[]) ?_ ?_ ?_ ?_
        ·exact q_ix rfl fun x4 hx4=>q_p fr<|q_new rfl fun b2=>q_st 0 rfl rfl rfl (by decide) rfl<|q_p fr<|q_ld 0 rfl rfl<|q_c0 (aF1 (cv_p rfl) fun l0_=>w26 (by omega) x4.Path) fun y3 hy3=>q_q fr<|q_q fr<|q_c0 (aF2 cv_r (cv_p rfl) fun l0_ l1_=>w25 (by omega) l0_ a0 y3.1) fun y4 hy4=>q_q fr<|q_q fr<|q_p fr<|q_i (q_lret 1 rr)<|q_j (q_norm 1 rr)<|q_ix rfl fun x5 hx5=>q_p fr<|q_p fr<|q_p fr<|q_norm 1 rr
        ·exact fun s7=>q_p fr<|q_norm 0 rr
        ·exact fun i3 s7=>q_exit 0 rr
        ·exact fun s7=>q_lret 0 rr
       ·exact q_exit 0 rr
      ·exact fun i4 s8=>q_n (q_i (q_ret (cv_p rfl) rfl)<|q_ret (cv_p rfl) rfl)<|q_none
      ·exact fun s8=>q_ret (cv_p rfl) rfl
    ·exact q_none
   ·exact fun s4=>q_ret (cv_p rfl) rfl
def m27 (a0:List Str) (a1:Str):Option Str:=joinO a0 a1
theorem w27 {d:Nat} (hd:1≤d) (k0:Bool) (a0:List Str) (a1:Str):Fit (R NN d 27 [.rsl k0 false (a0.map (Enc.cs k0)),encS a1] []) (m27 a0 a1) (P0 encS):=by
  obtain ⟨d,rfl,g⟩:=up hd
  exact fit_j (R:=R) (fun _ _ _=>t27 _ _ _ _ _) k0 false a0 a1
def m52 (a0 a1:Int):Option Str:=fmtO a0 a1
theorem w52 {d:Nat} (hd:1≤d) (a0 a1:Int):Fit (R NN d 52 [.int .i64 a0,.int .i64 a1] []) (m52 a0 a1) (P0 encS):=by
  obtain ⟨d,rfl,g⟩:=up hd
  exact fit_fi (R:=R) (fun _ _ _=>t52 _ _ _ _ _) a0 a1
def m42 (a0:Int):Option (Str):=(m52 a0 10).bind fun y1=>some y1
theorem w42 {d:Nat} (hd:2≤d) (a0:Int):Fit (R NN d 42 [.int .i64 a0] []) (m42 a0) (P0 encS):=by
  obtain ⟨d,rfl,g⟩:=up hd
  refine q_in (t42 NN d _) ?_
  unfold b42 m42
  exact q_c0 (aF2 (cv_p rfl) (cv_p rfl) fun l0_ l1_=>w52 (by omega) a0 10) fun y1 hy1=>q_ret (cv_p rfl) rfl
def ms28_0 (a0:List Int) (s1:Int×(List Str)):Option (LO (Int×(List Str))):=bif decide (s1.1 < (a0.length:Int)) then (getI a0 s1.1).bind fun x1=>(m42 x1).bind fun y1=>(appO 16 s1.2 [y1]).bind fun z1=>some (LO.norm (wi .i64 (s1.1 + 1),z1)) else some (LO.exit 0 (s1.1,s1.2))
def m28 (a0:List Int):Option ((List Str)):=(loopO (ms28_0 a0) NN (0,[])).bind (contO (fun _=>none) (fun i1 s2=>if i1 = 0 then some s2.2 else none) (fun s2=>some []))
theorem w28 {d:Nat} (hd:3≤d) (k0:Bool) (a0:List Int):Fit (R NN d 28 [.rsl k0 false (a0.map (Enc.cs k0))] []) (m28 a0) (P0 (fun (t:List Str)=>AV.rsl false false (t.map (Enc.cs false)))):=by
  obtain ⟨d,rfl,g⟩:=up hd
  refine q_in (t28 NN d _) ?_
  unfold b28 m28
  refine q_q (fun _=>qs53_0)<|q_len<|q_nil (α:=Str) false<|q_loop (I:=(fun (s:Int×(List Str)) l L=>∃ (v1:AV),l = [v1,.int .i64 s.1]∧L = [sl false v1 (s.2:List Str)])) 0 ⟨(.rsl false true []),rfl,rfl⟩ ?_ ?_ ?_
  ·rintro s1 _ _ ⟨v1,rfl,rfl⟩
   unfold s28_0 ms28_0
   exact q_p fr<|q_i (q_ix rfl fun x1 hx1=>q_p fr<|q_c0 (aF1 (cv_p rfl) fun l0_=>w42 (by omega) x1) fun y1 hy1=>q_q (fun _=>qs53_1)<|q_app (ys:=[y1]) 0 rfl rfl (fun _ _=>rfl) fun v2 z1 hz1=>q_p fr<|q_norm 0 ⟨v2,rfl,rfl⟩)<|q_exit 0 ⟨v1,rfl,rfl⟩
  ·rintro i1 s2 _ _ ⟨v3,rfl,rfl⟩
   exact q_n (q_ret (cv_o 0 rfl) rfl)<|q_none
  ·rintro s2 _ _ ⟨v4,rfl,rfl⟩
   exact q_ret (cv_r (α:=Str) (l0:=false) (fl:=true) (xs:=[])) rfl
def ms15_0 (a0:List TZnode) (s1:Str×Int):Option (LO (Str×Int)):=bif decide (s1.2 < (a0.length:Int)) then (getI a0 s1.2).bind fun x1=>(catO x1.Path ([32]:Str)).bind fun t1=>(m28 [x1.Data,x1.Version,x1.Owner]).bind fun y1=>(m27 y1 ([32]:Str)).bind fun y2=>(catO t1 y2).bind fun t2=>(catO t2 ([10]:Str)).bind fun t3=>(catO s1.1 t3).bind fun t4=>some (LO.norm (t4,wi .i64 (s1.2 + 1))) else some (LO.exit 0 (s1.1,s1.2))
def m15 (a0:List TZnode):Option (Str):=(loopO (ms15_0 a0) NN (([]:Str),0)).bind (contO (fun _=>none) (fun i1 s2=>if i1 = 0 then some s2.1 else none) (fun s2=>some ([]:Str)))
theorem w15 {d:Nat} (hd:4≤d) (k0:Bool) (a0:List TZnode):Fit (R NN d 15 [.rsl k0 false (a0.map (Enc.cs k0))] []) (m15 a0) (P0 encS):=by
  obtain ⟨d,rfl,g⟩:=up hd
  refine q_in (t15 NN d _) ?_
  unfold b15 m15
  refine q_len<|q_lp (A:=fun (s:Str×Int)=>[encS s.1,.int .i64 s.2]) (B:=fun s=>[]) 0 rr ?_ ?_ ?_
  ·intro s1
   unfold s15_0 ms15_0
   exact q_p fr<|q_i (q_ix rfl fun x1 hx1=>q_p fr<|q_new rfl fun b1=>q_st 0 rfl rfl rfl (by decide) rfl<|q_p fr<|q_ld 0 rfl rfl<|q_cat fun t1 ht1=>q_p fr<|q_ld 0 rfl rfl<|q_p fr<|q_ld 0 rfl rfl<|q_p fr<|q_ld 0 rfl rfl<|q_e (fun _=>bs72_3 rfl)<|q_c0 (aF1 (cv_r (α:=Int) (l0:=false) (fl:=true) (xs:=[x1.Data,x1.Version,x1.Owner])) fun l0_=>w28 (by omega) l0_ [x1.Data,x1.Version,x1.Owner]) fun y1 hy1=>q_c0 (aF2 cv_r (cv_p rfl) fun l0_ l1_=>w27 (by omega) l0_ y1 ([32]:Str)) fun y2 hy2=>q_cat2 fun t2 ht2=>q_cat fun t3 ht3=>q_cat2 fun t4 ht4=>q_p fr<|q_norm 1 rr)<|q_exit 0 rr
  ·exact fun i1 s2=>q_n (q_ret (cv_p rfl) rfl)<|q_none
  ·exact fun s2=>q_ret (cv_p rfl) rfl
def m7 (a0:List TZnode):Option (TTextResult):=(m14 a0).bind fun y1=>bif y1 != 0 then some (⟨y1,[]⟩:TTextResult) else (m15 a0).bind fun y2=>some (⟨0,y2⟩:TTextResult)
theorem w7 {d:Nat} (hd:7≤d) (k0:Bool) (a0:List TZnode):Fit (R NN d 7 [.rsl k0 false (a0.map (Enc.cs k0))] []) (m7 a0) (P0 (fun (t:TTextResult)=>AV.agg (Enc.cs false t))):=by
  obtain ⟨d,rfl,g⟩:=up hd
  refine q_in (t7 NN d _) ?_
  unfold b7 m7
  exact q_new rfl fun b1=>q_c0 (aF1 cv_r fun l0_=>w14 (by omega) l0_ a0) fun y1 hy1=>q_p fr<|q_i (q_p (fun _=>bd25_0 rfl)<|q_st 0 rfl rfl rfl (by decide) rfl<|q_retm (fun S hS=>hS.lda 0 rfl rfl) (cv_a (cvs_cons (cv_p rfl) (cvs_cons (cv_p rfl) cvs_nil))) rfl)<|q_c0 (aF1 cv_r fun l0_=>w15 (by omega) l0_ a0) fun y2 hy2=>q_p (fun _=>bd25_1 rfl)<|q_st 0 rfl rfl rfl (by decide) rfl<|q_retm (fun S hS=>hS.lda 0 rfl rfl) (cv_a (cvs_cons (cv_p rfl) (cvs_cons (cv_p rfl) cvs_nil))) rfl
def m8 (a0:TTextResult) (a1:TTextResult):Bool:=bif a0.Code != a1.Code then false else bif !(a0.Text == a1.Text) then false else true
theorem w8 {d:Nat} (hd:1≤d) (k0:Bool) (a0:TTextResult) (k1:Bool) (a1:TTextResult):Fit (R NN d 8 [.agg (Enc.cs k0 a0),.agg (Enc.cs k1 a1)] []) (some (m8 a0 a1)) PB:=by
  obtain ⟨d,rfl,g⟩:=up hd
  refine q_in (t8 NN d _ _) ?_
  unfold b8 m8
  exact q_box (n:=2) rfl rfl (by decide) fun b1=>q_box (n:=2) rfl rfl (by decide) fun b2=>q_p fr<|q_ld 1 rfl rfl<|q_p fr<|q_ld 0 rfl rfl<|q_p fr<|q_ift (fun h2=>q_ret (cv_p rfl) rfl) fun h2=>q_p fr<|q_ld 1 rfl rfl<|q_p fr<|q_ld 0 rfl rfl<|q_p (fun _=>seq_neq2)<|q_ift (fun h1=>q_ret (cv_p rfl) rfl) fun h1=>q_ret (cv_p rfl) rfl
def m16 (a0:TZnode) (a1:TZnode):Bool:=bif !(a0.Path == a1.Path) then false else bif a0.Data != a1.Data then false else bif a0.Version != a1.Version then false else bif a0.Owner != a1.Owner then false else bif a0.Next != a1.Next then false else true
theorem w16 {d:Nat} (hd:1≤d) (k0:Bool) (a0:TZnode) (k1:Bool) (a1:TZnode):Fit (R NN d 16 [.agg (Enc.cs k0 a0),.agg (Enc.cs k1 a1)] []) (some (m16 a0 a1)) PB:=by
  obtain ⟨d,rfl,g⟩:=up hd
  refine q_in (t16 NN d _ _) ?_
  unfold b16 m16
  exact q_box (n:=5) rfl rfl (by decide) fun b1=>q_box (n:=5) rfl rfl (by decide) fun b2=>q_p fr<|q_ld 1 rfl rfl<|q_p fr<|q_ld 0 rfl rfl<|q_p (fun _=>seq_neq2)<|q_ift (fun h5=>q_ret (cv_p rfl) rfl) fun h5=>q_p fr<|q_ld 1 rfl rfl<|q_p fr<|q_ld 0 rfl rfl<|q_p fr<|q_ift (fun h4=>q_ret (cv_p rfl) rfl) fun h4=>q_p fr<|q_ld 1 rfl rfl<|q_p fr<|q_ld 0 rfl rfl<|q_p fr<|q_ift (fun h3=>q_ret (cv_p rfl) rfl) fun h3=>q_p fr<|q_ld 1 rfl rfl<|q_p fr<|q_ld 0 rfl rfl<|q_p fr<|q_ift (fun h2=>q_ret (cv_p rfl) rfl) fun h2=>q_p fr<|q_ld 1 rfl rfl<|q_p fr<|q_ld 0 rfl rfl<|q_p fr<|q_ift (fun h1=>q_ret (cv_p rfl) rfl) fun h1=>q_ret (cv_p rfl) rfl
def ms9_0 (a0:List TZnode) (a1:List TZnode) (s1:Bool×Int):Option (LO (Bool×Int)):=bif decide (s1.2 < (a0.length:Int)) then (getI a0 s1.2).bind fun x1=>(getI a1 s1.2).bind fun x2=>bif !(m16 x1 x2) then some (LO.ret (false,s1.2)) else some (LO.norm (s1.1,wi .i64 (s1.2 + 1))) else some (LO.exit 0 (s1.1,s1.2))
def m9 (a0:List TZnode) (a1:List TZnode):Option (Bool):=bif (a0.length:Int) != (a1.length:Int) then some false else (loopO (ms9_0 a0 a1) NN (false,0)).bind (contO (fun _=>none) (fun i1 s2=>if i1 = 0 then some true else none) (fun s2=>some s2.1))
theorem w9 {d:Nat} (hd:2≤d) (k0:Bool) (a0:List TZnode) (k1:Bool) (a1:List TZnode):Fit (R NN d 9 [.rsl k0 false (a0.map (Enc.cs k0)),.rsl k1 false (a1.map (Enc.cs k1))] []) (m9 a0 a1) PB:=by
  obtain ⟨d,rfl,g⟩:=up hd
  refine q_in (t9 NN d _ _) ?_
  unfold b9 m9
  refine q_len<|q_len<|q_p fr<|q_i ?_ ?_
  ·exact q_ret (cv_p rfl) rfl
  ·refine q_lp (A:=fun (s:Bool×Int)=>[.bool s.1,.int .i64 s.2]) (B:=fun s=>[]) 0 rr ?_ ?_ ?_
   ·intro s1
    unfold s9_0 ms9_0
    exact q_len<|q_p fr<|q_i (q_ix rfl fun x1 hx1=>q_p fr<|q_ix rfl fun x2 hx2=>q_p fr<|q_c0t (aF2 (cv_a (cvs_e (l0:=k0) (x:=x1))) (cv_a (cvs_e (l0:=k1) (x:=x2))) fun l0_ l1_=>w16 (by omega) l0_ x1 l1_ x2)<|q_p fr<|q_i (q_lret 0 rr)<|q_p fr<|q_norm 0 rr)<|q_exit 0 rr
   ·exact fun i1 s2=>q_n (q_ret (cv_p rfl) rfl)<|q_none
   ·exact fun s2=>q_ret (cv_p rfl) rfl
def m3 (a0:List TZnode):Option (Bool):=(m4 a0 1048576).bind fun y1=>bif decide (y1 < 0) then some true else (m6 a0).bind fun y2=>(m5 y2).bind fun y3=>(m6 a0).bind fun y4=>(m7 y4).bind fun y5=>bif !(m8 y5 y3) then some false else (m6 a0).bind fun y6=>(m9 y4 y6).bind fun y7=>bif !y7 then some false else some true
theorem w3 {d:Nat} (hd:132≤d) (k0:Bool) (a0:List TZnode):Fit (R NN d 3 [.rsl k0 false (a0.map (Enc.cs k0))] []) (m3 a0) PB:=by
  obtain ⟨d,rfl,g⟩:=up hd
  refine q_in (t3 NN d _) ?_
  unfold b3 m3
  exact q_c0 (aF2 cv_r (cv_p rfl) fun l0_ l1_=>w4 (by omega) l0_ a0 1048576) fun y1 hy1=>q_p fr<|q_i (q_ret (cv_p rfl) rfl)<|q_c0 (aF1 cv_r fun l0_=>w6 (by omega) l0_ a0) fun y2 hy2=>q_c0 (aF1 cv_r fun l0_=>w5 (by omega) l0_ y2) fun y3 hy3=>q_new rfl fun b1=>q_st 0 rfl rfl rfl (by decide) rfl<|q_c0 (aF1 cv_r fun l0_=>w6 (by omega) l0_ a0) fun y4 hy4=>q_c0 (aF1 cv_r fun l0_=>w7 (by omega) l0_ y4) fun y5 hy5=>q_new rfl fun b2=>q_st 0 rfl rfl rfl (by decide) rfl<|q_lda 0 rfl rfl rfl<|q_lda 1 rfl rfl rfl<|q_c0t (aF2 (cv_a (cvs_e (l0:=false) (x:=y5))) (cv_a (cvs_e (l0:=false) (x:=y3))) fun l0_ l1_=>w8 (by omega) l0_ y5 l1_ y3)<|q_p fr<|q_i (q_ret (cv_p rfl) rfl)<|q_c0 (aF1 cv_r fun l0_=>w6 (by omega) l0_ a0) fun y6 hy6=>q_c0 (aF2 cv_r cv_r fun l0_ l1_=>w9 (by omega) l0_ y4 l1_ y6) fun y7 hy7=>q_p fr<|q_i (q_ret (cv_p rfl) rfl)<|q_ret (cv_p rfl) rfl
end
end Go.Proofs.YtilijpnaoefapaaDoor
