/- Plain functions, and that the evaluator computes them. -/
import Derived.Test.YtifocmbeahpopaaDoorT
import Derived.Test.YtifocmbeahpopaaDoorRh6
import Derived.Test.YtifocmbeahpopaaDoorRh10
import Derived.Test.YtifocmbeahpopaaDoorRh12
import Derived.Test.YtifocmbeahpopaaDoorRh15
namespace Go.Proofs.YtifocmbeahpopaaDoor
open Go Go.Rf
set_option linter.unusedVariables false
set_option linter.unusedSimpArgs false
noncomputable section
structure TTextsResult where
  Code:Int
  Texts:List Str
  deriving DecidableEq
instance:Enc TTextsResult:=(Enc.of fun x:TTextsResult=>(x.Code,x.Texts)).copy (fun l x=>[.int .i64 x.Code,.rsl l false (x.Texts.map (Enc.cs l))]) (fun _ _=>rfl) 2 1 rfl rfl
instance:Tr TTextsResult:=Tr.of (fun x:TTextsResult=>(x.Code,x.Texts)) (fun _ _=>rfl) rfl rfl
theorem bd24_1 {x1 r:AV} (hr:(afill (plc [(0,1),(1,1)]) [.int .i64 0,.rsl false true []] [(1,x1)]).map AV.agg = some r):abuild Tryd.prog 24 [(1,x1)] = some r:=Eq.trans (by kernel_rfl) hr
theorem qb38 {n:Int} {S:St}:quietS (abuildS Tryd.prog 38 1 [(0,.int .u8 n)] S) S = some (.rsl false true [[.int .u8 n]],S):=by kernel_rfl
theorem qs22_0 {S:St}:quietS (abuildS Tryd.prog 22 0 [] S) S = some (.rsl false true [],S):=by kernel_rfl
theorem qs22_1 {x0:Str} {S:St}:quietS (abuildS Tryd.prog 22 1 [(0,encS x0)] S) S = some (.rsl false true [[encS x0]],S):=by kernel_rfl
theorem cv15_17 (run:FuncId→List AV→St→Option (AV×St)) (cap args:List AV) (S:St):callV (cfg NN) run 15 (.fn 17 cap) args S = call0 run 17 (args++cap) S:=by kernel_rfl
theorem cv19_17 (run:FuncId→List AV→St→Option (AV×St)) (cap args:List AV) (S:St):callV (cfg NN) run 19 (.fn 17 cap) args S = call0 run 17 (args++cap) S:=by kernel_rfl
theorem cvt3_5 (n:Int) (S:St):aconv Tryd.prog 3 5 (.int .i64 n) S = some (.int .u8 (wi .u8 n)):=by kernel_rfl
theorem cvb38_9 (n:Int) (S:St):aconv Tryd.prog 38 9 (.rsl false true [[.int .u8 n]]) S = some (encS [UInt8.ofNat n.toNat]):=by kernel_rfl
theorem fo24_Texts:Fo (α:=TTextsResult) (γ:=List Str) 1 (fun x=>x.Texts) (fun y x=>{ x with Texts:=y }):=fun S i c x h=>((fo_snd fo_self):Fo (α:=Int×(List Str)) (γ:=List Str) 1 _ _) S i c (x.Code,x.Texts) h
theorem mk22 (S:St) (n:Nat) (h:(n + 1) * (16 + 1)≤70368744177664):amake Tryd.prog 22 (.int .i64 n) (.int .i64 n) S = some (.bsl S.length 0 n n true,S++[⟨1,List.replicate n [.str ⟨#[]⟩],true⟩]):=
  amake_ok (e:=9) (sz:=1) (by_:=16) (z:=[.str ⟨#[]⟩]) (z0:=[.str ⟨#[]⟩]) (by kernel_rfl) (by kernel_rfl) (by kernel_rfl) rfl rfl (by omega) rfl rfl h
theorem plt9 {l:Bool} (S:St) (x:Str):Tr.ow S [] (Enc.cs l x) x:=pl_string x
theorem trx24 {S:St} {ids:List Nat} {cs:List AV} {x:TTextsResult} (h:Tr.ow S ids cs x):∃ v0:AV,cs = [.int .i64 x.Code,v0]:=by
  obtain ⟨_,_,_,_,rfl,_,rfl,⟨rfl,rfl⟩,⟨v0,rfl,_⟩⟩:=h
  exact ⟨_,rfl⟩
theorem und22:Tryd.prog.underlying 22 = some (.slice 9):=by kernel_rfl
theorem zer9:zeroA Tryd.prog 9 = some (Enc.cs false ([]:Str)):=by kernel_rfl
def ms14_0 (a0:Str) (a1:Int) (s1:Int×Int×(List Str)):Option (LO (Int×Int×(List Str))):=bif decide (s1.2.1≤(a0.length:Int)) then ( bif s1.2.1 == (a0.length:Int) then (subI a0 s1.1 s1.2.1).bind fun t2=>(appO 16 s1.2.2 [t2]).bind fun z2=>some (LO.norm (wi .i64 (s1.2.1 + 1),z2)) else (getI a0 s1.2.1).bind fun c1=>bif (c1.toNat:Int) == a1 then (subI a0 s1.1 s1.2.1).bind fun t1=>(appO 16 s1.2.2 [t1]).bind fun z1=>some (LO.norm (wi .i64 (s1.2.1 + 1),z1)) else some (LO.norm (s1.1,s1.2.2))).bind (contO (fun s3=>some (LO.norm (s3.1,wi .i64 (s1.2.1 + 1),s3.2))) (fun i1 s3=>some (LO.exit i1 (s3.1,s1.2.1,s3.2))) (fun s3=>some (LO.ret (s3.1,s1.2.1,s3.2)))) else some (LO.exit 0 (s1.1,s1.2.1,s1.2.2))
def m14 (a0:Str) (a1:Int):Option ((List Str)):=(loopO (ms14_0 a0 a1) NN (0,0,[])).bind (contO (fun _=>none) (fun i2 s4=>if i2 = 0 then some s4.2.2 else none) (fun s4=>some []))
theorem w14 {d:Nat} (hd:1≤d) (a0:Str) (a1:Int):Fit (R NN d 14 [encS a0,.int .u8 a1] []) (m14 a0 a1) (P0 (fun (t:List Str)=>AV.rsl false false (t.map (Enc.cs false)))):=by
  obtain ⟨d,rfl,g⟩:=up hd
  refine q_in (t14 NN d _ _) ?_
  unfold b14 m14
  refine q_q (fun _=>qs22_0)<|q_nil (α:=Str) false<|q_loop (I:=(fun (s:Int×Int×(List Str)) l L=>∃ (v1:AV),l = [v1,.int .i64 s.1,.int .i64 s.2.1]∧L = [sl false v1 (s.2.2:List Str)])) 0 ⟨(.rsl false true []),rfl,rfl⟩ ?_ ?_ ?_
  ·rintro s1 _ _ ⟨v1,rfl,rfl⟩
   unfold s14_0 ms14_0
   refine q_slen<|q_p fr<|q_i ?_ ?_
   ·refine q_cut (I:=(fun (s:Int×(List Str)) l L=>∃ (v2:AV),l = [v2,.int .i64 s.1]∧L = [sl false v2 (s.2:List Str)])) ?_ ?_ ?_ ?_
    ·refine q_slen<|q_p fr<|q_j ?_ ?_
     ·first | refine q_ifT1 ?_ | skip
      exact q_ssub (.inl rfl) (.inl rfl) fun t2 ht2=>q_q (fun _=>qs22_1)<|q_app (ys:=[t2]) 0 rfl rfl (fun _ _=>rfl) fun v3 z2 hz2=>q_p fr<|q_norm 0 ⟨v3,rfl,rfl⟩
     ·exact q_sx fun c1 hc1=>q_p fr<|q_i (q_ssub (.inl rfl) (.inl rfl) fun t1 ht1=>q_q (fun _=>qs22_1)<|q_app (ys:=[t1]) 0 rfl rfl (fun _ _=>rfl) fun v2 z1 hz1=>q_p fr<|q_norm 0 ⟨v2,rfl,rfl⟩)<|q_norm 0 ⟨v1,rfl,rfl⟩
    ·rintro s3 _ _ ⟨v4,rfl,rfl⟩
     exact q_p fr<|q_norm 0 ⟨v4,rfl,rfl⟩
    ·rintro i1 s3 _ _ ⟨v5,rfl,rfl⟩
     exact q_exit 0 ⟨v5,rfl,rfl⟩
    ·rintro s3 _ _ ⟨v6,rfl,rfl⟩
     exact q_lret 0 ⟨v6,rfl,rfl⟩
   ·exact q_exit 0 ⟨v1,rfl,rfl⟩
  ·rintro i2 s4 _ _ ⟨v7,rfl,rfl⟩
   exact q_n (q_ret (cv_o 0 rfl) rfl)<|q_none
  ·rintro s4 _ _ ⟨v8,rfl,rfl⟩
   exact q_ret (cv_r (α:=Str) (l0:=false) (fl:=true) (xs:=[])) rfl
def ms9_0 (y1:(List Str)) (s1:Int×(List Str)):Option (LO (Int×(List Str))):=bif decide (s1.1 < (y1.length:Int)) then ( (getI y1 s1.1).bind fun x1=>bif !(x1 == ([]:Str)) then (getI y1 s1.1).bind fun x2=>(appO 16 s1.2 [x2]).bind fun z1=>some (LO.norm z1) else some (LO.norm s1.2)).bind (contO (fun s3=>some (LO.norm (wi .i64 (s1.1 + 1),s3))) (fun i1 s3=>some (LO.exit i1 (s1.1,s3))) (fun s3=>some (LO.ret (s1.1,s3)))) else some (LO.exit 0 (s1.1,s1.2))
def m9 (a0:Str):Option ((List Str)):=(m14 a0 32).bind fun y1=>(loopO (ms9_0 y1) NN (0,[])).bind (contO (fun _=>none) (fun i2 s4=>if i2 = 0 then some s4.2 else none) (fun s4=>some []))
theorem w9 {d:Nat} (hd:2≤d) (a0:Str):Fit (R NN d 9 [encS a0] []) (m9 a0) (P0 (fun (t:List Str)=>AV.rsl false false (t.map (Enc.cs false)))):=by
  obtain ⟨d,rfl,g⟩:=up hd
  refine q_in (t9 NN d _) ?_
  unfold b9 m9
  refine q_q (fun _=>qs22_0)<|q_c0 (aF2 (cv_p rfl) (cv_p rfl) fun l0_ l1_=>w14 (by omega) a0 32) fun y1 hy1=>q_nil (α:=Str) false<|q_loop (I:=(fun (s:Int×(List Str)) l L=>∃ (v1:AV),l = [v1,.int .i64 s.1]∧L = [sl false v1 (s.2:List Str)])) 0 ⟨(.rsl false true []),rfl,rfl⟩ ?_ ?_ ?_
  ·rintro s1 _ _ ⟨v1,rfl,rfl⟩
   unfold s9_0 ms9_0
   refine q_len<|q_p fr<|q_i ?_ ?_
   ·refine q_cut (I:=(fun (s:(List Str)) l L=>∃ (v2:AV),l = [v2]∧L = [sl false v2 (s:List Str)])) ?_ ?_ ?_ ?_
    ·exact q_ix rfl fun x1 hx1=>q_p fr<|q_p (fun _=>seq_neq)<|q_i (q_ix rfl fun x2 hx2=>q_p fr<|q_q (fun _=>qs22_1)<|q_app (ys:=[x2]) 0 rfl rfl (fun _ _=>rfl) fun v2 z1 hz1=>q_norm 0 ⟨v2,rfl,rfl⟩)<|q_norm 0 ⟨v1,rfl,rfl⟩
    ·rintro s3 _ _ ⟨v3,rfl,rfl⟩
     exact q_p fr<|q_norm 0 ⟨v3,rfl,rfl⟩
    ·rintro i1 s3 _ _ ⟨v4,rfl,rfl⟩
     exact q_exit 0 ⟨v4,rfl,rfl⟩
    ·rintro s3 _ _ ⟨v5,rfl,rfl⟩
     exact q_lret 0 ⟨v5,rfl,rfl⟩
   ·exact q_exit 0 ⟨v1,rfl,rfl⟩
  ·rintro i2 s4 _ _ ⟨v6,rfl,rfl⟩
   exact q_n (q_ret (cv_o 0 rfl) rfl)<|q_none
  ·rintro s4 _ _ ⟨v7,rfl,rfl⟩
   exact q_ret (cv_r (α:=Str) (l0:=false) (fl:=true) (xs:=[])) rfl
def m4 (a0:Str):Option (TTextsResult):=(m9 a0).bind fun y1=>some (⟨0,y1⟩:TTextsResult)
theorem w4 {d:Nat} (hd:3≤d) (a0:Str):Fit (R NN d 4 [encS a0] []) (m4 a0) (P0 (fun (t:TTextsResult)=>AV.agg (Enc.cs false t))):=by
  obtain ⟨d,rfl,g⟩:=up hd
  refine q_in (t4 NN d _) ?_
  unfold b4 m4
  exact q_new rfl fun b1=>q_c0 (aF1 (cv_p rfl) fun l0_=>w9 (by omega) a0) fun y1 hy1=>q_p (fun _=>bd24_1 rfl)<|q_st 0 rfl rfl rfl (by decide) rfl<|q_retm (fun S hS=>hS.lda 0 rfl rfl) (cv_a (cvs_cons (cv_p rfl) (cvs_cons cv_r cvs_nil))) rfl
def m17 (a0:Str):Bool:=a0 == ([]:Str)
theorem w17 {d:Nat} (hd:1≤d) (a0:Str):Fit (R NN d 17 [encS a0] []) (some (m17 a0)) PB:=by
  obtain ⟨d,rfl,g⟩:=up hd
  refine q_in (t17 NN d _) ?_
  unfold b17 m17
  exact q_p (fun _=>seq_eql)<|q_ret (cv_p rfl) rfl
def ms19_0 (a0:List Str) (a1:Str→Option (Bool)) (s1:Int×Int):Option (LO (Int×Int)):=bif decide (s1.2 < (a0.length:Int)) then (getI a0 s1.2).bind fun x1=>(a1 x1).bind fun y1=>bif y1 then some (LO.ret (s1.2,s1.2)) else some (LO.norm (s1.1,wi .i64 (s1.2 + 1))) else some (LO.exit 0 (s1.1,s1.2))
def m19 (a0:List Str) (a1:Str→Option (Bool)):Option (Int):=(loopO (ms19_0 a0 a1) NN (0,0)).bind (contO (fun _=>none) (fun i1 s2=>if i1 = 0 then some (-1) else none) (fun s2=>some s2.1))
theorem w19 {Dc:Nat} {d:Nat} (hd:Dc + 1≤d) (k0:Bool) (a0:List Str) (c1:Bool→AV) (hc1:∀ l,CV 8 [] false (c1 l) c1) (a1:Str→Option (Bool)) (tc1:∀ (d:Nat),Dc≤d→∀ (l:Bool) (x0:Str) (S:St) (t:Bool),a1 x0 = some t→callV (cfg NN) (R NN d) 19 (c1 l) [encS x0] S = some ((fun (t:Bool)=>AV.bool t) t,S)) (k1:Bool):Fit (R NN d 19 [.rsl k0 false (a0.map (Enc.cs k0)),c1 k1] []) (m19 a0 a1) PI:=by
  obtain ⟨d,rfl,g⟩:=up hd
  refine q_in (t19 NN d _ _) ?_
  unfold b19 m19
  refine q_len<|q_lp (A:=fun (s:Int×Int)=>[.int .i64 s.1,.int .i64 s.2]) (B:=fun s=>[]) 0 rr ?_ ?_ ?_
  ·intro s1
   unfold s19_0 ms19_0
   exact q_p fr<|q_i (q_ix rfl fun x1 hx1=>q_p fr<|q_cv (mg:=a1 x1) (E:=(fun (t:Bool)=>AV.bool t)) (fun S t ht=>tc1 d (by omega) k1 x1 S t ht) fun y1 hy1=>q_i (q_lret 0 rr)<|q_p fr<|q_norm 0 rr)<|q_exit 0 rr
  ·exact fun i1 s2=>q_n (q_ret (cv_p rfl) rfl)<|q_none
  ·exact fun s2=>q_ret (cv_p rfl) rfl
def ms15_0 (s1:Int×Int×(List Str)):Option (LO (Int×Int×(List Str))):=bif decide (s1.2.1 < (s1.2.2.length:Int)) then ( (getI s1.2.2 s1.2.1).bind fun x1=>bif !(m17 x1) then (getI s1.2.2 s1.1).bind fun x2=>letO (s1.2.2.set (Int.toNat s1.1) x1) fun z1=>some (LO.norm (wi .i64 (s1.1 + 1),z1)) else some (LO.norm (s1.1,s1.2.2))).bind (contO (fun s3=>some (LO.norm (s3.1,wi .i64 (s1.2.1 + 1),s3.2))) (fun i1 s3=>some (LO.exit i1 (s3.1,s1.2.1,s3.2))) (fun s3=>some (LO.ret (s3.1,s1.2.1,s3.2)))) else some (LO.exit 0 (s1.1,s1.2.1,s1.2.2))
def m15 (a0:List Str):Option ((List Str)):=(m19 a0 (fun x0_=>some (m17 x0_))).bind fun y1=>bif y1 == (-1) then some a0 else (loopO (ms15_0) NN (y1,wi .i64 (y1 + 1),a0)).bind (contO (fun _=>none) (fun i2 s4=>if i2 = 0 then (viO (List.length s4.2.2) s4.1 (s4.2.2.length:Int)).bind fun _=>some (s4.2.2.take (Int.toNat s4.1)) else none) (fun s4=>none))
theorem w15 {d:Nat} (hd:3≤d) (L0:List En) (i0_:List Nat) (v0_:AV) (a0:List Str) (hq0:Qs v0_):Okh (tr i0_ [v0_] (a0:List Str)::L0) (fun S=>R NN d 15 [v0_,.fn 17 []] S) (m15 a0) (P5 (fun (x:List Nat×AV) (t:List Str)=>x.2) (fun (x:List Nat×AV) (t:List Str)=>tr x.1 [x.2] t::L0)):=by
  obtain ⟨d,rfl,g⟩:=up hd
  refine q_to (t15 NN d _ _) ?_
  unfold b15 m15
  refine q_c0 (aF2 (cv_tr 0 rfl) (cv_f cvs_nil) fun l0_ l1_=>w19 (Dc:=1) (by omega) l0_ a0 (fun l=>.fn 17 []) (fun l=>cv_f cvs_nil) (fun x0_=>some (m17 x0_)) (fun d hd l x0_ S t ht=>(cv19_17 _ _ _ _).trans (call0_of (E:=(fun (t:Bool)=>AV.bool t)) (mg:=some (m17 x0_)) (args1 (M:=fun a=>Fit (R NN d 17 a []) _ _) (cv_p rfl) HP.nil fun u0_=>w17 hd x0_) ht)) l1_) fun y1 hy1=>q_p fr<|q_i ?_ ?_
  ·exact q_ret5 (i0_,v0_) 0 rfl rfl
  ·refine q_p fr<|q_lp (A:=fun (s:Int×Int×(List Str))=>[.int .i64 s.1,.int .i64 s.2.1]) (B:=fun s=>tr i0_ [v0_] (s.2.2:List Str)::L0) 0 rr ?_ ?_ ?_
   ·intro s1
    unfold s15_0 ms15_0
    refine q_lent 0 rfl<|q_p fr<|q_i ?_ ?_
    ·refine q_cu (A:=fun (s:Int×(List Str))=>[.int .i64 s.1]) (B:=fun s=>tr i0_ [v0_] (s.2:List Str)::L0) ?_ ?_ ?_ ?_
     ·exact q_ixt 0 rfl rfl fun x1 hx1=>q_ldt0 0 rfl rfl hx1 rd_str<|q_v0t (y:=m17 x1) (E:=(fun (t:Bool)=>AV.bool t)) (fun S=>cv15_17 _ _ _ _) (aF1 (cv_p rfl) fun l0_=>w17 (by omega) x1)<|q_p fr<|q_i (q_ixt 0 rfl rfl fun x2 hx2=>q_stl0 0 rfl rfl hx2 rfl (up_str (s:=x1)) fun z1 hz1=>q_p fr<|q_norm 0 rr)<|q_norm 0 rr
     ·exact fun s3=>q_p fr<|q_norm 0 rr
     ·exact fun i1 s3=>q_exit 0 rr
     ·exact fun s3=>q_lret 0 rr
    ·exact q_exit 0 rr
   ·exact fun i2 s4=>q_n (q_del hq0 und22 zer9 rfl fun _ _ i3 v1=>q_ret5 (i3,v1) 0 rfl rfl)<|q_none
   ·exact fun s4=>q_none
def m22 (a0 a1:Str):Option Int:=match a1 with
  | [c]=>some (Lib.countByte a0 c:Int)
  | _=>none
theorem w22 {d:Nat} (hd:1≤d) (a0 a1:Str):Fit (R NN d 22 [encS a0,encS a1] []) (m22 a0 a1) PI:=by
  obtain ⟨d,rfl,g⟩:=up hd
  rw [t22]
  intro t ht
  unfold m22 at ht
  split at ht
  · injection ht with ht
    subst ht
    exact ⟨_,rfl,rfl⟩
  · cases ht
def m23 (a0 a1:Str):Option Int:=match a1 with
  | [c]=>some (Lib.indexByte a0 c:Int)
  | _=>none
theorem w23 {d:Nat} (hd:1≤d) (a0 a1:Str):Fit (R NN d 23 [encS a0,encS a1] []) (m23 a0 a1) PI:=by
  obtain ⟨d,rfl,g⟩:=up hd
  rw [t23]
  intro t ht
  unfold m23 at ht
  split at ht
  · injection ht with ht
    subst ht
    exact ⟨_,rfl,rfl⟩
  · cases ht
def ms20_0 (a0:Str) (a1:Str) (a2:Int) (s2:Int) (s3:Str×Int×(List Str)):Option (LO (Str×Int×(List Str))):=bif decide (s3.2.1 < (wi .i64 ((minI s2 (wi .i64 ((a0.length:Int) + 1))) - 1))) then (m23 s3.1 a1).bind fun y2=>bif decide (y2 < 0) then some (LO.exit 0 (s3.1,s3.2.1,s3.2.2)) else (subI s3.1 0 (wi .i64 (y2 + a2))).bind fun t1=>(getI s3.2.2 s3.2.1).bind fun x1=>(subI s3.1 (wi .i64 (y2 + (a1.length:Int))) (s3.1.length:Int)).bind fun t2=>some (LO.norm (t2,wi .i64 (s3.2.1 + 1),s3.2.2.set (Int.toNat s3.2.1) t1)) else some (LO.exit 0 (s3.1,s3.2.1,s3.2.2))
def m20 (a0:Str) (a1:Str) (a2:Int) (a3:Int):Option ((List Str)):=bif a3 == 0 then some [] else bif a1 == ([]:Str) then none else ( bif decide (a3 < 0) then (m22 a0 a1).bind fun y1=>some (LO.norm (wi .i64 (y1 + 1))) else some (LO.norm a3)).bind (contO (fun s2=>(mkO 16 (minI s2 (wi .i64 ((a0.length:Int) + 1))) []).bind fun z1=>(loopO (ms20_0 a0 a1 a2 s2) NN (a0,0,z1)).bind (contO (fun _=>none) (fun i2 s4=>if i2 = 0 then (getI s4.2.2 s4.2.1).bind fun x2=>(subI (s4.2.2.set (Int.toNat s4.2.1) s4.1) 0 (wi .i64 (s4.2.1 + 1))).bind fun ys1=>some ys1 else none) (fun s4=>some []))) (fun i1 s2=>none) (fun s2=>some []))
theorem w20 {d:Nat} (hd:2≤d) (a0:Str) (a1:Str) (a2:Int) (a3:Int):Fit (R NN d 20 [encS a0,encS a1,.int .i64 a2,.int .i64 a3] []) (m20 a0 a1 a2 a3) P1s:=by
  obtain ⟨d,rfl,g⟩:=up hd
  refine q_in (t20 NN d _ _ _ _) ?_
  unfold b20 m20
  refine q_p fr<|q_i ?_ ?_
  ·exact q_outn
  ·refine q_p (fun _=>seq_eql)<|q_i ?_ ?_
   ·exact q_none
   ·refine q_cu (A:=fun (s:Int)=>[.int .i64 s]) (B:=fun s=>[]) ?_ ?_ ?_ ?_
    ·exact q_p fr<|q_i (q_c0 (aF2 (cv_p rfl) (cv_p rfl) fun l0_ l1_=>w22 (by omega) a0 a1) fun y1 hy1=>q_p fr<|q_norm 0 rr)<|q_norm 0 rr
    ·intro s2
     refine q_slen<|q_p fr<|q_p (fun _=>amin_)<|q_mk (z:=[]) mk22 fun v1 z1 hz1=>q_p fr<|q_lp (A:=fun (s:Str×Int×(List Str))=>[encS s.1,.int .i64 s.2.1]) (B:=fun s=>[sl false v1 (s.2.2:List Str)]) 0 rr ?_ ?_ ?_
     ·intro s3
      unfold s20_0 ms20_0
      exact q_p fr<|q_i (q_c0 (aF2 (cv_p rfl) (cv_p rfl) fun l0_ l1_=>w23 (by omega) s3.1 a1) fun y2 hy2=>q_p fr<|q_i (q_exit 0 rr)<|q_p fr<|q_ssub (.inr ⟨rfl,rfl⟩) (.inl rfl) fun t1 ht1=>q_ixo 0 rfl rfl fun x1 hx1=>q_stoe (y:=t1) 0 rfl rfl hx1 rfl (by decide)<|q_slen<|q_p fr<|q_ssub (.inl rfl) (.inr ⟨rfl,rfl⟩) fun t2 ht2=>q_p fr<|q_norm 0 rr)<|q_exit 0 rr
     ·exact fun i2 s4=>q_n (q_ixo 0 rfl rfl fun x2 hx2=>q_stoe (y:=s4.1) 0 rfl rfl hx2 rfl (by decide)<|q_p fr<|q_cutv rfl (.inr ⟨rfl,rfl⟩) (.inl rfl) fun ys1 hys1=>q_outs 0 rfl plt9)<|q_none
     ·exact fun s4=>q_outn
    ·exact fun i1 s2=>q_none
    ·exact fun s2=>q_outn
def m16 (a0:Str) (a1:Str):Option ((List Str)):=(m20 a0 a1 0 (-1)).bind fun y1=>some y1
theorem w16 {d:Nat} (hd:3≤d) (a0:Str) (a1:Str):Fit (R NN d 16 [encS a0,encS a1] []) (m16 a0 a1) P1s:=by
  obtain ⟨d,rfl,g⟩:=up hd
  refine q_in (t16 NN d _ _) ?_
  unfold b16 m16
  exact q_c1q_ (mg:=m20 a0 a1 0 (-1)) (fun S hS=>argF4 (cv_p rfl) (cv_p rfl) (cv_p rfl) (cv_p rfl) hS fun l0_ l1_ l2_ l3_=>w20 (by omega) a0 a1 0 (-1)) fun y1 hy1 i1 v1 hq_v1=>q_outt 0 rfl hq_v1
def m10 (a0:Str):Option ((List Str)):=(m16 a0 ([32]:Str)).bind fun y1=>(m15 y1).bind fun y2=>some y2
theorem w10 {d:Nat} (hd:5≤d) (a0:Str):Fit (R NN d 10 [encS a0] []) (m10 a0) (P1 (T:=List Str) one1):=by
  obtain ⟨d,rfl,g⟩:=up hd
  refine q_in (t10 NN d _) ?_
  unfold b10 m10
  exact q_c1q_ (mg:=m16 a0 ([32]:Str)) (aF2 (cv_p rfl) (cv_p rfl) fun l0_ l1_=>w16 (by omega) a0 ([32]:Str)) fun y1 hy1 i1 v1 hq_v1=>q_s5 (mg:=m15 y1) (fun S=>rfl) (w15 (by omega) _ i1 v1 y1 hq_v1) fun y2 hy2 ⟨i2,v2⟩=>q_out (tb_tr 0 rfl) rfl
def m5 (a0:Str):Option (TTextsResult):=(m10 a0).bind fun y1=>some (⟨0,y1⟩:TTextsResult)
theorem w5 {d:Nat} (hd:6≤d) (a0:Str):Fit (R NN d 5 [encS a0] []) (m5 a0) (P1 (T:=TTextsResult) AV.agg):=by
  obtain ⟨d,rfl,g⟩:=up hd
  refine q_in (t5 NN d _) ?_
  unfold b5 m5
  refine q_new rfl fun b1=>q_c1s (mg:=m10 a0) (aF1 (cv_p rfl) fun l0_=>w10 (by omega) a0) fun y1 hy1 i1 v1=>q_ph (fun S hS=>bd24_1 (by simp only [afill,plc,gd,List.getD_cons_zero,List.getD_cons_succ,List.getElem?_cons_zero,List.getElem?_cons_succ,hS.cell1t 0 rfl]; rfl)) ?_
  exact q_st 1 rfl rfl rfl (by decide) rfl<|q_outm (fun S hS=>hS.lda 1 rfl rfl) (tb_of (α:=TTextsResult) (β:=Int×(List Str)) (f:=fun x=>(x.Code,x.Texts)) (x:=(⟨0,y1⟩:TTextsResult)) rfl (tb_pair (tb_int (n:=0)) (tb_tr 0 rfl))) rfl
def ms11_0 (a0:List Str) (a1:List Str) (s1:Bool×Int):Option (LO (Bool×Int)):=bif decide (s1.2 < (a0.length:Int)) then (getI a0 s1.2).bind fun x1=>(getI a1 s1.2).bind fun x2=>bif !(x1 == x2) then some (LO.ret (false,s1.2)) else some (LO.norm (s1.1,wi .i64 (s1.2 + 1))) else some (LO.exit 0 (s1.1,s1.2))
def m11 (a0:List Str) (a1:List Str):Option (Bool):=bif (a0.length:Int) != (a1.length:Int) then some false else (loopO (ms11_0 a0 a1) NN (false,0)).bind (contO (fun _=>none) (fun i1 s2=>if i1 = 0 then some true else none) (fun s2=>some s2.1))
theorem w11 {d:Nat} (hd:1≤d) (k0:Bool) (a0:List Str) (k1:Bool) (a1:List Str):Fit (R NN d 11 [.rsl k0 false (a0.map (Enc.cs k0)),.rsl k1 false (a1.map (Enc.cs k1))] []) (m11 a0 a1) PB:=by
  obtain ⟨d,rfl,g⟩:=up hd
  refine q_in (t11 NN d _ _) ?_
  unfold b11 m11
  refine q_len<|q_len<|q_p fr<|q_i ?_ ?_
  ·exact q_ret (cv_p rfl) rfl
  ·refine q_lp (A:=fun (s:Bool×Int)=>[.bool s.1,.int .i64 s.2]) (B:=fun s=>[]) 0 rr ?_ ?_ ?_
   ·intro s1
    unfold s11_0 ms11_0
    exact q_len<|q_p fr<|q_i (q_ix rfl fun x1 hx1=>q_p fr<|q_ix rfl fun x2 hx2=>q_p fr<|q_p (fun _=>seq_neq2)<|q_i (q_lret 0 rr)<|q_p fr<|q_norm 0 rr)<|q_exit 0 rr
   ·exact fun i1 s2=>q_n (q_ret (cv_p rfl) rfl)<|q_none
   ·exact fun s2=>q_ret (cv_p rfl) rfl
def m6 (a0:TTextsResult) (a1:TTextsResult):Option (Bool):=bif a0.Code != a1.Code then some false else (m11 a0.Texts a1.Texts).bind fun y1=>bif !y1 then some false else some true
theorem w6 {d:Nat} (hd:2≤d) (k0:Bool) (a0:TTextsResult) (k1:Bool) (a1:TTextsResult):Fit (R NN d 6 [.agg (Enc.cs k0 a0),.agg (Enc.cs k1 a1)] []) (m6 a0 a1) PB:=by
  obtain ⟨d,rfl,g⟩:=up hd
  refine q_in (t6 NN d _ _) ?_
  unfold b6 m6
  exact q_box (n:=2) rfl rfl (by decide) fun b1=>q_box (n:=2) rfl rfl (by decide) fun b2=>q_p fr<|q_ld 1 rfl rfl<|q_p fr<|q_ld 0 rfl rfl<|q_p fr<|q_i (q_ret (cv_p rfl) rfl)<|q_p fr<|q_ld 1 rfl rfl<|q_p fr<|q_ld 0 rfl rfl<|q_c0 (aF2 cv_r cv_r fun l0_ l1_=>w11 (by omega) l0_ a0.Texts l1_ a1.Texts) fun y1 hy1=>q_p fr<|q_i (q_ret (cv_p rfl) rfl)<|q_ret (cv_p rfl) rfl
def ms18_0 (s1:Int×Str):Option (LO (Int×Str)):=bif decide (s1.1 > 0) then (catO ([UInt8.ofNat (Int.toNat (wi .u8 (wi .i64 (48 + (Int.tmod s1.1 10)))))]:Str) s1.2).bind fun t1=>some (LO.norm (wi .i64 (Int.tdiv s1.1 10),t1)) else some (LO.exit 0 (s1.1,s1.2))
def m18 (a0:Int):Option (Str):=bif decide (a0≤0) then some ([109,48]:Str) else (loopO (ms18_0) NN (a0,([]:Str))).bind (contO (fun _=>none) (fun i1 s2=>if i1 = 0 then (catO ([109]:Str) s2.2).bind fun t2=>some t2 else none) (fun s2=>some ([]:Str)))
theorem w18 {d:Nat} (hd:1≤d) (a0:Int):Fit (R NN d 18 [.int .i64 a0] []) (m18 a0) (P0 encS):=by
  obtain ⟨d,rfl,g⟩:=up hd
  refine q_in (t18 NN d _) ?_
  unfold b18 m18
  refine q_p fr<|q_i ?_ ?_
  ·exact q_ret (cv_p rfl) rfl
  ·refine q_lp (A:=fun (s:Int×Str)=>[.int .i64 s.1,encS s.2]) (B:=fun s=>[]) 0 rr ?_ ?_ ?_
   ·intro s1
    unfold s18_0 ms18_0
    exact q_p fr<|q_i (q_p fr<|q_p fr<|q_p (fun _=>cvt3_5 _ _)<|q_q (fun _=>qb38)<|q_p (fun _=>cvb38_9 _ _)<|q_cat2 fun t1 ht1=>q_p fr<|q_norm 0 rr)<|q_exit 0 rr
   ·exact fun i1 s2=>q_n (q_cat fun t2 ht2=>q_ret (cv_p rfl) rfl)<|q_none
   ·exact fun s2=>q_ret (cv_p rfl) rfl
def ms12_0 (s1:Int×Int×(List Str)):Option (LO (Int×Int×(List Str))):=bif decide (s1.2.1 < (s1.2.2.length:Int)) then (m18 s1.1).bind fun y1=>(getI s1.2.2 s1.2.1).bind fun x1=>letO (s1.2.2.set (Int.toNat s1.2.1) y1) fun z1=>some (LO.norm (wi .i64 (s1.1 + 1),wi .i64 (s1.2.1 + 1),z1)) else some (LO.exit 0 (s1.1,s1.2.1,s1.2.2))
def m12 (a0:List Str) (a1:Int):Option (Int×(List Str)):=(loopO (ms12_0) NN (a1,0,a0)).bind (contO (fun _=>none) (fun i1 s2=>if i1 = 0 then some (s2.1,s2.2.2) else none) (fun s2=>some (0,s2.2.2)))
theorem w12 {d:Nat} (hd:2≤d) (L0:List En) (i0_:List Nat) (c0_0:AV) (a0:List Str) (a1:Int):Okh (tr i0_ [c0_0] (a0:List Str)::L0) (fun S=>R NN d 12 [c0_0,.int .i64 a1] S) (m12 a0 a1) (P2 (fun (t:Int×(List Str))=>AV.int .i64 t.1) (fun (t:Int×(List Str))=>tr i0_ [c0_0] t.2::L0)):=by
  obtain ⟨d,rfl,g⟩:=up hd
  refine q_to (t12 NN d _ _) ?_
  unfold b12 m12
  refine q_lp (A:=fun (s:Int×Int×(List Str))=>[.int .i64 s.1,.int .i64 s.2.1]) (B:=fun s=>tr i0_ [c0_0] (s.2.2:List Str)::L0) 0 rr ?_ ?_ ?_
  ·intro s1
   unfold s12_0 ms12_0
   exact q_lent 0 rfl<|q_p fr<|q_i (q_c0 (aF1 (cv_p rfl) fun l0_=>w18 (by omega) s1.1) fun y1 hy1=>q_ixt 0 rfl rfl fun x1 hx1=>q_stl0 0 rfl rfl hx1 rfl (up_str (s:=y1)) fun z1 hz1=>q_p fr<|q_p fr<|q_norm 0 rr)<|q_exit 0 rr
  ·exact fun i1 s2=>q_n (q_ret2 0 rfl rfl)<|q_none
  ·exact fun s2=>q_ret2 0 rfl rfl
def m7 (a0:TTextsResult) (a1:Int):Option (Int×TTextsResult):=(m12 a0.Texts a1).bind fun y1=>letO ({ a0 with Texts:=y1.2 }) fun z1=>some (y1.1,z1)
theorem w7 {d:Nat} (hd:3≤d) (L0:List En) (i0_:List Nat) (c0_0 c0_1:AV) (a0:TTextsResult) (a1:Int):Okh (tr i0_ [c0_0,c0_1] (a0:TTextsResult)::L0) (fun S=>R NN d 7 [.agg [c0_0,c0_1],.int .i64 a1] S) (m7 a0 a1) (P2 (fun (t:Int×TTextsResult)=>AV.int .i64 t.1) (fun (t:Int×TTextsResult)=>tr i0_ [c0_0,c0_1] t.2::L0)):=by
  obtain ⟨d,rfl,g⟩:=up hd
  refine q_to (t7 NN d _ _) ?_
  unfold b7 m7
  exact q_box (n:=2) rfl rfl (by decide) fun b1=>q_p fr<|q_ld 0 rfl rfl<|q_sel 2 [1,0] (by decide) (by decide)<|q_prt fo24_Texts rfl fun ic1=>q_s (mg:=m12 a0.Texts a1) (w12 (by omega) _ ic1 c0_1 a0.Texts a1) fun y1 hy1=>q_putl fun z1 hz1=>q_sel 2 [1,0] (by decide) (by decide)<|q_ret2 1 rfl rfl
def ms13_0 (a0:List Str) (s1:Int×Int×Int):Option (LO (Int×Int×Int)):=bif decide (s1.2.2 < (a0.length:Int)) then (getI a0 s1.2.2).bind fun x1=>(m18 s1.1).bind fun y1=>bif !(x1 == y1) then some (LO.ret (s1.1,(-1),s1.2.2)) else some (LO.norm (wi .i64 (s1.1 + 1),s1.2.1,wi .i64 (s1.2.2 + 1))) else some (LO.exit 0 (s1.1,s1.2.1,s1.2.2))
def m13 (a0:List Str) (a1:Int):Option (Int):=(loopO (ms13_0 a0) NN (a1,0,0)).bind (contO (fun _=>none) (fun i1 s2=>if i1 = 0 then some s2.1 else none) (fun s2=>some s2.2.1))
theorem w13 {d:Nat} (hd:2≤d) (k0:Bool) (a0:List Str) (a1:Int):Fit (R NN d 13 [.rsl k0 false (a0.map (Enc.cs k0)),.int .i64 a1] []) (m13 a0 a1) PI:=by
  obtain ⟨d,rfl,g⟩:=up hd
  refine q_in (t13 NN d _ _) ?_
  unfold b13 m13
  refine q_lp (A:=fun (s:Int×Int×Int)=>[.int .i64 s.1,.int .i64 s.2.1,.int .i64 s.2.2]) (B:=fun s=>[]) 0 rr ?_ ?_ ?_
  ·intro s1
   unfold s13_0 ms13_0
   exact q_len<|q_p fr<|q_i (q_ix rfl fun x1 hx1=>q_p fr<|q_c0 (aF1 (cv_p rfl) fun l0_=>w18 (by omega) s1.1) fun y1 hy1=>q_p (fun _=>seq_neq2)<|q_i (q_lret 0 rr)<|q_p fr<|q_p fr<|q_norm 0 rr)<|q_exit 0 rr
  ·exact fun i1 s2=>q_n (q_ret (cv_p rfl) rfl)<|q_none
  ·exact fun s2=>q_ret (cv_p rfl) rfl
def m8 (a0:TTextsResult) (a1:Int):Option (Int):=(m13 a0.Texts a1).bind fun y1=>bif decide (y1 < 0) then some (-1) else some y1
theorem w8 {d:Nat} (hd:3≤d) (k0:Bool) (a0:TTextsResult) (a1:Int):Fit (R NN d 8 [.agg (Enc.cs k0 a0),.int .i64 a1] []) (m8 a0 a1) PI:=by
  obtain ⟨d,rfl,g⟩:=up hd
  refine q_in (t8 NN d _ _) ?_
  unfold b8 m8
  exact q_box (n:=2) rfl rfl (by decide) fun b1=>q_p fr<|q_ld 0 rfl rfl<|q_c0 (aF2 cv_r (cv_p rfl) fun l0_ l1_=>w13 (by omega) l0_ a0.Texts a1) fun y1 hy1=>q_p fr<|q_i (q_ret (cv_p rfl) rfl)<|q_ret (cv_p rfl) rfl
def m3 (a0:Str):Option (Bool):=bif decide ((a0.length:Int) > 1048576) then some true else (m4 a0).bind fun y1=>(m5 a0).bind fun y2=>(m6 y2 y1).bind fun y3=>bif !y3 then some false else (m7 y2 1).bind fun y4=>(m8 y4.2 1).bind fun y5=>bif decide (y5 < 0) then some false else bif y5 != y4.1 then some false else (m5 a0).bind fun y6=>(m6 y6 y1).bind fun y7=>bif !y7 then some false else (m8 y4.2 1).bind fun y8=>bif decide (y8 < 0) then some false else bif y8 != y4.1 then some false else some true
theorem w3 {d:Nat} (hd:7≤d) (a0:Str):Fit (R NN d 3 [encS a0] []) (m3 a0) PB:=by
  obtain ⟨d,rfl,g⟩:=up hd
  refine q_in (t3 NN d _) ?_
  unfold b3 m3
  refine q_slen<|q_p fr<|q_i ?_ ?_
  ·exact q_ret (cv_p rfl) rfl
  ·refine q_c0 (aF1 (cv_p rfl) fun l0_=>w4 (by omega) a0) fun y1 hy1=>q_new rfl fun b1=>q_st 0 rfl rfl rfl (by decide) rfl<|q_c1 (W:=AV.agg) (mg:=m5 a0) sh_agg (aF1 (cv_p rfl) fun l0_=>w5 (by omega) a0) fun y2 hy2 i1 cs1=>q_cx (fun S hS=>trx24 (hS.get (k:=0) rfl)) fun hcs_=>?_
   obtain ⟨v1,rfl⟩:=hcs_
   refine q_new rfl fun b2=>q_st 0 rfl rfl rfl (by decide) rfl<|q_lda 0 rfl rfl rfl<|q_lda 2 rfl rfl rfl<|q_c0 (aF2 (cv_a (cvs_tr 1 rfl)) (cv_a (cvs_e (l0:=false) (x:=y1))) fun l0_ l1_=>w6 (by omega) l0_ y2 l1_ y1) fun y3 hy3=>q_p fr<|q_i ?_ ?_
   ·exact q_ret (cv_p rfl) rfl
   ·refine q_lda 0 rfl rfl rfl<|q_sel 3 [1,0,2] (by decide) (by decide)<|q_s (mg:=m7 y2 1) (w7 (by omega) _ i1 (.int .i64 y2.Code) v1 y2 1) fun y4 hy4=>q_lda 1 rfl rfl rfl<|q_c0 (aF2 (cv_a (cvs_tr 0 rfl)) (cv_p rfl) fun l0_ l1_=>w8 (by omega) l0_ y4.2 1) fun y5 hy5=>q_p fr<|q_i ?_ ?_
    ·exact q_ret (cv_p rfl) rfl
    ·refine q_p fr<|q_i ?_ ?_
     ·exact q_ret (cv_p rfl) rfl
     ·refine q_c1 (W:=AV.agg) (mg:=m5 a0) sh_agg (aF1 (cv_p rfl) fun l0_=>w5 (by omega) a0) fun y6 hy6 i2 cs2=>q_cx (fun S hS=>trx24 (hS.get (k:=0) rfl)) fun hcs_=>?_
      obtain ⟨v2,rfl⟩:=hcs_
      exact q_new rfl fun b3=>q_st 0 rfl rfl rfl (by decide) rfl<|q_lda 0 rfl rfl rfl<|q_lda 4 rfl rfl rfl<|q_c0 (aF2 (cv_a (cvs_tr 1 rfl)) (cv_a (cvs_e (l0:=false) (x:=y1))) fun l0_ l1_=>w6 (by omega) l0_ y6 l1_ y1) fun y7 hy7=>q_p fr<|q_i (q_ret (cv_p rfl) rfl)<|q_lda 3 rfl rfl rfl<|q_c0 (aF2 (cv_a (cvs_tr 2 rfl)) (cv_p rfl) fun l0_ l1_=>w8 (by omega) l0_ y4.2 1) fun y8 hy8=>q_p fr<|q_i (q_ret (cv_p rfl) rfl)<|q_p fr<|q_i (q_ret (cv_p rfl) rfl)<|q_ret (cv_p rfl) rfl
end
end Go.Proofs.YtifocmbeahpopaaDoor
