/- Plain functions, and that the evaluator computes them. -/
import Derived.Test.YtlgfhcillmbcgaaGreatDoorW2
namespace Go.Proofs.YtlgfhcillmbcgaaGreatDoor
open Go Go.Rf
set_option linter.unusedVariables false
set_option linter.unusedSimpArgs false
noncomputable section
def m153 (a0:TCluster) (a1:TMsg):Option (Int×TCluster):=(m206 a0.Ledger a1).bind fun y1=>bif y1.2 == 0 then some (y1.2,(⟨a0.F,a0.Bad,a0.Replicas,y1.1,a0.Requests⟩:TCluster)) else some (y1.2,a0)
theorem w153 {d:Nat} (hd:7≤d) (L0:List En) (b0_:Nat) (i0_1 i0_2 i0_3 i0_4:List Nat) (v0_1 v0_2 v0_3 v0_4:AV) (a0:TCluster) (c1_0 c1_1 c1_2 c1_3 c1_4 c1_5 c1_6:AV) (a1:TMsg) (hc1:CVs 7 [] false [c1_0,c1_1,c1_2,c1_3,c1_4,c1_5,c1_6] (fun l=>Enc.cs l a1)):Okh (bx b0_ [.int .i64 a0.F,v0_1,v0_2,v0_3,v0_4]::tr i0_1 [v0_1] (a0.Bad:List Int)::tr i0_2 [v0_2] (a0.Replicas:List TReplica)::wls i0_3 v0_3 (a0.Ledger:List TMsg)::wla i0_4 v0_4 (a0.Requests:List TRequest)::L0) (fun S=>R NN d 153 [.bp b0_ 0 0 5 1,.agg [c1_0,c1_1,c1_2,c1_3,c1_4,c1_5,c1_6]] S) (m153 a0 a1) (P5 (fun (x:List Nat×List Nat×AV×AV) (t:Int×TCluster)=>AV.int .i64 t.1) (fun (x:List Nat×List Nat×AV×AV) (t:Int×TCluster)=>bx b0_ [.int .i64 t.2.F,v0_1,v0_2,x.2.2.1,x.2.2.2]::tr i0_1 [v0_1] (t.2.Bad:List Int)::tr i0_2 [v0_2] (t.2.Replicas:List TReplica)::wls x.1 x.2.2.1 (t.2.Ledger:List TMsg)::wla x.2.1 x.2.2.2 (t.2.Requests:List TRequest)::L0)):=by
  obtain ⟨d,rfl,g⟩:=up hd
  refine q_to (t153 NN d _ _) ?_
  unfold b153 m153
  exact q_box (n:=7) rfl rfl (by decide) fun b1=>q_q fr<|q_p fr<|q_ld 1 rfl rfl<|q_lda 0 rfl rfl rfl<|q_sel 6 [4,0,1,2,3,5] (by decide) (by decide)<|q_s8 (mg:=m206 a0.Ledger a1) (w206 (by omega) _ i0_3 v0_3 a0.Ledger c1_0 c1_1 c1_2 c1_3 c1_4 c1_5 c1_6 a1 hc1) (fun y1 hy1 hky1 i1 w1=>q_q fr<|q_q fr<|q_p fr<|q_ifkT hky1<|q_q fr<|q_p fr<|q_sto1 2 rfl (fun S hS=>(HP.cells_ hS 0 rfl)) rfl<|q_sel 6 [1,2,3,4,0,5] (by decide) (by decide)<|q_ret5 (i1,i0_4,w1,v0_4) 1 rfl rfl) fun y1 hy1 hky1=>q_q fr<|q_q fr<|q_p fr<|q_ifkF hky1<|q_sel 6 [1,2,3,4,0,5] (by decide) (by decide)<|q_ret5 (i0_3,i0_4,v0_3,v0_4) 1 rfl rfl
def m161 (a0:TCluster) (a1:Int) (a2:Int) (a3:Int) (a4:Int):Option (Int×TCluster):=(getI a0.Replicas a1).bind fun x1=>(getI a0.Replicas a1).bind fun x2=>(getI a0.Replicas a1).bind fun x3=>(getI a0.Replicas a1).bind fun x4=>(getI a0.Replicas a1).bind fun x5=>(getI a0.Replicas a1).bind fun x6=>(m153 a0 (⟨a2,x3.View,x6.Id,a3,a4,[],[]⟩:TMsg)).bind fun y1=>some (y1.1,y1.2)
theorem w161 {d:Nat} (hd:8≤d) (L0:List En) (b0_:Nat) (i0_1 i0_2 i0_3 i0_4:List Nat) (v0_1 v0_2 v0_3 v0_4:AV) (a0:TCluster) (a1:Int) (a2:Int) (a3:Int) (a4:Int):Okh (bx b0_ [.int .i64 a0.F,v0_1,v0_2,v0_3,v0_4]::tr i0_1 [v0_1] (a0.Bad:List Int)::tr i0_2 [v0_2] (a0.Replicas:List TReplica)::wls i0_3 v0_3 (a0.Ledger:List TMsg)::wla i0_4 v0_4 (a0.Requests:List TRequest)::L0) (fun S=>R NN d 161 [.bp b0_ 0 0 5 1,elP 4 v0_2 (Int.toNat a1),.int .i64 a2,.int .i64 a3,.int .i64 a4] S) (m161 a0 a1 a2 a3 a4) (P5 (fun (x:List Nat×List Nat×AV×AV) (t:Int×TCluster)=>AV.int .i64 t.1) (fun (x:List Nat×List Nat×AV×AV) (t:Int×TCluster)=>bx b0_ [.int .i64 t.2.F,v0_1,v0_2,x.2.2.1,x.2.2.2]::tr i0_1 [v0_1] (t.2.Bad:List Int)::tr i0_2 [v0_2] (t.2.Replicas:List TReplica)::wls x.1 x.2.2.1 (t.2.Ledger:List TMsg)::wla x.2.1 x.2.2.2 (t.2.Requests:List TRequest)::L0)):=by
  obtain ⟨d,rfl,g⟩:=up hd
  refine q_to (t161 NN d _ _ _ _ _) ?_
  unfold b161 m161
  exact q_gb fun x1 hx1=>q_nile 2 rfl hx1<|q_gb fun x2 hx2=>q_flt 2 rfl hx2 (by decide)<|q_gb fun x3 hx3=>q_ldt 2 rfl rfl hx3 rd118_View<|q_gb fun x4 hx4=>q_nile 2 rfl hx4<|q_gb fun x5 hx5=>q_flt 2 rfl hx5 (by decide)<|q_gb fun x6 hx6=>q_ldt 2 rfl rfl hx6 rd118_Id<|q_p (fun _=>bd71_0_1_2_3_4 rfl)<|q_s5 (mg:=m153 a0 (⟨a2,x3.View,x6.Id,a3,a4,[],[]⟩:TMsg)) (fun S=>rfl) (w153 (by omega) _ b0_ i0_1 i0_2 i0_3 i0_4 v0_1 v0_2 v0_3 v0_4 a0 (AV.int .i64 a2) (AV.int .i64 x3.View) (AV.int .i64 x6.Id) (AV.int .i64 a3) (AV.int .i64 a4) (AV.rsl false true []) (AV.rsl false true []) (⟨a2,x3.View,x6.Id,a3,a4,[],[]⟩:TMsg) (cvs_cons (cv_p rfl) (cvs_cons (cv_p rfl) (cvs_cons (cv_p rfl) (cvs_cons (cv_p rfl) (cvs_cons (cv_p rfl) (cvs_cons (cv_r (α:=TCert) (l0:=false) (fl:=true) (xs:=[])) (cvs_cons (cv_r (α:=Int) (l0:=false) (fl:=true) (xs:=[])) cvs_nil)))))))) fun y1 hy1 ⟨i1,i2,v1,v2⟩=>q_ret5 (i1,i2,v1,v2) 0 rfl rfl
def m159 (a0:TCluster) (a1:Int) (a2:Int) (a3:Int):Option (Int×TCluster):=(getI a0.Replicas a1).bind fun x1=>(m160 x1 a0.F a0.Ledger a2 a3).bind fun y1=>bif y1 != 0 then some (y1,a0) else (m161 a0 a1 3 a2 a3).bind fun y2=>some (y2.1,y2.2)
theorem w159 {d:Nat} (hd:141≤d) (L0:List En) (b0_:Nat) (i0_1 i0_2 i0_3 i0_4:List Nat) (v0_1 v0_2 v0_3 v0_4:AV) (a0:TCluster) (a1:Int) (k2:Bool) (a2:Int) (k3:Bool) (a3:Int):Okh (bx b0_ [.int .i64 a0.F,v0_1,v0_2,v0_3,v0_4]::tr i0_1 [v0_1] (a0.Bad:List Int)::tr i0_2 [v0_2] (a0.Replicas:List TReplica)::wls i0_3 v0_3 (a0.Ledger:List TMsg)::wla i0_4 v0_4 (a0.Requests:List TRequest)::L0) (fun S=>R NN d 159 [.bp b0_ 0 0 5 1,elP 4 v0_2 (Int.toNat a1),.rp k2 (Enc.cs k2 a2),.rp k3 (Enc.cs k3 a3)] S) (m159 a0 a1 a2 a3) (P5 (fun (x:List Nat×List Nat×AV×AV) (t:Int×TCluster)=>AV.int .i64 t.1) (fun (x:List Nat×List Nat×AV×AV) (t:Int×TCluster)=>bx b0_ [.int .i64 t.2.F,v0_1,v0_2,x.2.2.1,x.2.2.2]::tr i0_1 [v0_1] (t.2.Bad:List Int)::tr i0_2 [v0_2] (t.2.Replicas:List TReplica)::wls x.1 x.2.2.1 (t.2.Ledger:List TMsg)::wla x.2.1 x.2.2.2 (t.2.Requests:List TRequest)::L0)):=by
  obtain ⟨d,rfl,g⟩:=up hd
  refine q_to (t159 NN d _ _ _ _) ?_
  unfold b159 m159
  exact q_q fr<|q_p fr<|q_ld 0 rfl rfl<|q_q fr<|q_p fr<|q_ld 0 rfl rfl<|q_p fr<|q_p fr<|q_gb fun x1 hx1=>q_c0 (fun S hS=>argF5 (cv_el 2 rfl rfl hx1) (cv_p rfl) (cv_wls (α:=TMsg) 3 rfl) (cv_p rfl) (cv_p rfl) hS fun l0_ l1_ l2_ l3_ l4_=>w160 (by omega) l0_ x1 a0.F l2_ a0.Ledger a2 a3) fun y1 hy1=>q_p fr<|q_i (q_ret5 (i0_3,i0_4,v0_3,v0_4) 0 rfl rfl)<|q_p fr<|q_p fr<|q_s5 (mg:=m161 a0 a1 3 a2 a3) (fun S=>rfl) (w161 (by omega) _ b0_ i0_1 i0_2 i0_3 i0_4 v0_1 v0_2 v0_3 v0_4 a0 a1 3 a2 a3) fun y2 hy2 ⟨i1,i2,v1,v2⟩=>q_ret5 (i1,i2,v1,v2) 0 rfl rfl
def m143 (a0:TCluster) (a1:Int) (a2_0:Int) (a2_1:Int):Option (Int×TCluster):=(m72c a0 a1).bind fun y1=>optO y1 ( some (4,a0)) fun r1=>(getI a0.Replicas r1).bind fun x2=>(m159 a0 r1 a2_0 a2_1).bind fun y2=>some (y2.1,y2.2)
theorem w143 {d:Nat} (hd:142≤d) (L0:List En) (b0_:Nat) (i0_1 i0_2 i0_3 i0_4:List Nat) (v0_1 v0_2 v0_3 v0_4:AV) (a0:TCluster) (a1:Int) (k2_0:Bool) (a2_0:Int) (k2_1:Bool) (a2_1:Int):Okh (bx b0_ [.int .i64 a0.F,v0_1,v0_2,v0_3,v0_4]::tr i0_1 [v0_1] (a0.Bad:List Int)::tr i0_2 [v0_2] (a0.Replicas:List TReplica)::wls i0_3 v0_3 (a0.Ledger:List TMsg)::wla i0_4 v0_4 (a0.Requests:List TRequest)::L0) (fun S=>R NN d 143 [.bp b0_ 0 0 5 1,.int .i64 a1,.fn 159 [.rp k2_0 (Enc.cs k2_0 a2_0),.rp k2_1 (Enc.cs k2_1 a2_1)]] S) (m143 a0 a1 a2_0 a2_1) (P5 (fun (x:List Nat×List Nat×AV×AV) (t:Int×TCluster)=>AV.int .i64 t.1) (fun (x:List Nat×List Nat×AV×AV) (t:Int×TCluster)=>bx b0_ [.int .i64 t.2.F,v0_1,v0_2,x.2.2.1,x.2.2.2]::tr i0_1 [v0_1] (t.2.Bad:List Int)::tr i0_2 [v0_2] (t.2.Replicas:List TReplica)::wls x.1 x.2.2.1 (t.2.Ledger:List TMsg)::wla x.2.1 x.2.2.2 (t.2.Requests:List TRequest)::L0)):=by
  obtain ⟨d,rfl,g⟩:=up hd
  refine q_to (t143 NN d _ _ _) ?_
  unfold b143 m143
  refine q_s3o (mg:=m72c a0 a1) (v0:=fun _=>AV.nilp) (v1:=fun x r=>elP 4 v0_2 (Int.toNat r)) (fun _=>rfl) (fun _ _=>rfl) (w72c (by omega) _ b0_ i0_1 i0_2 i0_3 i0_4 v0_1 v0_2 v0_3 v0_4 a0 a1) (fun x1=>?_) (fun r1 x1 hy1=>?_)
  ·refine q_p (fun _=>peql103n) ?_
   first | refine q_ifT1 ?_ | skip
   exact q_ret5 (i0_3,i0_4,v0_3,v0_4) 0 rfl rfl
  ·refine q_gb fun x2 hx2=>q_pe (f:=fun a=>abin Tryz.prog .eql 103 a .nilp) 2 rfl hx2 (fun _ _ _ _ _=>pbeql103 _ _ _ _ _) ?_
   first | refine q_ifF1 ?_ | skip
   exact q_s5 (mg:=m159 a0 r1 a2_0 a2_1) (fun S=>cw143_159 _ _ _ _) (w159 (by omega) _ b0_ i0_1 i0_2 i0_3 i0_4 v0_1 v0_2 v0_3 v0_4 a0 r1 k2_0 a2_0 k2_1 a2_1) fun y2 hy2 ⟨i1,i2,v1,v2⟩=>q_ret5 (i1,i2,v1,v2) 0 rfl rfl
def m142 (a0:TCluster) (a1:Int) (a2_0:Int) (a2_1:Int):Option (Int×TCluster):=(m143 a0 a1 a2_0 a2_1).bind fun y1=>some (y1.1,y1.2)
theorem w142 {d:Nat} (hd:143≤d) (L0:List En) (b0_:Nat) (i0_1 i0_2 i0_3 i0_4:List Nat) (v0_1 v0_2 v0_3 v0_4:AV) (a0:TCluster) (k1:Bool) (a1:Int) (k2:Bool) (k2_0:Bool) (a2_0:Int) (k2_1:Bool) (a2_1:Int):Okh (bx b0_ [.int .i64 a0.F,v0_1,v0_2,v0_3,v0_4]::tr i0_1 [v0_1] (a0.Bad:List Int)::tr i0_2 [v0_2] (a0.Replicas:List TReplica)::wls i0_3 v0_3 (a0.Ledger:List TMsg)::wla i0_4 v0_4 (a0.Requests:List TRequest)::L0) (fun S=>R NN d 142 [.bp b0_ 0 0 5 1,.rp k1 (Enc.cs k1 a1),.rp k2 [.fn 159 [.rp k2_0 (Enc.cs k2_0 a2_0),.rp k2_1 (Enc.cs k2_1 a2_1)]]] S) (m142 a0 a1 a2_0 a2_1) (P5 (fun (x:List Nat×List Nat×AV×AV) (t:Int×TCluster)=>AV.int .i64 t.1) (fun (x:List Nat×List Nat×AV×AV) (t:Int×TCluster)=>bx b0_ [.int .i64 t.2.F,v0_1,v0_2,x.2.2.1,x.2.2.2]::tr i0_1 [v0_1] (t.2.Bad:List Int)::tr i0_2 [v0_2] (t.2.Replicas:List TReplica)::wls x.1 x.2.2.1 (t.2.Ledger:List TMsg)::wla x.2.1 x.2.2.2 (t.2.Requests:List TRequest)::L0)):=by
  obtain ⟨d,rfl,g⟩:=up hd
  refine q_to (t142 NN d _ _ _) ?_
  unfold b142 m142
  exact q_p fr<|q_p fr<|q_s5 (mg:=m143 a0 a1 a2_0 a2_1) (fun S=>rfl) (w143 (by omega) _ b0_ i0_1 i0_2 i0_3 i0_4 v0_1 v0_2 v0_3 v0_4 a0 a1 k2_0 a2_0 k2_1 a2_1) fun y1 hy1 ⟨i1,i2,v1,v2⟩=>q_ret5 (i1,i2,v1,v2) 0 rfl rfl
def m80 (a0:TCluster) (a1_0:Int) (a1_1_0:Int) (a1_1_1:Int):Option (TClusterResult):=(m55 a0).bind fun y1=>bif y1 != 0 then some (⟨y1,(⟨0,[],[],[],[]⟩:TCluster)⟩:TClusterResult) else (m131 a0).bind fun y2=>(m142 y2 a1_0 a1_1_0 a1_1_1).bind fun y3=>bif y3.1 != 0 then some (⟨y3.1,(⟨0,[],[],[],[]⟩:TCluster)⟩:TClusterResult) else (m131 y3.2).bind fun y4=>some (⟨0,y4⟩:TClusterResult)
theorem w80 {d:Nat} (hd:147≤d) (k0:Bool) (a0:TCluster) (k1_0:Bool) (a1_0:Int) (k1_1:Bool) (k1_1_0:Bool) (a1_1_0:Int) (k1_1_1:Bool) (a1_1_1:Int):Fit (R NN d 80 [.agg (Enc.cs k0 a0),.fn 142 [.rp k1_0 (Enc.cs k1_0 a1_0),.rp k1_1 [.fn 159 [.rp k1_1_0 (Enc.cs k1_1_0 a1_1_0),.rp k1_1_1 (Enc.cs k1_1_1 a1_1_1)]]]] []) (m80 a0 a1_0 a1_1_0 a1_1_1) (P1 (T:=TClusterResult) AV.agg):=by
  obtain ⟨d,rfl,g⟩:=up hd
  refine q_in (t80 NN d _ _) ?_
  unfold b80 m80
  refine q_box (n:=5) rfl rfl (by decide) fun b1=>q_new rfl fun b2=>q_lda 1 rfl rfl rfl<|q_c0 (aF1 (cv_a (cvs_e (l0:=k0) (x:=a0))) fun l0_=>w55 (by omega) l0_ a0) fun y1 hy1=>q_p fr<|q_i ?_ ?_
  ·exact q_p (fun _=>bd50_0 rfl)<|q_st 0 rfl rfl rfl (by decide) rfl<|q_outm (fun S hS=>hS.lda 0 rfl rfl) (tb_of (α:=TClusterResult) (β:=Int×TCluster) (f:=fun x=>(x.Code,x.Cluster)) (x:=(⟨y1,(⟨0,[],[],[],[]⟩:TCluster)⟩:TClusterResult)) rfl (tb_pair (tb_int (n:=y1)) (tb_of (α:=TCluster) (β:=Int×(List Int)×(List TReplica)×(List TMsg)×(List TRequest)) (f:=fun x=>(x.F,x.Bad,x.Replicas,x.Ledger,x.Requests)) (x:=(⟨0,[],[],[],[]⟩:TCluster)) rfl (tb_pair (tb_int (n:=0)) (tb_pair (tb_nil (α:=Int) (fl:=true)) (tb_pair (tb_nil (α:=TReplica) (fl:=true)) (tb_pair (tb_nil (α:=TMsg) (fl:=true)) (tb_nil (α:=TRequest) (fl:=true))))))))) rfl
  ·refine q_lda 1 rfl rfl rfl<|q_c1q (mg:=m131 a0) (aF1 (cv_a (cvs_e (l0:=k0) (x:=a0))) fun l0_=>w131 (by omega) l0_ a0) fun y2 hy2 i1 cs1 hq_=>q_cx (fun S hS=>trx36 (hS.get (k:=0) rfl)) fun hcs_=>?_
   obtain ⟨v1,v2,v3,v4,rfl⟩:=hcs_
   refine q_xpl (x:=(y2.F,y2.Bad,y2.Replicas,y2.Ledger,y2.Requests)) hq_ rfl (fun _ h=>h) fun i2 i3 i4 i5=>q_new rfl fun b3=>q_st 0 rfl rfl rfl (by decide) rfl<|q_s5 (mg:=m142 y2 a1_0 a1_1_0 a1_1_1) (fun S=>cw80_142 _ _ _ _) (w142 (by omega) _ b3 i2 i3 i4 i5 v1 v2 v3 v4 y2 k1_0 a1_0 k1_1 k1_1_0 a1_1_0 k1_1_1 a1_1_1) fun y3 hy3 ⟨i6,i7,v5,v6⟩=>q_p fr<|q_i ?_ ?_
   ·exact q_p (fun _=>bd50_0 rfl)<|q_st 5 rfl rfl rfl (by decide) rfl<|q_outm (fun S hS=>hS.lda 5 rfl rfl) (tb_of (α:=TClusterResult) (β:=Int×TCluster) (f:=fun x=>(x.Code,x.Cluster)) (x:=(⟨y3.1,(⟨0,[],[],[],[]⟩:TCluster)⟩:TClusterResult)) rfl (tb_pair (tb_int (n:=y3.1)) (tb_of (α:=TCluster) (β:=Int×(List Int)×(List TReplica)×(List TMsg)×(List TRequest)) (f:=fun x=>(x.F,x.Bad,x.Replicas,x.Ledger,x.Requests)) (x:=(⟨0,[],[],[],[]⟩:TCluster)) rfl (tb_pair (tb_int (n:=0)) (tb_pair (tb_nil (α:=Int) (fl:=true)) (tb_pair (tb_nil (α:=TReplica) (fl:=true)) (tb_pair (tb_nil (α:=TMsg) (fl:=true)) (tb_nil (α:=TRequest) (fl:=true))))))))) rfl
   ·refine q_lda 0 rfl rfl rfl<|q_c1 (W:=AV.agg) (mg:=m131 y3.2) sh_agg (aF1 (cv_a (cvs_cons (cv_p rfl) (cvs_cons (cv_tr 1 rfl) (cvs_cons (cv_tr 2 rfl) (cvs_cons (cv_wls (α:=TMsg) 3 rfl) (cvs_cons (cv_wla (α:=TRequest) 4 rfl) cvs_nil)))))) fun l0_=>w131g (by omega) l0_ y3.2) fun y4 hy4 i8 cs2=>q_cx (fun S hS=>trx36 (hS.get (k:=0) rfl)) fun hcs_=>?_
    obtain ⟨v7,v8,v9,v10,rfl⟩:=hcs_
    exact q_p (fun _=>bd50_1 rfl)<|q_st 6 rfl rfl rfl (by decide) rfl<|q_outm (fun S hS=>hS.lda 6 rfl rfl) (tb_of (α:=TClusterResult) (β:=Int×TCluster) (f:=fun x=>(x.Code,x.Cluster)) (x:=(⟨0,y4⟩:TClusterResult)) rfl (tb_pair (tb_int (n:=0)) (tb_tr 0 rfl))) rfl
def m87 (a0:TCluster) (a1:Int) (a2_0:Int) (a2_1:Int):Option (TClusterResult):=(m80 a0 a1 a2_0 a2_1).bind fun y1=>some y1
theorem w87 {d:Nat} (hd:291≤d) (k0:Bool) (a0:TCluster) (a1:Int) (k2_0:Bool) (a2_0:Int) (k2_1:Bool) (a2_1:Int):Fit (R NN d 87 [.agg (Enc.cs k0 a0),.int .i64 a1,.fn 159 [.rp k2_0 (Enc.cs k2_0 a2_0),.rp k2_1 (Enc.cs k2_1 a2_1)]] []) (m87 a0 a1 a2_0 a2_1) (P1 (T:=TClusterResult) AV.agg):=by
  obtain ⟨d,rfl,g⟩:=up hd
  refine q_in (t87 NN d _ _ _) ?_
  unfold b87 m87
  refine q_box (n:=5) rfl rfl (by decide) fun b1=>q_box (n:=1) rfl rfl (by decide) fun b2=>q_box (n:=1) rfl rfl (by decide) fun b3=>q_new rfl fun b4=>q_lda 3 rfl rfl rfl<|q_c1 (W:=AV.agg) (mg:=m80 a0 a1 a2_0 a2_1) sh_agg (aF2 (cv_a (cvs_e (l0:=k0) (x:=a0))) (cv_f (cvs_cons (cv_b 2 rfl (cvs_e (l0:=false) (x:=a1))) (cvs_cons (cv_b 1 rfl (cvs_cons (cv_f (cvs_cons (cv_rp (cvs_e (l0:=k2_0) (x:=a2_0)) (fun _ _ _ h=>Enc.frz k2_0 a2_0 _ _ _ h)) (cvs_cons (cv_rp (cvs_e (l0:=k2_1) (x:=a2_1)) (fun _ _ _ h=>Enc.frz k2_1 a2_1 _ _ _ h)) cvs_nil))) cvs_nil)) cvs_nil))) fun l0_ l1_=>w80 (by omega) l0_ a0 l1_ a1 l1_ l1_ a2_0 l1_ a2_1) fun y1 hy1 i1 cs1=>q_cx (fun S hS=>trx50 (hS.get (k:=0) rfl)) fun hcs_=>?_
  obtain ⟨v1,v2,v3,v4,rfl⟩:=hcs_
  exact q_st 1 rfl rfl rfl (by decide) rfl<|q_outm (fun S hS=>hS.lda 1 rfl rfl) (tb_tr 0 rfl) rfl
def m101 (a0:Int) (a1:Int):Int×Int:=(a0,a1)
theorem w101 {d:Nat} (hd:142≤d) (a0:Int) (a1:Int):Fit (R NN d 101 [.int .i64 a0,.int .i64 a1] []) (some (m101 a0 a1)) (P0 (fun (t:Int×Int)=>AV.fn 159 [.rp false (Enc.cs false t.1),.rp false (Enc.cs false t.2)])):=by
  obtain ⟨d,rfl,g⟩:=up hd
  refine q_in (t101 NN d _ _) ?_
  unfold b101 m101
  exact q_box (n:=1) rfl rfl (by decide) fun b1=>q_box (n:=1) rfl rfl (by decide) fun b2=>q_ret (cv_f (cvs_cons (cv_bp 1 rfl rfl) (cvs_cons (cv_bp 0 rfl rfl) cvs_nil))) rfl
def m42 (a0:TCluster) (a1:Int) (a2:Int) (a3:Int):Option (TClusterResult):=(m87 a0 a1 ((m101 a2 a3).1) ((m101 a2 a3).2)).bind fun y1=>some y1
theorem w42 {d:Nat} (hd:292≤d) (k0:Bool) (a0:TCluster) (a1:Int) (a2:Int) (a3:Int):Fit (R NN d 42 [.agg (Enc.cs k0 a0),.int .i64 a1,.int .i64 a2,.int .i64 a3] []) (m42 a0 a1 a2 a3) (P1 (T:=TClusterResult) AV.agg):=by
  obtain ⟨d,rfl,g⟩:=up hd
  refine q_in (t42 NN d _ _ _ _) ?_
  unfold b42 m42
  refine q_box (n:=5) rfl rfl (by decide) fun b1=>q_new rfl fun b2=>q_lda 1 rfl rfl rfl<|q_c0t (aF2 (cv_p rfl) (cv_p rfl) fun l0_ l1_=>w101 (by omega) a2 a3)<|q_c1 (W:=AV.agg) (mg:=m87 a0 a1 ((m101 a2 a3).1) ((m101 a2 a3).2)) sh_agg (aF3 (cv_a (cvs_e (l0:=k0) (x:=a0))) (cv_p rfl) (cv_f (cvs_cons (cv_rp (cvs_e (l0:=false) (x:=(m101 a2 a3).1)) (fun _ _ _ h=>Enc.frz false ((m101 a2 a3).1) _ _ _ h)) (cvs_cons (cv_rp (cvs_e (l0:=false) (x:=(m101 a2 a3).2)) (fun _ _ _ h=>Enc.frz false ((m101 a2 a3).2) _ _ _ h)) cvs_nil))) fun l0_ l1_ l2_=>w87 (by omega) l0_ a0 a1 l2_ ((m101 a2 a3).1) l2_ ((m101 a2 a3).2)) fun y1 hy1 i1 cs1=>q_cx (fun S hS=>trx50 (hS.get (k:=0) rfl)) fun hcs_=>?_
  obtain ⟨v1,v2,v3,v4,rfl⟩:=hcs_
  exact q_st 1 rfl rfl rfl (by decide) rfl<|q_outm (fun S hS=>hS.lda 1 rfl rfl) (tb_tr 0 rfl) rfl
def m9 (a0:TCluster) (a1:Int) (a2:Int) (a3:Int):Option (Bool):=(m11 a0 1048576).bind fun y1=>bif decide (y1 < 0) then some true else (m13 a0).bind fun y2=>(m41 y2 a1 a2 a3).bind fun y3=>(m13 a0).bind fun y4=>(m42 y4 a1 a2 a3).bind fun y5=>(m26 y5 y3).bind fun y6=>bif !y6 then some false else (m13 a0).bind fun y7=>(m16 y4 y7).bind fun y8=>bif !y8 then some false else (m17 y4 1).bind fun y9=>( bif decide (y9.1 < 0) then some (LO.ret false) else (m26 y5 y3).bind fun y10=>bif !y10 then some (LO.ret false) else some (LO.norm false)).bind (contO (fun s2=>(m29 y5 1).bind fun y11=>(m30 y11.2 1).bind fun y12=>bif decide (y12 < 0) then some false else bif y12 != y11.1 then some false else (m13 a0).bind fun y13=>(m42 y13 a1 a2 a3).bind fun y14=>(m26 y14 y3).bind fun y15=>bif !y15 then some false else (m30 y11.2 1).bind fun y16=>bif decide (y16 < 0) then some false else bif y16 != y11.1 then some false else some true) (fun i4 s2=>none) (fun s2=>some s2))
theorem w9 {d:Nat} (hd:293≤d) (k0:Bool) (a0:TCluster) (a1:Int) (a2:Int) (a3:Int):Fit (R NN d 9 [.agg (Enc.cs k0 a0),.int .i64 a1,.int .i64 a2,.int .i64 a3] []) (m9 a0 a1 a2 a3) PB:=by
  obtain ⟨d,rfl,g⟩:=up hd
  refine q_in (t9 NN d _ _ _ _) ?_
  unfold b9 m9
  refine q_box (n:=5) rfl rfl (by decide) fun b1=>q_lda 0 rfl rfl rfl<|q_c0 (aF2 (cv_a (cvs_e (l0:=k0) (x:=a0))) (cv_p rfl) fun l0_ l1_=>w11 (by omega) l0_ a0 1048576) fun y1 hy1=>q_p fr<|q_i ?_ ?_
  ·exact q_ret (cv_p rfl) rfl
  ·refine q_lda 0 rfl rfl rfl<|q_c1 (W:=AV.agg) (mg:=m13 a0) sh_agg (aF1 (cv_a (cvs_e (l0:=k0) (x:=a0))) fun l0_=>w13 (by omega) l0_ a0) fun y2 hy2 i1 cs1=>q_cx (fun S hS=>trx36 (hS.get (k:=0) rfl)) fun hcs_=>?_
   obtain ⟨v1,v2,v3,v4,rfl⟩:=hcs_
   refine q_c0 (fun S hS=>argF4 (cv_a (cvs_tr 0 rfl)) (cv_p rfl) (cv_p rfl) (cv_p rfl) hS fun l0_ l1_ l2_ l3_=>w41 (by omega) l0_ y2 a1 a2 a3) fun y3 hy3=>q_new rfl fun b2=>q_st 0 rfl rfl rfl (by decide) rfl<|q_lda 2 rfl rfl rfl<|q_c1 (W:=AV.agg) (mg:=m13 a0) sh_agg (aF1 (cv_a (cvs_e (l0:=k0) (x:=a0))) fun l0_=>w13 (by omega) l0_ a0) fun y4 hy4 i2 cs2=>q_cx (fun S hS=>trx36 (hS.get (k:=0) rfl)) fun hcs_=>?_
   obtain ⟨v5,v6,v7,v8,rfl⟩:=hcs_
   refine q_new rfl fun b3=>q_st 0 rfl rfl rfl (by decide) rfl<|q_lda 0 rfl rfl rfl<|q_c1 (W:=AV.agg) (mg:=m42 y4 a1 a2 a3) sh_agg (fun S hS=>argF4 (cv_a (cvs_tr 1 rfl)) (cv_p rfl) (cv_p rfl) (cv_p rfl) hS fun l0_ l1_ l2_ l3_=>w42 (by omega) l0_ y4 a1 a2 a3) fun y5 hy5 i3 cs3=>q_cx (fun S hS=>trx50 (hS.get (k:=0) rfl)) fun hcs_=>?_
   obtain ⟨v9,v10,v11,v12,rfl⟩:=hcs_
   refine q_new rfl fun b4=>q_st 0 rfl rfl rfl (by decide) rfl<|q_lda 0 rfl rfl rfl<|q_lda 4 rfl rfl rfl<|q_c0 (aF2 (cv_a (cvs_tr 1 rfl)) (cv_a (cvs_e (l0:=false) (x:=y3))) fun l0_ l1_=>w26 (by omega) l0_ y5 l1_ y3) fun y6 hy6=>q_p fr<|q_i ?_ ?_
   ·exact q_ret (cv_p rfl) rfl
   ·refine q_lda 2 rfl rfl rfl<|q_lda 6 rfl rfl rfl<|q_c0 (aF1 (cv_a (cvs_e (l0:=k0) (x:=a0))) fun l0_=>w13f (by omega) l0_ a0) fun y7 hy7=>q_c0 (aF2 (cv_a (cvs_tr 3 rfl)) (cv_a (cvs_e (l0:=false) (x:=y7))) fun l0_ l1_=>w16 (by omega) l0_ y4 l1_ y7) fun y8 hy8=>q_p fr<|q_i ?_ ?_
    ·exact q_ret (cv_p rfl) rfl
    ·refine q_lda 2 rfl rfl rfl<|q_sel 7 [3,0,1,2,4,5,6] (by decide) (by decide)<|q_s (mg:=m17 y4 1) (w17 (by omega) _ i2 (.int .i64 y4.F) v5 v6 v7 v8 y4 1) fun y9 hy9=>q_cu (A:=fun (s:Bool)=>[.bool s]) (B:=fun s=>[tr i2 [.int .i64 y4.F,v5,v6,v7,v8] (y9.2:TCluster),bx b4 [.int .i64 y5.Code,.int .i64 y5.Cluster.F,v9,v10,v11,v12],tr i3 [.int .i64 y5.Code,.int .i64 y5.Cluster.F,v9,v10,v11,v12] (y5:TClusterResult),bx b3 [.int .i64 y4.F,v5,v6,v7,v8],bx b2 [.int .i64 y3.Code,.int .i64 y3.Cluster.F,.rsl false false (y3.Cluster.Bad.map (Enc.cs false)),.rsl false false (y3.Cluster.Replicas.map (Enc.cs false)),.rsl false false (y3.Cluster.Ledger.map (Enc.cs false)),.rsl false false (y3.Cluster.Requests.map (Enc.cs false))],tr i1 [.int .i64 y2.F,v1,v2,v3,v4] (y2:TCluster),bx b1 [.int .i64 a0.F,.rsl k0 false (a0.Bad.map (Enc.cs k0)),.rsl k0 false (a0.Replicas.map (Enc.cs k0)),.rsl k0 false (a0.Ledger.map (Enc.cs k0)),.rsl k0 false (a0.Requests.map (Enc.cs k0))]]) ?_ ?_ ?_ ?_
     ·refine q_p fr<|q_j ?_ ?_
      ·first | refine q_ifT1 ?_ | skip
       exact q_lret 0 rr
      ·exact q_lda 1 rfl rfl rfl<|q_lda 4 rfl rfl rfl<|q_c0 (aF2 (cv_a (cvs_tr 2 rfl)) (cv_a (cvs_e (l0:=false) (x:=y3))) fun l0_ l1_=>w26 (by omega) l0_ y5 l1_ y3) fun y10 hy10=>q_p fr<|q_i (q_lret 0 rr)<|q_norm 0 rr
     ·intro s2
      refine q_lda 1 rfl rfl rfl<|q_sel 7 [2,0,1,3,4,5,6] (by decide) (by decide)<|q_s (mg:=m29 y5 1) (w29 (by omega) _ i3 (.int .i64 y5.Code) (.int .i64 y5.Cluster.F) v9 v10 v11 v12 y5 1) fun y11 hy11=>q_lda 2 rfl rfl rfl<|q_c0 (aF2 (cv_a (cvs_tr 0 rfl)) (cv_p rfl) fun l0_ l1_=>w30 (by omega) l0_ y11.2 1) fun y12 hy12=>q_p fr<|q_i ?_ ?_
      ·exact q_ret (cv_p rfl) rfl
      ·refine q_p fr<|q_i ?_ ?_
       ·exact q_ret (cv_p rfl) rfl
       ·refine q_lda 6 rfl rfl rfl<|q_c1 (W:=AV.agg) (mg:=m13 a0) sh_agg (aF1 (cv_a (cvs_e (l0:=k0) (x:=a0))) fun l0_=>w13 (by omega) l0_ a0) fun y13 hy13 i5 cs4=>q_cx (fun S hS=>trx36 (hS.get (k:=0) rfl)) fun hcs_=>?_
        obtain ⟨v13,v14,v15,v16,rfl⟩:=hcs_
        refine q_c1 (W:=AV.agg) (mg:=m42 y13 a1 a2 a3) sh_agg (fun S hS=>argF4 (cv_a (cvs_tr 0 rfl)) (cv_p rfl) (cv_p rfl) (cv_p rfl) hS fun l0_ l1_ l2_ l3_=>w42 (by omega) l0_ y13 a1 a2 a3) fun y14 hy14 i6 cs5=>q_cx (fun S hS=>trx50 (hS.get (k:=0) rfl)) fun hcs_=>?_
        obtain ⟨v17,v18,v19,v20,rfl⟩:=hcs_
        exact q_new rfl fun b5=>q_st 0 rfl rfl rfl (by decide) rfl<|q_lda 0 rfl rfl rfl<|q_lda 7 rfl rfl rfl<|q_c0 (aF2 (cv_a (cvs_tr 1 rfl)) (cv_a (cvs_e (l0:=false) (x:=y3))) fun l0_ l1_=>w26 (by omega) l0_ y14 l1_ y3) fun y15 hy15=>q_p fr<|q_i (q_ret (cv_p rfl) rfl)<|q_lda 5 rfl rfl rfl<|q_c0 (aF2 (cv_a (cvs_tr 3 rfl)) (cv_p rfl) fun l0_ l1_=>w30 (by omega) l0_ y11.2 1) fun y16 hy16=>q_p fr<|q_i (q_ret (cv_p rfl) rfl)<|q_p fr<|q_i (q_ret (cv_p rfl) rfl)<|q_ret (cv_p rfl) rfl
     ·exact fun i4 s2=>q_none
     ·exact fun s2=>q_ret (cv_p rfl) rfl
end
end Go.Proofs.YtlgfhcillmbcgaaGreatDoor
