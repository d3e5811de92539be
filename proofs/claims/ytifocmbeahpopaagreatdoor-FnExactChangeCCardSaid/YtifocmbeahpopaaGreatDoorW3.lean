/- Plain functions, and that the evaluator computes them. -/
import Derived.Test.YtifocmbeahpopaaGreatDoorW2
namespace Go.Proofs.YtifocmbeahpopaaGreatDoor
open Go Go.Rf
set_option linter.unusedVariables false
set_option linter.unusedSimpArgs false
noncomputable section
def ms42_0 (s1:Int×Int×(List TRequest)):Option (LO (Int×Int×(List TRequest))):=bif decide (s1.2.1 < (s1.2.2.length:Int)) then (getI s1.2.2 s1.2.1).bind fun x1=>letO (s1.2.2.set (Int.toNat s1.2.1) ({ x1 with Client:=s1.1 })) fun z1=>(getI z1 s1.2.1).bind fun x2=>letO (z1.set (Int.toNat s1.2.1) ({ x2 with Number:=wi .i64 (s1.1 + 1) })) fun z2=>(getI z2 s1.2.1).bind fun x3=>letO (z2.set (Int.toNat s1.2.1) ({ x3 with Time:=wi .i64 ((wi .i64 (s1.1 + 1)) + 1) })) fun z3=>(getI z3 s1.2.1).bind fun x4=>(m85 x4.Ops (wi .i64 ((wi .i64 ((wi .i64 (s1.1 + 1)) + 1)) + 1))).bind fun y1=>letO (z3.set (Int.toNat s1.2.1) ({ x4 with Ops:=y1.2 })) fun z4=>some (LO.norm (y1.1,wi .i64 (s1.2.1 + 1),z4)) else some (LO.exit 0 (s1.1,s1.2.1,s1.2.2))
def m42 (a0:List TRequest) (a1:Int):Option (Int×(List TRequest)):=(loopO (ms42_0) NN (a1,0,a0)).bind (contO (fun _=>none) (fun i1 s2=>if i1 = 0 then some (s2.1,s2.2.2) else none) (fun s2=>some (0,s2.2.2)))
theorem w42 {d:Nat} (hd:3≤d) (L0:List En) (i0_:List Nat) (c0_0:AV) (a0:List TRequest) (a1:Int):Okh (tr i0_ [c0_0] (a0:List TRequest)::L0) (fun S=>R NN d 42 [c0_0,.int .i64 a1] S) (m42 a0 a1) (P2 (fun (t:Int×(List TRequest))=>AV.int .i64 t.1) (fun (t:Int×(List TRequest))=>tr i0_ [c0_0] t.2::L0)):=by
  obtain ⟨d,rfl,g⟩:=up hd
  refine q_to (t42 NN d _ _) ?_
  unfold b42 m42
  refine q_lp (A:=fun (s:Int×Int×(List TRequest))=>[.int .i64 s.1,.int .i64 s.2.1]) (B:=fun s=>tr i0_ [c0_0] (s.2.2:List TRequest)::L0) 0 rr ?_ ?_ ?_
  ·intro s1
   unfold s42_0 ms42_0
   exact q_lent 0 rfl<|q_p fr<|q_i (q_ixt 0 rfl rfl fun x1 hx1=>q_flt 0 rfl hx1 (by decide)<|q_stl 0 rfl rfl hx1 rfl (up98_Client s1.1) fun z1 hz1=>q_p fr<|q_ixt 0 rfl rfl fun x2 hx2=>q_flt 0 rfl hx2 (by decide)<|q_stl 0 rfl rfl hx2 rfl (up98_Number (wi .i64 (s1.1 + 1))) fun z2 hz2=>q_p fr<|q_ixt 0 rfl rfl fun x3 hx3=>q_flt 0 rfl hx3 (by decide)<|q_stl 0 rfl rfl hx3 rfl (up98_Time (wi .i64 ((wi .i64 (s1.1 + 1)) + 1))) fun z3 hz3=>q_p fr<|q_ixt 0 rfl rfl fun x4 hx4=>q_flt 0 rfl hx4 (by decide)<|q_ldf rfl rfl hx4 fo98_Ops fun w1 ic1=>q_s (mg:=m85 x4.Ops (wi .i64 ((wi .i64 ((wi .i64 (s1.1 + 1)) + 1)) + 1))) (w85 (by omega) _ ic1 w1 x4.Ops (wi .i64 ((wi .i64 ((wi .i64 (s1.1 + 1)) + 1)) + 1))) fun y1 hy1=>q_putl fun z4 hz4=>q_p fr<|q_norm 0 rr)<|q_exit 0 rr
  ·exact fun i1 s2=>q_n (q_ret2 0 rfl rfl)<|q_none
  ·exact fun s2=>q_ret2 0 rfl rfl
def m14 (a0:TCluster) (a1:Int):Option (Int×TCluster):=(m39 a0.Bad a1).bind fun y1=>letO ({ a0 with Bad:=y1.2 }) fun z1=>(m40 z1.Replicas y1.1).bind fun y2=>letO ({ z1 with Replicas:=y2.2 }) fun z2=>(m41 z2.Ledger y2.1).bind fun y3=>letO ({ z2 with Ledger:=y3.2 }) fun z3=>(m42 z3.Requests y3.1).bind fun y4=>letO ({ z3 with Requests:=y4.2 }) fun z4=>some (y4.1,z4)
theorem w14 {d:Nat} (hd:4≤d) (L0:List En) (i0_:List Nat) (c0_0 c0_1 c0_2 c0_3 c0_4:AV) (a0:TCluster) (a1:Int):Okh (tr i0_ [c0_0,c0_1,c0_2,c0_3,c0_4] (a0:TCluster)::L0) (fun S=>R NN d 14 [.agg [c0_0,c0_1,c0_2,c0_3,c0_4],.int .i64 a1] S) (m14 a0 a1) (P2 (fun (t:Int×TCluster)=>AV.int .i64 t.1) (fun (t:Int×TCluster)=>tr i0_ [c0_0,c0_1,c0_2,c0_3,c0_4] t.2::L0)):=by
  obtain ⟨d,rfl,g⟩:=up hd
  refine q_to (t14 NN d _ _) ?_
  unfold b14 m14
  exact q_box (n:=5) rfl rfl (by decide) fun b1=>q_p fr<|q_ld 0 rfl rfl<|q_sel 2 [1,0] (by decide) (by decide)<|q_prt fo36_Bad rfl fun ic1=>q_s (mg:=m39 a0.Bad a1) (w39 (by omega) _ ic1 c0_1 a0.Bad a1) fun y1 hy1=>q_putl fun z1 hz1=>q_p fr<|q_ld 1 rfl rfl<|q_prt fo36_Replicas rfl fun ic2=>q_s (mg:=m40 z1.Replicas y1.1) (w40 (by omega) _ ic2 c0_2 z1.Replicas y1.1) fun y2 hy2=>q_putl fun z2 hz2=>q_p fr<|q_ld 1 rfl rfl<|q_prt fo36_Ledger rfl fun ic3=>q_s (mg:=m41 z2.Ledger y2.1) (w41 (by omega) _ ic3 c0_3 z2.Ledger y2.1) fun y3 hy3=>q_putl fun z3 hz3=>q_p fr<|q_ld 1 rfl rfl<|q_prt fo36_Requests rfl fun ic4=>q_s (mg:=m42 z3.Requests y3.1) (w42 (by omega) _ ic4 c0_4 z3.Requests y3.1) fun y4 hy4=>q_putl fun z4 hz4=>q_sel 2 [1,0] (by decide) (by decide)<|q_ret2 1 rfl rfl
def m15 (a0:TClusterResult) (a1:Int):Option (Int×TClusterResult):=(m14 a0.Cluster a1).bind fun y1=>letO ({ a0 with Cluster:=y1.2 }) fun z1=>some (y1.1,z1)
theorem w15 {d:Nat} (hd:5≤d) (L0:List En) (i0_:List Nat) (c0_0 c0_1 c0_2 c0_3 c0_4 c0_5:AV) (a0:TClusterResult) (a1:Int):Okh (tr i0_ [c0_0,c0_1,c0_2,c0_3,c0_4,c0_5] (a0:TClusterResult)::L0) (fun S=>R NN d 15 [.agg [c0_0,c0_1,c0_2,c0_3,c0_4,c0_5],.int .i64 a1] S) (m15 a0 a1) (P2 (fun (t:Int×TClusterResult)=>AV.int .i64 t.1) (fun (t:Int×TClusterResult)=>tr i0_ [c0_0,c0_1,c0_2,c0_3,c0_4,c0_5] t.2::L0)):=by
  obtain ⟨d,rfl,g⟩:=up hd
  refine q_to (t15 NN d _ _) ?_
  unfold b15 m15
  exact q_box (n:=6) rfl rfl (by decide) fun b1=>q_p fr<|q_lda 0 rfl rfl rfl<|q_sel 2 [1,0] (by decide) (by decide)<|q_prt fo42_Cluster rfl fun ic1=>q_s (mg:=m14 a0.Cluster a1) (w14 (by omega) _ ic1 c0_1 c0_2 c0_3 c0_4 c0_5 a0.Cluster a1) fun y1 hy1=>q_putl fun z1 hz1=>q_sel 2 [1,0] (by decide) (by decide)<|q_ret2 1 rfl rfl
def ms86_0 (a0:List Int) (s1:Int×Int×Int):Option (LO (Int×Int×Int)):=bif decide (s1.2.2 < (a0.length:Int)) then (getI a0 s1.2.2).bind fun x1=>bif x1 != s1.1 then some (LO.ret (s1.1,(-1),s1.2.2)) else some (LO.norm (wi .i64 (s1.1 + 1),s1.2.1,wi .i64 (s1.2.2 + 1))) else some (LO.exit 0 (s1.1,s1.2.1,s1.2.2))
def m86 (a0:List Int) (a1:Int):Option (Int):=(loopO (ms86_0 a0) NN (a1,0,0)).bind (contO (fun _=>none) (fun i1 s2=>if i1 = 0 then some s2.1 else none) (fun s2=>some s2.2.1))
theorem w86 {d:Nat} (hd:1≤d) (k0:Bool) (a0:List Int) (a1:Int):Fit (R NN d 86 [.rsl k0 false (a0.map (Enc.cs k0)),.int .i64 a1] []) (m86 a0 a1) PI:=by
  obtain ⟨d,rfl,g⟩:=up hd
  refine q_in (t86 NN d _ _) ?_
  unfold b86 m86
  refine q_lp (A:=fun (s:Int×Int×Int)=>[.int .i64 s.1,.int .i64 s.2.1,.int .i64 s.2.2]) (B:=fun s=>[]) 0 rr ?_ ?_ ?_
  ·intro s1
   unfold s86_0 ms86_0
   exact q_len<|q_p fr<|q_i (q_ix rfl fun x1 hx1=>q_p fr<|q_p fr<|q_i (q_lret 0 rr)<|q_p fr<|q_p fr<|q_norm 0 rr)<|q_exit 0 rr
  ·exact fun i1 s2=>q_n (q_ret (cv_p rfl) rfl)<|q_none
  ·exact fun s2=>q_ret (cv_p rfl) rfl
def ms87_0 (a0:List TReplica) (s1:Int×Int×Int):Option (LO (Int×Int×Int)):=bif decide (s1.2.2 < (a0.length:Int)) then (getI a0 s1.2.2).bind fun x1=>bif x1.Id != s1.1 then some (LO.ret (s1.1,(-1),s1.2.2)) else (getI a0 s1.2.2).bind fun x2=>bif x2.View != (wi .i64 (s1.1 + 1)) then some (LO.ret (wi .i64 (s1.1 + 1),(-1),s1.2.2)) else (getI a0 s1.2.2).bind fun x3=>bif x3.Start != (wi .i64 ((wi .i64 (s1.1 + 1)) + 1)) then some (LO.ret (wi .i64 ((wi .i64 (s1.1 + 1)) + 1),(-1),s1.2.2)) else (getI a0 s1.2.2).bind fun x4=>bif x4.Done != (wi .i64 ((wi .i64 ((wi .i64 (s1.1 + 1)) + 1)) + 1)) then some (LO.ret (wi .i64 ((wi .i64 ((wi .i64 (s1.1 + 1)) + 1)) + 1),(-1),s1.2.2)) else some (LO.norm (wi .i64 ((wi .i64 ((wi .i64 ((wi .i64 (s1.1 + 1)) + 1)) + 1)) + 1),s1.2.1,wi .i64 (s1.2.2 + 1))) else some (LO.exit 0 (s1.1,s1.2.1,s1.2.2))
def m87 (a0:List TReplica) (a1:Int):Option (Int):=(loopO (ms87_0 a0) NN (a1,0,0)).bind (contO (fun _=>none) (fun i1 s2=>if i1 = 0 then some s2.1 else none) (fun s2=>some s2.2.1))
theorem w87 {d:Nat} (hd:1≤d) (k0:Bool) (a0:List TReplica) (a1:Int):Fit (R NN d 87 [.rsl k0 false (a0.map (Enc.cs k0)),.int .i64 a1] []) (m87 a0 a1) PI:=by
  obtain ⟨d,rfl,g⟩:=up hd
  refine q_in (t87 NN d _ _) ?_
  unfold b87 m87
  refine q_lp (A:=fun (s:Int×Int×Int)=>[.int .i64 s.1,.int .i64 s.2.1,.int .i64 s.2.2]) (B:=fun s=>[]) 0 rr ?_ ?_ ?_
  ·intro s1
   unfold s87_0 ms87_0
   exact q_len<|q_p fr<|q_i (q_ix rfl fun x1 hx1=>q_p fr<|q_p fr<|q_p fr<|q_i (q_lret 0 rr)<|q_p fr<|q_ix rfl fun x2 hx2=>q_p fr<|q_p fr<|q_p fr<|q_i (q_lret 0 rr)<|q_p fr<|q_ix rfl fun x3 hx3=>q_p fr<|q_p fr<|q_p fr<|q_i (q_lret 0 rr)<|q_p fr<|q_ix rfl fun x4 hx4=>q_p fr<|q_p fr<|q_p fr<|q_i (q_lret 0 rr)<|q_p fr<|q_p fr<|q_norm 0 rr)<|q_exit 0 rr
  ·exact fun i1 s2=>q_n (q_ret (cv_p rfl) rfl)<|q_none
  ·exact fun s2=>q_ret (cv_p rfl) rfl
def ms136_0 (a0:List TCert) (s1:Int×Int×Int):Option (LO (Int×Int×Int)):=bif decide (s1.2.2 < (a0.length:Int)) then (getI a0 s1.2.2).bind fun x1=>bif x1.Slot != s1.1 then some (LO.ret (s1.1,(-1),s1.2.2)) else (getI a0 s1.2.2).bind fun x2=>bif x2.View != (wi .i64 (s1.1 + 1)) then some (LO.ret (wi .i64 (s1.1 + 1),(-1),s1.2.2)) else (getI a0 s1.2.2).bind fun x3=>bif x3.Value != (wi .i64 ((wi .i64 (s1.1 + 1)) + 1)) then some (LO.ret (wi .i64 ((wi .i64 (s1.1 + 1)) + 1),(-1),s1.2.2)) else some (LO.norm (wi .i64 ((wi .i64 ((wi .i64 (s1.1 + 1)) + 1)) + 1),s1.2.1,wi .i64 (s1.2.2 + 1))) else some (LO.exit 0 (s1.1,s1.2.1,s1.2.2))
def m136 (a0:List TCert) (a1:Int):Option (Int):=(loopO (ms136_0 a0) NN (a1,0,0)).bind (contO (fun _=>none) (fun i1 s2=>if i1 = 0 then some s2.1 else none) (fun s2=>some s2.2.1))
theorem w136 {d:Nat} (hd:1≤d) (k0:Bool) (a0:List TCert) (a1:Int):Fit (R NN d 136 [.rsl k0 false (a0.map (Enc.cs k0)),.int .i64 a1] []) (m136 a0 a1) PI:=by
  obtain ⟨d,rfl,g⟩:=up hd
  refine q_in (t136 NN d _ _) ?_
  unfold b136 m136
  refine q_lp (A:=fun (s:Int×Int×Int)=>[.int .i64 s.1,.int .i64 s.2.1,.int .i64 s.2.2]) (B:=fun s=>[]) 0 rr ?_ ?_ ?_
  ·intro s1
   unfold s136_0 ms136_0
   exact q_len<|q_p fr<|q_i (q_ix rfl fun x1 hx1=>q_p fr<|q_p fr<|q_p fr<|q_i (q_lret 0 rr)<|q_p fr<|q_ix rfl fun x2 hx2=>q_p fr<|q_p fr<|q_p fr<|q_i (q_lret 0 rr)<|q_p fr<|q_ix rfl fun x3 hx3=>q_p fr<|q_p fr<|q_p fr<|q_i (q_lret 0 rr)<|q_p fr<|q_p fr<|q_norm 0 rr)<|q_exit 0 rr
  ·exact fun i1 s2=>q_n (q_ret (cv_p rfl) rfl)<|q_none
  ·exact fun s2=>q_ret (cv_p rfl) rfl
def ms88_0 (a0:List TMsg) (s1:Int×Int×Int):Option (LO (Int×Int×Int)):=bif decide (s1.2.2 < (a0.length:Int)) then (getI a0 s1.2.2).bind fun x1=>bif x1.Kind != s1.1 then some (LO.ret (s1.1,(-1),s1.2.2)) else (getI a0 s1.2.2).bind fun x2=>bif x2.View != (wi .i64 (s1.1 + 1)) then some (LO.ret (wi .i64 (s1.1 + 1),(-1),s1.2.2)) else (getI a0 s1.2.2).bind fun x3=>bif x3.From != (wi .i64 ((wi .i64 (s1.1 + 1)) + 1)) then some (LO.ret (wi .i64 ((wi .i64 (s1.1 + 1)) + 1),(-1),s1.2.2)) else (getI a0 s1.2.2).bind fun x4=>bif x4.Slot != (wi .i64 ((wi .i64 ((wi .i64 (s1.1 + 1)) + 1)) + 1)) then some (LO.ret (wi .i64 ((wi .i64 ((wi .i64 (s1.1 + 1)) + 1)) + 1),(-1),s1.2.2)) else (getI a0 s1.2.2).bind fun x5=>bif x5.Value != (wi .i64 ((wi .i64 ((wi .i64 ((wi .i64 (s1.1 + 1)) + 1)) + 1)) + 1)) then some (LO.ret (wi .i64 ((wi .i64 ((wi .i64 ((wi .i64 (s1.1 + 1)) + 1)) + 1)) + 1),(-1),s1.2.2)) else (getI a0 s1.2.2).bind fun x6=>(m136 x6.Certs (wi .i64 ((wi .i64 ((wi .i64 ((wi .i64 ((wi .i64 (s1.1 + 1)) + 1)) + 1)) + 1)) + 1))).bind fun y1=>bif decide (y1 < 0) then some (LO.ret (y1,(-1),s1.2.2)) else (getI a0 s1.2.2).bind fun x7=>(m86 x7.Refs y1).bind fun y2=>bif decide (y2 < 0) then some (LO.ret (y2,(-1),s1.2.2)) else some (LO.norm (y2,s1.2.1,wi .i64 (s1.2.2 + 1))) else some (LO.exit 0 (s1.1,s1.2.1,s1.2.2))
def m88 (a0:List TMsg) (a1:Int):Option (Int):=(loopO (ms88_0 a0) NN (a1,0,0)).bind (contO (fun _=>none) (fun i1 s2=>if i1 = 0 then some s2.1 else none) (fun s2=>some s2.2.1))
theorem w88 {d:Nat} (hd:2≤d) (k0:Bool) (a0:List TMsg) (a1:Int):Fit (R NN d 88 [.rsl k0 false (a0.map (Enc.cs k0)),.int .i64 a1] []) (m88 a0 a1) PI:=by
  obtain ⟨d,rfl,g⟩:=up hd
  refine q_in (t88 NN d _ _) ?_
  unfold b88 m88
  refine q_lp (A:=fun (s:Int×Int×Int)=>[.int .i64 s.1,.int .i64 s.2.1,.int .i64 s.2.2]) (B:=fun s=>[]) 0 rr ?_ ?_ ?_
  ·intro s1
   unfold s88_0 ms88_0
   exact q_len<|q_p fr<|q_i (q_ix rfl fun x1 hx1=>q_p fr<|q_p fr<|q_p fr<|q_i (q_lret 0 rr)<|q_p fr<|q_ix rfl fun x2 hx2=>q_p fr<|q_p fr<|q_p fr<|q_i (q_lret 0 rr)<|q_p fr<|q_ix rfl fun x3 hx3=>q_p fr<|q_p fr<|q_p fr<|q_i (q_lret 0 rr)<|q_p fr<|q_ix rfl fun x4 hx4=>q_p fr<|q_p fr<|q_p fr<|q_i (q_lret 0 rr)<|q_p fr<|q_ix rfl fun x5 hx5=>q_p fr<|q_p fr<|q_p fr<|q_i (q_lret 0 rr)<|q_p fr<|q_ix rfl fun x6 hx6=>q_p fr<|q_p fr<|q_c0 (aF2 cv_r (cv_p rfl) fun l0_ l1_=>w136 (by omega) l0_ x6.Certs (wi .i64 ((wi .i64 ((wi .i64 ((wi .i64 ((wi .i64 (s1.1 + 1)) + 1)) + 1)) + 1)) + 1))) fun y1 hy1=>q_p fr<|q_i (q_lret 0 rr)<|q_ix rfl fun x7 hx7=>q_p fr<|q_p fr<|q_c0 (aF2 cv_r (cv_p rfl) fun l0_ l1_=>w86 (by omega) l0_ x7.Refs y1) fun y2 hy2=>q_p fr<|q_i (q_lret 0 rr)<|q_p fr<|q_norm 0 rr)<|q_exit 0 rr
  ·exact fun i1 s2=>q_n (q_ret (cv_p rfl) rfl)<|q_none
  ·exact fun s2=>q_ret (cv_p rfl) rfl
def ms137_0 (a0:List TOp) (s1:Int×Int×Int):Option (LO (Int×Int×Int)):=bif decide (s1.2.2 < (a0.length:Int)) then (getI a0 s1.2.2).bind fun x1=>bif x1.Kind != s1.1 then some (LO.ret (s1.1,(-1),s1.2.2)) else (getI a0 s1.2.2).bind fun x2=>(m135 (wi .i64 (s1.1 + 1))).bind fun y1=>bif !(x2.Path == y1) then some (LO.ret (wi .i64 (s1.1 + 1),(-1),s1.2.2)) else (getI a0 s1.2.2).bind fun x3=>bif x3.Data != (wi .i64 ((wi .i64 (s1.1 + 1)) + 1)) then some (LO.ret (wi .i64 ((wi .i64 (s1.1 + 1)) + 1),(-1),s1.2.2)) else (getI a0 s1.2.2).bind fun x4=>bif x4.Version != (wi .i64 ((wi .i64 ((wi .i64 (s1.1 + 1)) + 1)) + 1)) then some (LO.ret (wi .i64 ((wi .i64 ((wi .i64 (s1.1 + 1)) + 1)) + 1),(-1),s1.2.2)) else (getI a0 s1.2.2).bind fun x5=>bif x5.Seq != ((Int.tmod (wi .i64 ((wi .i64 ((wi .i64 ((wi .i64 (s1.1 + 1)) + 1)) + 1)) + 1)) 3) == 0) then some (LO.ret (wi .i64 ((wi .i64 ((wi .i64 ((wi .i64 (s1.1 + 1)) + 1)) + 1)) + 1),(-1),s1.2.2)) else (getI a0 s1.2.2).bind fun x6=>bif x6.Own != ((Int.tmod (wi .i64 ((wi .i64 ((wi .i64 ((wi .i64 ((wi .i64 (s1.1 + 1)) + 1)) + 1)) + 1)) + 1)) 3) == 0) then some (LO.ret (wi .i64 ((wi .i64 ((wi .i64 ((wi .i64 ((wi .i64 (s1.1 + 1)) + 1)) + 1)) + 1)) + 1),(-1),s1.2.2)) else some (LO.norm (wi .i64 ((wi .i64 ((wi .i64 ((wi .i64 ((wi .i64 ((wi .i64 (s1.1 + 1)) + 1)) + 1)) + 1)) + 1)) + 1),s1.2.1,wi .i64 (s1.2.2 + 1))) else some (LO.exit 0 (s1.1,s1.2.1,s1.2.2))
def m137 (a0:List TOp) (a1:Int):Option (Int):=(loopO (ms137_0 a0) NN (a1,0,0)).bind (contO (fun _=>none) (fun i1 s2=>if i1 = 0 then some s2.1 else none) (fun s2=>some s2.2.1))
theorem w137 {d:Nat} (hd:2≤d) (k0:Bool) (a0:List TOp) (a1:Int):Fit (R NN d 137 [.rsl k0 false (a0.map (Enc.cs k0)),.int .i64 a1] []) (m137 a0 a1) PI:=by
  obtain ⟨d,rfl,g⟩:=up hd
  refine q_in (t137 NN d _ _) ?_
  unfold b137 m137
  refine q_lp (A:=fun (s:Int×Int×Int)=>[.int .i64 s.1,.int .i64 s.2.1,.int .i64 s.2.2]) (B:=fun s=>[]) 0 rr ?_ ?_ ?_
  ·intro s1
   unfold s137_0 ms137_0
   exact q_len<|q_p fr<|q_i (q_ix rfl fun x1 hx1=>q_p fr<|q_p fr<|q_p fr<|q_i (q_lret 0 rr)<|q_p fr<|q_ix rfl fun x2 hx2=>q_p fr<|q_p fr<|q_c0 (aF1 (cv_p rfl) fun l0_=>w135 (by omega) (wi .i64 (s1.1 + 1))) fun y1 hy1=>q_p (fun _=>seq_neq2)<|q_i (q_lret 0 rr)<|q_p fr<|q_ix rfl fun x3 hx3=>q_p fr<|q_p fr<|q_p fr<|q_i (q_lret 0 rr)<|q_p fr<|q_ix rfl fun x4 hx4=>q_p fr<|q_p fr<|q_p fr<|q_i (q_lret 0 rr)<|q_p fr<|q_ix rfl fun x5 hx5=>q_p fr<|q_p fr<|q_p fr<|q_p fr<|q_p (fun _=>bneq42 _ _)<|q_i (q_lret 0 rr)<|q_p fr<|q_ix rfl fun x6 hx6=>q_p fr<|q_p fr<|q_p fr<|q_p fr<|q_p (fun _=>bneq42 _ _)<|q_i (q_lret 0 rr)<|q_p fr<|q_p fr<|q_norm 0 rr)<|q_exit 0 rr
  ·exact fun i1 s2=>q_n (q_ret (cv_p rfl) rfl)<|q_none
  ·exact fun s2=>q_ret (cv_p rfl) rfl
def ms89_0 (a0:List TRequest) (s1:Int×Int×Int):Option (LO (Int×Int×Int)):=bif decide (s1.2.2 < (a0.length:Int)) then (getI a0 s1.2.2).bind fun x1=>bif x1.Client != s1.1 then some (LO.ret (s1.1,(-1),s1.2.2)) else (getI a0 s1.2.2).bind fun x2=>bif x2.Number != (wi .i64 (s1.1 + 1)) then some (LO.ret (wi .i64 (s1.1 + 1),(-1),s1.2.2)) else (getI a0 s1.2.2).bind fun x3=>bif x3.Time != (wi .i64 ((wi .i64 (s1.1 + 1)) + 1)) then some (LO.ret (wi .i64 ((wi .i64 (s1.1 + 1)) + 1),(-1),s1.2.2)) else (getI a0 s1.2.2).bind fun x4=>(m137 x4.Ops (wi .i64 ((wi .i64 ((wi .i64 (s1.1 + 1)) + 1)) + 1))).bind fun y1=>bif decide (y1 < 0) then some (LO.ret (y1,(-1),s1.2.2)) else some (LO.norm (y1,s1.2.1,wi .i64 (s1.2.2 + 1))) else some (LO.exit 0 (s1.1,s1.2.1,s1.2.2))
def m89 (a0:List TRequest) (a1:Int):Option (Int):=(loopO (ms89_0 a0) NN (a1,0,0)).bind (contO (fun _=>none) (fun i1 s2=>if i1 = 0 then some s2.1 else none) (fun s2=>some s2.2.1))
theorem w89 {d:Nat} (hd:3≤d) (k0:Bool) (a0:List TRequest) (a1:Int):Fit (R NN d 89 [.rsl k0 false (a0.map (Enc.cs k0)),.int .i64 a1] []) (m89 a0 a1) PI:=by
  obtain ⟨d,rfl,g⟩:=up hd
  refine q_in (t89 NN d _ _) ?_
  unfold b89 m89
  refine q_lp (A:=fun (s:Int×Int×Int)=>[.int .i64 s.1,.int .i64 s.2.1,.int .i64 s.2.2]) (B:=fun s=>[]) 0 rr ?_ ?_ ?_
  ·intro s1
   unfold s89_0 ms89_0
   exact q_len<|q_p fr<|q_i (q_ix rfl fun x1 hx1=>q_p fr<|q_p fr<|q_p fr<|q_i (q_lret 0 rr)<|q_p fr<|q_ix rfl fun x2 hx2=>q_p fr<|q_p fr<|q_p fr<|q_i (q_lret 0 rr)<|q_p fr<|q_ix rfl fun x3 hx3=>q_p fr<|q_p fr<|q_p fr<|q_i (q_lret 0 rr)<|q_p fr<|q_ix rfl fun x4 hx4=>q_p fr<|q_p fr<|q_c0 (aF2 cv_r (cv_p rfl) fun l0_ l1_=>w137 (by omega) l0_ x4.Ops (wi .i64 ((wi .i64 ((wi .i64 (s1.1 + 1)) + 1)) + 1))) fun y1 hy1=>q_p fr<|q_i (q_lret 0 rr)<|q_p fr<|q_norm 0 rr)<|q_exit 0 rr
  ·exact fun i1 s2=>q_n (q_ret (cv_p rfl) rfl)<|q_none
  ·exact fun s2=>q_ret (cv_p rfl) rfl
def m43 (a0:TCluster) (a1:Int):Option (Int):=(m86 a0.Bad a1).bind fun y1=>bif decide (y1 < 0) then some (-1) else (m87 a0.Replicas y1).bind fun y2=>bif decide (y2 < 0) then some (-1) else (m88 a0.Ledger y2).bind fun y3=>bif decide (y3 < 0) then some (-1) else (m89 a0.Requests y3).bind fun y4=>bif decide (y4 < 0) then some (-1) else some y4
theorem w43 {d:Nat} (hd:4≤d) (k0:Bool) (a0:TCluster) (a1:Int):Fit (R NN d 43 [.agg (Enc.cs k0 a0),.int .i64 a1] []) (m43 a0 a1) PI:=by
  obtain ⟨d,rfl,g⟩:=up hd
  refine q_in (t43 NN d _ _) ?_
  unfold b43 m43
  exact q_box (n:=5) rfl rfl (by decide) fun b1=>q_p fr<|q_ld 0 rfl rfl<|q_c0 (aF2 cv_r (cv_p rfl) fun l0_ l1_=>w86 (by omega) l0_ a0.Bad a1) fun y1 hy1=>q_p fr<|q_i (q_ret (cv_p rfl) rfl)<|q_p fr<|q_ld 0 rfl rfl<|q_c0 (aF2 cv_r (cv_p rfl) fun l0_ l1_=>w87 (by omega) l0_ a0.Replicas y1) fun y2 hy2=>q_p fr<|q_i (q_ret (cv_p rfl) rfl)<|q_p fr<|q_ld 0 rfl rfl<|q_c0 (aF2 cv_r (cv_p rfl) fun l0_ l1_=>w88 (by omega) l0_ a0.Ledger y2) fun y3 hy3=>q_p fr<|q_i (q_ret (cv_p rfl) rfl)<|q_p fr<|q_ld 0 rfl rfl<|q_c0 (aF2 cv_r (cv_p rfl) fun l0_ l1_=>w89 (by omega) l0_ a0.Requests y3) fun y4 hy4=>q_p fr<|q_i (q_ret (cv_p rfl) rfl)<|q_ret (cv_p rfl) rfl
def m16 (a0:TClusterResult) (a1:Int):Option (Int):=(m43 a0.Cluster a1).bind fun y1=>bif decide (y1 < 0) then some (-1) else some y1
theorem w16 {d:Nat} (hd:5≤d) (k0:Bool) (a0:TClusterResult) (a1:Int):Fit (R NN d 16 [.agg (Enc.cs k0 a0),.int .i64 a1] []) (m16 a0 a1) PI:=by
  obtain ⟨d,rfl,g⟩:=up hd
  refine q_in (t16 NN d _ _) ?_
  unfold b16 m16
  exact q_box (n:=6) rfl rfl (by decide) fun b1=>q_p fr<|q_lda 0 rfl rfl rfl<|q_c0 (aF2 (cv_a (cvs_e (l0:=k0) (x:=a0.Cluster))) (cv_p rfl) fun l0_ l1_=>w43 (by omega) l0_ a0.Cluster a1) fun y1 hy1=>q_p fr<|q_i (q_ret (cv_p rfl) rfl)<|q_ret (cv_p rfl) rfl
def m4 (a0:TCluster) (a1:Int) (a2:Int):Option (Bool):=(m5 a0 1048576).bind fun y1=>bif decide (y1 < 0) then some true else (m7 a0).bind fun y2=>(m11 y2 a1 a2).bind fun y3=>(m7 a0).bind fun y4=>(m12 y4 a1 a2).bind fun y5=>(m13 y5 y3).bind fun y6=>bif !y6 then some false else (m7 a0).bind fun y7=>(m10 y4 y7).bind fun y8=>bif !y8 then some false else (m14 y4 1).bind fun y9=>( bif decide (y9.1 < 0) then some (LO.ret false) else (m13 y5 y3).bind fun y10=>bif !y10 then some (LO.ret false) else some (LO.norm false)).bind (contO (fun s2=>(m15 y5 1).bind fun y11=>(m16 y11.2 1).bind fun y12=>bif decide (y12 < 0) then some false else bif y12 != y11.1 then some false else (m7 a0).bind fun y13=>(m12 y13 a1 a2).bind fun y14=>(m13 y14 y3).bind fun y15=>bif !y15 then some false else (m16 y11.2 1).bind fun y16=>bif decide (y16 < 0) then some false else bif y16 != y11.1 then some false else some true) (fun i4 s2=>none) (fun s2=>some s2))
theorem w4 {d:Nat} (hd:160≤d) (k0:Bool) (a0:TCluster) (a1:Int) (a2:Int):Fit (R NN d 4 [.agg (Enc.cs k0 a0),.int .i64 a1,.int .i64 a2] []) (m4 a0 a1 a2) PB:=by
  obtain ⟨d,rfl,g⟩:=up hd
  refine q_in (t4 NN d _ _ _) ?_
  unfold b4 m4
  refine q_box (n:=5) rfl rfl (by decide) fun b1=>q_lda 0 rfl rfl rfl<|q_c0 (aF2 (cv_a (cvs_e (l0:=k0) (x:=a0))) (cv_p rfl) fun l0_ l1_=>w5 (by omega) l0_ a0 1048576) fun y1 hy1=>q_p fr<|q_i ?_ ?_
  ·exact q_ret (cv_p rfl) rfl
  ·refine q_lda 0 rfl rfl rfl<|q_c1 (W:=AV.agg) (mg:=m7 a0) sh_agg (aF1 (cv_a (cvs_e (l0:=k0) (x:=a0))) fun l0_=>w7 (by omega) l0_ a0) fun y2 hy2 i1 cs1=>q_cx (fun S hS=>trx36 (hS.get (k:=0) rfl)) fun hcs_=>?_
   obtain ⟨v1,v2,v3,v4,rfl⟩:=hcs_
   refine q_c0 (aF3 (cv_a (cvs_tr 0 rfl)) (cv_p rfl) (cv_p rfl) fun l0_ l1_ l2_=>w11 (by omega) l0_ y2 a1 a2) fun y3 hy3=>q_new rfl fun b2=>q_st 0 rfl rfl rfl (by decide) rfl<|q_lda 2 rfl rfl rfl<|q_c1 (W:=AV.agg) (mg:=m7 a0) sh_agg (aF1 (cv_a (cvs_e (l0:=k0) (x:=a0))) fun l0_=>w7 (by omega) l0_ a0) fun y4 hy4 i2 cs2=>q_cx (fun S hS=>trx36 (hS.get (k:=0) rfl)) fun hcs_=>?_
   obtain ⟨v5,v6,v7,v8,rfl⟩:=hcs_
   refine q_new rfl fun b3=>q_st 0 rfl rfl rfl (by decide) rfl<|q_lda 0 rfl rfl rfl<|q_c1 (W:=AV.agg) (mg:=m12 y4 a1 a2) sh_agg (aF3 (cv_a (cvs_tr 1 rfl)) (cv_p rfl) (cv_p rfl) fun l0_ l1_ l2_=>w12 (by omega) l0_ y4 a1 a2) fun y5 hy5 i3 cs3=>q_cx (fun S hS=>trx42 (hS.get (k:=0) rfl)) fun hcs_=>?_
   obtain ⟨v9,v10,v11,v12,rfl⟩:=hcs_
   refine q_new rfl fun b4=>q_st 0 rfl rfl rfl (by decide) rfl<|q_lda 0 rfl rfl rfl<|q_lda 4 rfl rfl rfl<|q_c0 (aF2 (cv_a (cvs_tr 1 rfl)) (cv_a (cvs_e (l0:=false) (x:=y3))) fun l0_ l1_=>w13 (by omega) l0_ y5 l1_ y3) fun y6 hy6=>q_p fr<|q_i ?_ ?_
   ·exact q_ret (cv_p rfl) rfl
   ·refine q_lda 2 rfl rfl rfl<|q_lda 6 rfl rfl rfl<|q_c0 (aF1 (cv_a (cvs_e (l0:=k0) (x:=a0))) fun l0_=>w7f (by omega) l0_ a0) fun y7 hy7=>q_c0 (aF2 (cv_a (cvs_tr 3 rfl)) (cv_a (cvs_e (l0:=false) (x:=y7))) fun l0_ l1_=>w10 (by omega) l0_ y4 l1_ y7) fun y8 hy8=>q_p fr<|q_i ?_ ?_
    ·exact q_ret (cv_p rfl) rfl
    ·refine q_lda 2 rfl rfl rfl<|q_sel 7 [3,0,1,2,4,5,6] (by decide) (by decide)<|q_s (mg:=m14 y4 1) (w14 (by omega) _ i2 (.int .i64 y4.F) v5 v6 v7 v8 y4 1) fun y9 hy9=>q_cu (A:=fun (s:Bool)=>[.bool s]) (B:=fun s=>[tr i2 [.int .i64 y4.F,v5,v6,v7,v8] (y9.2:TCluster),bx b4 [.int .i64 y5.Code,.int .i64 y5.Cluster.F,v9,v10,v11,v12],tr i3 [.int .i64 y5.Code,.int .i64 y5.Cluster.F,v9,v10,v11,v12] (y5:TClusterResult),bx b3 [.int .i64 y4.F,v5,v6,v7,v8],bx b2 [.int .i64 y3.Code,.int .i64 y3.Cluster.F,.rsl false false (y3.Cluster.Bad.map (Enc.cs false)),.rsl false false (y3.Cluster.Replicas.map (Enc.cs false)),.rsl false false (y3.Cluster.Ledger.map (Enc.cs false)),.rsl false false (y3.Cluster.Requests.map (Enc.cs false))],tr i1 [.int .i64 y2.F,v1,v2,v3,v4] (y2:TCluster),bx b1 [.int .i64 a0.F,.rsl k0 false (a0.Bad.map (Enc.cs k0)),.rsl k0 false (a0.Replicas.map (Enc.cs k0)),.rsl k0 false (a0.Ledger.map (Enc.cs k0)),.rsl k0 false (a0.Requests.map (Enc.cs k0))]]) ?_ ?_ ?_ ?_
     ·refine q_p fr<|q_j ?_ ?_
      ·first | refine q_ifT1 ?_ | skip
       exact q_lret 0 rr
      ·exact q_lda 1 rfl rfl rfl<|q_lda 4 rfl rfl rfl<|q_c0 (aF2 (cv_a (cvs_tr 2 rfl)) (cv_a (cvs_e (l0:=false) (x:=y3))) fun l0_ l1_=>w13 (by omega) l0_ y5 l1_ y3) fun y10 hy10=>q_p fr<|q_i (q_lret 0 rr)<|q_norm 0 rr
     ·intro s2
      refine q_lda 1 rfl rfl rfl<|q_sel 7 [2,0,1,3,4,5,6] (by decide) (by decide)<|q_s (mg:=m15 y5 1) (w15 (by omega) _ i3 (.int .i64 y5.Code) (.int .i64 y5.Cluster.F) v9 v10 v11 v12 y5 1) fun y11 hy11=>q_lda 2 rfl rfl rfl<|q_c0 (aF2 (cv_a (cvs_tr 0 rfl)) (cv_p rfl) fun l0_ l1_=>w16 (by omega) l0_ y11.2 1) fun y12 hy12=>q_p fr<|q_i ?_ ?_
      ·exact q_ret (cv_p rfl) rfl
      ·refine q_p fr<|q_i ?_ ?_
       ·exact q_ret (cv_p rfl) rfl
       ·refine q_lda 6 rfl rfl rfl<|q_c1 (W:=AV.agg) (mg:=m7 a0) sh_agg (aF1 (cv_a (cvs_e (l0:=k0) (x:=a0))) fun l0_=>w7 (by omega) l0_ a0) fun y13 hy13 i5 cs4=>q_cx (fun S hS=>trx36 (hS.get (k:=0) rfl)) fun hcs_=>?_
        obtain ⟨v13,v14,v15,v16,rfl⟩:=hcs_
        refine q_c1 (W:=AV.agg) (mg:=m12 y13 a1 a2) sh_agg (aF3 (cv_a (cvs_tr 0 rfl)) (cv_p rfl) (cv_p rfl) fun l0_ l1_ l2_=>w12 (by omega) l0_ y13 a1 a2) fun y14 hy14 i6 cs5=>q_cx (fun S hS=>trx42 (hS.get (k:=0) rfl)) fun hcs_=>?_
        obtain ⟨v17,v18,v19,v20,rfl⟩:=hcs_
        exact q_new rfl fun b5=>q_st 0 rfl rfl rfl (by decide) rfl<|q_lda 0 rfl rfl rfl<|q_lda 7 rfl rfl rfl<|q_c0 (aF2 (cv_a (cvs_tr 1 rfl)) (cv_a (cvs_e (l0:=false) (x:=y3))) fun l0_ l1_=>w13 (by omega) l0_ y14 l1_ y3) fun y15 hy15=>q_p fr<|q_i (q_ret (cv_p rfl) rfl)<|q_lda 5 rfl rfl rfl<|q_c0 (aF2 (cv_a (cvs_tr 3 rfl)) (cv_p rfl) fun l0_ l1_=>w16 (by omega) l0_ y11.2 1) fun y16 hy16=>q_p fr<|q_i (q_ret (cv_p rfl) rfl)<|q_p fr<|q_i (q_ret (cv_p rfl) rfl)<|q_ret (cv_p rfl) rfl
     ·exact fun i4 s2=>q_none
     ·exact fun s2=>q_ret (cv_p rfl) rfl
end
end Go.Proofs.YtifocmbeahpopaaGreatDoor
