/- Plain functions, and that the evaluator computes them. -/
import Derived.Test.YtmjibndicekcaaaGreatDoorW2
namespace Go.Proofs.YtmjibndicekcaaaGreatDoor
open Go Go.Rf
set_option linter.unusedVariables false
set_option linter.unusedSimpArgs false
noncomputable section
def m10 (a0:TCluster) (a1:Int):Option (Int×TCluster):=(m32 a0.Bad a1).bind fun y1=>letO ({ a0 with Bad:=y1.2 }) fun z1=>(m33 z1.Replicas y1.1).bind fun y2=>letO ({ z1 with Replicas:=y2.2 }) fun z2=>(m34 z2.Ledger y2.1).bind fun y3=>letO ({ z2 with Ledger:=y3.2 }) fun z3=>(m35 z3.Requests y3.1).bind fun y4=>letO ({ z3 with Requests:=y4.2 }) fun z4=>some (y4.1,z4)
theorem w10 {d:Nat} (hd:4≤d) (L0:List En) (i0_:List Nat) (c0_0 c0_1 c0_2 c0_3 c0_4:AV) (a0:TCluster) (a1:Int):Okh (tr i0_ [c0_0,c0_1,c0_2,c0_3,c0_4] (a0:TCluster)::L0) (fun S=>R NN d 10 [.agg [c0_0,c0_1,c0_2,c0_3,c0_4],.int .i64 a1] S) (m10 a0 a1) (P2 (fun (t:Int×TCluster)=>AV.int .i64 t.1) (fun (t:Int×TCluster)=>tr i0_ [c0_0,c0_1,c0_2,c0_3,c0_4] t.2::L0)):=by
  obtain ⟨d,rfl,g⟩:=up hd
  refine q_to (t10 NN d _ _) ?_
  unfold b10 m10
  exact q_box (n:=5) rfl rfl (by decide) fun b1=>q_p fr<|q_ld 0 rfl rfl<|q_sel 2 [1,0] (by decide) (by decide)<|q_prt fo33_Bad rfl fun ic1=>q_s (mg:=m32 a0.Bad a1) (w32 (by omega) _ ic1 c0_1 a0.Bad a1) fun y1 hy1=>q_putl fun z1 hz1=>q_p fr<|q_ld 1 rfl rfl<|q_prt fo33_Replicas rfl fun ic2=>q_s (mg:=m33 z1.Replicas y1.1) (w33 (by omega) _ ic2 c0_2 z1.Replicas y1.1) fun y2 hy2=>q_putl fun z2 hz2=>q_p fr<|q_ld 1 rfl rfl<|q_prt fo33_Ledger rfl fun ic3=>q_s (mg:=m34 z2.Ledger y2.1) (w34 (by omega) _ ic3 c0_3 z2.Ledger y2.1) fun y3 hy3=>q_putl fun z3 hz3=>q_p fr<|q_ld 1 rfl rfl<|q_prt fo33_Requests rfl fun ic4=>q_s (mg:=m35 z3.Requests y3.1) (w35 (by omega) _ ic4 c0_4 z3.Requests y3.1) fun y4 hy4=>q_putl fun z4 hz4=>q_sel 2 [1,0] (by decide) (by decide)<|q_ret2 1 rfl rfl
def m11 (a0:TClusterResult) (a1:Int):Option (Int×TClusterResult):=(m10 a0.Cluster a1).bind fun y1=>letO ({ a0 with Cluster:=y1.2 }) fun z1=>some (y1.1,z1)
theorem w11 {d:Nat} (hd:5≤d) (L0:List En) (i0_:List Nat) (c0_0 c0_1 c0_2 c0_3 c0_4 c0_5:AV) (a0:TClusterResult) (a1:Int):Okh (tr i0_ [c0_0,c0_1,c0_2,c0_3,c0_4,c0_5] (a0:TClusterResult)::L0) (fun S=>R NN d 11 [.agg [c0_0,c0_1,c0_2,c0_3,c0_4,c0_5],.int .i64 a1] S) (m11 a0 a1) (P2 (fun (t:Int×TClusterResult)=>AV.int .i64 t.1) (fun (t:Int×TClusterResult)=>tr i0_ [c0_0,c0_1,c0_2,c0_3,c0_4,c0_5] t.2::L0)):=by
  obtain ⟨d,rfl,g⟩:=up hd
  refine q_to (t11 NN d _ _) ?_
  unfold b11 m11
  exact q_box (n:=6) rfl rfl (by decide) fun b1=>q_p fr<|q_lda 0 rfl rfl rfl<|q_sel 2 [1,0] (by decide) (by decide)<|q_prt fo35_Cluster rfl fun ic1=>q_s (mg:=m10 a0.Cluster a1) (w10 (by omega) _ ic1 c0_1 c0_2 c0_3 c0_4 c0_5 a0.Cluster a1) fun y1 hy1=>q_putl fun z1 hz1=>q_sel 2 [1,0] (by decide) (by decide)<|q_ret2 1 rfl rfl
def ms62_0 (a0:List Int) (s1:Int×Int×Int):Option (LO (Int×Int×Int)):=bif decide (s1.2.2 < (a0.length:Int)) then (getI a0 s1.2.2).bind fun x1=>bif x1 != s1.1 then some (LO.ret (s1.1,(-1),s1.2.2)) else some (LO.norm (wi .i64 (s1.1 + 1),s1.2.1,wi .i64 (s1.2.2 + 1))) else some (LO.exit 0 (s1.1,s1.2.1,s1.2.2))
def m62 (a0:List Int) (a1:Int):Option (Int):=(loopO (ms62_0 a0) NN (a1,0,0)).bind (contO (fun _=>none) (fun i1 s2=>if i1 = 0 then some s2.1 else none) (fun s2=>some s2.2.1))
theorem w62 {d:Nat} (hd:1≤d) (k0:Bool) (a0:List Int) (a1:Int):Fit (R NN d 62 [.rsl k0 false (a0.map (Enc.cs k0)),.int .i64 a1] []) (m62 a0 a1) PI:=by
  obtain ⟨d,rfl,g⟩:=up hd
  refine q_in (t62 NN d _ _) ?_
  unfold b62 m62
  refine q_lp (A:=fun (s:Int×Int×Int)=>[.int .i64 s.1,.int .i64 s.2.1,.int .i64 s.2.2]) (B:=fun s=>[]) 0 rr ?_ ?_ ?_
  ·intro s1
   unfold s62_0 ms62_0
   exact q_len<|q_p fr<|q_i (q_ix rfl fun x1 hx1=>q_p fr<|q_p fr<|q_i (q_lret 0 rr)<|q_p fr<|q_p fr<|q_norm 0 rr)<|q_exit 0 rr
  ·exact fun i1 s2=>q_n (q_ret (cv_p rfl) rfl)<|q_none
  ·exact fun s2=>q_ret (cv_p rfl) rfl
def ms63_0 (a0:List TReplica) (s1:Int×Int×Int):Option (LO (Int×Int×Int)):=bif decide (s1.2.2 < (a0.length:Int)) then (getI a0 s1.2.2).bind fun x1=>bif x1.Id != s1.1 then some (LO.ret (s1.1,(-1),s1.2.2)) else (getI a0 s1.2.2).bind fun x2=>bif x2.View != (wi .i64 (s1.1 + 1)) then some (LO.ret (wi .i64 (s1.1 + 1),(-1),s1.2.2)) else (getI a0 s1.2.2).bind fun x3=>bif x3.Start != (wi .i64 ((wi .i64 (s1.1 + 1)) + 1)) then some (LO.ret (wi .i64 ((wi .i64 (s1.1 + 1)) + 1),(-1),s1.2.2)) else (getI a0 s1.2.2).bind fun x4=>bif x4.Done != (wi .i64 ((wi .i64 ((wi .i64 (s1.1 + 1)) + 1)) + 1)) then some (LO.ret (wi .i64 ((wi .i64 ((wi .i64 (s1.1 + 1)) + 1)) + 1),(-1),s1.2.2)) else some (LO.norm (wi .i64 ((wi .i64 ((wi .i64 ((wi .i64 (s1.1 + 1)) + 1)) + 1)) + 1),s1.2.1,wi .i64 (s1.2.2 + 1))) else some (LO.exit 0 (s1.1,s1.2.1,s1.2.2))
def m63 (a0:List TReplica) (a1:Int):Option (Int):=(loopO (ms63_0 a0) NN (a1,0,0)).bind (contO (fun _=>none) (fun i1 s2=>if i1 = 0 then some s2.1 else none) (fun s2=>some s2.2.1))
theorem w63 {d:Nat} (hd:1≤d) (k0:Bool) (a0:List TReplica) (a1:Int):Fit (R NN d 63 [.rsl k0 false (a0.map (Enc.cs k0)),.int .i64 a1] []) (m63 a0 a1) PI:=by
  obtain ⟨d,rfl,g⟩:=up hd
  refine q_in (t63 NN d _ _) ?_
  unfold b63 m63
  refine q_lp (A:=fun (s:Int×Int×Int)=>[.int .i64 s.1,.int .i64 s.2.1,.int .i64 s.2.2]) (B:=fun s=>[]) 0 rr ?_ ?_ ?_
  ·intro s1
   unfold s63_0 ms63_0
   exact q_len<|q_p fr<|q_i (q_ix rfl fun x1 hx1=>q_p fr<|q_p fr<|q_p fr<|q_i (q_lret 0 rr)<|q_p fr<|q_ix rfl fun x2 hx2=>q_p fr<|q_p fr<|q_p fr<|q_i (q_lret 0 rr)<|q_p fr<|q_ix rfl fun x3 hx3=>q_p fr<|q_p fr<|q_p fr<|q_i (q_lret 0 rr)<|q_p fr<|q_ix rfl fun x4 hx4=>q_p fr<|q_p fr<|q_p fr<|q_i (q_lret 0 rr)<|q_p fr<|q_p fr<|q_norm 0 rr)<|q_exit 0 rr
  ·exact fun i1 s2=>q_n (q_ret (cv_p rfl) rfl)<|q_none
  ·exact fun s2=>q_ret (cv_p rfl) rfl
def ms93_0 (a0:List TCert) (s1:Int×Int×Int):Option (LO (Int×Int×Int)):=bif decide (s1.2.2 < (a0.length:Int)) then (getI a0 s1.2.2).bind fun x1=>bif x1.Slot != s1.1 then some (LO.ret (s1.1,(-1),s1.2.2)) else (getI a0 s1.2.2).bind fun x2=>bif x2.View != (wi .i64 (s1.1 + 1)) then some (LO.ret (wi .i64 (s1.1 + 1),(-1),s1.2.2)) else (getI a0 s1.2.2).bind fun x3=>bif x3.Value != (wi .i64 ((wi .i64 (s1.1 + 1)) + 1)) then some (LO.ret (wi .i64 ((wi .i64 (s1.1 + 1)) + 1),(-1),s1.2.2)) else some (LO.norm (wi .i64 ((wi .i64 ((wi .i64 (s1.1 + 1)) + 1)) + 1),s1.2.1,wi .i64 (s1.2.2 + 1))) else some (LO.exit 0 (s1.1,s1.2.1,s1.2.2))
def m93 (a0:List TCert) (a1:Int):Option (Int):=(loopO (ms93_0 a0) NN (a1,0,0)).bind (contO (fun _=>none) (fun i1 s2=>if i1 = 0 then some s2.1 else none) (fun s2=>some s2.2.1))
theorem w93 {d:Nat} (hd:1≤d) (k0:Bool) (a0:List TCert) (a1:Int):Fit (R NN d 93 [.rsl k0 false (a0.map (Enc.cs k0)),.int .i64 a1] []) (m93 a0 a1) PI:=by
  obtain ⟨d,rfl,g⟩:=up hd
  refine q_in (t93 NN d _ _) ?_
  unfold b93 m93
  refine q_lp (A:=fun (s:Int×Int×Int)=>[.int .i64 s.1,.int .i64 s.2.1,.int .i64 s.2.2]) (B:=fun s=>[]) 0 rr ?_ ?_ ?_
  ·intro s1
   unfold s93_0 ms93_0
   exact q_len<|q_p fr<|q_i (q_ix rfl fun x1 hx1=>q_p fr<|q_p fr<|q_p fr<|q_i (q_lret 0 rr)<|q_p fr<|q_ix rfl fun x2 hx2=>q_p fr<|q_p fr<|q_p fr<|q_i (q_lret 0 rr)<|q_p fr<|q_ix rfl fun x3 hx3=>q_p fr<|q_p fr<|q_p fr<|q_i (q_lret 0 rr)<|q_p fr<|q_p fr<|q_norm 0 rr)<|q_exit 0 rr
  ·exact fun i1 s2=>q_n (q_ret (cv_p rfl) rfl)<|q_none
  ·exact fun s2=>q_ret (cv_p rfl) rfl
def ms64_0 (a0:List TMsg) (s1:Int×Int×Int):Option (LO (Int×Int×Int)):=bif decide (s1.2.2 < (a0.length:Int)) then (getI a0 s1.2.2).bind fun x1=>bif x1.Kind != s1.1 then some (LO.ret (s1.1,(-1),s1.2.2)) else (getI a0 s1.2.2).bind fun x2=>bif x2.View != (wi .i64 (s1.1 + 1)) then some (LO.ret (wi .i64 (s1.1 + 1),(-1),s1.2.2)) else (getI a0 s1.2.2).bind fun x3=>bif x3.From != (wi .i64 ((wi .i64 (s1.1 + 1)) + 1)) then some (LO.ret (wi .i64 ((wi .i64 (s1.1 + 1)) + 1),(-1),s1.2.2)) else (getI a0 s1.2.2).bind fun x4=>bif x4.Slot != (wi .i64 ((wi .i64 ((wi .i64 (s1.1 + 1)) + 1)) + 1)) then some (LO.ret (wi .i64 ((wi .i64 ((wi .i64 (s1.1 + 1)) + 1)) + 1),(-1),s1.2.2)) else (getI a0 s1.2.2).bind fun x5=>bif x5.Value != (wi .i64 ((wi .i64 ((wi .i64 ((wi .i64 (s1.1 + 1)) + 1)) + 1)) + 1)) then some (LO.ret (wi .i64 ((wi .i64 ((wi .i64 ((wi .i64 (s1.1 + 1)) + 1)) + 1)) + 1),(-1),s1.2.2)) else (getI a0 s1.2.2).bind fun x6=>(m93 x6.Certs (wi .i64 ((wi .i64 ((wi .i64 ((wi .i64 ((wi .i64 (s1.1 + 1)) + 1)) + 1)) + 1)) + 1))).bind fun y1=>bif decide (y1 < 0) then some (LO.ret (y1,(-1),s1.2.2)) else (getI a0 s1.2.2).bind fun x7=>(m62 x7.Refs y1).bind fun y2=>bif decide (y2 < 0) then some (LO.ret (y2,(-1),s1.2.2)) else some (LO.norm (y2,s1.2.1,wi .i64 (s1.2.2 + 1))) else some (LO.exit 0 (s1.1,s1.2.1,s1.2.2))
def m64 (a0:List TMsg) (a1:Int):Option (Int):=(loopO (ms64_0 a0) NN (a1,0,0)).bind (contO (fun _=>none) (fun i1 s2=>if i1 = 0 then some s2.1 else none) (fun s2=>some s2.2.1))
theorem w64 {d:Nat} (hd:2≤d) (k0:Bool) (a0:List TMsg) (a1:Int):Fit (R NN d 64 [.rsl k0 false (a0.map (Enc.cs k0)),.int .i64 a1] []) (m64 a0 a1) PI:=by
  obtain ⟨d,rfl,g⟩:=up hd
  refine q_in (t64 NN d _ _) ?_
  unfold b64 m64
  refine q_lp (A:=fun (s:Int×Int×Int)=>[.int .i64 s.1,.int .i64 s.2.1,.int .i64 s.2.2]) (B:=fun s=>[]) 0 rr ?_ ?_ ?_
  ·intro s1
   unfold s64_0 ms64_0
   exact q_len<|q_p fr<|q_i (q_ix rfl fun x1 hx1=>q_p fr<|q_p fr<|q_p fr<|q_i (q_lret 0 rr)<|q_p fr<|q_ix rfl fun x2 hx2=>q_p fr<|q_p fr<|q_p fr<|q_i (q_lret 0 rr)<|q_p fr<|q_ix rfl fun x3 hx3=>q_p fr<|q_p fr<|q_p fr<|q_i (q_lret 0 rr)<|q_p fr<|q_ix rfl fun x4 hx4=>q_p fr<|q_p fr<|q_p fr<|q_i (q_lret 0 rr)<|q_p fr<|q_ix rfl fun x5 hx5=>q_p fr<|q_p fr<|q_p fr<|q_i (q_lret 0 rr)<|q_p fr<|q_ix rfl fun x6 hx6=>q_p fr<|q_p fr<|q_c0 (aF2 cv_r (cv_p rfl) fun l0_ l1_=>w93 (by omega) l0_ x6.Certs (wi .i64 ((wi .i64 ((wi .i64 ((wi .i64 ((wi .i64 (s1.1 + 1)) + 1)) + 1)) + 1)) + 1))) fun y1 hy1=>q_p fr<|q_i (q_lret 0 rr)<|q_ix rfl fun x7 hx7=>q_p fr<|q_p fr<|q_c0 (aF2 cv_r (cv_p rfl) fun l0_ l1_=>w62 (by omega) l0_ x7.Refs y1) fun y2 hy2=>q_p fr<|q_i (q_lret 0 rr)<|q_p fr<|q_norm 0 rr)<|q_exit 0 rr
  ·exact fun i1 s2=>q_n (q_ret (cv_p rfl) rfl)<|q_none
  ·exact fun s2=>q_ret (cv_p rfl) rfl
def ms94_0 (a0:List TOp) (s1:Int×Int×Int):Option (LO (Int×Int×Int)):=bif decide (s1.2.2 < (a0.length:Int)) then (getI a0 s1.2.2).bind fun x1=>bif x1.Kind != s1.1 then some (LO.ret (s1.1,(-1),s1.2.2)) else (getI a0 s1.2.2).bind fun x2=>(m92 (wi .i64 (s1.1 + 1))).bind fun y1=>bif !(x2.Path == y1) then some (LO.ret (wi .i64 (s1.1 + 1),(-1),s1.2.2)) else (getI a0 s1.2.2).bind fun x3=>bif x3.Data != (wi .i64 ((wi .i64 (s1.1 + 1)) + 1)) then some (LO.ret (wi .i64 ((wi .i64 (s1.1 + 1)) + 1),(-1),s1.2.2)) else (getI a0 s1.2.2).bind fun x4=>bif x4.Version != (wi .i64 ((wi .i64 ((wi .i64 (s1.1 + 1)) + 1)) + 1)) then some (LO.ret (wi .i64 ((wi .i64 ((wi .i64 (s1.1 + 1)) + 1)) + 1),(-1),s1.2.2)) else (getI a0 s1.2.2).bind fun x5=>bif x5.Seq != ((Int.tmod (wi .i64 ((wi .i64 ((wi .i64 ((wi .i64 (s1.1 + 1)) + 1)) + 1)) + 1)) 3) == 0) then some (LO.ret (wi .i64 ((wi .i64 ((wi .i64 ((wi .i64 (s1.1 + 1)) + 1)) + 1)) + 1),(-1),s1.2.2)) else (getI a0 s1.2.2).bind fun x6=>bif x6.Own != ((Int.tmod (wi .i64 ((wi .i64 ((wi .i64 ((wi .i64 ((wi .i64 (s1.1 + 1)) + 1)) + 1)) + 1)) + 1)) 3) == 0) then some (LO.ret (wi .i64 ((wi .i64 ((wi .i64 ((wi .i64 ((wi .i64 (s1.1 + 1)) + 1)) + 1)) + 1)) + 1),(-1),s1.2.2)) else some (LO.norm (wi .i64 ((wi .i64 ((wi .i64 ((wi .i64 ((wi .i64 ((wi .i64 (s1.1 + 1)) + 1)) + 1)) + 1)) + 1)) + 1),s1.2.1,wi .i64 (s1.2.2 + 1))) else some (LO.exit 0 (s1.1,s1.2.1,s1.2.2))
def m94 (a0:List TOp) (a1:Int):Option (Int):=(loopO (ms94_0 a0) NN (a1,0,0)).bind (contO (fun _=>none) (fun i1 s2=>if i1 = 0 then some s2.1 else none) (fun s2=>some s2.2.1))
theorem w94 {d:Nat} (hd:2≤d) (k0:Bool) (a0:List TOp) (a1:Int):Fit (R NN d 94 [.rsl k0 false (a0.map (Enc.cs k0)),.int .i64 a1] []) (m94 a0 a1) PI:=by
  obtain ⟨d,rfl,g⟩:=up hd
  refine q_in (t94 NN d _ _) ?_
  unfold b94 m94
  refine q_lp (A:=fun (s:Int×Int×Int)=>[.int .i64 s.1,.int .i64 s.2.1,.int .i64 s.2.2]) (B:=fun s=>[]) 0 rr ?_ ?_ ?_
  ·intro s1
   unfold s94_0 ms94_0
   exact q_len<|q_p fr<|q_i (q_ix rfl fun x1 hx1=>q_p fr<|q_p fr<|q_p fr<|q_i (q_lret 0 rr)<|q_p fr<|q_ix rfl fun x2 hx2=>q_p fr<|q_p fr<|q_c0 (aF1 (cv_p rfl) fun l0_=>w92 (by omega) (wi .i64 (s1.1 + 1))) fun y1 hy1=>q_p (fun _=>seq_neq2)<|q_i (q_lret 0 rr)<|q_p fr<|q_ix rfl fun x3 hx3=>q_p fr<|q_p fr<|q_p fr<|q_i (q_lret 0 rr)<|q_p fr<|q_ix rfl fun x4 hx4=>q_p fr<|q_p fr<|q_p fr<|q_i (q_lret 0 rr)<|q_p fr<|q_ix rfl fun x5 hx5=>q_p fr<|q_p fr<|q_p fr<|q_p fr<|q_p (fun _=>bneq42 _ _)<|q_i (q_lret 0 rr)<|q_p fr<|q_ix rfl fun x6 hx6=>q_p fr<|q_p fr<|q_p fr<|q_p fr<|q_p (fun _=>bneq42 _ _)<|q_i (q_lret 0 rr)<|q_p fr<|q_p fr<|q_norm 0 rr)<|q_exit 0 rr
  ·exact fun i1 s2=>q_n (q_ret (cv_p rfl) rfl)<|q_none
  ·exact fun s2=>q_ret (cv_p rfl) rfl
def ms65_0 (a0:List TRequest) (s1:Int×Int×Int):Option (LO (Int×Int×Int)):=bif decide (s1.2.2 < (a0.length:Int)) then (getI a0 s1.2.2).bind fun x1=>bif x1.Client != s1.1 then some (LO.ret (s1.1,(-1),s1.2.2)) else (getI a0 s1.2.2).bind fun x2=>bif x2.Number != (wi .i64 (s1.1 + 1)) then some (LO.ret (wi .i64 (s1.1 + 1),(-1),s1.2.2)) else (getI a0 s1.2.2).bind fun x3=>bif x3.Time != (wi .i64 ((wi .i64 (s1.1 + 1)) + 1)) then some (LO.ret (wi .i64 ((wi .i64 (s1.1 + 1)) + 1),(-1),s1.2.2)) else (getI a0 s1.2.2).bind fun x4=>(m94 x4.Ops (wi .i64 ((wi .i64 ((wi .i64 (s1.1 + 1)) + 1)) + 1))).bind fun y1=>bif decide (y1 < 0) then some (LO.ret (y1,(-1),s1.2.2)) else some (LO.norm (y1,s1.2.1,wi .i64 (s1.2.2 + 1))) else some (LO.exit 0 (s1.1,s1.2.1,s1.2.2))
def m65 (a0:List TRequest) (a1:Int):Option (Int):=(loopO (ms65_0 a0) NN (a1,0,0)).bind (contO (fun _=>none) (fun i1 s2=>if i1 = 0 then some s2.1 else none) (fun s2=>some s2.2.1))
theorem w65 {d:Nat} (hd:3≤d) (k0:Bool) (a0:List TRequest) (a1:Int):Fit (R NN d 65 [.rsl k0 false (a0.map (Enc.cs k0)),.int .i64 a1] []) (m65 a0 a1) PI:=by
  obtain ⟨d,rfl,g⟩:=up hd
  refine q_in (t65 NN d _ _) ?_
  unfold b65 m65
  refine q_lp (A:=fun (s:Int×Int×Int)=>[.int .i64 s.1,.int .i64 s.2.1,.int .i64 s.2.2]) (B:=fun s=>[]) 0 rr ?_ ?_ ?_
  ·intro s1
   unfold s65_0 ms65_0
   exact q_len<|q_p fr<|q_i (q_ix rfl fun x1 hx1=>q_p fr<|q_p fr<|q_p fr<|q_i (q_lret 0 rr)<|q_p fr<|q_ix rfl fun x2 hx2=>q_p fr<|q_p fr<|q_p fr<|q_i (q_lret 0 rr)<|q_p fr<|q_ix rfl fun x3 hx3=>q_p fr<|q_p fr<|q_p fr<|q_i (q_lret 0 rr)<|q_p fr<|q_ix rfl fun x4 hx4=>q_p fr<|q_p fr<|q_c0 (aF2 cv_r (cv_p rfl) fun l0_ l1_=>w94 (by omega) l0_ x4.Ops (wi .i64 ((wi .i64 ((wi .i64 (s1.1 + 1)) + 1)) + 1))) fun y1 hy1=>q_p fr<|q_i (q_lret 0 rr)<|q_p fr<|q_norm 0 rr)<|q_exit 0 rr
  ·exact fun i1 s2=>q_n (q_ret (cv_p rfl) rfl)<|q_none
  ·exact fun s2=>q_ret (cv_p rfl) rfl
def m36 (a0:TCluster) (a1:Int):Option (Int):=(m62 a0.Bad a1).bind fun y1=>bif decide (y1 < 0) then some (-1) else (m63 a0.Replicas y1).bind fun y2=>bif decide (y2 < 0) then some (-1) else (m64 a0.Ledger y2).bind fun y3=>bif decide (y3 < 0) then some (-1) else (m65 a0.Requests y3).bind fun y4=>bif decide (y4 < 0) then some (-1) else some y4
theorem w36 {d:Nat} (hd:4≤d) (k0:Bool) (a0:TCluster) (a1:Int):Fit (R NN d 36 [.agg (Enc.cs k0 a0),.int .i64 a1] []) (m36 a0 a1) PI:=by
  obtain ⟨d,rfl,g⟩:=up hd
  refine q_in (t36 NN d _ _) ?_
  unfold b36 m36
  exact q_box (n:=5) rfl rfl (by decide) fun b1=>q_p fr<|q_ld 0 rfl rfl<|q_c0 (aF2 cv_r (cv_p rfl) fun l0_ l1_=>w62 (by omega) l0_ a0.Bad a1) fun y1 hy1=>q_p fr<|q_i (q_ret (cv_p rfl) rfl)<|q_p fr<|q_ld 0 rfl rfl<|q_c0 (aF2 cv_r (cv_p rfl) fun l0_ l1_=>w63 (by omega) l0_ a0.Replicas y1) fun y2 hy2=>q_p fr<|q_i (q_ret (cv_p rfl) rfl)<|q_p fr<|q_ld 0 rfl rfl<|q_c0 (aF2 cv_r (cv_p rfl) fun l0_ l1_=>w64 (by omega) l0_ a0.Ledger y2) fun y3 hy3=>q_p fr<|q_i (q_ret (cv_p rfl) rfl)<|q_p fr<|q_ld 0 rfl rfl<|q_c0 (aF2 cv_r (cv_p rfl) fun l0_ l1_=>w65 (by omega) l0_ a0.Requests y3) fun y4 hy4=>q_p fr<|q_i (q_ret (cv_p rfl) rfl)<|q_ret (cv_p rfl) rfl
def m12 (a0:TClusterResult) (a1:Int):Option (Int):=(m36 a0.Cluster a1).bind fun y1=>bif decide (y1 < 0) then some (-1) else some y1
theorem w12 {d:Nat} (hd:5≤d) (k0:Bool) (a0:TClusterResult) (a1:Int):Fit (R NN d 12 [.agg (Enc.cs k0 a0),.int .i64 a1] []) (m12 a0 a1) PI:=by
  obtain ⟨d,rfl,g⟩:=up hd
  refine q_in (t12 NN d _ _) ?_
  unfold b12 m12
  exact q_box (n:=6) rfl rfl (by decide) fun b1=>q_p fr<|q_lda 0 rfl rfl rfl<|q_c0 (aF2 (cv_a (cvs_e (l0:=k0) (x:=a0.Cluster))) (cv_p rfl) fun l0_ l1_=>w36 (by omega) l0_ a0.Cluster a1) fun y1 hy1=>q_p fr<|q_i (q_ret (cv_p rfl) rfl)<|q_ret (cv_p rfl) rfl
def m3 (a0:TCluster) (a1:Int):Option (Bool):=(m4 a0 1048576).bind fun y1=>bif decide (y1 < 0) then some true else (m6 a0).bind fun y2=>(m5 y2 a1).bind fun y3=>(m6 a0).bind fun y4=>(m7 y4 a1).bind fun y5=>(m8 y5 y3).bind fun y6=>bif !y6 then some false else (m6 a0).bind fun y7=>(m9 y4 y7).bind fun y8=>bif !y8 then some false else (m10 y4 1).bind fun y9=>( bif decide (y9.1 < 0) then some (LO.ret false) else (m8 y5 y3).bind fun y10=>bif !y10 then some (LO.ret false) else some (LO.norm false)).bind (contO (fun s2=>(m11 y5 1).bind fun y11=>(m12 y11.2 1).bind fun y12=>bif decide (y12 < 0) then some false else bif y12 != y11.1 then some false else (m6 a0).bind fun y13=>(m7 y13 a1).bind fun y14=>(m8 y14 y3).bind fun y15=>bif !y15 then some false else (m12 y11.2 1).bind fun y16=>bif decide (y16 < 0) then some false else bif y16 != y11.1 then some false else some true) (fun i4 s2=>none) (fun s2=>some s2))
theorem w3 {d:Nat} (hd:446≤d) (k0:Bool) (a0:TCluster) (a1:Int):Fit (R NN d 3 [.agg (Enc.cs k0 a0),.int .i64 a1] []) (m3 a0 a1) PB:=by
  obtain ⟨d,rfl,g⟩:=up hd
  refine q_in (t3 NN d _ _) ?_
  unfold b3 m3
  refine q_box (n:=5) rfl rfl (by decide) fun b1=>q_lda 0 rfl rfl rfl<|q_c0 (aF2 (cv_a (cvs_e (l0:=k0) (x:=a0))) (cv_p rfl) fun l0_ l1_=>w4 (by omega) l0_ a0 1048576) fun y1 hy1=>q_p fr<|q_i ?_ ?_
  ·exact q_ret (cv_p rfl) rfl
  ·refine q_lda 0 rfl rfl rfl<|q_c1 (W:=AV.agg) (mg:=m6 a0) sh_agg (aF1 (cv_a (cvs_e (l0:=k0) (x:=a0))) fun l0_=>w6 (by omega) l0_ a0) fun y2 hy2 i1 cs1=>q_cx (fun S hS=>trx33 (hS.get (k:=0) rfl)) fun hcs_=>?_
   obtain ⟨v1,v2,v3,v4,rfl⟩:=hcs_
   refine q_c0 (aF2 (cv_a (cvs_tr 0 rfl)) (cv_p rfl) fun l0_ l1_=>w5 (by omega) l0_ y2 a1) fun y3 hy3=>q_new rfl fun b2=>q_st 0 rfl rfl rfl (by decide) rfl<|q_lda 2 rfl rfl rfl<|q_c1 (W:=AV.agg) (mg:=m6 a0) sh_agg (aF1 (cv_a (cvs_e (l0:=k0) (x:=a0))) fun l0_=>w6 (by omega) l0_ a0) fun y4 hy4 i2 cs2=>q_cx (fun S hS=>trx33 (hS.get (k:=0) rfl)) fun hcs_=>?_
   obtain ⟨v5,v6,v7,v8,rfl⟩:=hcs_
   refine q_new rfl fun b3=>q_st 0 rfl rfl rfl (by decide) rfl<|q_lda 0 rfl rfl rfl<|q_c1 (W:=AV.agg) (mg:=m7 y4 a1) sh_agg (aF2 (cv_a (cvs_tr 1 rfl)) (cv_p rfl) fun l0_ l1_=>w7 (by omega) l0_ y4 a1) fun y5 hy5 i3 cs3=>q_cx (fun S hS=>trx35 (hS.get (k:=0) rfl)) fun hcs_=>?_
   obtain ⟨v9,v10,v11,v12,rfl⟩:=hcs_
   refine q_new rfl fun b4=>q_st 0 rfl rfl rfl (by decide) rfl<|q_lda 0 rfl rfl rfl<|q_lda 4 rfl rfl rfl<|q_c0 (aF2 (cv_a (cvs_tr 1 rfl)) (cv_a (cvs_e (l0:=false) (x:=y3))) fun l0_ l1_=>w8 (by omega) l0_ y5 l1_ y3) fun y6 hy6=>q_p fr<|q_i ?_ ?_
   ·exact q_ret (cv_p rfl) rfl
   ·refine q_lda 2 rfl rfl rfl<|q_lda 6 rfl rfl rfl<|q_c0 (aF1 (cv_a (cvs_e (l0:=k0) (x:=a0))) fun l0_=>w6f (by omega) l0_ a0) fun y7 hy7=>q_c0 (aF2 (cv_a (cvs_tr 3 rfl)) (cv_a (cvs_e (l0:=false) (x:=y7))) fun l0_ l1_=>w9 (by omega) l0_ y4 l1_ y7) fun y8 hy8=>q_p fr<|q_i ?_ ?_
    ·exact q_ret (cv_p rfl) rfl
    ·refine q_lda 2 rfl rfl rfl<|q_sel 7 [3,0,1,2,4,5,6] (by decide) (by decide)<|q_s (mg:=m10 y4 1) (w10 (by omega) _ i2 (.int .i64 y4.F) v5 v6 v7 v8 y4 1) fun y9 hy9=>q_cu (A:=fun (s:Bool)=>[.bool s]) (B:=fun s=>[tr i2 [.int .i64 y4.F,v5,v6,v7,v8] (y9.2:TCluster),bx b4 [.int .i64 y5.Code,.int .i64 y5.Cluster.F,v9,v10,v11,v12],tr i3 [.int .i64 y5.Code,.int .i64 y5.Cluster.F,v9,v10,v11,v12] (y5:TClusterResult),bx b3 [.int .i64 y4.F,v5,v6,v7,v8],bx b2 [.int .i64 y3.Code,.int .i64 y3.Cluster.F,.rsl false false (y3.Cluster.Bad.map (Enc.cs false)),.rsl false false (y3.Cluster.Replicas.map (Enc.cs false)),.rsl false false (y3.Cluster.Ledger.map (Enc.cs false)),.rsl false false (y3.Cluster.Requests.map (Enc.cs false))],tr i1 [.int .i64 y2.F,v1,v2,v3,v4] (y2:TCluster),bx b1 [.int .i64 a0.F,.rsl k0 false (a0.Bad.map (Enc.cs k0)),.rsl k0 false (a0.Replicas.map (Enc.cs k0)),.rsl k0 false (a0.Ledger.map (Enc.cs k0)),.rsl k0 false (a0.Requests.map (Enc.cs k0))]]) ?_ ?_ ?_ ?_
     ·refine q_p fr<|q_j ?_ ?_
      ·first | refine q_ifT1 ?_ | skip
       exact q_lret 0 rr
      ·exact q_lda 1 rfl rfl rfl<|q_lda 4 rfl rfl rfl<|q_c0 (aF2 (cv_a (cvs_tr 2 rfl)) (cv_a (cvs_e (l0:=false) (x:=y3))) fun l0_ l1_=>w8 (by omega) l0_ y5 l1_ y3) fun y10 hy10=>q_p fr<|q_i (q_lret 0 rr)<|q_norm 0 rr
     ·intro s2
      refine q_lda 1 rfl rfl rfl<|q_sel 7 [2,0,1,3,4,5,6] (by decide) (by decide)<|q_s (mg:=m11 y5 1) (w11 (by omega) _ i3 (.int .i64 y5.Code) (.int .i64 y5.Cluster.F) v9 v10 v11 v12 y5 1) fun y11 hy11=>q_lda 2 rfl rfl rfl<|q_c0 (aF2 (cv_a (cvs_tr 0 rfl)) (cv_p rfl) fun l0_ l1_=>w12 (by omega) l0_ y11.2 1) fun y12 hy12=>q_p fr<|q_i ?_ ?_
      ·exact q_ret (cv_p rfl) rfl
      ·refine q_p fr<|q_i ?_ ?_
       ·exact q_ret (cv_p rfl) rfl
       ·refine q_lda 6 rfl rfl rfl<|q_c1 (W:=AV.agg) (mg:=m6 a0) sh_agg (aF1 (cv_a (cvs_e (l0:=k0) (x:=a0))) fun l0_=>w6 (by omega) l0_ a0) fun y13 hy13 i5 cs4=>q_cx (fun S hS=>trx33 (hS.get (k:=0) rfl)) fun hcs_=>?_
        obtain ⟨v13,v14,v15,v16,rfl⟩:=hcs_
        refine q_c1 (W:=AV.agg) (mg:=m7 y13 a1) sh_agg (aF2 (cv_a (cvs_tr 0 rfl)) (cv_p rfl) fun l0_ l1_=>w7 (by omega) l0_ y13 a1) fun y14 hy14 i6 cs5=>q_cx (fun S hS=>trx35 (hS.get (k:=0) rfl)) fun hcs_=>?_
        obtain ⟨v17,v18,v19,v20,rfl⟩:=hcs_
        exact q_new rfl fun b5=>q_st 0 rfl rfl rfl (by decide) rfl<|q_lda 0 rfl rfl rfl<|q_lda 7 rfl rfl rfl<|q_c0 (aF2 (cv_a (cvs_tr 1 rfl)) (cv_a (cvs_e (l0:=false) (x:=y3))) fun l0_ l1_=>w8 (by omega) l0_ y14 l1_ y3) fun y15 hy15=>q_p fr<|q_i (q_ret (cv_p rfl) rfl)<|q_lda 5 rfl rfl rfl<|q_c0 (aF2 (cv_a (cvs_tr 3 rfl)) (cv_p rfl) fun l0_ l1_=>w12 (by omega) l0_ y11.2 1) fun y16 hy16=>q_p fr<|q_i (q_ret (cv_p rfl) rfl)<|q_p fr<|q_i (q_ret (cv_p rfl) rfl)<|q_ret (cv_p rfl) rfl
     ·exact fun i4 s2=>q_none
     ·exact fun s2=>q_ret (cv_p rfl) rfl
end
end Go.Proofs.YtmjibndicekcaaaGreatDoor
