/- Plain functions, and that the evaluator computes them. -/
import Derived.Test.YtlgfhcillmbcgaaGreatDoorW2
namespace Go.Proofs.YtlgfhcillmbcgaaGreatDoor
open Go Go.Rf
set_option linter.unusedVariables false
set_option linter.unusedSimpArgs false
noncomputable section
def m6 (a0:TCluster) (a1:Int) (a2:Int):Option (Bool):=(m11 a0 1048576).bind fun y1=>bif decide (y1 < 0) then some true else (m13 a0).bind fun y2=>(m31 y2 a1 a2).bind fun y3=>(m13 a0).bind fun y4=>(m32 y4 a1 a2).bind fun y5=>(m26 y5 y3).bind fun y6=>bif !y6 then some false else (m13 a0).bind fun y7=>(m16 y4 y7).bind fun y8=>bif !y8 then some false else (m17 y4 1).bind fun y9=>( bif decide (y9.1 < 0) then some (LO.ret false) else (m26 y5 y3).bind fun y10=>bif !y10 then some (LO.ret false) else some (LO.norm false)).bind (contO (fun s2=>(m29 y5 1).bind fun y11=>(m30 y11.2 1).bind fun y12=>bif decide (y12 < 0) then some false else bif y12 != y11.1 then some false else (m13 a0).bind fun y13=>(m32 y13 a1 a2).bind fun y14=>(m26 y14 y3).bind fun y15=>bif !y15 then some false else (m30 y11.2 1).bind fun y16=>bif decide (y16 < 0) then some false else bif y16 != y11.1 then some false else some true) (fun i4 s2=>none) (fun s2=>some s2))
theorem w6 {d:Nat} (hd:298≤d) (k0:Bool) (a0:TCluster) (a1:Int) (a2:Int):Fit (R NN d 6 [.agg (Enc.cs k0 a0),.int .i64 a1,.int .i64 a2] []) (m6 a0 a1 a2) PB:=by
  obtain ⟨d,rfl,g⟩:=up hd
  refine q_in (t6 NN d _ _ _) ?_
  unfold b6 m6
  refine q_box (n:=5) rfl rfl (by decide) fun b1=>q_lda 0 rfl rfl rfl<|q_c0 (aF2 (cv_a (cvs_e (l0:=k0) (x:=a0))) (cv_p rfl) fun l0_ l1_=>w11 (by omega) l0_ a0 1048576) fun y1 hy1=>q_p fr<|q_i ?_ ?_
  ·exact q_ret (cv_p rfl) rfl
  ·refine q_lda 0 rfl rfl rfl<|q_c1 (W:=AV.agg) (mg:=m13 a0) sh_agg (aF1 (cv_a (cvs_e (l0:=k0) (x:=a0))) fun l0_=>w13 (by omega) l0_ a0) fun y2 hy2 i1 cs1=>q_cx (fun S hS=>trx36 (hS.get (k:=0) rfl)) fun hcs_=>?_
   obtain ⟨v1,v2,v3,v4,rfl⟩:=hcs_
   refine q_c0 (aF3 (cv_a (cvs_tr 0 rfl)) (cv_p rfl) (cv_p rfl) fun l0_ l1_ l2_=>w31 (by omega) l0_ y2 a1 a2) fun y3 hy3=>q_new rfl fun b2=>q_st 0 rfl rfl rfl (by decide) rfl<|q_lda 2 rfl rfl rfl<|q_c1 (W:=AV.agg) (mg:=m13 a0) sh_agg (aF1 (cv_a (cvs_e (l0:=k0) (x:=a0))) fun l0_=>w13 (by omega) l0_ a0) fun y4 hy4 i2 cs2=>q_cx (fun S hS=>trx36 (hS.get (k:=0) rfl)) fun hcs_=>?_
   obtain ⟨v5,v6,v7,v8,rfl⟩:=hcs_
   refine q_new rfl fun b3=>q_st 0 rfl rfl rfl (by decide) rfl<|q_lda 0 rfl rfl rfl<|q_c1 (W:=AV.agg) (mg:=m32 y4 a1 a2) sh_agg (aF3 (cv_a (cvs_tr 1 rfl)) (cv_p rfl) (cv_p rfl) fun l0_ l1_ l2_=>w32 (by omega) l0_ y4 a1 a2) fun y5 hy5 i3 cs3=>q_cx (fun S hS=>trx50 (hS.get (k:=0) rfl)) fun hcs_=>?_
   obtain ⟨v9,v10,v11,v12,rfl⟩:=hcs_
   refine q_new rfl fun b4=>q_st 0 rfl rfl rfl (by decide) rfl<|q_lda 0 rfl rfl rfl<|q_lda 4 rfl rfl rfl<|q_c0 (aF2 (cv_a (cvs_tr 1 rfl)) (cv_a (cvs_e (l0:=false) (x:=y3))) fun l0_ l1_=>w26 (by omega) l0_ y5 l1_ y3) fun y6 hy6=>q_p fr<|q_i ?_ ?_
   ·exact q_ret (cv_p rfl) rfl
   ·refine q_lda 2 rfl rfl rfl<|q_lda 6 rfl rfl rfl<|q_c0 (aF1 (cv_a (cvs_e (l0:=k0) (x:=a0))) fun l0_=>w13f (by omega) l0_ a0) fun y7 hy7=>q_c0 (aF2 (cv_a (cvs_tr 3 rfl)) (cv_a (cvs_e (l0:=false) (x:=y7))) fun l0_ l1_=>w16 (by omega) l0_ y4 l1_ y7) fun y8 hy8=>q_p fr<|q_i ?_ ?_
    ·exact q_ret (cv_p rfl) rfl
    ·refine q_lda 2 rfl rfl rfl<|q_sel 7 [3,0,1,2,4,5,6] (by decide) (by decide)<|q_s (mg:=m17 y4 1) (w17 (by omega) _ i2 (.int .i64 y4.F) v5 v6 v7 v8 y4 1) fun y9 hy9=>q_cu (A:=fun (s:Bool)=>[.bool s]) (B:=fun s=>[tr i2 [.int .i64 y4.F,v5,v6,v7,v8] (y9.2:TCluster),bx b4 [.int .i64 y5.Code,.int .i64 y5.Cluster.F,v9,v10,v11,v12],tr i3 [.int .i64 y5.Code,.int .i64 y5.Cluster.F,v9,v10,v11,v12] (y5:TClusterResult),bx b3 [.int .i64 y4.F,v5,v6,v7,v8],bx b2 [.int .i64 y3.Code,.int .i64 y3.Cluster.F,.rsl false false (y3.Cluster.Bad.map (Enc.cs false)),.rsl false false (y3.Cluster.Replicas.map (Enc.cs false)),.rsl false false (y3.Cluster.Ledger.map (Enc.cs false)),.rsl false false (y3.Cluster.Requests.map (Enc.cs false))],tr i1 [.int .i64 y2.F,v1,v2,v3,v4] (y2:TCluster),bx b1 [.int .i64 a0.F,.rsl k0 false (a0.Bad.map (Enc.cs k0)),.rsl k0 false (a0.Replicas.map (Enc.cs k0)),.rsl k0 false (a0.Ledger.map (Enc.cs k0)),.rsl k0 false (a0.Requests.map (Enc.cs k0))]]) ?_ ?_ ?_ ?_
     ·refine q_p fr<|q_j ?_ ?_
      ·first | refine q_ifT1 ?_ | skip
       exact q_lret 0 rr
      ·exact q_lda 1 rfl rfl rfl<|q_lda 4 rfl rfl rfl<|q_c0 (aF2 (cv_a (cvs_tr 2 rfl)) (cv_a (cvs_e (l0:=false) (x:=y3))) fun l0_ l1_=>w26 (by omega) l0_ y5 l1_ y3) fun y10 hy10=>q_p fr<|q_i (q_lret 0 rr)<|q_norm 0 rr
     ·intro s2
      refine q_lda 1 rfl rfl rfl<|q_sel 7 [2,0,1,3,4,5,6] (by decide) (by decide)<|q_s (mg:=m29 y5 1) (w29 (by omega) _ i3 (.int .i64 y5.Code) (.int .i64 y5.Cluster.F) v9 v10 v11 v12 y5 1) fun y11 hy11=>q_lda 2 rfl rfl rfl<|q_c0 (aF2 (cv_a (cvs_tr 0 rfl)) (cv_p rfl) fun l0_ l1_=>w30 (by omega) l0_ y11.2 1) fun y12 hy12=>q_p fr<|q_i ?_ ?_
      ·exact q_ret (cv_p rfl) rfl
      ·refine q_p fr<|q_i ?_ ?_
       ·exact q_ret (cv_p rfl) rfl
       ·refine q_lda 6 rfl rfl rfl<|q_c1 (W:=AV.agg) (mg:=m13 a0) sh_agg (aF1 (cv_a (cvs_e (l0:=k0) (x:=a0))) fun l0_=>w13 (by omega) l0_ a0) fun y13 hy13 i5 cs4=>q_cx (fun S hS=>trx36 (hS.get (k:=0) rfl)) fun hcs_=>?_
        obtain ⟨v13,v14,v15,v16,rfl⟩:=hcs_
        refine q_c1 (W:=AV.agg) (mg:=m32 y13 a1 a2) sh_agg (aF3 (cv_a (cvs_tr 0 rfl)) (cv_p rfl) (cv_p rfl) fun l0_ l1_ l2_=>w32 (by omega) l0_ y13 a1 a2) fun y14 hy14 i6 cs5=>q_cx (fun S hS=>trx50 (hS.get (k:=0) rfl)) fun hcs_=>?_
        obtain ⟨v17,v18,v19,v20,rfl⟩:=hcs_
        exact q_new rfl fun b5=>q_st 0 rfl rfl rfl (by decide) rfl<|q_lda 0 rfl rfl rfl<|q_lda 7 rfl rfl rfl<|q_c0 (aF2 (cv_a (cvs_tr 1 rfl)) (cv_a (cvs_e (l0:=false) (x:=y3))) fun l0_ l1_=>w26 (by omega) l0_ y14 l1_ y3) fun y15 hy15=>q_p fr<|q_i (q_ret (cv_p rfl) rfl)<|q_lda 5 rfl rfl rfl<|q_c0 (aF2 (cv_a (cvs_tr 3 rfl)) (cv_p rfl) fun l0_ l1_=>w30 (by omega) l0_ y11.2 1) fun y16 hy16=>q_p fr<|q_i (q_ret (cv_p rfl) rfl)<|q_p fr<|q_i (q_ret (cv_p rfl) rfl)<|q_ret (cv_p rfl) rfl
     ·exact fun i4 s2=>q_none
     ·exact fun s2=>q_ret (cv_p rfl) rfl
end
end Go.Proofs.YtlgfhcillmbcgaaGreatDoor
