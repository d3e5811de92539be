/- Plain functions, and that the evaluator computes them. -/
import Derived.Test.YtifocmbeahpopaaGreatDoorW1
namespace Go.Proofs.YtifocmbeahpopaaGreatDoor
open Go Go.Rf
set_option linter.unusedVariables false
set_option linter.unusedSimpArgs false
noncomputable section
def ms228_0 (a0:List Int) (a1:Int) (a2:Int) (a3:Int) (x1:Int) (x2:Int) (s1:Int):Option (LO (Int)):=( ( bif decide (s1≤(wi .i64 (a2 - 1))) then (getI ((a0.set (Int.toNat a1) x1).set (Int.toNat a3) x2) s1).bind fun x5=>(getI ((a0.set (Int.toNat a1) x1).set (Int.toNat a3) x2) a1).bind fun x6=>(m226 x5 x6).bind fun y1=>some (LO.norm y1) else some (LO.norm false)).bind (contO (fun s4=>bif s4 then some (LO.norm s4) else some (LO.exit 0 s4)) (fun i1 s4=>some (LO.exit i1 s4)) (fun s4=>some (LO.ret s4)))).bind (contO (fun s5=>some (LO.norm (wi .i64 (s1 + 1)))) (fun i2 s5=>some (LO.exit i2 s1)) (fun s5=>some (LO.ret s1)))
def ms228_1 (a0:List Int) (a1:Int) (a3:Int) (s6:Int) (x1:Int) (x2:Int) (s7:Int):Option (LO (Int)):=( ( bif decide (s6≤s7) then (getI ((a0.set (Int.toNat a1) x1).set (Int.toNat a3) x2) s7).bind fun x7=>(getI ((a0.set (Int.toNat a1) x1).set (Int.toNat a3) x2) a1).bind fun x8=>(m226 x7 x8).bind fun y2=>some (LO.norm (!y2)) else some (LO.norm false)).bind (contO (fun s10=>bif s10 then some (LO.norm s10) else some (LO.exit 2 s10)) (fun i4 s10=>some (LO.exit i4 s10)) (fun s10=>some (LO.ret s10)))).bind (contO (fun s11=>some (LO.norm (wi .i64 (s7 - 1)))) (fun i5 s11=>some (LO.exit i5 s7)) (fun s11=>some (LO.ret s7)))
def ms228_2 (a1:Int) (s13:Int×Int×(List Int)) (s14:Int):Option (LO (Int)):=( ( bif decide (s14≤s13.2.1) then (getI s13.2.2 s14).bind fun x17=>(getI s13.2.2 a1).bind fun x18=>(m226 x17 x18).bind fun y3=>some (LO.norm y3) else some (LO.norm false)).bind (contO (fun s17=>bif s17 then some (LO.norm s17) else some (LO.exit 6 s17)) (fun i7 s17=>some (LO.exit i7 s17)) (fun s17=>some (LO.ret s17)))).bind (contO (fun s18=>some (LO.norm (wi .i64 (s14 + 1)))) (fun i8 s18=>some (LO.exit i8 s14)) (fun s18=>some (LO.ret s14)))
def ms228_3 (a1:Int) (s13:Int×Int×(List Int)) (s19:Int) (s20:Int):Option (LO (Int)):=( ( bif decide (s19≤s20) then (getI s13.2.2 s20).bind fun x19=>(getI s13.2.2 a1).bind fun x20=>(m226 x19 x20).bind fun y4=>some (LO.norm (!y4)) else some (LO.norm false)).bind (contO (fun s23=>bif s23 then some (LO.norm s23) else some (LO.exit 8 s23)) (fun i10 s23=>some (LO.exit i10 s23)) (fun s23=>some (LO.ret s23)))).bind (contO (fun s24=>some (LO.norm (wi .i64 (s20 - 1)))) (fun i11 s24=>some (LO.exit i11 s20)) (fun s24=>some (LO.ret s20)))
def ms228_4 (a1:Int) (s13:Int×Int×(List Int)):Option (LO (Int×Int×(List Int))):=(loopO (ms228_2 a1 s13) NN s13.1).bind (contO (fun _=>none) (fun i9 s19=>if i9 = 6 then (loopO (ms228_3 a1 s13 s19) NN s13.2.1).bind (contO (fun _=>none) (fun i12 s25=>if i12 = 8 then bif decide (s19 > s25) then some (LO.exit 4 (s19,s25,s13.2.2)) else (getI s13.2.2 s25).bind fun x21=>(getI s13.2.2 s19).bind fun x22=>(getI s13.2.2 s19).bind fun x23=>(getI (s13.2.2.set (Int.toNat s19) x21) s25).bind fun x24=>some (LO.norm (wi .i64 (s19 + 1),wi .i64 (s25 - 1),(s13.2.2.set (Int.toNat s19) x21).set (Int.toNat s25) x22)) else if i12 = 5 then some (LO.norm (s19,s25,s13.2.2)) else some (LO.exit i12 (s19,s25,s13.2.2))) (fun s25=>some (LO.ret (s19,s25,s13.2.2)))) else if i9 = 5 then some (LO.norm (s19,s13.2.1,s13.2.2)) else some (LO.exit i9 (s19,s13.2.1,s13.2.2))) (fun s19=>some (LO.ret (s19,s13.2.1,s13.2.2))))
def m228 (a0:List Int) (a1:Int) (a2:Int) (a3:Int):Option (Int×Bool×(List Int)):=(getI a0 a3).bind fun x1=>(getI a0 a1).bind fun x2=>(getI a0 a1).bind fun x3=>(getI (a0.set (Int.toNat a1) x1) a3).bind fun x4=>(loopO (ms228_0 a0 a1 a2 a3 x1 x2) NN (wi .i64 (a1 + 1))).bind (contO (fun _=>none) (fun i3 s6=>if i3 = 0 then (loopO (ms228_1 a0 a1 a3 s6 x1 x2) NN (wi .i64 (a2 - 1))).bind (contO (fun _=>none) (fun i6 s12=>if i6 = 2 then bif decide (s6 > s12) then (getI ((a0.set (Int.toNat a1) x1).set (Int.toNat a3) x2) a1).bind fun x9=>(getI ((a0.set (Int.toNat a1) x1).set (Int.toNat a3) x2) s12).bind fun x10=>(getI ((a0.set (Int.toNat a1) x1).set (Int.toNat a3) x2) s12).bind fun x11=>(getI (((a0.set (Int.toNat a1) x1).set (Int.toNat a3) x2).set (Int.toNat s12) x9) a1).bind fun x12=>some (s12,true,(((a0.set (Int.toNat a1) x1).set (Int.toNat a3) x2).set (Int.toNat s12) x9).set (Int.toNat a1) x10) else (getI ((a0.set (Int.toNat a1) x1).set (Int.toNat a3) x2) s12).bind fun x13=>(getI ((a0.set (Int.toNat a1) x1).set (Int.toNat a3) x2) s6).bind fun x14=>(getI ((a0.set (Int.toNat a1) x1).set (Int.toNat a3) x2) s6).bind fun x15=>(getI (((a0.set (Int.toNat a1) x1).set (Int.toNat a3) x2).set (Int.toNat s6) x13) s12).bind fun x16=>(loopO (ms228_4 a1) NN (wi .i64 (s6 + 1),wi .i64 (s12 - 1),(((a0.set (Int.toNat a1) x1).set (Int.toNat a3) x2).set (Int.toNat s6) x13).set (Int.toNat s12) x14)).bind (contO (fun _=>none) (fun i13 s26=>if i13 = 4 then (getI s26.2.2 a1).bind fun x25=>(getI s26.2.2 s26.2.1).bind fun x26=>(getI s26.2.2 s26.2.1).bind fun x27=>(getI (s26.2.2.set (Int.toNat s26.2.1) x25) a1).bind fun x28=>some (s26.2.1,false,(s26.2.2.set (Int.toNat s26.2.1) x25).set (Int.toNat a1) x26) else none) (fun s26=>some (0,false,s26.2.2))) else none) (fun s12=>some (0,false,(a0.set (Int.toNat a1) x1).set (Int.toNat a3) x2))) else none) (fun s6=>some (0,false,(a0.set (Int.toNat a1) x1).set (Int.toNat a3) x2)))
theorem w228 {d:Nat} (hd:3≤d) (L0:List En) (v0_:AV) (a0:List Int) (a1:Int) (a2:Int) (a3:Int):Okh (sl false v0_ (a0:List Int)::L0) (fun S=>R NN d 228 [v0_,.int .i64 a1,.int .i64 a2,.int .i64 a3] S) (m228 a0 a1 a2 a3) (P2 (fun (t:Int×Bool×(List Int))=>AV.tup [.int .i64 t.1,.bool t.2.1]) (fun (t:Int×Bool×(List Int))=>sl false v0_ t.2.2::L0)):=by
  obtain ⟨d,rfl,g⟩:=up hd
  refine q_to (t228 NN d _ _ _ _) ?_
  unfold b228 m228
  refine q_ixo 0 rfl rfl fun x1 hx1=>q_ldo 0 rfl hx1 rfl<|q_ixo 0 rfl rfl fun x2 hx2=>q_ldo 0 rfl hx2 rfl<|q_ixo 0 rfl rfl fun x3 hx3=>q_stoe (y:=x1) 0 rfl rfl hx3 rfl (by decide)<|q_ixo 0 rfl rfl fun x4 hx4=>q_stoe (y:=x2) 0 rfl rfl hx4 rfl (by decide)<|q_p fr<|q_p fr<|q_lp (A:=fun (s:Int)=>[.int .i64 s]) (B:=fun s=>sl false v0_ ((a0.set (Int.toNat a1) x1).set (Int.toNat a3) x2:List Int)::L0) 0 rr ?_ ?_ ?_
  ·intro s1
   unfold s228_0 ms228_0
   refine q_cu (A:=fun (s:Bool)=>[.bool s]) (B:=fun s=>sl false v0_ ((a0.set (Int.toNat a1) x1).set (Int.toNat a3) x2:List Int)::L0) ?_ ?_ ?_ ?_
   ·refine q_cu (A:=fun (s:Bool)=>[.bool s]) (B:=fun s=>sl false v0_ ((a0.set (Int.toNat a1) x1).set (Int.toNat a3) x2:List Int)::L0) ?_ ?_ ?_ ?_
    ·exact q_p fr<|q_k (q_ixo 0 rfl rfl fun x5 hx5=>q_ldo 0 rfl hx5 rfl<|q_ixo 0 rfl rfl fun x6 hx6=>q_ldo 0 rfl hx6 rfl<|q_c0 (aF2 (cv_p rfl) (cv_p rfl) fun l0_ l1_=>w226 (by omega) x5 x6) fun y1 hy1=>q_norm 0 rr)<|q_norm 0 rr
    ·exact fun s4=>q_i (q_norm 0 rr)<|q_exit 0 rr
    ·exact fun i1 s4=>q_exit 0 rr
    ·exact fun s4=>q_lret 0 rr
   ·exact fun s5=>q_p fr<|q_norm 0 rr
   ·exact fun i2 s5=>q_exit 0 rr
   ·exact fun s5=>q_lret 0 rr
  ·intro i3 s6
   refine q_n ?_ ?_
   ·refine q_lp (A:=fun (s:Int)=>[.int .i64 s]) (B:=fun s=>sl false v0_ ((a0.set (Int.toNat a1) x1).set (Int.toNat a3) x2:List Int)::L0) 0 rr ?_ ?_ ?_
    ·intro s7
     unfold s228_1 ms228_1
     refine q_cu (A:=fun (s:Bool)=>[.bool s]) (B:=fun s=>sl false v0_ ((a0.set (Int.toNat a1) x1).set (Int.toNat a3) x2:List Int)::L0) ?_ ?_ ?_ ?_
     ·refine q_cu (A:=fun (s:Bool)=>[.bool s]) (B:=fun s=>sl false v0_ ((a0.set (Int.toNat a1) x1).set (Int.toNat a3) x2:List Int)::L0) ?_ ?_ ?_ ?_
      ·exact q_p fr<|q_k (q_ixo 0 rfl rfl fun x7 hx7=>q_ldo 0 rfl hx7 rfl<|q_ixo 0 rfl rfl fun x8 hx8=>q_ldo 0 rfl hx8 rfl<|q_c0 (aF2 (cv_p rfl) (cv_p rfl) fun l0_ l1_=>w226 (by omega) x7 x8) fun y2 hy2=>q_p fr<|q_norm 0 rr)<|q_norm 0 rr
      ·exact fun s10=>q_i (q_norm 0 rr)<|q_exit 0 rr
      ·exact fun i4 s10=>q_exit 0 rr
      ·exact fun s10=>q_lret 0 rr
     ·exact fun s11=>q_p fr<|q_norm 0 rr
     ·exact fun i5 s11=>q_exit 0 rr
     ·exact fun s11=>q_lret 0 rr
    ·intro i6 s12
     refine q_n ?_ ?_
     ·refine q_p fr<|q_i ?_ ?_
      ·exact q_ixo 0 rfl rfl fun x9 hx9=>q_ldo 0 rfl hx9 rfl<|q_ixo 0 rfl rfl fun x10 hx10=>q_ldo 0 rfl hx10 rfl<|q_ixo 0 rfl rfl fun x11 hx11=>q_stoe (y:=x9) 0 rfl rfl hx11 rfl (by decide)<|q_ixo 0 rfl rfl fun x12 hx12=>q_stoe (y:=x10) 0 rfl rfl hx12 rfl (by decide)<|q_ret2 0 rfl rfl
      ·refine q_ixo 0 rfl rfl fun x13 hx13=>q_ldo 0 rfl hx13 rfl<|q_ixo 0 rfl rfl fun x14 hx14=>q_ldo 0 rfl hx14 rfl<|q_ixo 0 rfl rfl fun x15 hx15=>q_stoe (y:=x13) 0 rfl rfl hx15 rfl (by decide)<|q_ixo 0 rfl rfl fun x16 hx16=>q_stoe (y:=x14) 0 rfl rfl hx16 rfl (by decide)<|q_p fr<|q_p fr<|q_lp (A:=fun (s:Int×Int×(List Int))=>[.int .i64 s.1,.int .i64 s.2.1]) (B:=fun s=>sl false v0_ (s.2.2:List Int)::L0) 0 rr ?_ ?_ ?_
       ·intro s13
        unfold s228_4 ms228_4
        refine q_lp (A:=fun (s:Int)=>[.int .i64 s]) (B:=fun s=>sl false v0_ (s13.2.2:List Int)::L0) 0 rr ?_ ?_ ?_
        ·intro s14
         unfold s228_2 ms228_2
         refine q_cu (A:=fun (s:Bool)=>[.bool s]) (B:=fun s=>sl false v0_ (s13.2.2:List Int)::L0) ?_ ?_ ?_ ?_
         ·refine q_cu (A:=fun (s:Bool)=>[.bool s]) (B:=fun s=>sl false v0_ (s13.2.2:List Int)::L0) ?_ ?_ ?_ ?_
          ·exact q_p fr<|q_k (q_ixo 0 rfl rfl fun x17 hx17=>q_ldo 0 rfl hx17 rfl<|q_ixo 0 rfl rfl fun x18 hx18=>q_ldo 0 rfl hx18 rfl<|q_c0 (aF2 (cv_p rfl) (cv_p rfl) fun l0_ l1_=>w226 (by omega) x17 x18) fun y3 hy3=>q_norm 0 rr)<|q_norm 0 rr
          ·exact fun s17=>q_i (q_norm 0 rr)<|q_exit 0 rr
          ·exact fun i7 s17=>q_exit 0 rr
          ·exact fun s17=>q_lret 0 rr
         ·exact fun s18=>q_p fr<|q_norm 0 rr
         ·exact fun i8 s18=>q_exit 0 rr
         ·exact fun s18=>q_lret 0 rr
        ·intro i9 s19
         refine q_n ?_ ?_
         ·refine q_lp (A:=fun (s:Int)=>[.int .i64 s]) (B:=fun s=>sl false v0_ (s13.2.2:List Int)::L0) 0 rr ?_ ?_ ?_
          ·intro s20
           unfold s228_3 ms228_3
           refine q_cu (A:=fun (s:Bool)=>[.bool s]) (B:=fun s=>sl false v0_ (s13.2.2:List Int)::L0) ?_ ?_ ?_ ?_
           ·refine q_cu (A:=fun (s:Bool)=>[.bool s]) (B:=fun s=>sl false v0_ (s13.2.2:List Int)::L0) ?_ ?_ ?_ ?_
            ·exact q_p fr<|q_k (q_ixo 0 rfl rfl fun x19 hx19=>q_ldo 0 rfl hx19 rfl<|q_ixo 0 rfl rfl fun x20 hx20=>q_ldo 0 rfl hx20 rfl<|q_c0 (aF2 (cv_p rfl) (cv_p rfl) fun l0_ l1_=>w226 (by omega) x19 x20) fun y4 hy4=>q_p fr<|q_norm 0 rr)<|q_norm 0 rr
            ·exact fun s23=>q_i (q_norm 0 rr)<|q_exit 0 rr
            ·exact fun i10 s23=>q_exit 0 rr
            ·exact fun s23=>q_lret 0 rr
           ·exact fun s24=>q_p fr<|q_norm 0 rr
           ·exact fun i11 s24=>q_exit 0 rr
           ·exact fun s24=>q_lret 0 rr
          ·exact fun i12 s25=>q_n (q_p fr<|q_i (q_exit 0 rr)<|q_ixo 0 rfl rfl fun x21 hx21=>q_ldo 0 rfl hx21 rfl<|q_ixo 0 rfl rfl fun x22 hx22=>q_ldo 0 rfl hx22 rfl<|q_ixo 0 rfl rfl fun x23 hx23=>q_stoe (y:=x21) 0 rfl rfl hx23 rfl (by decide)<|q_ixo 0 rfl rfl fun x24 hx24=>q_stoe (y:=x22) 0 rfl rfl hx24 rfl (by decide)<|q_p fr<|q_p fr<|q_norm 0 rr)<|q_n (q_norm 0 rr)<|q_exit 0 rr
          ·exact fun s25=>q_lret 0 rr
         ·exact q_n (q_norm 0 rr)<|q_exit 0 rr
        ·exact fun s19=>q_lret 0 rr
       ·exact fun i13 s26=>q_n (q_ixo 0 rfl rfl fun x25 hx25=>q_ldo 0 rfl hx25 rfl<|q_ixo 0 rfl rfl fun x26 hx26=>q_ldo 0 rfl hx26 rfl<|q_ixo 0 rfl rfl fun x27 hx27=>q_stoe (y:=x25) 0 rfl rfl hx27 rfl (by decide)<|q_ixo 0 rfl rfl fun x28 hx28=>q_stoe (y:=x26) 0 rfl rfl hx28 rfl (by decide)<|q_ret2 0 rfl rfl)<|q_none
       ·exact fun s26=>q_ret2 0 rfl rfl
     ·exact q_none
    ·exact fun s12=>q_ret2 0 rfl rfl
   ·exact q_none
  ·exact fun s6=>q_ret2 0 rfl rfl
def ms198_0 (rec_:(List Int)→Int→Int→Int→Option ((List Int))) (s1:Int×Int×Int×Bool×Bool×(List Int)):Option (LO (Int×Int×Int×Bool×Bool×(List Int))):=bif decide ((wi .i64 (s1.2.1 - s1.1))≤12) then (m220 s1.2.2.2.2.2 s1.1 s1.2.1).bind fun y1=>some (LO.ret (s1.1,s1.2.1,s1.2.2.1,s1.2.2.2.1,s1.2.2.2.2.1,y1)) else bif s1.2.2.1 == 0 then (m221 s1.2.2.2.2.2 s1.1 s1.2.1).bind fun y2=>some (LO.ret (s1.1,s1.2.1,s1.2.2.1,s1.2.2.2.1,s1.2.2.2.2.1,y2)) else ( bif !s1.2.2.2.1 then (m222 s1.2.2.2.2.2 s1.1 s1.2.1).bind fun y3=>some (LO.norm (wi .i64 (s1.2.2.1 - 1),y3)) else some (LO.norm (s1.2.2.1,s1.2.2.2.2.2))).bind (contO (fun s3=>(m223 s3.2 s1.1 s1.2.1).bind fun y4=>( bif y4.2 == 2 then (m224 s3.2 s1.1 s1.2.1).bind fun y5=>some (LO.norm (wi .i64 ((wi .i64 (s1.2.1 - 1)) - (wi .i64 (y4.1 - s1.1))),1,y5)) else some (LO.norm (y4.1,y4.2,s3.2))).bind (contO (fun s5=>( ( bif s1.2.2.2.1 then bif s1.2.2.2.2.1 then some (LO.norm (s5.2.1 == 1)) else some (LO.norm false) else some (LO.norm false)).bind (contO (fun s8=>bif s8 then (m225 s5.2.2 s1.1 s1.2.1).bind fun y6=>bif y6.1 then some (LO.ret y6.2) else some (LO.norm y6.2) else some (LO.norm s5.2.2)) (fun i3 s8=>some (LO.exit i3 s5.2.2)) (fun s8=>some (LO.ret s5.2.2)))).bind (contO (fun s9=>( bif decide (s1.1 > 0) then (getI s9 (wi .i64 (s1.1 - 1))).bind fun x1=>(getI s9 s5.1).bind fun x2=>(m226 x1 x2).bind fun y7=>bif !y7 then (m227 s9 s1.1 s1.2.1 s5.1).bind fun y8=>some (LO.exit 1 (y8.1,y8.2)) else some (LO.norm (s1.1,s9)) else some (LO.norm (s1.1,s9))).bind (contO (fun s11=>(m228 s11.2 s11.1 s1.2.1 s5.1).bind fun y9=>bif decide ((wi .i64 (y9.1 - s11.1)) < (wi .i64 (s1.2.1 - y9.1))) then (rec_ y9.2.2 s11.1 y9.1 s3.1).bind fun y10=>some (LO.norm (wi .i64 (y9.1 + 1),s1.2.1,s3.1,decide ((wi .i64 (y9.1 - s11.1)) ≥ (wi .i64 (Int.tdiv (wi .i64 (s1.2.1 - s1.1)) 8))),y9.2.1,y10)) else (rec_ y9.2.2 (wi .i64 (y9.1 + 1)) s1.2.1 s3.1).bind fun y11=>some (LO.norm (s11.1,y9.1,s3.1,decide ((wi .i64 (s1.2.1 - y9.1)) ≥ (wi .i64 (Int.tdiv (wi .i64 (s1.2.1 - s1.1)) 8))),y9.2.1,y11))) (fun i5 s11=>if i5 = 1 then some (LO.norm (s11.1,s1.2.1,s3.1,s1.2.2.2.1,s1.2.2.2.2.1,s11.2)) else some (LO.exit i5 (s11.1,s1.2.1,s3.1,s1.2.2.2.1,s1.2.2.2.2.1,s11.2))) (fun s11=>some (LO.ret (s11.1,s1.2.1,s3.1,s1.2.2.2.1,s1.2.2.2.2.1,s11.2))))) (fun i4 s9=>if i4 = 1 then some (LO.norm (s1.1,s1.2.1,s3.1,s1.2.2.2.1,s1.2.2.2.2.1,s9)) else some (LO.exit i4 (s1.1,s1.2.1,s3.1,s1.2.2.2.1,s1.2.2.2.2.1,s9))) (fun s9=>some (LO.ret (s1.1,s1.2.1,s3.1,s1.2.2.2.1,s1.2.2.2.2.1,s9))))) (fun i2 s5=>if i2 = 1 then some (LO.norm (s1.1,s1.2.1,s3.1,s1.2.2.2.1,s1.2.2.2.2.1,s5.2.2)) else some (LO.exit i2 (s1.1,s1.2.1,s3.1,s1.2.2.2.1,s1.2.2.2.2.1,s5.2.2))) (fun s5=>some (LO.ret (s1.1,s1.2.1,s3.1,s1.2.2.2.1,s1.2.2.2.2.1,s5.2.2))))) (fun i1 s3=>if i1 = 1 then some (LO.norm (s1.1,s1.2.1,s3.1,s1.2.2.2.1,s1.2.2.2.2.1,s3.2)) else some (LO.exit i1 (s1.1,s1.2.1,s3.1,s1.2.2.2.1,s1.2.2.2.2.1,s3.2))) (fun s3=>some (LO.ret (s1.1,s1.2.1,s3.1,s1.2.2.2.1,s1.2.2.2.2.1,s3.2))))
def m198F (rec_:(List Int)→Int→Int→Int→Option ((List Int))) (a0:List Int) (a1:Int) (a2:Int) (a3:Int):Option ((List Int)):=(loopO (ms198_0 rec_) NN (a1,a2,a3,true,true,a0)).bind (contO (fun _=>none) (fun i6 s12=>if i6 = 0 then some s12.2.2.2.2.2 else none) (fun s12=>some s12.2.2.2.2.2))
def m198 (n:Nat):(List Int)→Int→Int→Int→Option ((List Int)):=Nat.rec (fun _ _ _ _=>none) (fun _ ih=>m198F ih) n
theorem w198:∀ (n d:Nat) (hd:n + 71≤d) (L0:List En) (v0_:AV) (a0:List Int) (a1:Int) (a2:Int) (a3:Int),Okh (sl false v0_ (a0:List Int)::L0) (fun S=>R NN d 198 [v0_,.int .i64 a1,.int .i64 a2,.int .i64 a3] S) (m198 n a0 a1 a2 a3) (P2 (fun (t:(List Int))=>und) (fun (t:(List Int))=>sl false v0_ t::L0))
  | 0,_,_,L0,v0_,a0,a1,a2,a3=>q_none
  | n + 1,d,hd,L0,v0_,a0,a1,a2,a3=>by
    have ih:=w198 n
    obtain ⟨d,rfl,g⟩:=up (n:=n + 71) (d:=d) (by omega)
    refine q_to (t198 NN d _ _ _ _) ?_
    rw [show m198 (n + 1) = m198F (m198 n) from rfl]
    unfold b198 m198F
    refine q_lp (A:=fun (s:Int×Int×Int×Bool×Bool×(List Int))=>[.int .i64 s.1,.int .i64 s.2.1,.int .i64 s.2.2.1,.bool s.2.2.2.1,.bool s.2.2.2.2.1]) (B:=fun s=>sl false v0_ (s.2.2.2.2.2:List Int)::L0) 0 rr ?_ ?_ ?_
    ·intro s1
     unfold s198_0 ms198_0
     refine q_p fr<|q_p fr<|q_i ?_ ?_
     ·exact q_s (mg:=m220 s1.2.2.2.2.2 s1.1 s1.2.1) (w220 (by omega) _ _ s1.2.2.2.2.2 s1.1 s1.2.1) fun y1 hy1=>q_lret 0 rr
     ·refine q_p fr<|q_i ?_ ?_
      ·exact q_s (mg:=m221 s1.2.2.2.2.2 s1.1 s1.2.1) (w221 (by omega) _ _ s1.2.2.2.2.2 s1.1 s1.2.1) fun y2 hy2=>q_lret 0 rr
      ·refine q_cu (A:=fun (s:Int×(List Int))=>[.int .i64 s.1]) (B:=fun s=>sl false v0_ (s.2:List Int)::L0) ?_ ?_ ?_ ?_
       ·refine q_p fr<|q_i ?_ ?_
        ·exact q_s (mg:=m222 s1.2.2.2.2.2 s1.1 s1.2.1) (w222 (by omega) _ _ s1.2.2.2.2.2 s1.1 s1.2.1) fun y3 hy3=>q_p fr<|q_norm 0 rr
        ·exact q_norm 0 rr
       ·intro s3
        refine q_c0 (aF3 (cv_o 0 rfl) (cv_p rfl) (cv_p rfl) fun l0_ l1_ l2_=>w223 (by omega) l0_ s3.2 s1.1 s1.2.1) fun y4 hy4=>q_q fr<|q_q fr<|q_cu (A:=fun (s:Int×Int×(List Int))=>[.int .i64 s.1,.int .i64 s.2.1]) (B:=fun s=>sl false v0_ (s.2.2:List Int)::L0) ?_ ?_ ?_ ?_
        ·refine q_p fr<|q_i ?_ ?_
         ·exact q_s (mg:=m224 s3.2 s1.1 s1.2.1) (w224 (by omega) _ _ s3.2 s1.1 s1.2.1) fun y5 hy5=>q_p fr<|q_p fr<|q_p fr<|q_norm 0 rr
         ·exact q_norm 0 rr
        ·intro s5
         refine q_cu (A:=fun (s:(List Int))=>[]) (B:=fun s=>sl false v0_ (s:List Int)::L0) ?_ ?_ ?_ ?_
         ·refine q_cu (A:=fun (s:Bool)=>[.bool s]) (B:=fun s=>sl false v0_ (s5.2.2:List Int)::L0) ?_ ?_ ?_ ?_
          ·refine q_k ?_ ?_
           ·refine q_k ?_ ?_
            ·exact q_p fr<|q_norm 0 rr
            ·exact q_norm 0 rr
           ·exact q_norm 0 rr
          ·intro s8
           refine q_i ?_ ?_
           ·refine q_s (mg:=m225 s5.2.2 s1.1 s1.2.1) (w225 (by omega) _ _ s5.2.2 s1.1 s1.2.1) fun y6 hy6=>q_i ?_ ?_
            ·exact q_lret 0 rr
            ·exact q_norm 0 rr
           ·exact q_norm 0 rr
          ·intro i3 s8
           exact q_exit 0 rr
          ·intro s8
           exact q_lret 0 rr
         ·intro s9
          refine q_cu (A:=fun (s:Int×(List Int))=>[.int .i64 s.1]) (B:=fun s=>sl false v0_ (s.2:List Int)::L0) ?_ ?_ ?_ ?_
          ·refine q_p fr<|q_k ?_ ?_
           ·refine q_p fr<|q_ixo 0 rfl rfl fun x1 hx1=>q_ldo 0 rfl hx1 rfl<|q_ixo 0 rfl rfl fun x2 hx2=>q_ldo 0 rfl hx2 rfl<|q_c0 (aF2 (cv_p rfl) (cv_p rfl) fun l0_ l1_=>w226 (by omega) x1 x2) fun y7 hy7=>q_p fr<|q_i ?_ ?_
            ·exact q_s (mg:=m227 s9 s1.1 s1.2.1 s5.1) (w227 (by omega) _ _ s9 s1.1 s1.2.1 s5.1) fun y8 hy8=>q_exit 0 rr
            ·exact q_norm 0 rr
           ·first | refine q_ifF1 ?_ | skip
            exact q_norm 0 rr
          ·intro s11
           refine q_s (mg:=m228 s11.2 s11.1 s1.2.1 s5.1) (w228 (by omega) _ _ s11.2 s11.1 s1.2.1 s5.1) fun y9 hy9=>q_q fr<|q_q fr<|q_p fr<|q_p fr<|q_p fr<|q_p fr<|q_i ?_ ?_
           ·exact q_p fr<|q_s (mg:=(m198 n) y9.2.2 s11.1 y9.1 s3.1) (ih d (by omega) _ _ y9.2.2 s11.1 y9.1 s3.1) fun y10 hy10=>q_p fr<|q_norm 0 rr
           ·exact q_p fr<|q_p fr<|q_s (mg:=(m198 n) y9.2.2 (wi .i64 (y9.1 + 1)) s1.2.1 s3.1) (ih d (by omega) _ _ y9.2.2 (wi .i64 (y9.1 + 1)) s1.2.1 s3.1) fun y11 hy11=>q_norm 0 rr
          ·intro i5 s11
           refine q_n ?_ ?_
           ·exact q_norm 0 rr
           ·exact q_exit 0 rr
          ·intro s11
           exact q_lret 0 rr
         ·intro i4 s9
          refine q_n ?_ ?_
          ·exact q_norm 0 rr
          ·exact q_exit 0 rr
         ·intro s9
          exact q_lret 0 rr
        ·intro i2 s5
         refine q_n ?_ ?_
         ·exact q_norm 0 rr
         ·exact q_exit 0 rr
        ·intro s5
         exact q_lret 0 rr
       ·intro i1 s3
        refine q_n ?_ ?_
        ·exact q_norm 0 rr
        ·exact q_exit 0 rr
       ·intro s3
        exact q_lret 0 rr
    ·intro i6 s12
     refine q_n ?_ ?_
     ·exact q_ret2 0 rfl rfl
     ·exact q_none
    ·intro s12
     exact q_ret2 0 rfl rfl
def m163 (a0:List Int):Option ((List Int)):=(m199 (wi .u64 (a0.length:Int))).bind fun y1=>(m198 64 a0 0 (a0.length:Int) y1).bind fun y2=>some y2
theorem w163 {d:Nat} (hd:136≤d) (L0:List En) (v0_:AV) (a0:List Int):Okh (sl false v0_ (a0:List Int)::L0) (fun S=>R NN d 163 [v0_] S) (m163 a0) (P2 (fun (t:(List Int))=>und) (fun (t:(List Int))=>sl false v0_ t::L0)):=by
  obtain ⟨d,rfl,g⟩:=up hd
  refine q_to (t163 NN d _) ?_
  unfold b163 m163
  exact q_leno 0 rfl<|q_p (fun _=>cvt3_220 _ _)<|q_c0 (aF1 (cv_p rfl) fun l0_=>w199 (by omega) (wi .u64 (a0.length:Int))) fun y1 hy1=>q_s (mg:=m198 64 a0 0 (a0.length:Int) y1) (w198 64 _ (by omega) _ _ a0 0 (a0.length:Int) y1) fun y2 hy2=>q_ret2 0 rfl rfl
def ms219_0 (lo n:Int) (s:Int×Int×List Int):Option (LO (Int×Int×List Int)):=bif decide (s.2.1 < n - lo) then ((getV s.2.2 lo n s.2.1).bind fun x1=>(getV s.2.2 lo n (wi .i64 (s.2.1 - 1))).bind fun x2=>bif x1 != x2 then (getV s.2.2 lo n s.2.1).bind fun x3=>(getI s.2.2 s.1).bind fun _=>some (LO.norm (wi .i64 (s.1 + 1),s.2.2.set s.1.toNat x3)) else some (LO.norm (s.1,s.2.2))).bind (contO (fun s'=>some (LO.norm (s'.1,wi .i64 (s.2.1 + 1),s'.2))) (fun i s'=>some (LO.exit i (s'.1,s.2.1,s'.2))) (fun s'=>some (LO.ret (s'.1,s.2.1,s'.2)))) else some (LO.exit 2 s)
def ms219_1 (xs:List Int) (s:Option (List Int)×Int):Option (LO (Option (List Int)×Int)):=
  match s.1 with
  | some _=>none
  | none=>
    bif decide (s.2 < (xs.length:Int)) then
      (getI xs s.2).bind fun x1=>(getI xs (wi .i64 (s.2 - 1))).bind fun x2=>
      bif x1 == x2 then
        (viO xs.length s.2 xs.length).bind fun _=>(loopO (ms219_0 s.2 xs.length) NN (s.2,1,xs)).bind (contO (fun _=>none) (fun i t=>if i = 2 then (viO t.2.2.length t.1 t.2.2.length).bind fun _=>(viO (clr t.2.2 t.1).length 0 t.1).bind fun _=>some (LO.ret (some ((clr t.2.2 t.1).take t.1.toNat),t.1)) else none) (fun _=>none))
      else some (LO.norm (none,wi .i64 (s.2 + 1)))
    else some (LO.exit 0 (none,s.2))
def m219 (xs:List Int):Option (List Int):=
  bif decide ((xs.length:Int) < 2) then some xs
  else (loopO (ms219_1 xs) NN (none,1)).bind (contO (fun _=>none) (fun i s=>if i = 0 then (match s.1 with | none=>some xs | some _=>none) else none) (fun s=>s.1))
theorem und219:Tryz.prog.underlying 22 = some (.slice 2):=by kernel_rfl
theorem zer219:zeroA Tryz.prog 2 = some (Enc.cs false (0:Int)):=by kernel_rfl
theorem w219 {d:Nat} (hd:1≤d) (L0:List En) (v0_:AV) (a0:List Int):Okh (sl false v0_ a0::L0) (fun S=>R NN d 219 [v0_] S) (m219 a0) (P2 (fun (t:List Int)=>cpv v0_ t.length) (fun (t:List Int)=>cl v0_ t::L0)):=by
  obtain ⟨d,rfl,g⟩:=up hd
  rw [show (fun S=>R NN (d + 1) 219 [v0_] S) = fun S=>b219 (cfg NN) (R NN d) (v0_) S from funext fun S=>t219 NN d v0_ S]
  have hwhole:Okh (sl false v0_ a0::L0) (fun S=>some (v0_,S)) (some a0) (P2 (fun (t:List Int)=>cpv v0_ t.length) (fun (t:List Int)=>cl v0_ t::L0)):=fun S hS t ht=>by
    injection ht with ht; subst ht
    refine ⟨_,rfl,?_,?_⟩
    · rcases hS.get (k:=0) rfl with ⟨rfl,rfl⟩ | ⟨b,fl,pl,rfl,_,_⟩
      · rfl
      · simp [cpv]
    · have h:=q_cl (L0:=L0) (v:=v0_) (xs:=a0) (k:=fun S=>some S) (m:=some ()) (P:=fun _ S'=>HP S' (cl v0_ a0::L0)) (fun S hS t ht=>⟨S,rfl,hS⟩) S hS () rfl
      obtain ⟨S',h1,h2⟩:=h
      injection h1 with h1; subst h1; exact h2
  unfold b219 m219
  refine q_leno 0 rfl ?_
  refine q_p (fun _=>rfl) ?_
  refine q_if (fun h1=>?_) (fun h1=>?_)
  · exact hwhole
  · refine q_loop (I:=(fun (s:Option (List Int)×Int) l L=>match s.1 with | none=>l = [.rsl false true [],.int .i64 s.2]∧L = sl false v0_ a0::L0 | some ys=>l = [cpv v0_ ys.length,.int .i64 s.2]∧L = cl v0_ ys::L0)) 0 rr ?_ ?_ ?_
    · rintro ⟨s1,k⟩ l L' hI
      cases s1 with
      | some ys=>exact q_none
      | none=>
        obtain ⟨rfl,rfl⟩:=hI
        unfold s219_1 ms219_1
        refine q_leno 0 rfl ?_
        refine q_p (fun _=>rfl) ?_
        refine q_if (fun h2=>?_) (fun h2=>?_)
        · refine q_ixo 0 rfl rfl fun x1 hx1=>?_
          refine q_ldo 0 rfl hx1 rfl ?_
          refine q_p (fun _=>rfl) ?_
          refine q_ixo 0 rfl rfl fun x2 hx2=>?_
          refine q_ldo 0 rfl hx2 rfl ?_
          refine q_p (fun _=>rfl) ?_
          refine q_i ?_ ?_
          · refine q_vi 0 rfl rfl (.inl rfl) (.inr ⟨rfl,rfl⟩) fun g1 g2 g3=>?_
            refine q_loop (I:=(fun (s:Int×Int×List Int) l L=>l = [.int .i64 s.1,.int .i64 s.2.1]∧L = sl false v0_ s.2.2::L0∧s.2.2.length = a0.length)) 0 ⟨rfl,rfl,rfl⟩ ?_ ?_ ?_
            · rintro ⟨i,k2,ys⟩ _ _ ⟨rfl,rfl,hl⟩
              unfold s219_0 ms219_0
              refine q_vlen 0 rfl g1 g2 (by dsimp only at hl ⊢; omega) ?_
              refine q_p (fun _=>rfl) ?_
              refine q_i ?_ ?_
              · refine q_cut (I:=(fun (s:Int×List Int) l L=>l = [.int .i64 s.1]∧L = sl false v0_ s.2::L0∧s.2.length = a0.length)) ?_ ?_ ?_ ?_
                · refine q_vix 0 rfl rfl g1 g2 (by dsimp only at hl ⊢; omega) fun x3 hx3=>?_
                  refine q_ldo 0 rfl hx3 rfl ?_
                  refine q_p (fun _=>rfl) ?_
                  refine q_vix 0 rfl rfl g1 g2 (by dsimp only at hl ⊢; omega) fun x4 hx4=>?_
                  refine q_ldo 0 rfl hx4 rfl ?_
                  refine q_p (fun _=>rfl) ?_
                  refine q_i ?_ ?_
                  · refine q_vix 0 rfl rfl g1 g2 (by dsimp only at hl ⊢; omega) fun x5 hx5=>?_
                    refine q_ldo 0 rfl hx5 rfl ?_
                    refine q_ixo 0 rfl rfl fun x6 hx6=>?_
                    refine q_stoe 0 rfl rfl hx6 rfl (by decide) ?_
                    refine q_p (fun _=>rfl) ?_
                    exact q_norm 0 ⟨rfl,rfl,by simpa using hl⟩
                  · exact q_norm 0 ⟨rfl,rfl,hl⟩
                · rintro ⟨i',ys'⟩ _ _ ⟨rfl,rfl,hl'⟩
                  refine q_p (fun _=>rfl) ?_
                  exact q_norm 0 ⟨rfl,rfl,hl'⟩
                · rintro j ⟨i',ys'⟩ _ _ ⟨rfl,rfl,hl'⟩
                  exact q_exit 0 ⟨rfl,rfl,hl'⟩
                · rintro ⟨i',ys'⟩ _ _ ⟨rfl,rfl,hl'⟩
                  exact q_lret 0 ⟨rfl,rfl,hl'⟩
              · exact q_exit 0 ⟨rfl,rfl,hl⟩
            · rintro j ⟨i,k2,ys⟩ _ _ ⟨rfl,rfl,hl⟩
              refine q_n ?_ ?_
              · refine q_vi 0 rfl rfl (.inl rfl) (.inr ⟨rfl,rfl⟩) fun g4 g5 g6=>?_
                refine q_vclr (te:=2) (z:=(0:Int)) 0 rfl und219 zer219 g4 g5 g6 ?_
                refine q_vi (xs:=clr ys i) (i:=0) 0 rfl rfl (.inr ⟨rfl,rfl⟩) (.inl rfl) fun g7 g8 g9=>?_
                have e1:((clr ys i).take i.toNat).length = i.toNat:=by rw [List.length_take]; omega
                refine q_cut0 (ys:=(clr ys i).take i.toNat) (by rw [e1]; rfl) ?_
                refine q_lret 0 ⟨?_,rfl⟩
                rw [e1]
                show [viA v0_ 0 i.toNat,_] = _
                rw [viA0]; rfl
              · exact q_none
            · rintro ⟨i,k2,ys⟩ _ _ ⟨rfl,rfl,hl⟩
              exact q_none
          · refine q_p (fun _=>rfl) ?_
            exact q_norm 0 rr
        · exact q_exit 0 rr
    · rintro i ⟨s1,k⟩ l L' hI
      refine q_n ?_ ?_
      · cases s1 with
        | some ys=>exact q_none
        | none=>obtain ⟨rfl,rfl⟩:=hI; exact hwhole
      · exact q_none
    · rintro ⟨s1,k⟩ l L' hI
      cases s1 with
      | none=>exact q_none
      | some ys=>
        obtain ⟨rfl,rfl⟩:=hI
        exact q_ret2 0 rfl rfl
def ms197_0 (a0:List TMsg) (a1:Int) (a2:Int) (a3:Int) (a4:Int) (s1:Int×(List Int)):Option (LO (Int×(List Int))):=bif decide (s1.1 < (a0.length:Int)) then ( (getI a0 s1.1).bind fun x1=>( bif x1.Kind == a1 then bif x1.View == a2 then bif x1.Slot == a3 then some (LO.norm (x1.Value == a4)) else some (LO.norm false) else some (LO.norm false) else some (LO.norm false)).bind (contO (fun s4=>bif s4 then (appO 8 s1.2 [x1.From]).bind fun z1=>some (LO.norm z1) else some (LO.norm s1.2)) (fun i1 s4=>if i1 = 1 then some (LO.norm s1.2) else some (LO.exit i1 s1.2)) (fun s4=>some (LO.ret s1.2)))).bind (contO (fun s5=>some (LO.norm (wi .i64 (s1.1 + 1),s5))) (fun i2 s5=>some (LO.exit i2 (s1.1,s5))) (fun s5=>some (LO.ret (s1.1,s5)))) else some (LO.exit 0 (s1.1,s1.2))
def m197 (a0:List TMsg) (a1:Int) (a2:Int) (a3:Int) (a4:Int):Option ((List Int)):=(loopO (ms197_0 a0 a1 a2 a3 a4) NN (0,[])).bind (contO (fun _=>none) (fun i3 s6=>if i3 = 0 then (m163 s6.2).bind fun y1=>(m219 y1).bind fun y2=>some y2 else none) (fun s6=>some []))
theorem w197 {d:Nat} (hd:137≤d) (k0:Bool) (a0:List TMsg) (a1:Int) (a2:Int) (a3:Int) (a4:Int):Fit (R NN d 197 [.rsl k0 false (a0.map (Enc.cs k0)),.int .i64 a1,.int .i64 a2,.int .i64 a3,.int .i64 a4] []) (m197 a0 a1 a2 a3 a4) (P0 (fun (t:List Int)=>AV.rsl false false (t.map (Enc.cs false)))):=by
  obtain ⟨d,rfl,g⟩:=up hd
  refine q_in (t197 NN d _ _ _ _ _) ?_
  unfold b197 m197
  refine q_q (fun _=>qs22_0)<|q_len<|q_nil (α:=Int) false<|q_loop (I:=(fun (s:Int×(List Int)) l L=>∃ (v1:AV),l = [v1,.int .i64 s.1]∧L = [sl false v1 (s.2:List Int)])) 0 ⟨(.rsl false true []),rfl,rfl⟩ ?_ ?_ ?_
  ·rintro s1 _ _ ⟨v1,rfl,rfl⟩
   unfold s197_0 ms197_0
   refine q_p fr<|q_i ?_ ?_
   ·refine q_cut (I:=(fun (s:(List Int)) l L=>∃ (v2:AV),l = [v2]∧L = [sl false v2 (s:List Int)])) ?_ ?_ ?_ ?_
    ·refine q_ix rfl fun x1 hx1=>q_p fr<|q_new rfl fun b1=>q_st 0 rfl rfl rfl (by decide) rfl<|q_cu (A:=fun (s:Bool)=>[.bool s]) (B:=fun s=>[bx b1 [.int .i64 x1.Kind,.int .i64 x1.View,.int .i64 x1.From,.int .i64 x1.Slot,.int .i64 x1.Value,.rsl k0 false (x1.Certs.map (Enc.cs k0)),.rsl k0 false (x1.Refs.map (Enc.cs k0))],sl false v1 (s1.2:List Int)]) ?_ ?_ ?_ ?_
     ·exact q_p fr<|q_ld 0 rfl rfl<|q_p fr<|q_k (q_p fr<|q_ld 0 rfl rfl<|q_p fr<|q_k (q_p fr<|q_ld 0 rfl rfl<|q_p fr<|q_k (q_p fr<|q_ld 0 rfl rfl<|q_p fr<|q_norm 0 rr)<|q_norm 0 rr)<|q_norm 0 rr)<|q_norm 0 rr
     ·exact fun s4=>q_i (q_p fr<|q_ld 0 rfl rfl<|q_e (fun _=>bs22_1 rfl)<|q_app (ys:=[x1.From]) 1 rfl rfl (fun _ _=>rfl) fun v2 z1 hz1=>q_norm 1 ⟨v2,rfl,rfl⟩)<|q_norm 1 ⟨v1,rfl,rfl⟩
     ·exact fun i1 s4=>q_n (q_norm 1 ⟨v1,rfl,rfl⟩)<|q_exit 1 ⟨v1,rfl,rfl⟩
     ·exact fun s4=>q_lret 1 ⟨v1,rfl,rfl⟩
    ·rintro s5 _ _ ⟨v3,rfl,rfl⟩
     exact q_p fr<|q_norm 0 ⟨v3,rfl,rfl⟩
    ·rintro i2 s5 _ _ ⟨v4,rfl,rfl⟩
     exact q_exit 0 ⟨v4,rfl,rfl⟩
    ·rintro s5 _ _ ⟨v5,rfl,rfl⟩
     exact q_lret 0 ⟨v5,rfl,rfl⟩
   ·exact q_exit 0 ⟨v1,rfl,rfl⟩
  ·rintro i3 s6 _ _ ⟨v6,rfl,rfl⟩
   exact q_n (q_s (mg:=m163 s6.2) (w163 (by omega) _ _ s6.2) fun y1 hy1=>q_s (mg:=m219 y1) (w219 (by omega) _ _ y1) fun y2 hy2=>q_ret (cv_cl 0 rfl) rfl)<|q_none
  ·rintro s6 _ _ ⟨v7,rfl,rfl⟩
   exact q_ret (cv_r (α:=Int) (l0:=false) (fl:=true) (xs:=[])) rfl
def m162 (a0:Int) (a1:List TMsg) (a2:Int) (a3:Int) (a4:Int) (a5:Int):Option (Bool):=(m197 a1 a2 a3 a4 a5).bind fun y1=>some (decide ((y1.length:Int) ≥ (wi .i64 ((wi .i64 (2 * a0)) + 1))))
theorem w162 {d:Nat} (hd:138≤d) (a0:Int) (k1:Bool) (a1:List TMsg) (a2:Int) (a3:Int) (a4:Int) (a5:Int):Fit (R NN d 162 [.int .i64 a0,.rsl k1 false (a1.map (Enc.cs k1)),.int .i64 a2,.int .i64 a3,.int .i64 a4,.int .i64 a5] []) (m162 a0 a1 a2 a3 a4 a5) PB:=by
  obtain ⟨d,rfl,g⟩:=up hd
  refine q_in (t162 NN d _ _ _ _ _ _) ?_
  unfold b162 m162
  exact q_c0 (fun S hS=>argF5 cv_r (cv_p rfl) (cv_p rfl) (cv_p rfl) (cv_p rfl) hS fun l0_ l1_ l2_ l3_ l4_=>w197 (by omega) l0_ a1 a2 a3 a4 a5) fun y1 hy1=>q_len<|q_p fr<|q_p fr<|q_p fr<|q_ret (cv_p rfl) rfl
def ms110_0 (a0:Int) (a1:List TMsg) (a2:Int) (s1:Int×(List Int)):Option (LO (Int×(List Int))):=bif decide (s1.1 < (a1.length:Int)) then ( (getI a1 s1.1).bind fun x1=>( bif x1.Kind == 3 then bif x1.Slot == a2 then (m109 s1.2 x1.Value).bind fun y1=>bif !y1 then (m162 a0 a1 3 x1.View a2 x1.Value).bind fun y2=>some (LO.norm y2) else some (LO.norm false) else some (LO.norm false) else some (LO.norm false)).bind (contO (fun s4=>bif s4 then (appO 8 s1.2 [x1.Value]).bind fun z1=>some (LO.norm z1) else some (LO.norm s1.2)) (fun i1 s4=>if i1 = 1 then some (LO.norm s1.2) else some (LO.exit i1 s1.2)) (fun s4=>some (LO.ret s1.2)))).bind (contO (fun s5=>some (LO.norm (wi .i64 (s1.1 + 1),s5))) (fun i2 s5=>some (LO.exit i2 (s1.1,s5))) (fun s5=>some (LO.ret (s1.1,s5)))) else some (LO.exit 0 (s1.1,s1.2))
def m110 (a0:Int) (a1:List TMsg) (a2:Int):Option ((List Int)):=(loopO (ms110_0 a0 a1 a2) NN (0,[])).bind (contO (fun _=>none) (fun i3 s6=>if i3 = 0 then (m163 s6.2).bind fun y3=>some y3 else none) (fun s6=>some []))
theorem w110 {d:Nat} (hd:139≤d) (a0:Int) (k1:Bool) (a1:List TMsg) (a2:Int):Fit (R NN d 110 [.int .i64 a0,.rsl k1 false (a1.map (Enc.cs k1)),.int .i64 a2] []) (m110 a0 a1 a2) (P0 (fun (t:List Int)=>AV.rsl false false (t.map (Enc.cs false)))):=by
  obtain ⟨d,rfl,g⟩:=up hd
  refine q_in (t110 NN d _ _ _) ?_
  unfold b110 m110
  refine q_q (fun _=>qs22_0)<|q_len<|q_nil (α:=Int) false<|q_loop (I:=(fun (s:Int×(List Int)) l L=>∃ (v1:AV),l = [v1,.int .i64 s.1]∧L = [sl false v1 (s.2:List Int)])) 0 ⟨(.rsl false true []),rfl,rfl⟩ ?_ ?_ ?_
  ·rintro s1 _ _ ⟨v1,rfl,rfl⟩
   unfold s110_0 ms110_0
   refine q_p fr<|q_i ?_ ?_
   ·refine q_cut (I:=(fun (s:(List Int)) l L=>∃ (v2:AV),l = [v2]∧L = [sl false v2 (s:List Int)])) ?_ ?_ ?_ ?_
    ·refine q_ix rfl fun x1 hx1=>q_p fr<|q_new rfl fun b1=>q_st 0 rfl rfl rfl (by decide) rfl<|q_cu (A:=fun (s:Bool)=>[.bool s]) (B:=fun s=>[bx b1 [.int .i64 x1.Kind,.int .i64 x1.View,.int .i64 x1.From,.int .i64 x1.Slot,.int .i64 x1.Value,.rsl k1 false (x1.Certs.map (Enc.cs k1)),.rsl k1 false (x1.Refs.map (Enc.cs k1))],sl false v1 (s1.2:List Int)]) ?_ ?_ ?_ ?_
     ·exact q_p fr<|q_ld 0 rfl rfl<|q_p fr<|q_k (q_p fr<|q_ld 0 rfl rfl<|q_p fr<|q_k (q_p fr<|q_ld 0 rfl rfl<|q_c0 (aF2 (cv_o 1 rfl) (cv_p rfl) fun l0_ l1_=>w109 (by omega) l0_ s1.2 x1.Value) fun y1 hy1=>q_p fr<|q_k (q_p fr<|q_ld 0 rfl rfl<|q_p fr<|q_ld 0 rfl rfl<|q_c0 (fun S hS=>argF6 (cv_p rfl) cv_r (cv_p rfl) (cv_p rfl) (cv_p rfl) (cv_p rfl) hS fun l0_ l1_ l2_ l3_ l4_ l5_=>w162 (by omega) a0 l1_ a1 3 x1.View a2 x1.Value) fun y2 hy2=>q_norm 0 rr)<|q_norm 0 rr)<|q_norm 0 rr)<|q_norm 0 rr
     ·exact fun s4=>q_i (q_p fr<|q_ld 0 rfl rfl<|q_e (fun _=>bs22_1 rfl)<|q_app (ys:=[x1.Value]) 1 rfl rfl (fun _ _=>rfl) fun v2 z1 hz1=>q_norm 1 ⟨v2,rfl,rfl⟩)<|q_norm 1 ⟨v1,rfl,rfl⟩
     ·exact fun i1 s4=>q_n (q_norm 1 ⟨v1,rfl,rfl⟩)<|q_exit 1 ⟨v1,rfl,rfl⟩
     ·exact fun s4=>q_lret 1 ⟨v1,rfl,rfl⟩
    ·rintro s5 _ _ ⟨v3,rfl,rfl⟩
     exact q_p fr<|q_norm 0 ⟨v3,rfl,rfl⟩
    ·rintro i2 s5 _ _ ⟨v4,rfl,rfl⟩
     exact q_exit 0 ⟨v4,rfl,rfl⟩
    ·rintro s5 _ _ ⟨v5,rfl,rfl⟩
     exact q_lret 0 ⟨v5,rfl,rfl⟩
   ·exact q_exit 0 ⟨v1,rfl,rfl⟩
  ·rintro i3 s6 _ _ ⟨v6,rfl,rfl⟩
   exact q_n (q_s (mg:=m163 s6.2) (w163 (by omega) _ _ s6.2) fun y3 hy3=>q_ret (cv_o 0 rfl) rfl)<|q_none
  ·rintro s6 _ _ ⟨v7,rfl,rfl⟩
   exact q_ret (cv_r (α:=Int) (l0:=false) (fl:=true) (xs:=[])) rfl
def ms61_0 (a0:Int) (a1:List TMsg) (s1:Int×(List Int)):Option (LO (Int×(List Int))):=bif decide (s1.1≤30) then (m110 a0 a1 s1.1).bind fun y1=>bif (y1.length:Int) == 0 then some (LO.exit 0 (s1.1,s1.2)) else (getI y1 0).bind fun x1=>(appO 8 s1.2 [x1]).bind fun z1=>some (LO.norm (wi .i64 (s1.1 + 1),z1)) else some (LO.exit 0 (s1.1,s1.2))
def m61 (a0:Int) (a1:List TMsg):Option ((List Int)):=(loopO (ms61_0 a0 a1) NN (1,[])).bind (contO (fun _=>none) (fun i1 s2=>if i1 = 0 then some s2.2 else none) (fun s2=>some []))
theorem w61 {d:Nat} (hd:140≤d) (a0:Int) (k1:Bool) (a1:List TMsg):Fit (R NN d 61 [.int .i64 a0,.rsl k1 false (a1.map (Enc.cs k1))] []) (m61 a0 a1) (P0 (fun (t:List Int)=>AV.rsl false false (t.map (Enc.cs false)))):=by
  obtain ⟨d,rfl,g⟩:=up hd
  refine q_in (t61 NN d _ _) ?_
  unfold b61 m61
  refine q_q (fun _=>qs22_0)<|q_nil (α:=Int) false<|q_loop (I:=(fun (s:Int×(List Int)) l L=>∃ (v1:AV),l = [v1,.int .i64 s.1]∧L = [sl false v1 (s.2:List Int)])) 0 ⟨(.rsl false true []),rfl,rfl⟩ ?_ ?_ ?_
  ·rintro s1 _ _ ⟨v1,rfl,rfl⟩
   unfold s61_0 ms61_0
   exact q_p fr<|q_i (q_c0 (aF3 (cv_p rfl) cv_r (cv_p rfl) fun l0_ l1_ l2_=>w110 (by omega) a0 l1_ a1 s1.1) fun y1 hy1=>q_len<|q_p fr<|q_i (q_exit 0 ⟨v1,rfl,rfl⟩)<|q_ix rfl fun x1 hx1=>q_p fr<|q_e (fun _=>bs22_1 rfl)<|q_app (ys:=[x1]) 0 rfl rfl (fun _ _=>rfl) fun v2 z1 hz1=>q_p fr<|q_norm 0 ⟨v2,rfl,rfl⟩)<|q_exit 0 ⟨v1,rfl,rfl⟩
  ·rintro i1 s2 _ _ ⟨v3,rfl,rfl⟩
   exact q_n (q_ret (cv_o 0 rfl) rfl)<|q_none
  ·rintro s2 _ _ ⟨v4,rfl,rfl⟩
   exact q_ret (cv_r (α:=Int) (l0:=false) (fl:=true) (xs:=[])) rfl
def m164 (a0:List TMsg) (a1:Int) (a2:Int):Option (TMsg×Bool):=bif !(m112 a1 0 (wi .i64 ((a0.length:Int) - 1))) then some ((⟨0,0,0,0,0,[],[]⟩:TMsg),false) else (getI a0 a1).bind fun x1=>bif x1.Kind == a2 then some (x1,decide (x1.View > 0)) else some (x1,false)
theorem w164 {d:Nat} (hd:2≤d) (L0:List En) (k0:Bool) (f0_:Bool) (a0:List TMsg) (a1:Int) (a2:Int):Okh (L0) (fun S=>R NN d 164 [.rsl k0 f0_ (a0.map (Enc.cs k0)),.int .i64 a1,.int .i64 a2] S) (m164 a0 a1 a2) (P3 (fun (x:Bool×Bool×Bool×Bool) (t:TMsg×Bool)=>AV.tup [AV.agg [.int .i64 t.1.Kind,.int .i64 t.1.View,.int .i64 t.1.From,.int .i64 t.1.Slot,.int .i64 t.1.Value,.rsl x.1 x.2.1 (t.1.Certs.map (Enc.cs x.1)),.rsl x.2.2.1 x.2.2.2 (t.1.Refs.map (Enc.cs x.2.2.1))],AV.bool t.2]) (fun (_:TMsg×Bool)=>L0)):=by
  obtain ⟨d,rfl,g⟩:=up hd
  refine q_to (t164 NN d _ _ _) ?_
  unfold b164 m164
  exact q_new rfl fun b1=>q_len<|q_p fr<|q_c0t (aF3 (cv_p rfl) (cv_p rfl) (cv_p rfl) fun l0_ l1_ l2_=>w112 (by omega) a1 0 (wi .i64 ((a0.length:Int) - 1)))<|q_p fr<|q_i (q_p (fun _=>bd70 rfl)<|q_st 0 rfl rfl rfl (by decide) rfl<|q_retm3 (false,true,false,true) 1 (fun S hS=>res2_of (hS.lda 0 rfl rfl) rfl) rfl rfl)<|q_ix rfl fun x1 hx1=>q_p fr<|q_new rfl fun b2=>q_st 0 rfl rfl rfl (by decide) rfl<|q_lda 0 rfl rfl rfl<|q_p fr<|q_ld 0 rfl rfl<|q_p fr<|q_k (q_p fr<|q_ld 0 rfl rfl<|q_p fr<|q_st 1 rfl rfl rfl (by decide) rfl<|q_ap (fun S hS=>(and_t (hS.ap 0 1 rfl rfl (by decide)) rfl))<|q_retm3 (k0,false,k0,false) 2 (fun S hS=>res2_of (hS.lda 1 rfl rfl) rfl) rfl rfl)<|q_st 1 rfl rfl rfl (by decide) rfl<|q_ap (fun S hS=>(and_t rfl rfl))<|q_retm3 (k0,false,k0,false) 2 (fun S hS=>res2_of (hS.lda 1 rfl rfl) rfl) rfl rfl
def m165 (a0:Int) (a1:Int):Option (Int):=(remO a1 (m108 a0)).bind fun q1=>some (wi .i64 (1 + q1))
theorem w165 {d:Nat} (hd:2≤d) (a0:Int) (a1:Int):Fit (R NN d 165 [.int .i64 a0,.int .i64 a1] []) (m165 a0 a1) PI:=by
  obtain ⟨d,rfl,g⟩:=up hd
  refine q_in (t165 NN d _ _) ?_
  unfold b165 m165
  exact q_c0t (aF1 (cv_p rfl) fun l0_=>w108 (by omega) a0)<|q_rem2 fun q1 hq1=>q_p fr<|q_ret (cv_p rfl) rfl
def m201 (a0:Int) (a1:List TMsg) (a2:TCert):Option (Bool):=( bif (m151 a2.Slot) then bif (m111 a2.View) then bif (m152 a2.Value) then (m162 a0 a1 2 a2.View a2.Slot a2.Value).bind fun y1=>some (LO.norm y1) else some (LO.norm false) else some (LO.norm false) else some (LO.norm false)).bind (contO (fun s2=>some s2) (fun i1 s2=>none) (fun s2=>some s2))
theorem w201 {d:Nat} (hd:139≤d) (a0:Int) (k1:Bool) (a1:List TMsg) (k2:Bool) (a2:TCert):Fit (R NN d 201 [.int .i64 a0,.rsl k1 false (a1.map (Enc.cs k1)),.agg (Enc.cs k2 a2)] []) (m201 a0 a1 a2) PB:=by
  obtain ⟨d,rfl,g⟩:=up hd
  refine q_in (t201 NN d _ _ _) ?_
  unfold b201 m201
  refine q_box (n:=3) rfl rfl (by decide) fun b1=>q_cu (A:=fun (s:Bool)=>[.bool s]) (B:=fun s=>[bx b1 [.int .i64 a2.Slot,.int .i64 a2.View,.int .i64 a2.Value]]) ?_ ?_ ?_ ?_
  ·exact q_p fr<|q_ld 0 rfl rfl<|q_c0t (aF1 (cv_p rfl) fun l0_=>w151 (by omega) a2.Slot)<|q_k (q_p fr<|q_ld 0 rfl rfl<|q_c0t (aF1 (cv_p rfl) fun l0_=>w111 (by omega) a2.View)<|q_k (q_p fr<|q_ld 0 rfl rfl<|q_c0t (aF1 (cv_p rfl) fun l0_=>w152 (by omega) a2.Value)<|q_k (q_p fr<|q_ld 0 rfl rfl<|q_p fr<|q_ld 0 rfl rfl<|q_p fr<|q_ld 0 rfl rfl<|q_c0 (fun S hS=>argF6 (cv_p rfl) cv_r (cv_p rfl) (cv_p rfl) (cv_p rfl) (cv_p rfl) hS fun l0_ l1_ l2_ l3_ l4_ l5_=>w162 (by omega) a0 l1_ a1 2 a2.View a2.Slot a2.Value) fun y1 hy1=>q_norm 0 rr)<|q_norm 0 rr)<|q_norm 0 rr)<|q_norm 0 rr
  ·exact fun s2=>q_ret (cv_p rfl) rfl
  ·exact fun i1 s2=>q_none
  ·exact fun s2=>q_ret (cv_p rfl) rfl
def m200 (a0:TCert) (a1:Int) (a2:List TMsg):Option (Bool):=(m201 a1 a2 a0).bind fun y1=>some (!y1)
theorem w200 {d:Nat} (hd:140≤d) (k0:Bool) (a0:TCert) (k1:Bool) (a1:Int) (k2:Bool) (a2:List TMsg):Fit (R NN d 200 [.agg (Enc.cs k0 a0),.rp k1 (Enc.cs k1 a1),.rp k2 (Enc.cs k2 a2)] []) (m200 a0 a1 a2) PB:=by
  obtain ⟨d,rfl,g⟩:=up hd
  refine q_in (t200 NN d _ _ _) ?_
  unfold b200 m200
  exact q_box (n:=3) rfl rfl (by decide) fun b1=>q_p fr<|q_p fr<|q_lda 0 rfl rfl rfl<|q_c0 (aF3 (cv_p rfl) cv_r (cv_a (cvs_e (l0:=false) (x:=a0))) fun l0_ l1_ l2_=>w201 (by omega) a1 l1_ a2 l2_ a0) fun y1 hy1=>q_p fr<|q_ret (cv_p rfl) rfl
def m166 (a0:Int) (a1:List TMsg) (a2:Int):Option (Bool):=(m164 a1 a2 4).bind fun y1=>bif y1.2 then (m153 y1.1.Certs (fun x0_=>m200 x0_ a0 a1)).bind fun y2=>some (!y2) else some false
theorem w166 {d:Nat} (hd:143≤d) (a0:Int) (k1:Bool) (a1:List TMsg) (a2:Int):Fit (R NN d 166 [.int .i64 a0,.rsl k1 false (a1.map (Enc.cs k1)),.int .i64 a2] []) (m166 a0 a1 a2) PB:=by
  obtain ⟨d,rfl,g⟩:=up hd
  refine q_in (t166 NN d _ _ _) ?_
  unfold b166 m166
  exact q_box (n:=1) rfl rfl (by decide) fun b1=>q_box (n:=1) rfl rfl (by decide) fun b2=>q_ld 0 rfl rfl<|q_s3 (mg:=m164 a1 a2 4) (w164 (by omega) _ k1 _ a1 a2 4) fun y1 hy1 x1=>q_q fr<|q_q fr<|q_new rfl fun b3=>q_st 0 rfl rfl rfl (by decide) rfl<|q_k (q_p fr<|q_ld 0 rfl rfl<|q_c0 (aF2 cv_r (cv_f (cvs_cons (cv_b 2 rfl (cvs_e (l0:=false) (x:=a0))) (cvs_cons (cv_b 1 rfl (cvs_e (l0:=k1) (x:=a1))) cvs_nil))) fun l0_ l1_=>w153 (Dc:=140) (by omega) l0_ y1.1.Certs (fun l=>.fn 200 [.rp l (Enc.cs l a0),.rp l (Enc.cs l a1)]) (fun l=>cv_f (cvs_cons (cv_rp (cvs_e (l0:=l) (x:=a0)) (fun _ _ _ h=>Enc.frz _ a0 _ _ _ h)) (cvs_cons (cv_rp (cvs_e (l0:=l) (x:=a1)) (fun _ _ _ h=>Enc.frz _ a1 _ _ _ h)) cvs_nil))) (fun x0_=>m200 x0_ a0 a1) (fun d hd l q0_ x0_ S t ht=>(cv194_200 _ _ _ _).trans (call0_of (E:=(fun (t:Bool)=>AV.bool t)) (mg:=m200 x0_ a0 a1) (args3 (M:=fun a=>Fit (R NN d 200 a []) _ _) (cv_a (cvs_e (l0:=q0_) (x:=x0_))) (cv_rp (cvs_e (l0:=l) (x:=a0)) (fun _ _ _ h=>Enc.frz _ a0 _ _ _ h)) (cv_rp (cvs_e (l0:=l) (x:=a1)) (fun _ _ _ h=>Enc.frz _ a1 _ _ _ h)) HP.nil fun u0_ v0_ v1_=>w200 hd u0_ x0_ v0_ a0 v1_ a1) ht)) l1_) fun y2 hy2=>q_p fr<|q_ret (cv_p rfl) rfl)<|q_ret (cv_p rfl) rfl
def ms113_0 (a0:Int) (a1:List TMsg) (y1:TMsg×Bool) (s5:Bool×Int×(List Int)):Option (LO (Bool×Int×(List Int))):=bif decide (s5.2.1 < (y1.1.Refs.length:Int)) then ( (getI y1.1.Refs s5.2.1).bind fun x2=>( ( (m166 a0 a1 x2).bind fun y3=>bif !y3 then some (LO.norm true) else (getI a1 x2).bind fun x3=>bif x3.View != y1.1.View then some (LO.norm true) else (getI a1 x2).bind fun x4=>(m109 s5.2.2 x4.From).bind fun y4=>some (LO.norm y4)).bind (contO (fun s9=>bif s9 then some (LO.ret false) else some (LO.norm s5.1)) (fun i3 s9=>some (LO.exit i3 s5.1)) (fun s9=>some (LO.ret s5.1)))).bind (contO (fun s10=>(getI a1 x2).bind fun x5=>(appO 8 s5.2.2 [x5.From]).bind fun z1=>some (LO.norm (s10,z1))) (fun i4 s10=>if i4 = 1 then some (LO.norm (s10,s5.2.2)) else some (LO.exit i4 (s10,s5.2.2))) (fun s10=>some (LO.ret (s10,s5.2.2))))).bind (contO (fun s11=>some (LO.norm (s11.1,wi .i64 (s5.2.1 + 1),s11.2))) (fun i5 s11=>some (LO.exit i5 (s11.1,s5.2.1,s11.2))) (fun s11=>some (LO.ret (s11.1,s5.2.1,s11.2)))) else some (LO.exit 0 (s5.1,s5.2.1,s5.2.2))
def m113 (a0:Int) (a1:List TMsg) (a2:Int):Option (Bool):=(m164 a1 a2 5).bind fun y1=>( ( bif !y1.2 then some (LO.norm true) else (m165 a0 y1.1.View).bind fun y2=>bif y1.1.From != y2 then some (LO.norm true) else some (LO.norm (decide ((y1.1.Refs.length:Int) < (wi .i64 ((wi .i64 (2 * a0)) + 1)))))).bind (contO (fun s3=>bif s3 then some (LO.ret false) else some (LO.norm false)) (fun i1 s3=>some (LO.exit i1 false)) (fun s3=>some (LO.ret false)))).bind (contO (fun s4=>(loopO (ms113_0 a0 a1 y1) NN (s4,0,[])).bind (contO (fun _=>none) (fun i6 s12=>if i6 = 0 then some true else none) (fun s12=>some s12.1))) (fun i2 s4=>none) (fun s4=>some s4))
theorem w113 {d:Nat} (hd:144≤d) (a0:Int) (k1:Bool) (a1:List TMsg) (a2:Int):Fit (R NN d 113 [.int .i64 a0,.rsl k1 false (a1.map (Enc.cs k1)),.int .i64 a2] []) (m113 a0 a1 a2) PB:=by
  obtain ⟨d,rfl,g⟩:=up hd
  refine q_in (t113 NN d _ _ _) ?_
  unfold b113 m113
  refine q_s3 (mg:=m164 a1 a2 5) (w164 (by omega) _ k1 _ a1 a2 5) fun y1 hy1 x1=>q_q fr<|q_q fr<|q_new rfl fun b1=>q_st 0 rfl rfl rfl (by decide) rfl<|q_cu (A:=fun (s:Bool)=>[.bool s]) (B:=fun s=>[bx b1 [.int .i64 y1.1.Kind,.int .i64 y1.1.View,.int .i64 y1.1.From,.int .i64 y1.1.Slot,.int .i64 y1.1.Value,.rsl x1.1 x1.2.1 (y1.1.Certs.map (Enc.cs x1.1)),.rsl x1.2.2.1 x1.2.2.2 (y1.1.Refs.map (Enc.cs x1.2.2.1))]]) ?_ ?_ ?_ ?_
  ·refine q_cu (A:=fun (s:Bool)=>[.bool s]) (B:=fun s=>[bx b1 [.int .i64 y1.1.Kind,.int .i64 y1.1.View,.int .i64 y1.1.From,.int .i64 y1.1.Slot,.int .i64 y1.1.Value,.rsl x1.1 x1.2.1 (y1.1.Certs.map (Enc.cs x1.1)),.rsl x1.2.2.1 x1.2.2.2 (y1.1.Refs.map (Enc.cs x1.2.2.1))]]) ?_ ?_ ?_ ?_
   ·exact q_p fr<|q_j (q_norm 0 rr)<|q_p fr<|q_ld 0 rfl rfl<|q_p fr<|q_ld 0 rfl rfl<|q_c0 (aF2 (cv_p rfl) (cv_p rfl) fun l0_ l1_=>w165 (by omega) a0 y1.1.View) fun y2 hy2=>q_p fr<|q_j (q_norm 0 rr)<|q_p fr<|q_ld 0 rfl rfl<|q_len<|q_p fr<|q_p fr<|q_p fr<|q_norm 0 rr
   ·exact fun s3=>q_i (q_lret 0 rr)<|q_norm 0 rr
   ·exact fun i1 s3=>q_exit 0 rr
   ·exact fun s3=>q_lret 0 rr
  ·intro s4
   refine q_q (fun _=>qs22_0)<|q_p fr<|q_ld 0 rfl rfl<|q_len<|q_nil (α:=Int) false<|q_loop (I:=(fun (s:Bool×Int×(List Int)) l L=>∃ (v1:AV),l = [.bool s.1,v1,.int .i64 s.2.1]∧L = [sl false v1 (s.2.2:List Int),bx b1 [.int .i64 y1.1.Kind,.int .i64 y1.1.View,.int .i64 y1.1.From,.int .i64 y1.1.Slot,.int .i64 y1.1.Value,.rsl x1.1 x1.2.1 (y1.1.Certs.map (Enc.cs x1.1)),.rsl x1.2.2.1 x1.2.2.2 (y1.1.Refs.map (Enc.cs x1.2.2.1))]])) 0 ⟨(.rsl false true []),rfl,rfl⟩ ?_ ?_ ?_
   ·rintro s5 _ _ ⟨v1,rfl,rfl⟩
    unfold s113_0 ms113_0
    refine q_p fr<|q_i ?_ ?_
    ·refine q_cut (I:=(fun (s:Bool×(List Int)) l L=>∃ (v2:AV),l = [.bool s.1,v2]∧L = [sl false v2 (s.2:List Int),bx b1 [.int .i64 y1.1.Kind,.int .i64 y1.1.View,.int .i64 y1.1.From,.int .i64 y1.1.Slot,.int .i64 y1.1.Value,.rsl x1.1 x1.2.1 (y1.1.Certs.map (Enc.cs x1.1)),.rsl x1.2.2.1 x1.2.2.2 (y1.1.Refs.map (Enc.cs x1.2.2.1))]])) ?_ ?_ ?_ ?_
     ·refine q_ix rfl fun x2 hx2=>q_p fr<|q_cu (A:=fun (s:Bool)=>[.bool s]) (B:=fun s=>[sl false v1 (s5.2.2:List Int),bx b1 [.int .i64 y1.1.Kind,.int .i64 y1.1.View,.int .i64 y1.1.From,.int .i64 y1.1.Slot,.int .i64 y1.1.Value,.rsl x1.1 x1.2.1 (y1.1.Certs.map (Enc.cs x1.1)),.rsl x1.2.2.1 x1.2.2.2 (y1.1.Refs.map (Enc.cs x1.2.2.1))]]) ?_ ?_ ?_ ?_
      ·refine q_cu (A:=fun (s:Bool)=>[.bool s]) (B:=fun s=>[sl false v1 (s5.2.2:List Int),bx b1 [.int .i64 y1.1.Kind,.int .i64 y1.1.View,.int .i64 y1.1.From,.int .i64 y1.1.Slot,.int .i64 y1.1.Value,.rsl x1.1 x1.2.1 (y1.1.Certs.map (Enc.cs x1.1)),.rsl x1.2.2.1 x1.2.2.2 (y1.1.Refs.map (Enc.cs x1.2.2.1))]]) ?_ ?_ ?_ ?_
       ·exact q_c0 (aF3 (cv_p rfl) cv_r (cv_p rfl) fun l0_ l1_ l2_=>w166 (by omega) a0 l1_ a1 x2) fun y3 hy3=>q_p fr<|q_j (q_norm 0 rr)<|q_ix rfl fun x3 hx3=>q_p fr<|q_p fr<|q_p fr<|q_ld 1 rfl rfl<|q_p fr<|q_j (q_norm 0 rr)<|q_ix rfl fun x4 hx4=>q_p fr<|q_p fr<|q_c0 (aF2 (cv_o 0 rfl) (cv_p rfl) fun l0_ l1_=>w109 (by omega) l0_ s5.2.2 x4.From) fun y4 hy4=>q_norm 0 rr
       ·exact fun s9=>q_i (q_lret 0 rr)<|q_norm 0 rr
       ·exact fun i3 s9=>q_exit 0 rr
       ·exact fun s9=>q_lret 0 rr
      ·exact fun s10=>q_ix rfl fun x5 hx5=>q_p fr<|q_p fr<|q_e (fun _=>bs22_1 rfl)<|q_app (ys:=[x5.From]) 0 rfl rfl (fun _ _=>rfl) fun v2 z1 hz1=>q_norm 0 ⟨v2,rfl,rfl⟩
      ·exact fun i4 s10=>q_n (q_norm 0 ⟨v1,rfl,rfl⟩)<|q_exit 0 ⟨v1,rfl,rfl⟩
      ·exact fun s10=>q_lret 0 ⟨v1,rfl,rfl⟩
     ·rintro s11 _ _ ⟨v3,rfl,rfl⟩
      exact q_p fr<|q_norm 0 ⟨v3,rfl,rfl⟩
     ·rintro i5 s11 _ _ ⟨v4,rfl,rfl⟩
      exact q_exit 0 ⟨v4,rfl,rfl⟩
     ·rintro s11 _ _ ⟨v5,rfl,rfl⟩
      exact q_lret 0 ⟨v5,rfl,rfl⟩
    ·exact q_exit 0 ⟨v1,rfl,rfl⟩
   ·rintro i6 s12 _ _ ⟨v6,rfl,rfl⟩
    exact q_n (q_ret (cv_p rfl) rfl)<|q_none
   ·rintro s12 _ _ ⟨v7,rfl,rfl⟩
    exact q_ret (cv_p rfl) rfl
  ·exact fun i2 s4=>q_none
  ·exact fun s4=>q_ret (cv_p rfl) rfl
def m62 (a0:Int) (a1:List TMsg) (a2:TReplica) (a3:Int):Option (Int):=( ( bif !(m107 a0 a2.Id) then some (LO.norm true) else bif !(m111 a2.View) then some (LO.norm true) else some (LO.norm (!(m112 a2.Done 0 30)))).bind (contO (fun s3=>bif s3 then some (LO.ret 3) else ( bif a2.Start != (-1) then bif a2.View == 0 then some (LO.norm true) else (m113 a0 a1 a2.Start).bind fun y1=>bif !y1 then some (LO.norm true) else (getI a1 a2.Start).bind fun x1=>some (LO.norm (x1.View != a2.View)) else some (LO.norm false)).bind (contO (fun s5=>bif s5 then some (LO.ret 1) else bif decide (a2.Done > a3) then some (LO.ret 8) else some (LO.norm 0)) (fun i2 s5=>if i2 = 0 then some (LO.norm 0) else some (LO.exit i2 0)) (fun s5=>some (LO.ret 0)))) (fun i1 s3=>if i1 = 0 then some (LO.norm 0) else some (LO.exit i1 0)) (fun s3=>some (LO.ret 0)))).bind (contO (fun s6=>some 0) (fun i3 s6=>none) (fun s6=>some s6))
theorem w62 {d:Nat} (hd:145≤d) (a0:Int) (k1:Bool) (a1:List TMsg) (k2:Bool) (a2:TReplica) (a3:Int):Fit (R NN d 62 [.int .i64 a0,.rsl k1 false (a1.map (Enc.cs k1)),.agg (Enc.cs k2 a2),.int .i64 a3] []) (m62 a0 a1 a2 a3) PI:=by
  obtain ⟨d,rfl,g⟩:=up hd
  refine q_in (t62 NN d _ _ _ _) ?_
  unfold b62 m62
  refine q_box (n:=4) rfl rfl (by decide) fun b1=>q_cu (A:=fun (s:Int)=>[.int .i64 s]) (B:=fun s=>[bx b1 [.int .i64 a2.Id,.int .i64 a2.View,.int .i64 a2.Start,.int .i64 a2.Done]]) ?_ ?_ ?_ ?_
  ·refine q_cu (A:=fun (s:Bool)=>[.bool s]) (B:=fun s=>[bx b1 [.int .i64 a2.Id,.int .i64 a2.View,.int .i64 a2.Start,.int .i64 a2.Done]]) ?_ ?_ ?_ ?_
   ·exact q_p fr<|q_ld 0 rfl rfl<|q_c0t (aF2 (cv_p rfl) (cv_p rfl) fun l0_ l1_=>w107 (by omega) a0 a2.Id)<|q_p fr<|q_j (q_norm 0 rr)<|q_p fr<|q_ld 0 rfl rfl<|q_c0t (aF1 (cv_p rfl) fun l0_=>w111 (by omega) a2.View)<|q_p fr<|q_j (q_norm 0 rr)<|q_p fr<|q_ld 0 rfl rfl<|q_c0t (aF3 (cv_p rfl) (cv_p rfl) (cv_p rfl) fun l0_ l1_ l2_=>w112 (by omega) a2.Done 0 30)<|q_p fr<|q_norm 0 rr
   ·intro s3
    refine q_i ?_ ?_
    ·exact q_lret 0 rr
    ·refine q_cu (A:=fun (s:Bool)=>[.bool s]) (B:=fun s=>[bx b1 [.int .i64 a2.Id,.int .i64 a2.View,.int .i64 a2.Start,.int .i64 a2.Done]]) ?_ ?_ ?_ ?_
     ·exact q_p fr<|q_ld 0 rfl rfl<|q_p fr<|q_k (q_p fr<|q_ld 0 rfl rfl<|q_p fr<|q_j (q_norm 0 rr)<|q_p fr<|q_ld 0 rfl rfl<|q_c0 (aF3 (cv_p rfl) cv_r (cv_p rfl) fun l0_ l1_ l2_=>w113 (by omega) a0 l1_ a1 a2.Start) fun y1 hy1=>q_p fr<|q_j (q_norm 0 rr)<|q_p fr<|q_ld 0 rfl rfl<|q_ix rfl fun x1 hx1=>q_p fr<|q_p fr<|q_p fr<|q_ld 0 rfl rfl<|q_p fr<|q_norm 0 rr)<|q_norm 0 rr
     ·exact fun s5=>q_i (q_lret 0 rr)<|q_p fr<|q_ld 0 rfl rfl<|q_p fr<|q_i (q_lret 0 rr)<|q_norm 0 rr
     ·exact fun i2 s5=>q_n (q_norm 0 rr)<|q_exit 0 rr
     ·exact fun s5=>q_lret 0 rr
   ·exact fun i1 s3=>q_n (q_norm 0 rr)<|q_exit 0 rr
   ·exact fun s3=>q_lret 0 rr
  ·exact fun s6=>q_ret (cv_p rfl) rfl
  ·exact fun i3 s6=>q_none
  ·exact fun s6=>q_ret (cv_p rfl) rfl
def m114 (a0:Int):Bool:=(m112 a0 1 9)
theorem w114 {d:Nat} (hd:2≤d) (a0:Int):Fit (R NN d 114 [.int .i64 a0] []) (some (m114 a0)) PB:=by
  obtain ⟨d,rfl,g⟩:=up hd
  refine q_in (t114 NN d _) ?_
  unfold b114 m114
  exact q_c0t (aF3 (cv_p rfl) (cv_p rfl) (cv_p rfl) fun l0_ l1_ l2_=>w112 (by omega) a0 1 9)<|q_ret (cv_p rfl) rfl
def m115 (a0:Int):Bool:=(m112 a0 0 9000)
theorem w115 {d:Nat} (hd:2≤d) (a0:Int):Fit (R NN d 115 [.int .i64 a0] []) (some (m115 a0)) PB:=by
  obtain ⟨d,rfl,g⟩:=up hd
  refine q_in (t115 NN d _) ?_
  unfold b115 m115
  exact q_c0t (aF3 (cv_p rfl) (cv_p rfl) (cv_p rfl) fun l0_ l1_ l2_=>w112 (by omega) a0 0 9000)<|q_ret (cv_p rfl) rfl
def m167 (a0:Int):Str×Str:=bif a0 == 1 then (([111,112,101,110]:Str),([]:Str)) else bif a0 == 2 then (([99,108,111,115,101]:Str),([]:Str)) else bif a0 == 3 then (([99,114,101,97,116,101]:Str),([112,100,115,111]:Str)) else bif a0 == 4 then (([100,101,108,101,116,101]:Str),([112,118]:Str)) else bif a0 == 5 then (([115,101,116]:Str),([112,100,118]:Str)) else bif a0 == 6 then (([103,101,116]:Str),([112]:Str)) else bif a0 == 7 then (([107,105,100,115]:Str),([112]:Str)) else bif a0 == 8 then (([99,104,101,99,107]:Str),([112,118]:Str)) else (([]:Str),([]:Str))
theorem w167 {d:Nat} (hd:1≤d) (a0:Int):Fit (R NN d 167 [.int .i64 a0] []) (some (m167 a0)) (P0 (fun (t:Str×Str)=>AV.tup [encS t.1,encS t.2])):=by
  obtain ⟨d,rfl,g⟩:=up hd
  refine q_in (t167 NN d _) ?_
  unfold b167 m167
  exact q_p fr<|q_ift (fun h8=>q_ret (cv_t (cvs_cons (cv_p rfl) (cvs_cons (cv_p rfl) cvs_nil))) rfl) fun h8=>q_p fr<|q_ift (fun h7=>q_ret (cv_t (cvs_cons (cv_p rfl) (cvs_cons (cv_p rfl) cvs_nil))) rfl) fun h7=>q_p fr<|q_ift (fun h6=>q_ret (cv_t (cvs_cons (cv_p rfl) (cvs_cons (cv_p rfl) cvs_nil))) rfl) fun h6=>q_p fr<|q_ift (fun h5=>q_ret (cv_t (cvs_cons (cv_p rfl) (cvs_cons (cv_p rfl) cvs_nil))) rfl) fun h5=>q_p fr<|q_ift (fun h4=>q_ret (cv_t (cvs_cons (cv_p rfl) (cvs_cons (cv_p rfl) cvs_nil))) rfl) fun h4=>q_p fr<|q_ift (fun h3=>q_ret (cv_t (cvs_cons (cv_p rfl) (cvs_cons (cv_p rfl) cvs_nil))) rfl) fun h3=>q_p fr<|q_ift (fun h2=>q_ret (cv_t (cvs_cons (cv_p rfl) (cvs_cons (cv_p rfl) cvs_nil))) rfl) fun h2=>q_p fr<|q_ift (fun h1=>q_ret (cv_t (cvs_cons (cv_p rfl) (cvs_cons (cv_p rfl) cvs_nil))) rfl) fun h1=>q_ret (cv_t (cvs_cons (cv_p rfl) (cvs_cons (cv_p rfl) cvs_nil))) rfl
def m202 (a0 a1:Str):Option Int:=match a1 with
  | [c]=>some (Lib.indexByte a0 c:Int)
  | _=>none
theorem w202 {d:Nat} (hd:1≤d) (a0 a1:Str):Fit (R NN d 202 [encS a0,encS a1] []) (m202 a0 a1) PI:=by
  obtain ⟨d,rfl,g⟩:=up hd
  rw [t202]
  intro t ht
  unfold m202 at ht
  split at ht
  · injection ht with ht
    subst ht
    exact ⟨_,rfl,rfl⟩
  · cases ht
def m169 (a0:Str) (a1:Str):Option (Bool):=(m202 a0 a1).bind fun y1=>some (decide (y1 ≥ 0))
theorem w169 {d:Nat} (hd:2≤d) (a0:Str) (a1:Str):Fit (R NN d 169 [encS a0,encS a1] []) (m169 a0 a1) PB:=by
  obtain ⟨d,rfl,g⟩:=up hd
  refine q_in (t169 NN d _ _) ?_
  unfold b169 m169
  exact q_c0 (aF2 (cv_p rfl) (cv_p rfl) fun l0_ l1_=>w202 (by omega) a0 a1) fun y1 hy1=>q_p fr<|q_ret (cv_p rfl) rfl
def m168 (a0:Str) (a1:Str):Option (Bool):=(m169 a1 a0).bind fun y1=>some (!y1)
theorem w168 {d:Nat} (hd:3≤d) (a0:Str) (k1:Bool) (a1:Str):Fit (R NN d 168 [encS a0,.rp k1 (Enc.cs k1 a1)] []) (m168 a0 a1) PB:=by
  obtain ⟨d,rfl,g⟩:=up hd
  refine q_in (t168 NN d _ _) ?_
  unfold b168 m168
  exact q_p fr<|q_c0 (aF2 (cv_p rfl) (cv_p rfl) fun l0_ l1_=>w169 (by omega) a1 a0) fun y1 hy1=>q_p fr<|q_ret (cv_p rfl) rfl
def m203 (a0 a1:Str):Option Int:=match a1 with
  | [c]=>some (Lib.countByte a0 c:Int)
  | _=>none
theorem w203 {d:Nat} (hd:1≤d) (a0 a1:Str):Fit (R NN d 203 [encS a0,encS a1] []) (m203 a0 a1) PI:=by
  obtain ⟨d,rfl,g⟩:=up hd
  rw [t203]
  intro t ht
  unfold m203 at ht
  split at ht
  · injection ht with ht
    subst ht
    exact ⟨_,rfl,rfl⟩
  · cases ht
def ms234_0 (a0:Str) (a1:Str) (a2:Int) (s2:Int) (s3:Str×Int×(List Str)):Option (LO (Str×Int×(List Str))):=bif decide (s3.2.1 < (wi .i64 ((minI s2 (wi .i64 ((a0.length:Int) + 1))) - 1))) then (m202 s3.1 a1).bind fun y2=>bif decide (y2 < 0) then some (LO.exit 0 (s3.1,s3.2.1,s3.2.2)) else (subI s3.1 0 (wi .i64 (y2 + a2))).bind fun t1=>(getI s3.2.2 s3.2.1).bind fun x1=>(subI s3.1 (wi .i64 (y2 + (a1.length:Int))) (s3.1.length:Int)).bind fun t2=>some (LO.norm (t2,wi .i64 (s3.2.1 + 1),s3.2.2.set (Int.toNat s3.2.1) t1)) else some (LO.exit 0 (s3.1,s3.2.1,s3.2.2))
def m234 (a0:Str) (a1:Str) (a2:Int) (a3:Int):Option ((List Str)):=bif a3 == 0 then some [] else bif a1 == ([]:Str) then none else ( bif decide (a3 < 0) then (m203 a0 a1).bind fun y1=>some (LO.norm (wi .i64 (y1 + 1))) else some (LO.norm a3)).bind (contO (fun s2=>(mkO 16 (minI s2 (wi .i64 ((a0.length:Int) + 1))) []).bind fun z1=>(loopO (ms234_0 a0 a1 a2 s2) NN (a0,0,z1)).bind (contO (fun _=>none) (fun i2 s4=>if i2 = 0 then (getI s4.2.2 s4.2.1).bind fun x2=>(subI (s4.2.2.set (Int.toNat s4.2.1) s4.1) 0 (wi .i64 (s4.2.1 + 1))).bind fun ys1=>some ys1 else none) (fun s4=>some []))) (fun i1 s2=>none) (fun s2=>some []))
theorem w234 {d:Nat} (hd:2≤d) (a0:Str) (a1:Str) (a2:Int) (a3:Int):Fit (R NN d 234 [encS a0,encS a1,.int .i64 a2,.int .i64 a3] []) (m234 a0 a1 a2 a3) (P0 (fun (t:List Str)=>AV.rsl false false (t.map (Enc.cs false)))):=by
  obtain ⟨d,rfl,g⟩:=up hd
  refine q_in (t234 NN d _ _ _ _) ?_
  unfold b234 m234
  refine q_p fr<|q_i ?_ ?_
  ·exact q_ret (cv_r (α:=Str) (l0:=false) (fl:=true) (xs:=[])) rfl
  ·refine q_p (fun _=>seq_eql)<|q_i ?_ ?_
   ·exact q_none
   ·refine q_cu (A:=fun (s:Int)=>[.int .i64 s]) (B:=fun s=>[]) ?_ ?_ ?_ ?_
    ·exact q_p fr<|q_i (q_c0 (aF2 (cv_p rfl) (cv_p rfl) fun l0_ l1_=>w203 (by omega) a0 a1) fun y1 hy1=>q_p fr<|q_norm 0 rr)<|q_norm 0 rr
    ·intro s2
     refine q_slen<|q_p fr<|q_p (fun _=>amin_)<|q_mk (z:=[]) mk114 fun v1 z1 hz1=>q_p fr<|q_lp (A:=fun (s:Str×Int×(List Str))=>[encS s.1,.int .i64 s.2.1]) (B:=fun s=>[sl false v1 (s.2.2:List Str)]) 0 rr ?_ ?_ ?_
     ·intro s3
      unfold s234_0 ms234_0
      exact q_p fr<|q_i (q_c0 (aF2 (cv_p rfl) (cv_p rfl) fun l0_ l1_=>w202 (by omega) s3.1 a1) fun y2 hy2=>q_p fr<|q_i (q_exit 0 rr)<|q_p fr<|q_ssub (.inr ⟨rfl,rfl⟩) (.inl rfl) fun t1 ht1=>q_ixo 0 rfl rfl fun x1 hx1=>q_stoe (y:=t1) 0 rfl rfl hx1 rfl (by decide)<|q_slen<|q_p fr<|q_ssub (.inl rfl) (.inr ⟨rfl,rfl⟩) fun t2 ht2=>q_p fr<|q_norm 0 rr)<|q_exit 0 rr
     ·exact fun i2 s4=>q_n (q_ixo 0 rfl rfl fun x2 hx2=>q_stoe (y:=s4.1) 0 rfl rfl hx2 rfl (by decide)<|q_p fr<|q_cutv rfl (.inr ⟨rfl,rfl⟩) (.inl rfl) fun ys1 hys1=>q_ret (cv_cl 0 rfl) rfl)<|q_none
     ·exact fun s4=>q_ret (cv_r (α:=Str) (l0:=false) (fl:=true) (xs:=[])) rfl
    ·exact fun i1 s2=>q_none
    ·exact fun s2=>q_ret (cv_r (α:=Str) (l0:=false) (fl:=true) (xs:=[])) rfl
def m204 (a0:Str) (a1:Str):Option ((List Str)):=(m234 a0 a1 0 (-1)).bind fun y1=>some y1
theorem w204 {d:Nat} (hd:3≤d) (a0:Str) (a1:Str):Fit (R NN d 204 [encS a0,encS a1] []) (m204 a0 a1) (P0 (fun (t:List Str)=>AV.rsl false false (t.map (Enc.cs false)))):=by
  obtain ⟨d,rfl,g⟩:=up hd
  refine q_in (t204 NN d _ _) ?_
  unfold b204 m204
  exact q_c0 (fun S hS=>argF4 (cv_p rfl) (cv_p rfl) (cv_p rfl) (cv_p rfl) hS fun l0_ l1_ l2_ l3_=>w234 (by omega) a0 a1 0 (-1)) fun y1 hy1=>q_ret cv_r rfl
def ms205_0 (a0:Str) (s1:Bool×Int):Option (LO (Bool×Int)):=bif decide (s1.2 < (a0.length:Int)) then ( ( (getI a0 s1.2).bind fun c1=>bif decide ((c1.toNat:Int) < 97) then (getI a0 s1.2).bind fun c5=>bif decide ((c5.toNat:Int) < 48) then some (LO.norm true) else (getI a0 s1.2).bind fun c6=>some (LO.norm (decide ((c6.toNat:Int) > 57))) else (getI a0 s1.2).bind fun c2=>bif decide ((c2.toNat:Int) > 122) then (getI a0 s1.2).bind fun c3=>bif decide ((c3.toNat:Int) < 48) then some (LO.norm true) else (getI a0 s1.2).bind fun c4=>some (LO.norm (decide ((c4.toNat:Int) > 57))) else some (LO.norm false)).bind (contO (fun s4=>bif s4 then some (LO.ret false) else some (LO.norm s1.1)) (fun i1 s4=>if i1 = 1 then some (LO.norm s1.1) else some (LO.exit i1 s1.1)) (fun s4=>some (LO.ret s1.1)))).bind (contO (fun s5=>some (LO.norm (s5,wi .i64 (s1.2 + 1)))) (fun i2 s5=>some (LO.exit i2 (s5,s1.2))) (fun s5=>some (LO.ret (s5,s1.2)))) else some (LO.exit 0 (s1.1,s1.2))
def m205 (a0:Str):Option (Bool):=(loopO (ms205_0 a0) NN (false,0)).bind (contO (fun _=>none) (fun i3 s6=>if i3 = 0 then some (m112 (a0.length:Int) 1 8) else none) (fun s6=>some s6.1))
theorem w205 {d:Nat} (hd:2≤d) (a0:Str):Fit (R NN d 205 [encS a0] []) (m205 a0) PB:=by
  obtain ⟨d,rfl,g⟩:=up hd
  refine q_in (t205 NN d _) ?_
  unfold b205 m205
  refine q_slen<|q_lp (A:=fun (s:Bool×Int)=>[.bool s.1,.int .i64 s.2]) (B:=fun s=>[]) 0 rr ?_ ?_ ?_
  ·intro s1
   unfold s205_0 ms205_0
   refine q_p fr<|q_i ?_ ?_
   ·refine q_cu (A:=fun (s:Bool)=>[.bool s]) (B:=fun s=>[]) ?_ ?_ ?_ ?_
    ·refine q_cu (A:=fun (s:Bool)=>[.bool s]) (B:=fun s=>[]) ?_ ?_ ?_ ?_
     ·exact q_sx fun c1 hc1=>q_p fr<|q_j (q_sx fun c5 hc5=>q_p fr<|q_j (q_norm 0 rr)<|q_sx fun c6 hc6=>q_p fr<|q_norm 0 rr)<|q_sx fun c2 hc2=>q_p fr<|q_k (q_sx fun c3 hc3=>q_p fr<|q_j (q_norm 0 rr)<|q_sx fun c4 hc4=>q_p fr<|q_norm 0 rr)<|q_norm 0 rr
     ·exact fun s4=>q_i (q_lret 0 rr)<|q_norm 0 rr
     ·exact fun i1 s4=>q_n (q_norm 0 rr)<|q_exit 0 rr
     ·exact fun s4=>q_lret 0 rr
    ·exact fun s5=>q_p fr<|q_norm 0 rr
    ·exact fun i2 s5=>q_exit 0 rr
    ·exact fun s5=>q_lret 0 rr
   ·exact q_exit 0 rr
  ·exact fun i3 s6=>q_n (q_slen<|q_c0t (aF3 (cv_p rfl) (cv_p rfl) (cv_p rfl) fun l0_ l1_ l2_=>w112 (by omega) (a0.length:Int) 1 8)<|q_ret (cv_p rfl) rfl)<|q_none
  ·exact fun s6=>q_ret (cv_p rfl) rfl
def ms170_0 (ys1:List Str) (s5:Int×Int):Option (LO (Int×Int)):=bif decide (s5.2 < (ys1.length:Int)) then (getI ys1 s5.2).bind fun x2=>(m205 x2).bind fun y3=>bif !y3 then some (LO.ret (5,s5.2)) else some (LO.norm (s5.1,wi .i64 (s5.2 + 1))) else some (LO.exit 0 (s5.1,s5.2))
def m170 (a0:Str):Option (Int):=( bif decide ((a0.length:Int) > 24) then some (LO.ret 2) else (m203 a0 ([47]:Str)).bind fun y1=>bif decide (y1 > 4) then some (LO.ret 2) else some (LO.norm 0)).bind (contO (fun s2=>bif a0 == ([47]:Str) then some 0 else (m204 a0 ([47]:Str)).bind fun y2=>( bif decide ((y2.length:Int) < 2) then some (LO.ret 5) else (getI y2 0).bind fun x1=>bif !(x1 == ([]:Str)) then some (LO.ret 5) else some (LO.norm s2)).bind (contO (fun s4=>(subI y2 1 (y2.length:Int)).bind fun ys1=>(loopO (ms170_0 ys1) NN (s4,0)).bind (contO (fun _=>none) (fun i3 s6=>if i3 = 0 then some 0 else none) (fun s6=>some s6.1))) (fun i2 s4=>none) (fun s4=>some s4))) (fun i1 s2=>none) (fun s2=>some s2))
theorem w170 {d:Nat} (hd:4≤d) (a0:Str):Fit (R NN d 170 [encS a0] []) (m170 a0) PI:=by
  obtain ⟨d,rfl,g⟩:=up hd
  refine q_in (t170 NN d _) ?_
  unfold b170 m170
  refine q_cu (A:=fun (s:Int)=>[.int .i64 s]) (B:=fun s=>[]) ?_ ?_ ?_ ?_
  ·refine q_slen<|q_p fr<|q_j ?_ ?_
   ·first | refine q_ifT1 ?_ | skip
    exact q_lret 0 rr
   ·exact q_c0 (aF2 (cv_p rfl) (cv_p rfl) fun l0_ l1_=>w203 (by omega) a0 ([47]:Str)) fun y1 hy1=>q_p fr<|q_i (q_lret 0 rr)<|q_norm 0 rr
  ·intro s2
   refine q_p (fun _=>seq_eql)<|q_i ?_ ?_
   ·exact q_ret (cv_p rfl) rfl
   ·refine q_c0 (aF2 (cv_p rfl) (cv_p rfl) fun l0_ l1_=>w204 (by omega) a0 ([47]:Str)) fun y2 hy2=>q_cu (A:=fun (s:Int)=>[.int .i64 s]) (B:=fun s=>[]) ?_ ?_ ?_ ?_
    ·refine q_len<|q_p fr<|q_j ?_ ?_
     ·first | refine q_ifT1 ?_ | skip
      exact q_lret 0 rr
     ·exact q_ix rfl fun x1 hx1=>q_p fr<|q_p (fun _=>seq_neq)<|q_i (q_lret 0 rr)<|q_norm 0 rr
    ·intro s4
     refine q_sub rfl (.inl rfl) (.inr ⟨rfl,rfl⟩) fun fl1 ys1 hys1=>q_len<|q_lp (A:=fun (s:Int×Int)=>[.int .i64 s.1,.int .i64 s.2]) (B:=fun s=>[]) 0 rr ?_ ?_ ?_
     ·intro s5
      unfold s170_0 ms170_0
      exact q_p fr<|q_i (q_ix rfl fun x2 hx2=>q_p fr<|q_c0 (aF1 (cv_p rfl) fun l0_=>w205 (by omega) x2) fun y3 hy3=>q_p fr<|q_i (q_lret 0 rr)<|q_p fr<|q_norm 0 rr)<|q_exit 0 rr
     ·exact fun i3 s6=>q_n (q_ret (cv_p rfl) rfl)<|q_none
     ·exact fun s6=>q_ret (cv_p rfl) rfl
    ·exact fun i2 s4=>q_none
    ·exact fun s4=>q_ret (cv_p rfl) rfl
  ·exact fun i1 s2=>q_none
  ·exact fun s2=>q_ret (cv_p rfl) rfl
def m171 (a0:Int):Bool:=(m112 a0 0 9999)
theorem w171 {d:Nat} (hd:2≤d) (a0:Int):Fit (R NN d 171 [.int .i64 a0] []) (some (m171 a0)) PB:=by
  obtain ⟨d,rfl,g⟩:=up hd
  refine q_in (t171 NN d _) ?_
  unfold b171 m171
  exact q_c0t (aF3 (cv_p rfl) (cv_p rfl) (cv_p rfl) fun l0_ l1_ l2_=>w112 (by omega) a0 0 9999)<|q_ret (cv_p rfl) rfl
def m116 (a0:TOp):Option (Int):=( ( bif !(m112 a0.Kind 1 8) then some (LO.norm true) else (m168 ([112]:Str) ((m167 a0.Kind).2)).bind fun y1=>bif y1 then bif !(a0.Path == ([]:Str)) then some (LO.norm true) else (m168 ([100]:Str) ((m167 a0.Kind).2)).bind fun y2=>bif y2 then bif a0.Data != 0 then some (LO.norm true) else (m168 ([118]:Str) ((m167 a0.Kind).2)).bind fun y3=>bif y3 then bif a0.Version != 0 then some (LO.norm true) else (m168 ([115]:Str) ((m167 a0.Kind).2)).bind fun y4=>bif y4 then bif a0.Seq then some (LO.norm true) else (m168 ([111]:Str) ((m167 a0.Kind).2)).bind fun y5=>bif y5 then some (LO.norm a0.Own) else some (LO.norm false) else (m168 ([111]:Str) ((m167 a0.Kind).2)).bind fun y6=>bif y6 then some (LO.norm a0.Own) else some (LO.norm false) else (m168 ([115]:Str) ((m167 a0.Kind).2)).bind fun y7=>bif y7 then bif a0.Seq then some (LO.norm true) else (m168 ([111]:Str) ((m167 a0.Kind).2)).bind fun y8=>bif y8 then some (LO.norm a0.Own) else some (LO.norm false) else (m168 ([111]:Str) ((m167 a0.Kind).2)).bind fun y9=>bif y9 then some (LO.norm a0.Own) else some (LO.norm false) else (m168 ([118]:Str) ((m167 a0.Kind).2)).bind fun y10=>bif y10 then bif a0.Version != 0 then some (LO.norm true) else (m168 ([115]:Str) ((m167 a0.Kind).2)).bind fun y11=>bif y11 then bif a0.Seq then some (LO.norm true) else (m168 ([111]:Str) ((m167 a0.Kind).2)).bind fun y12=>bif y12 then some (LO.norm a0.Own) else some (LO.norm false) else (m168 ([111]:Str) ((m167 a0.Kind).2)).bind fun y13=>bif y13 then some (LO.norm a0.Own) else some (LO.norm false) else (m168 ([115]:Str) ((m167 a0.Kind).2)).bind fun y14=>bif y14 then bif a0.Seq then some (LO.norm true) else (m168 ([111]:Str) ((m167 a0.Kind).2)).bind fun y15=>bif y15 then some (LO.norm a0.Own) else some (LO.norm false) else (m168 ([111]:Str) ((m167 a0.Kind).2)).bind fun y16=>bif y16 then some (LO.norm a0.Own) else some (LO.norm false) else (m168 ([100]:Str) ((m167 a0.Kind).2)).bind fun y17=>bif y17 then bif a0.Data != 0 then some (LO.norm true) else (m168 ([118]:Str) ((m167 a0.Kind).2)).bind fun y18=>bif y18 then bif a0.Version != 0 then some (LO.norm true) else (m168 ([115]:Str) ((m167 a0.Kind).2)).bind fun y19=>bif y19 then bif a0.Seq then some (LO.norm true) else (m168 ([111]:Str) ((m167 a0.Kind).2)).bind fun y20=>bif y20 then some (LO.norm a0.Own) else some (LO.norm false) else (m168 ([111]:Str) ((m167 a0.Kind).2)).bind fun y21=>bif y21 then some (LO.norm a0.Own) else some (LO.norm false) else (m168 ([115]:Str) ((m167 a0.Kind).2)).bind fun y22=>bif y22 then bif a0.Seq then some (LO.norm true) else (m168 ([111]:Str) ((m167 a0.Kind).2)).bind fun y23=>bif y23 then some (LO.norm a0.Own) else some (LO.norm false) else (m168 ([111]:Str) ((m167 a0.Kind).2)).bind fun y24=>bif y24 then some (LO.norm a0.Own) else some (LO.norm false) else (m168 ([118]:Str) ((m167 a0.Kind).2)).bind fun y25=>bif y25 then bif a0.Version != 0 then some (LO.norm true) else (m168 ([115]:Str) ((m167 a0.Kind).2)).bind fun y26=>bif y26 then bif a0.Seq then some (LO.norm true) else (m168 ([111]:Str) ((m167 a0.Kind).2)).bind fun y27=>bif y27 then some (LO.norm a0.Own) else some (LO.norm false) else (m168 ([111]:Str) ((m167 a0.Kind).2)).bind fun y28=>bif y28 then some (LO.norm a0.Own) else some (LO.norm false) else (m168 ([115]:Str) ((m167 a0.Kind).2)).bind fun y29=>bif y29 then bif a0.Seq then some (LO.norm true) else (m168 ([111]:Str) ((m167 a0.Kind).2)).bind fun y30=>bif y30 then some (LO.norm a0.Own) else some (LO.norm false) else (m168 ([111]:Str) ((m167 a0.Kind).2)).bind fun y31=>bif y31 then some (LO.norm a0.Own) else some (LO.norm false)).bind (contO (fun s3=>bif s3 then some (LO.ret 1) else (m168 ([112]:Str) ((m167 a0.Kind).2)).bind fun y32=>bif y32 then some (LO.ret 0) else some (LO.norm 0)) (fun i1 s3=>if i1 = 0 then some (LO.norm 0) else some (LO.exit i1 0)) (fun s3=>some (LO.ret 0)))).bind (contO (fun s4=>(m170 a0.Path).bind fun y33=>bif y33 != 0 then some y33 else ( bif !(m171 a0.Data) then some (LO.ret 3) else bif !(m112 a0.Version (-1) 999) then some (LO.ret 3) else some (LO.norm s4)).bind (contO (fun s6=>some 0) (fun i3 s6=>none) (fun s6=>some s6))) (fun i2 s4=>none) (fun s4=>some s4))
theorem w116 {d:Nat} (hd:5≤d) (k0:Bool) (a0:TOp):Fit (R NN d 116 [.agg (Enc.cs k0 a0)] []) (m116 a0) PI:=by
  obtain ⟨d,rfl,g⟩:=up hd
  refine q_in (t116 NN d _) ?_
  unfold b116 m116
  refine q_box (n:=6) rfl rfl (by decide) fun b1=>q_p fr<|q_ld 0 rfl rfl<|q_c0t (aF1 (cv_p rfl) fun l0_=>w167 (by omega) a0.Kind)<|q_q fr<|q_q fr<|q_new rfl fun b2=>q_st 0 rfl rfl rfl (by decide) rfl<|q_cu (A:=fun (s:Int)=>[.int .i64 s]) (B:=fun s=>[bx b2 [encS ((m167 a0.Kind).2)],bx b1 [.int .i64 a0.Kind,encS a0.Path,.int .i64 a0.Data,.int .i64 a0.Version,.bool a0.Seq,.bool a0.Own]]) ?_ ?_ ?_ ?_
  ·refine q_cu (A:=fun (s:Bool)=>[.bool s]) (B:=fun s=>[bx b2 [encS ((m167 a0.Kind).2)],bx b1 [.int .i64 a0.Kind,encS a0.Path,.int .i64 a0.Data,.int .i64 a0.Version,.bool a0.Seq,.bool a0.Own]]) ?_ ?_ ?_ ?_
   ·exact q_p fr<|q_ld 1 rfl rfl<|q_c0t (aF3 (cv_p rfl) (cv_p rfl) (cv_p rfl) fun l0_ l1_ l2_=>w112 (by omega) a0.Kind 1 8)<|q_p fr<|q_j (q_norm 0 rr)<|q_v0 (mg:=m168 ([112]:Str) ((m167 a0.Kind).2)) (E:=(fun (t:Bool)=>AV.bool t)) (fun S=>cv116_168 _ _ _ _) (aF2 (cv_p rfl) (cv_b 0 rfl (cvs_e (l0:=false) (x:=(m167 a0.Kind).2))) fun l0_ l1_=>w168 (by omega) ([112]:Str) l1_ ((m167 a0.Kind).2)) fun y1 hy1=>q_k (q_p fr<|q_ld 1 rfl rfl<|q_p (fun _=>seq_neq)<|q_j (q_norm 0 rr)<|q_v0 (mg:=m168 ([100]:Str) ((m167 a0.Kind).2)) (E:=(fun (t:Bool)=>AV.bool t)) (fun S=>cv116_168 _ _ _ _) (aF2 (cv_p rfl) (cv_b 0 rfl (cvs_e (l0:=false) (x:=(m167 a0.Kind).2))) fun l0_ l1_=>w168 (by omega) ([100]:Str) l1_ ((m167 a0.Kind).2)) fun y2 hy2=>q_k (q_p fr<|q_ld 1 rfl rfl<|q_p fr<|q_j (q_norm 0 rr)<|q_v0 (mg:=m168 ([118]:Str) ((m167 a0.Kind).2)) (E:=(fun (t:Bool)=>AV.bool t)) (fun S=>cv116_168 _ _ _ _) (aF2 (cv_p rfl) (cv_b 0 rfl (cvs_e (l0:=false) (x:=(m167 a0.Kind).2))) fun l0_ l1_=>w168 (by omega) ([118]:Str) l1_ ((m167 a0.Kind).2)) fun y3 hy3=>q_k (q_p fr<|q_ld 1 rfl rfl<|q_p fr<|q_j (q_norm 0 rr)<|q_v0 (mg:=m168 ([115]:Str) ((m167 a0.Kind).2)) (E:=(fun (t:Bool)=>AV.bool t)) (fun S=>cv116_168 _ _ _ _) (aF2 (cv_p rfl) (cv_b 0 rfl (cvs_e (l0:=false) (x:=(m167 a0.Kind).2))) fun l0_ l1_=>w168 (by omega) ([115]:Str) l1_ ((m167 a0.Kind).2)) fun y4 hy4=>q_k (q_p fr<|q_ld 1 rfl rfl<|q_j (q_norm 0 rr)<|q_v0 (mg:=m168 ([111]:Str) ((m167 a0.Kind).2)) (E:=(fun (t:Bool)=>AV.bool t)) (fun S=>cv116_168 _ _ _ _) (aF2 (cv_p rfl) (cv_b 0 rfl (cvs_e (l0:=false) (x:=(m167 a0.Kind).2))) fun l0_ l1_=>w168 (by omega) ([111]:Str) l1_ ((m167 a0.Kind).2)) fun y5 hy5=>q_k (q_p fr<|q_ld 1 rfl rfl<|q_norm 0 rr)<|q_norm 0 rr)<|q_v0 (mg:=m168 ([111]:Str) ((m167 a0.Kind).2)) (E:=(fun (t:Bool)=>AV.bool t)) (fun S=>cv116_168 _ _ _ _) (aF2 (cv_p rfl) (cv_b 0 rfl (cvs_e (l0:=false) (x:=(m167 a0.Kind).2))) fun l0_ l1_=>w168 (by omega) ([111]:Str) l1_ ((m167 a0.Kind).2)) fun y6 hy6=>q_k (q_p fr<|q_ld 1 rfl rfl<|q_norm 0 rr)<|q_norm 0 rr)<|q_v0 (mg:=m168 ([115]:Str) ((m167 a0.Kind).2)) (E:=(fun (t:Bool)=>AV.bool t)) (fun S=>cv116_168 _ _ _ _) (aF2 (cv_p rfl) (cv_b 0 rfl (cvs_e (l0:=false) (x:=(m167 a0.Kind).2))) fun l0_ l1_=>w168 (by omega) ([115]:Str) l1_ ((m167 a0.Kind).2)) fun y7 hy7=>q_k (q_p fr<|q_ld 1 rfl rfl<|q_j (q_norm 0 rr)<|q_v0 (mg:=m168 ([111]:Str) ((m167 a0.Kind).2)) (E:=(fun (t:Bool)=>AV.bool t)) (fun S=>cv116_168 _ _ _ _) (aF2 (cv_p rfl) (cv_b 0 rfl (cvs_e (l0:=false) (x:=(m167 a0.Kind).2))) fun l0_ l1_=>w168 (by omega) ([111]:Str) l1_ ((m167 a0.Kind).2)) fun y8 hy8=>q_k (q_p fr<|q_ld 1 rfl rfl<|q_norm 0 rr)<|q_norm 0 rr)<|q_v0 (mg:=m168 ([111]:Str) ((m167 a0.Kind).2)) (E:=(fun (t:Bool)=>AV.bool t)) (fun S=>cv116_168 _ _ _ _) (aF2 (cv_p rfl) (cv_b 0 rfl (cvs_e (l0:=false) (x:=(m167 a0.Kind).2))) fun l0_ l1_=>w168 (by omega) ([111]:Str) l1_ ((m167 a0.Kind).2)) fun y9 hy9=>q_k (q_p fr<|q_ld 1 rfl rfl<|q_norm 0 rr)<|q_norm 0 rr)<|q_v0 (mg:=m168 ([118]:Str) ((m167 a0.Kind).2)) (E:=(fun (t:Bool)=>AV.bool t)) (fun S=>cv116_168 _ _ _ _) (aF2 (cv_p rfl) (cv_b 0 rfl (cvs_e (l0:=false) (x:=(m167 a0.Kind).2))) fun l0_ l1_=>w168 (by omega) ([118]:Str) l1_ ((m167 a0.Kind).2)) fun y10 hy10=>q_k (q_p fr<|q_ld 1 rfl rfl<|q_p fr<|q_j (q_norm 0 rr)<|q_v0 (mg:=m168 ([115]:Str) ((m167 a0.Kind).2)) (E:=(fun (t:Bool)=>AV.bool t)) (fun S=>cv116_168 _ _ _ _) (aF2 (cv_p rfl) (cv_b 0 rfl (cvs_e (l0:=false) (x:=(m167 a0.Kind).2))) fun l0_ l1_=>w168 (by omega) ([115]:Str) l1_ ((m167 a0.Kind).2)) fun y11 hy11=>q_k (q_p fr<|q_ld 1 rfl rfl<|q_j (q_norm 0 rr)<|q_v0 (mg:=m168 ([111]:Str) ((m167 a0.Kind).2)) (E:=(fun (t:Bool)=>AV.bool t)) (fun S=>cv116_168 _ _ _ _) (aF2 (cv_p rfl) (cv_b 0 rfl (cvs_e (l0:=false) (x:=(m167 a0.Kind).2))) fun l0_ l1_=>w168 (by omega) ([111]:Str) l1_ ((m167 a0.Kind).2)) fun y12 hy12=>q_k (q_p fr<|q_ld 1 rfl rfl<|q_norm 0 rr)<|q_norm 0 rr)<|q_v0 (mg:=m168 ([111]:Str) ((m167 a0.Kind).2)) (E:=(fun (t:Bool)=>AV.bool t)) (fun S=>cv116_168 _ _ _ _) (aF2 (cv_p rfl) (cv_b 0 rfl (cvs_e (l0:=false) (x:=(m167 a0.Kind).2))) fun l0_ l1_=>w168 (by omega) ([111]:Str) l1_ ((m167 a0.Kind).2)) fun y13 hy13=>q_k (q_p fr<|q_ld 1 rfl rfl<|q_norm 0 rr)<|q_norm 0 rr)<|q_v0 (mg:=m168 ([115]:Str) ((m167 a0.Kind).2)) (E:=(fun (t:Bool)=>AV.bool t)) (fun S=>cv116_168 _ _ _ _) (aF2 (cv_p rfl) (cv_b 0 rfl (cvs_e (l0:=false) (x:=(m167 a0.Kind).2))) fun l0_ l1_=>w168 (by omega) ([115]:Str) l1_ ((m167 a0.Kind).2)) fun y14 hy14=>q_k (q_p fr<|q_ld 1 rfl rfl<|q_j (q_norm 0 rr)<|q_v0 (mg:=m168 ([111]:Str) ((m167 a0.Kind).2)) (E:=(fun (t:Bool)=>AV.bool t)) (fun S=>cv116_168 _ _ _ _) (aF2 (cv_p rfl) (cv_b 0 rfl (cvs_e (l0:=false) (x:=(m167 a0.Kind).2))) fun l0_ l1_=>w168 (by omega) ([111]:Str) l1_ ((m167 a0.Kind).2)) fun y15 hy15=>q_k (q_p fr<|q_ld 1 rfl rfl<|q_norm 0 rr)<|q_norm 0 rr)<|q_v0 (mg:=m168 ([111]:Str) ((m167 a0.Kind).2)) (E:=(fun (t:Bool)=>AV.bool t)) (fun S=>cv116_168 _ _ _ _) (aF2 (cv_p rfl) (cv_b 0 rfl (cvs_e (l0:=false) (x:=(m167 a0.Kind).2))) fun l0_ l1_=>w168 (by omega) ([111]:Str) l1_ ((m167 a0.Kind).2)) fun y16 hy16=>q_k (q_p fr<|q_ld 1 rfl rfl<|q_norm 0 rr)<|q_norm 0 rr)<|q_v0 (mg:=m168 ([100]:Str) ((m167 a0.Kind).2)) (E:=(fun (t:Bool)=>AV.bool t)) (fun S=>cv116_168 _ _ _ _) (aF2 (cv_p rfl) (cv_b 0 rfl (cvs_e (l0:=false) (x:=(m167 a0.Kind).2))) fun l0_ l1_=>w168 (by omega) ([100]:Str) l1_ ((m167 a0.Kind).2)) fun y17 hy17=>q_k (q_p fr<|q_ld 1 rfl rfl<|q_p fr<|q_j (q_norm 0 rr)<|q_v0 (mg:=m168 ([118]:Str) ((m167 a0.Kind).2)) (E:=(fun (t:Bool)=>AV.bool t)) (fun S=>cv116_168 _ _ _ _) (aF2 (cv_p rfl) (cv_b 0 rfl (cvs_e (l0:=false) (x:=(m167 a0.Kind).2))) fun l0_ l1_=>w168 (by omega) ([118]:Str) l1_ ((m167 a0.Kind).2)) fun y18 hy18=>q_k (q_p fr<|q_ld 1 rfl rfl<|q_p fr<|q_j (q_norm 0 rr)<|q_v0 (mg:=m168 ([115]:Str) ((m167 a0.Kind).2)) (E:=(fun (t:Bool)=>AV.bool t)) (fun S=>cv116_168 _ _ _ _) (aF2 (cv_p rfl) (cv_b 0 rfl (cvs_e (l0:=false) (x:=(m167 a0.Kind).2))) fun l0_ l1_=>w168 (by omega) ([115]:Str) l1_ ((m167 a0.Kind).2)) fun y19 hy19=>q_k (q_p fr<|q_ld 1 rfl rfl<|q_j (q_norm 0 rr)<|q_v0 (mg:=m168 ([111]:Str) ((m167 a0.Kind).2)) (E:=(fun (t:Bool)=>AV.bool t)) (fun S=>cv116_168 _ _ _ _) (aF2 (cv_p rfl) (cv_b 0 rfl (cvs_e (l0:=false) (x:=(m167 a0.Kind).2))) fun l0_ l1_=>w168 (by omega) ([111]:Str) l1_ ((m167 a0.Kind).2)) fun y20 hy20=>q_k (q_p fr<|q_ld 1 rfl rfl<|q_norm 0 rr)<|q_norm 0 rr)<|q_v0 (mg:=m168 ([111]:Str) ((m167 a0.Kind).2)) (E:=(fun (t:Bool)=>AV.bool t)) (fun S=>cv116_168 _ _ _ _) (aF2 (cv_p rfl) (cv_b 0 rfl (cvs_e (l0:=false) (x:=(m167 a0.Kind).2))) fun l0_ l1_=>w168 (by omega) ([111]:Str) l1_ ((m167 a0.Kind).2)) fun y21 hy21=>q_k (q_p fr<|q_ld 1 rfl rfl<|q_norm 0 rr)<|q_norm 0 rr)<|q_v0 (mg:=m168 ([115]:Str) ((m167 a0.Kind).2)) (E:=(fun (t:Bool)=>AV.bool t)) (fun S=>cv116_168 _ _ _ _) (aF2 (cv_p rfl) (cv_b 0 rfl (cvs_e (l0:=false) (x:=(m167 a0.Kind).2))) fun l0_ l1_=>w168 (by omega) ([115]:Str) l1_ ((m167 a0.Kind).2)) fun y22 hy22=>q_k (q_p fr<|q_ld 1 rfl rfl<|q_j (q_norm 0 rr)<|q_v0 (mg:=m168 ([111]:Str) ((m167 a0.Kind).2)) (E:=(fun (t:Bool)=>AV.bool t)) (fun S=>cv116_168 _ _ _ _) (aF2 (cv_p rfl) (cv_b 0 rfl (cvs_e (l0:=false) (x:=(m167 a0.Kind).2))) fun l0_ l1_=>w168 (by omega) ([111]:Str) l1_ ((m167 a0.Kind).2)) fun y23 hy23=>q_k (q_p fr<|q_ld 1 rfl rfl<|q_norm 0 rr)<|q_norm 0 rr)<|q_v0 (mg:=m168 ([111]:Str) ((m167 a0.Kind).2)) (E:=(fun (t:Bool)=>AV.bool t)) (fun S=>cv116_168 _ _ _ _) (aF2 (cv_p rfl) (cv_b 0 rfl (cvs_e (l0:=false) (x:=(m167 a0.Kind).2))) fun l0_ l1_=>w168 (by omega) ([111]:Str) l1_ ((m167 a0.Kind).2)) fun y24 hy24=>q_k (q_p fr<|q_ld 1 rfl rfl<|q_norm 0 rr)<|q_norm 0 rr)<|q_v0 (mg:=m168 ([118]:Str) ((m167 a0.Kind).2)) (E:=(fun (t:Bool)=>AV.bool t)) (fun S=>cv116_168 _ _ _ _) (aF2 (cv_p rfl) (cv_b 0 rfl (cvs_e (l0:=false) (x:=(m167 a0.Kind).2))) fun l0_ l1_=>w168 (by omega) ([118]:Str) l1_ ((m167 a0.Kind).2)) fun y25 hy25=>q_k (q_p fr<|q_ld 1 rfl rfl<|q_p fr<|q_j (q_norm 0 rr)<|q_v0 (mg:=m168 ([115]:Str) ((m167 a0.Kind).2)) (E:=(fun (t:Bool)=>AV.bool t)) (fun S=>cv116_168 _ _ _ _) (aF2 (cv_p rfl) (cv_b 0 rfl (cvs_e (l0:=false) (x:=(m167 a0.Kind).2))) fun l0_ l1_=>w168 (by omega) ([115]:Str) l1_ ((m167 a0.Kind).2)) fun y26 hy26=>q_k (q_p fr<|q_ld 1 rfl rfl<|q_j (q_norm 0 rr)<|q_v0 (mg:=m168 ([111]:Str) ((m167 a0.Kind).2)) (E:=(fun (t:Bool)=>AV.bool t)) (fun S=>cv116_168 _ _ _ _) (aF2 (cv_p rfl) (cv_b 0 rfl (cvs_e (l0:=false) (x:=(m167 a0.Kind).2))) fun l0_ l1_=>w168 (by omega) ([111]:Str) l1_ ((m167 a0.Kind).2)) fun y27 hy27=>q_k (q_p fr<|q_ld 1 rfl rfl<|q_norm 0 rr)<|q_norm 0 rr)<|q_v0 (mg:=m168 ([111]:Str) ((m167 a0.Kind).2)) (E:=(fun (t:Bool)=>AV.bool t)) (fun S=>cv116_168 _ _ _ _) (aF2 (cv_p rfl) (cv_b 0 rfl (cvs_e (l0:=false) (x:=(m167 a0.Kind).2))) fun l0_ l1_=>w168 (by omega) ([111]:Str) l1_ ((m167 a0.Kind).2)) fun y28 hy28=>q_k (q_p fr<|q_ld 1 rfl rfl<|q_norm 0 rr)<|q_norm 0 rr)<|q_v0 (mg:=m168 ([115]:Str) ((m167 a0.Kind).2)) (E:=(fun (t:Bool)=>AV.bool t)) (fun S=>cv116_168 _ _ _ _) (aF2 (cv_p rfl) (cv_b 0 rfl (cvs_e (l0:=false) (x:=(m167 a0.Kind).2))) fun l0_ l1_=>w168 (by omega) ([115]:Str) l1_ ((m167 a0.Kind).2)) fun y29 hy29=>q_k (q_p fr<|q_ld 1 rfl rfl<|q_j (q_norm 0 rr)<|q_v0 (mg:=m168 ([111]:Str) ((m167 a0.Kind).2)) (E:=(fun (t:Bool)=>AV.bool t)) (fun S=>cv116_168 _ _ _ _) (aF2 (cv_p rfl) (cv_b 0 rfl (cvs_e (l0:=false) (x:=(m167 a0.Kind).2))) fun l0_ l1_=>w168 (by omega) ([111]:Str) l1_ ((m167 a0.Kind).2)) fun y30 hy30=>q_k (q_p fr<|q_ld 1 rfl rfl<|q_norm 0 rr)<|q_norm 0 rr)<|q_v0 (mg:=m168 ([111]:Str) ((m167 a0.Kind).2)) (E:=(fun (t:Bool)=>AV.bool t)) (fun S=>cv116_168 _ _ _ _) (aF2 (cv_p rfl) (cv_b 0 rfl (cvs_e (l0:=false) (x:=(m167 a0.Kind).2))) fun l0_ l1_=>w168 (by omega) ([111]:Str) l1_ ((m167 a0.Kind).2)) fun y31 hy31=>q_k (q_p fr<|q_ld 1 rfl rfl<|q_norm 0 rr)<|q_norm 0 rr
   ·exact fun s3=>q_i (q_lret 0 rr)<|q_v0 (mg:=m168 ([112]:Str) ((m167 a0.Kind).2)) (E:=(fun (t:Bool)=>AV.bool t)) (fun S=>cv116_168 _ _ _ _) (aF2 (cv_p rfl) (cv_b 0 rfl (cvs_e (l0:=false) (x:=(m167 a0.Kind).2))) fun l0_ l1_=>w168 (by omega) ([112]:Str) l1_ ((m167 a0.Kind).2)) fun y32 hy32=>q_i (q_lret 0 rr)<|q_norm 0 rr
   ·exact fun i1 s3=>q_n (q_norm 0 rr)<|q_exit 0 rr
   ·exact fun s3=>q_lret 0 rr
  ·intro s4
   refine q_p fr<|q_ld 1 rfl rfl<|q_c0 (aF1 (cv_p rfl) fun l0_=>w170 (by omega) a0.Path) fun y33 hy33=>q_p fr<|q_i ?_ ?_
   ·exact q_ret (cv_p rfl) rfl
   ·refine q_cu (A:=fun (s:Int)=>[.int .i64 s]) (B:=fun s=>[bx b2 [encS ((m167 a0.Kind).2)],bx b1 [.int .i64 a0.Kind,encS a0.Path,.int .i64 a0.Data,.int .i64 a0.Version,.bool a0.Seq,.bool a0.Own]]) ?_ ?_ ?_ ?_
    ·refine q_p fr<|q_ld 1 rfl rfl<|q_c0t (aF1 (cv_p rfl) fun l0_=>w171 (by omega) a0.Data)<|q_p fr<|q_j ?_ ?_
     ·first | refine q_ifT1 ?_ | skip
      exact q_lret 0 rr
     ·exact q_p fr<|q_ld 1 rfl rfl<|q_c0t (aF3 (cv_p rfl) (cv_p rfl) (cv_p rfl) fun l0_ l1_ l2_=>w112 (by omega) a0.Version (-1) 999)<|q_p fr<|q_i (q_lret 0 rr)<|q_norm 0 rr
    ·exact fun s6=>q_ret (cv_p rfl) rfl
    ·exact fun i3 s6=>q_none
    ·exact fun s6=>q_ret (cv_p rfl) rfl
  ·exact fun i2 s4=>q_none
  ·exact fun s4=>q_ret (cv_p rfl) rfl
def ms172_0 (a0:List TOp) (a1:TOp→Option (Bool)) (s1:Int×Int):Option (LO (Int×Int)):=bif decide (s1.2 < (a0.length:Int)) then (getI a0 s1.2).bind fun x1=>(a1 x1).bind fun y1=>bif y1 then some (LO.ret (s1.2,s1.2)) else some (LO.norm (s1.1,wi .i64 (s1.2 + 1))) else some (LO.exit 0 (s1.1,s1.2))
def m172 (a0:List TOp) (a1:TOp→Option (Bool)):Option (Int):=(loopO (ms172_0 a0 a1) NN (0,0)).bind (contO (fun _=>none) (fun i1 s2=>if i1 = 0 then some (-1) else none) (fun s2=>some s2.1))
theorem w172 {Dc:Nat} {d:Nat} (hd:Dc + 1≤d) (k0:Bool) (a0:List TOp) (c1:Bool→AV) (hc1:∀ l,CV 8 [] false (c1 l) c1) (a1:TOp→Option (Bool)) (tc1:∀ (d:Nat),Dc≤d→∀ (l:Bool) (q0:Bool) (x0:TOp) (S:St) (t:Bool),a1 x0 = some t→callV (cfg NN) (R NN d) 172 (c1 l) [.agg (Enc.cs q0 x0)] S = some ((fun (t:Bool)=>AV.bool t) t,S)) (k1:Bool):Fit (R NN d 172 [.rsl k0 false (a0.map (Enc.cs k0)),c1 k1] []) (m172 a0 a1) PI:=by
  obtain ⟨d,rfl,g⟩:=up hd
  refine q_in (t172 NN d _ _) ?_
  unfold b172 m172
  refine q_len<|q_lp (A:=fun (s:Int×Int)=>[.int .i64 s.1,.int .i64 s.2]) (B:=fun s=>[]) 0 rr ?_ ?_ ?_
  ·intro s1
   unfold s172_0 ms172_0
   exact q_p fr<|q_i (q_ix rfl fun x1 hx1=>q_p fr<|q_cv (mg:=a1 x1) (E:=(fun (t:Bool)=>AV.bool t)) (fun S t ht=>tc1 d (by omega) k1 k0 x1 S t ht) fun y1 hy1=>q_i (q_lret 0 rr)<|q_p fr<|q_norm 0 rr)<|q_exit 0 rr
  ·exact fun i1 s2=>q_n (q_ret (cv_p rfl) rfl)<|q_none
  ·exact fun s2=>q_ret (cv_p rfl) rfl
def m117 (a0:List TOp) (a1:TOp→Option (Bool)):Option (Bool):=(m172 a0 a1).bind fun y1=>some (decide (y1 ≥ 0))
theorem w117 {Dc:Nat} {d:Nat} (hd:Dc + 2≤d) (k0:Bool) (a0:List TOp) (c1:Bool→AV) (hc1:∀ l,CV 8 [] false (c1 l) c1) (a1:TOp→Option (Bool)) (tc1:∀ (d:Nat),Dc≤d→∀ (l:Bool) (q0:Bool) (x0:TOp) (S:St) (t:Bool),a1 x0 = some t→callV (cfg NN) (R NN d) 172 (c1 l) [.agg (Enc.cs q0 x0)] S = some ((fun (t:Bool)=>AV.bool t) t,S)) (k1:Bool):Fit (R NN d 117 [.rsl k0 false (a0.map (Enc.cs k0)),c1 k1] []) (m117 a0 a1) PB:=by
  obtain ⟨d,rfl,g⟩:=up hd
  refine q_in (t117 NN d _ _) ?_
  unfold b117 m117
  exact q_c0 (aF2 cv_r (CV.any (hc1 k1)) fun l0_ l1_=>w172 (by omega) l0_ a0 c1 hc1 a1 tc1 l1_) fun y1 hy1=>q_p fr<|q_ret (cv_p rfl) rfl
def m118 (a0:TOp):Bool:=bif a0.Kind == 1 then true else a0.Kind == 2
theorem w118 {d:Nat} (hd:1≤d) (k0:Bool) (a0:TOp):Fit (R NN d 118 [.agg (Enc.cs k0 a0)] []) (some (m118 a0)) PB:=by
  obtain ⟨d,rfl,g⟩:=up hd
  refine q_in (t118 NN d _) ?_
  unfold b118 m118
  exact q_box (n:=6) rfl rfl (by decide) fun b1=>q_p fr<|q_ld 0 rfl rfl<|q_p fr<|q_gFt (fun h1=>q_ret (cv_p rfl) rfl) fun h1=>q_p fr<|q_ld 0 rfl rfl<|q_p fr<|q_ret (cv_p rfl) rfl
def ms63_0 (a0:TRequest) (s5:Int×Int):Option (LO (Int×Int)):=bif decide (s5.2 < (a0.Ops.length:Int)) then (getI a0.Ops s5.2).bind fun x1=>(m116 x1).bind fun y1=>bif y1 != 0 then some (LO.ret (y1,s5.2)) else some (LO.norm (s5.1,wi .i64 (s5.2 + 1))) else some (LO.exit 1 (s5.1,s5.2))
def m63 (a0:TRequest):Option (Int):=( ( bif !(m114 a0.Client) then some (LO.norm true) else bif !(m112 a0.Number 1 99) then some (LO.norm true) else some (LO.norm (!(m115 a0.Time)))).bind (contO (fun s3=>bif s3 then some (LO.ret 3) else bif !(m112 (a0.Ops.length:Int) 1 3) then some (LO.ret 2) else some (LO.norm 0)) (fun i1 s3=>if i1 = 0 then some (LO.norm 0) else some (LO.exit i1 0)) (fun s3=>some (LO.ret 0)))).bind (contO (fun s4=>(loopO (ms63_0 a0) NN (s4,0)).bind (contO (fun _=>none) (fun i3 s6=>if i3 = 1 then ( bif decide ((a0.Ops.length:Int) > 1) then (m117 a0.Ops (fun x0_=>some (m118 x0_))).bind fun y2=>bif y2 then some (LO.ret 1) else some (LO.norm s6.1) else some (LO.norm s6.1)).bind (contO (fun s8=>some 0) (fun i4 s8=>none) (fun s8=>some s8)) else none) (fun s6=>some s6.1))) (fun i2 s4=>none) (fun s4=>some s4))
theorem w63 {d:Nat} (hd:6≤d) (k0:Bool) (a0:TRequest):Fit (R NN d 63 [.agg (Enc.cs k0 a0)] []) (m63 a0) PI:=by
  obtain ⟨d,rfl,g⟩:=up hd
  refine q_in (t63 NN d _) ?_
  unfold b63 m63
  refine q_box (n:=4) rfl rfl (by decide) fun b1=>q_cu (A:=fun (s:Int)=>[.int .i64 s]) (B:=fun s=>[bx b1 [.int .i64 a0.Client,.int .i64 a0.Number,.int .i64 a0.Time,.rsl k0 false (a0.Ops.map (Enc.cs k0))]]) ?_ ?_ ?_ ?_
  ·refine q_cu (A:=fun (s:Bool)=>[.bool s]) (B:=fun s=>[bx b1 [.int .i64 a0.Client,.int .i64 a0.Number,.int .i64 a0.Time,.rsl k0 false (a0.Ops.map (Enc.cs k0))]]) ?_ ?_ ?_ ?_
   ·exact q_p fr<|q_ld 0 rfl rfl<|q_c0t (aF1 (cv_p rfl) fun l0_=>w114 (by omega) a0.Client)<|q_p fr<|q_j (q_norm 0 rr)<|q_p fr<|q_ld 0 rfl rfl<|q_c0t (aF3 (cv_p rfl) (cv_p rfl) (cv_p rfl) fun l0_ l1_ l2_=>w112 (by omega) a0.Number 1 99)<|q_p fr<|q_j (q_norm 0 rr)<|q_p fr<|q_ld 0 rfl rfl<|q_c0t (aF1 (cv_p rfl) fun l0_=>w115 (by omega) a0.Time)<|q_p fr<|q_norm 0 rr
   ·exact fun s3=>q_i (q_lret 0 rr)<|q_p fr<|q_ld 0 rfl rfl<|q_len<|q_c0t (aF3 (cv_p rfl) (cv_p rfl) (cv_p rfl) fun l0_ l1_ l2_=>w112 (by omega) (a0.Ops.length:Int) 1 3)<|q_p fr<|q_i (q_lret 0 rr)<|q_norm 0 rr
   ·exact fun i1 s3=>q_n (q_norm 0 rr)<|q_exit 0 rr
   ·exact fun s3=>q_lret 0 rr
  ·intro s4
   refine q_p fr<|q_ld 0 rfl rfl<|q_len<|q_lp (A:=fun (s:Int×Int)=>[.int .i64 s.1,.int .i64 s.2]) (B:=fun s=>[bx b1 [.int .i64 a0.Client,.int .i64 a0.Number,.int .i64 a0.Time,.rsl k0 false (a0.Ops.map (Enc.cs k0))]]) 0 rr ?_ ?_ ?_
   ·intro s5
    unfold s63_0 ms63_0
    exact q_p fr<|q_i (q_ix rfl fun x1 hx1=>q_p fr<|q_new rfl fun b2=>q_st 0 rfl rfl rfl (by decide) rfl<|q_lda 0 rfl rfl rfl<|q_c0 (aF1 (cv_a (cvs_e (l0:=false) (x:=x1))) fun l0_=>w116 (by omega) l0_ x1) fun y1 hy1=>q_p fr<|q_i (q_lret 1 rr)<|q_p fr<|q_norm 1 rr)<|q_exit 0 rr
   ·intro i3 s6
    refine q_n ?_ ?_
    ·refine q_cu (A:=fun (s:Int)=>[.int .i64 s]) (B:=fun s=>[bx b1 [.int .i64 a0.Client,.int .i64 a0.Number,.int .i64 a0.Time,.rsl k0 false (a0.Ops.map (Enc.cs k0))]]) ?_ ?_ ?_ ?_
     ·refine q_p fr<|q_ld 0 rfl rfl<|q_len<|q_p fr<|q_k ?_ ?_
      ·exact q_p fr<|q_ld 0 rfl rfl<|q_c0 (aF2 cv_r (cv_f cvs_nil) fun l0_ l1_=>w117 (Dc:=1) (by omega) l0_ a0.Ops (fun l=>.fn 118 []) (fun l=>cv_f cvs_nil) (fun x0_=>some (m118 x0_)) (fun d hd l q0_ x0_ S t ht=>(cv172_118 _ _ _ _).trans (call0_of (E:=(fun (t:Bool)=>AV.bool t)) (mg:=some (m118 x0_)) (args1 (M:=fun a=>Fit (R NN d 118 a []) _ _) (cv_a (cvs_e (l0:=q0_) (x:=x0_))) HP.nil fun u0_=>w118 hd u0_ x0_) ht)) l1_) fun y2 hy2=>q_i (q_lret 0 rr)<|q_norm 0 rr
      ·first | refine q_ifF1 ?_ | skip
       exact q_norm 0 rr
     ·exact fun s8=>q_ret (cv_p rfl) rfl
     ·exact fun i4 s8=>q_none
     ·exact fun s8=>q_ret (cv_p rfl) rfl
    ·exact q_none
   ·exact fun s6=>q_ret (cv_p rfl) rfl
  ·exact fun i2 s4=>q_none
  ·exact fun s4=>q_ret (cv_p rfl) rfl
def ms119_0 (a0:List TRequest) (a1:TRequest→Option (Bool)) (s1:Int×Int):Option (LO (Int×Int)):=bif decide (s1.2 < (a0.length:Int)) then (getI a0 s1.2).bind fun x1=>(a1 x1).bind fun y1=>bif y1 then some (LO.ret (s1.2,s1.2)) else some (LO.norm (s1.1,wi .i64 (s1.2 + 1))) else some (LO.exit 0 (s1.1,s1.2))
def m119 (a0:List TRequest) (a1:TRequest→Option (Bool)):Option (Int):=(loopO (ms119_0 a0 a1) NN (0,0)).bind (contO (fun _=>none) (fun i1 s2=>if i1 = 0 then some (-1) else none) (fun s2=>some s2.1))
theorem w119 {Dc:Nat} {d:Nat} (hd:Dc + 1≤d) (k0:Bool) (a0:List TRequest) (c1:Bool→AV) (hc1:∀ l,CV 8 [] false (c1 l) c1) (a1:TRequest→Option (Bool)) (tc1:∀ (d:Nat),Dc≤d→∀ (l:Bool) (q0:Bool) (x0:TRequest) (S:St) (t:Bool),a1 x0 = some t→callV (cfg NN) (R NN d) 119 (c1 l) [.agg (Enc.cs q0 x0)] S = some ((fun (t:Bool)=>AV.bool t) t,S)) (k1:Bool):Fit (R NN d 119 [.rsl k0 false (a0.map (Enc.cs k0)),c1 k1] []) (m119 a0 a1) PI:=by
  obtain ⟨d,rfl,g⟩:=up hd
  refine q_in (t119 NN d _ _) ?_
  unfold b119 m119
  refine q_len<|q_lp (A:=fun (s:Int×Int)=>[.int .i64 s.1,.int .i64 s.2]) (B:=fun s=>[]) 0 rr ?_ ?_ ?_
  ·intro s1
   unfold s119_0 ms119_0
   exact q_p fr<|q_i (q_ix rfl fun x1 hx1=>q_p fr<|q_cv (mg:=a1 x1) (E:=(fun (t:Bool)=>AV.bool t)) (fun S t ht=>tc1 d (by omega) k1 k0 x1 S t ht) fun y1 hy1=>q_i (q_lret 0 rr)<|q_p fr<|q_norm 0 rr)<|q_exit 0 rr
  ·exact fun i1 s2=>q_n (q_ret (cv_p rfl) rfl)<|q_none
  ·exact fun s2=>q_ret (cv_p rfl) rfl
def m120 (a0:TRequest) (a1:TRequest):Bool:=bif a0.Client == a1.Client then a0.Number == a1.Number else false
theorem w120 {d:Nat} (hd:1≤d) (k0:Bool) (a0:TRequest) (k1:Bool) (a1:TRequest):Fit (R NN d 120 [.agg (Enc.cs k0 a0),.rp k1 (Enc.cs k1 a1)] []) (some (m120 a0 a1)) PB:=by
  obtain ⟨d,rfl,g⟩:=up hd
  refine q_in (t120 NN d _ _) ?_
  unfold b120 m120
  exact q_box (n:=4) rfl rfl (by decide) fun b1=>q_p fr<|q_ld 0 rfl rfl<|q_p fr<|q_p fr<|q_p fr<|q_gTt (fun h1=>q_p fr<|q_ld 0 rfl rfl<|q_p fr<|q_p fr<|q_p fr<|q_ret (cv_p rfl) rfl) fun h1=>q_ret (cv_p rfl) rfl
def m64 (a0:List TRequest) (a1:TRequest):Option (Int):=(m119 a0 (fun x0_=>some (m120 x0_ a1))).bind fun y1=>some y1
theorem w64 {d:Nat} (hd:3≤d) (k0:Bool) (a0:List TRequest) (k1:Bool) (a1:TRequest):Fit (R NN d 64 [.rsl k0 false (a0.map (Enc.cs k0)),.agg (Enc.cs k1 a1)] []) (m64 a0 a1) PI:=by
  obtain ⟨d,rfl,g⟩:=up hd
  refine q_in (t64 NN d _ _) ?_
  unfold b64 m64
  exact q_box (n:=4) rfl rfl (by decide) fun b1=>q_c0 (aF2 cv_r (cv_f (cvs_cons (cv_b 0 rfl (cvs_e (l0:=k1) (x:=a1))) cvs_nil)) fun l0_ l1_=>w119 (Dc:=1) (by omega) l0_ a0 (fun l=>.fn 120 [.rp l (Enc.cs l a1)]) (fun l=>cv_f (cvs_cons (cv_rp (cvs_e (l0:=l) (x:=a1)) (fun _ _ _ h=>Enc.frz _ a1 _ _ _ h)) cvs_nil)) (fun x0_=>some (m120 x0_ a1)) (fun d hd l q0_ x0_ S t ht=>(cv119_120 _ _ _ _).trans (call0_of (E:=(fun (t:Bool)=>AV.bool t)) (mg:=some (m120 x0_ a1)) (args2 (M:=fun a=>Fit (R NN d 120 a []) _ _) (cv_a (cvs_e (l0:=q0_) (x:=x0_))) (cv_rp (cvs_e (l0:=l) (x:=a1)) (fun _ _ _ h=>Enc.frz _ a1 _ _ _ h)) HP.nil fun u0_ v0_=>w120 hd u0_ x0_ v0_ a1) ht)) l1_) fun y1 hy1=>q_ret (cv_p rfl) rfl
def ms27_0 (a0:TCluster) (s3:Int×(List Int)):Option (LO (Int×(List Int))):=bif decide (s3.1 < (a0.Replicas.length:Int)) then (getI a0.Replicas s3.1).bind fun x1=>(appO 8 s3.2 [x1.Id]).bind fun z1=>some (LO.norm (wi .i64 (s3.1 + 1),z1)) else some (LO.exit 0 (s3.1,s3.2))
def ms27_1 (a0:TCluster) (y5:(List Int)) (s5:Int×Int):Option (LO (Int×Int)):=bif decide (s5.2 < (a0.Replicas.length:Int)) then (getI a0.Replicas s5.2).bind fun x2=>(m62 a0.F a0.Ledger x2 (y5.length:Int)).bind fun y6=>bif y6 != 0 then some (LO.ret (y6,s5.2)) else some (LO.norm (s5.1,wi .i64 (s5.2 + 1))) else some (LO.exit 2 (s5.1,s5.2))
def ms27_2 (a0:TCluster) (s7:Int×Int):Option (LO (Int×Int)):=bif decide (s7.2 < (a0.Requests.length:Int)) then (getI a0.Requests s7.2).bind fun x3=>(m63 x3).bind fun y7=>bif y7 != 0 then some (LO.ret (y7,s7.2)) else (subI a0.Requests 0 s7.2).bind fun ys1=>(m64 ys1 x3).bind fun y8=>bif decide (y8 ≥ 0) then some (LO.ret (6,s7.2)) else some (LO.norm (s7.1,wi .i64 (s7.2 + 1))) else some (LO.exit 4 (s7.1,s7.2))
def m27 (a0:TCluster):Option (Int):=(m57 a0.F a0.Ledger).bind fun y1=>bif y1 != 0 then some y1 else ( bif decide ((a0.Bad.length:Int) > a0.F) then some (LO.ret 2) else bif decide ((a0.Requests.length:Int) > 12) then some (LO.ret 2) else some (LO.norm 0)).bind (contO (fun s2=>(m58 a0.F a0.Bad).bind fun y2=>bif y2 != 0 then some y2 else (loopO (ms27_0 a0) NN (0,[])).bind (contO (fun _=>none) (fun i2 s4=>if i2 = 0 then (m60 a0.F a0.Bad).bind fun y3=>(m59 s4.2 y3).bind fun y4=>bif !y4 then some 1 else (m61 a0.F a0.Ledger).bind fun y5=>(loopO (ms27_1 a0 y5) NN (s2,0)).bind (contO (fun _=>none) (fun i3 s6=>if i3 = 2 then (loopO (ms27_2 a0) NN (s6.1,0)).bind (contO (fun _=>none) (fun i4 s8=>if i4 = 4 then some 0 else none) (fun s8=>some s8.1)) else none) (fun s6=>some s6.1)) else none) (fun s4=>some s2))) (fun i1 s2=>none) (fun s2=>some s2))
theorem w27 {d:Nat} (hd:146≤d) (k0:Bool) (a0:TCluster):Fit (R NN d 27 [.agg (Enc.cs k0 a0)] []) (m27 a0) PI:=by
  obtain ⟨d,rfl,g⟩:=up hd
  refine q_in (t27 NN d _) ?_
  unfold b27 m27
  refine q_box (n:=5) rfl rfl (by decide) fun b1=>q_p fr<|q_ld 0 rfl rfl<|q_p fr<|q_ld 0 rfl rfl<|q_c0 (aF2 (cv_p rfl) cv_r fun l0_ l1_=>w57 (by omega) a0.F l1_ a0.Ledger) fun y1 hy1=>q_p fr<|q_i ?_ ?_
  ·exact q_ret (cv_p rfl) rfl
  ·refine q_cu (A:=fun (s:Int)=>[.int .i64 s]) (B:=fun s=>[bx b1 [.int .i64 a0.F,.rsl k0 false (a0.Bad.map (Enc.cs k0)),.rsl k0 false (a0.Replicas.map (Enc.cs k0)),.rsl k0 false (a0.Ledger.map (Enc.cs k0)),.rsl k0 false (a0.Requests.map (Enc.cs k0))]]) ?_ ?_ ?_ ?_
   ·refine q_p fr<|q_ld 0 rfl rfl<|q_len<|q_p fr<|q_ld 0 rfl rfl<|q_p fr<|q_j ?_ ?_
    ·first | refine q_ifT1 ?_ | skip
     exact q_lret 0 rr
    ·exact q_p fr<|q_ld 0 rfl rfl<|q_len<|q_p fr<|q_i (q_lret 0 rr)<|q_norm 0 rr
   ·intro s2
    refine q_p fr<|q_ld 0 rfl rfl<|q_p fr<|q_ld 0 rfl rfl<|q_c0 (aF2 (cv_p rfl) cv_r fun l0_ l1_=>w58 (by omega) a0.F l1_ a0.Bad) fun y2 hy2=>q_p fr<|q_i ?_ ?_
    ·exact q_ret (cv_p rfl) rfl
    ·refine q_q (fun _=>qs22_0)<|q_p fr<|q_ld 0 rfl rfl<|q_len<|q_nil (α:=Int) false<|q_loop (I:=(fun (s:Int×(List Int)) l L=>∃ (v1:AV),l = [v1,.int .i64 s.1]∧L = [sl false v1 (s.2:List Int),bx b1 [.int .i64 a0.F,.rsl k0 false (a0.Bad.map (Enc.cs k0)),.rsl k0 false (a0.Replicas.map (Enc.cs k0)),.rsl k0 false (a0.Ledger.map (Enc.cs k0)),.rsl k0 false (a0.Requests.map (Enc.cs k0))]])) 0 ⟨(.rsl false true []),rfl,rfl⟩ ?_ ?_ ?_
     ·rintro s3 _ _ ⟨v1,rfl,rfl⟩
      unfold s27_0 ms27_0
      exact q_p fr<|q_i (q_ix rfl fun x1 hx1=>q_p fr<|q_new rfl fun b2=>q_st 0 rfl rfl rfl (by decide) rfl<|q_p fr<|q_ld 0 rfl rfl<|q_e (fun _=>bs22_1 rfl)<|q_app (ys:=[x1.Id]) 1 rfl rfl (fun _ _=>rfl) fun v2 z1 hz1=>q_p fr<|q_norm 1 ⟨v2,rfl,rfl⟩)<|q_exit 0 ⟨v1,rfl,rfl⟩
     ·rintro i2 s4 _ _ ⟨v3,rfl,rfl⟩
      refine q_n ?_ ?_
      ·refine q_p fr<|q_ld 1 rfl rfl<|q_p fr<|q_ld 1 rfl rfl<|q_c0 (aF2 (cv_p rfl) cv_r fun l0_ l1_=>w60 (by omega) a0.F l1_ a0.Bad) fun y3 hy3=>q_c0 (aF2 (cv_o 0 rfl) cv_r fun l0_ l1_=>w59 (by omega) l0_ s4.2 l1_ y3) fun y4 hy4=>q_p fr<|q_i ?_ ?_
       ·exact q_ret (cv_p rfl) rfl
       ·refine q_p fr<|q_ld 1 rfl rfl<|q_p fr<|q_ld 1 rfl rfl<|q_c0 (aF2 (cv_p rfl) cv_r fun l0_ l1_=>w61 (by omega) a0.F l1_ a0.Ledger) fun y5 hy5=>q_len<|q_p fr<|q_ld 1 rfl rfl<|q_len<|q_lp (A:=fun (s:Int×Int)=>[.int .i64 s.1,.int .i64 s.2]) (B:=fun s=>[sl false v3 (s4.2:List Int),bx b1 [.int .i64 a0.F,.rsl k0 false (a0.Bad.map (Enc.cs k0)),.rsl k0 false (a0.Replicas.map (Enc.cs k0)),.rsl k0 false (a0.Ledger.map (Enc.cs k0)),.rsl k0 false (a0.Requests.map (Enc.cs k0))]]) 0 rr ?_ ?_ ?_
        ·intro s5
         unfold s27_1 ms27_1
         exact q_p fr<|q_i (q_ix rfl fun x2 hx2=>q_p fr<|q_new rfl fun b3=>q_st 0 rfl rfl rfl (by decide) rfl<|q_p fr<|q_ld 2 rfl rfl<|q_p fr<|q_ld 2 rfl rfl<|q_lda 0 rfl rfl rfl<|q_c0 (fun S hS=>argF4 (cv_p rfl) cv_r (cv_a (cvs_e (l0:=false) (x:=x2))) (cv_p rfl) hS fun l0_ l1_ l2_ l3_=>w62 (by omega) a0.F l1_ a0.Ledger l2_ x2 (y5.length:Int)) fun y6 hy6=>q_p fr<|q_i (q_lret 1 rr)<|q_p fr<|q_norm 1 rr)<|q_exit 0 rr
        ·intro i3 s6
         refine q_n ?_ ?_
         ·refine q_p fr<|q_ld 1 rfl rfl<|q_len<|q_lp (A:=fun (s:Int×Int)=>[.int .i64 s.1,.int .i64 s.2]) (B:=fun s=>[sl false v3 (s4.2:List Int),bx b1 [.int .i64 a0.F,.rsl k0 false (a0.Bad.map (Enc.cs k0)),.rsl k0 false (a0.Replicas.map (Enc.cs k0)),.rsl k0 false (a0.Ledger.map (Enc.cs k0)),.rsl k0 false (a0.Requests.map (Enc.cs k0))]]) 0 rr ?_ ?_ ?_
          ·intro s7
           unfold s27_2 ms27_2
           exact q_p fr<|q_i (q_ix rfl fun x3 hx3=>q_p fr<|q_new rfl fun b4=>q_st 0 rfl rfl rfl (by decide) rfl<|q_lda 0 rfl rfl rfl<|q_c0 (aF1 (cv_a (cvs_e (l0:=k0) (x:=x3))) fun l0_=>w63 (by omega) l0_ x3) fun y7 hy7=>q_p fr<|q_i (q_lret 1 rr)<|q_p fr<|q_ld 2 rfl rfl<|q_sub rfl (.inr ⟨rfl,rfl⟩) (.inl rfl) fun fl1 ys1 hys1=>q_lda 0 rfl rfl rfl<|q_c0 (aF2 cv_r (cv_a (cvs_e (l0:=k0) (x:=x3))) fun l0_ l1_=>w64 (by omega) l0_ ys1 l1_ x3) fun y8 hy8=>q_p fr<|q_i (q_lret 1 rr)<|q_p fr<|q_norm 1 rr)<|q_exit 0 rr
          ·exact fun i4 s8=>q_n (q_ret (cv_p rfl) rfl)<|q_none
          ·exact fun s8=>q_ret (cv_p rfl) rfl
         ·exact q_none
        ·exact fun s6=>q_ret (cv_p rfl) rfl
      ·exact q_none
     ·rintro s4 _ _ ⟨v4,rfl,rfl⟩
      exact q_ret (cv_p rfl) rfl
   ·exact fun i1 s2=>q_none
   ·exact fun s2=>q_ret (cv_p rfl) rfl
def m65 (a0:TReplica):Bool:=bif a0.View == 0 then true else a0.Start != (-1)
theorem w65 {d:Nat} (hd:1≤d) (k0:Bool) (a0:TReplica):Fit (R NN d 65 [.rp k0 (Enc.cs k0 a0)] []) (some (m65 a0)) PB:=by
  obtain ⟨d,rfl,g⟩:=up hd
  refine q_in (t65 NN d _) ?_
  unfold b65 m65
  exact q_q fr<|q_p fr<|q_p fr<|q_p fr<|q_gFt (fun h1=>q_ret (cv_p rfl) rfl) fun h1=>q_q fr<|q_p fr<|q_p fr<|q_p fr<|q_ret (cv_p rfl) rfl
def m121 (a0 a1:Int):Option Str:=fmtO a0 a1
theorem w121 {d:Nat} (hd:1≤d) (a0 a1:Int):Fit (R NN d 121 [.int .i64 a0,.int .i64 a1] []) (m121 a0 a1) (P0 encS):=by
  obtain ⟨d,rfl,g⟩:=up hd
  exact fit_fi (R:=R) (fun _ _ _=>t121 _ _ _ _ _) a0 a1
def m66 (a0:Int):Option (Str):=(m121 a0 10).bind fun y1=>some y1
theorem w66 {d:Nat} (hd:2≤d) (a0:Int):Fit (R NN d 66 [.int .i64 a0] []) (m66 a0) (P0 encS):=by
  obtain ⟨d,rfl,g⟩:=up hd
  refine q_in (t66 NN d _) ?_
  unfold b66 m66
  exact q_c0 (aF2 (cv_p rfl) (cv_p rfl) fun l0_ l1_=>w121 (by omega) a0 10) fun y1 hy1=>q_ret (cv_p rfl) rfl
def m67 (a0:List Str) (a1:Str):Option Str:=joinO a0 a1
theorem w67 {d:Nat} (hd:1≤d) (k0:Bool) (a0:List Str) (a1:Str):Fit (R NN d 67 [.rsl k0 false (a0.map (Enc.cs k0)),encS a1] []) (m67 a0 a1) (P0 encS):=by
  obtain ⟨d,rfl,g⟩:=up hd
  exact fit_j (R:=R) (fun _ _ _=>t67 _ _ _ _ _) k0 false a0 a1
def ms68_0 (a0:List Int) (s1:Int×(List Str)):Option (LO (Int×(List Str))):=bif decide (s1.1 < (a0.length:Int)) then (getI a0 s1.1).bind fun x1=>(m66 x1).bind fun y1=>(appO 16 s1.2 [y1]).bind fun z1=>some (LO.norm (wi .i64 (s1.1 + 1),z1)) else some (LO.exit 0 (s1.1,s1.2))
def m68 (a0:List Int):Option ((List Str)):=(loopO (ms68_0 a0) NN (0,[])).bind (contO (fun _=>none) (fun i1 s2=>if i1 = 0 then some s2.2 else none) (fun s2=>some []))
theorem w68 {d:Nat} (hd:3≤d) (k0:Bool) (a0:List Int):Fit (R NN d 68 [.rsl k0 false (a0.map (Enc.cs k0))] []) (m68 a0) (P0 (fun (t:List Str)=>AV.rsl false false (t.map (Enc.cs false)))):=by
  obtain ⟨d,rfl,g⟩:=up hd
  refine q_in (t68 NN d _) ?_
  unfold b68 m68
  refine q_q (fun _=>qs114_0)<|q_len<|q_nil (α:=Str) false<|q_loop (I:=(fun (s:Int×(List Str)) l L=>∃ (v1:AV),l = [v1,.int .i64 s.1]∧L = [sl false v1 (s.2:List Str)])) 0 ⟨(.rsl false true []),rfl,rfl⟩ ?_ ?_ ?_
  ·rintro s1 _ _ ⟨v1,rfl,rfl⟩
   unfold s68_0 ms68_0
   exact q_p fr<|q_i (q_ix rfl fun x1 hx1=>q_p fr<|q_c0 (aF1 (cv_p rfl) fun l0_=>w66 (by omega) x1) fun y1 hy1=>q_q (fun _=>qs114_1)<|q_app (ys:=[y1]) 0 rfl rfl (fun _ _=>rfl) fun v2 z1 hz1=>q_p fr<|q_norm 0 ⟨v2,rfl,rfl⟩)<|q_exit 0 ⟨v1,rfl,rfl⟩
  ·rintro i1 s2 _ _ ⟨v3,rfl,rfl⟩
   exact q_n (q_ret (cv_o 0 rfl) rfl)<|q_none
  ·rintro s2 _ _ ⟨v4,rfl,rfl⟩
   exact q_ret (cv_r (α:=Str) (l0:=false) (fl:=true) (xs:=[])) rfl
def ms28_0 (a0:TCluster) (s1:Str×Int):Option (LO (Str×Int)):=bif decide (s1.2 < (a0.Replicas.length:Int)) then ( (getI a0.Replicas s1.2).bind fun x1=>( bif (m65 x1) then some (LO.norm ([105,110]:Str)) else some (LO.norm ([111,117,116]:Str))).bind (contO (fun s4=>(m66 x1.Id).bind fun y1=>(catO ([114,101,112,108,105,99,97,32]:Str) y1).bind fun t1=>(catO t1 ([32]:Str)).bind fun t2=>(m66 x1.View).bind fun y2=>(catO t2 y2).bind fun t3=>(catO t3 ([32]:Str)).bind fun t4=>(catO t4 s4).bind fun t5=>(catO t5 ([32]:Str)).bind fun t6=>(m66 x1.Done).bind fun y3=>(catO t6 y3).bind fun t7=>(catO t7 ([10]:Str)).bind fun t8=>(catO s1.1 t8).bind fun t9=>some (LO.norm t9)) (fun i1 s4=>if i1 = 1 then some (LO.norm s1.1) else some (LO.exit i1 s1.1)) (fun s4=>some (LO.ret s1.1)))).bind (contO (fun s5=>some (LO.norm (s5,wi .i64 (s1.2 + 1)))) (fun i2 s5=>some (LO.exit i2 (s5,s1.2))) (fun s5=>some (LO.ret (s5,s1.2)))) else some (LO.exit 0 (s1.1,s1.2))
def m28 (a0:TCluster):Option (Str):=(loopO (ms28_0 a0) NN (([]:Str),0)).bind (contO (fun _=>none) (fun i3 s6=>if i3 = 0 then (m61 a0.F a0.Ledger).bind fun y4=>(m68 y4).bind fun y5=>(appO 16 [([108,111,103]:Str)] y5).bind fun z1=>(m67 z1 ([32]:Str)).bind fun y6=>(catO s6.1 y6).bind fun t10=>(catO t10 ([10]:Str)).bind fun t11=>some t11 else none) (fun s6=>some ([]:Str)))
theorem w28 {d:Nat} (hd:141≤d) (k0:Bool) (a0:TCluster):Fit (R NN d 28 [.rp k0 (Enc.cs k0 a0)] []) (m28 a0) (P0 encS):=by
  obtain ⟨d,rfl,g⟩:=up hd
  refine q_in (t28 NN d _) ?_
  unfold b28 m28
  refine q_q fr<|q_p fr<|q_p fr<|q_len<|q_lp (A:=fun (s:Str×Int)=>[encS s.1,.int .i64 s.2]) (B:=fun s=>[]) 0 rr ?_ ?_ ?_
  ·intro s1
   unfold s28_0 ms28_0
   refine q_p fr<|q_i ?_ ?_
   ·refine q_cu (A:=fun (s:Str)=>[encS s]) (B:=fun s=>[]) ?_ ?_ ?_ ?_
    ·refine q_ix rfl fun x1 hx1=>q_p fr<|q_new rfl fun b1=>q_st 0 rfl rfl rfl (by decide) rfl<|q_cu (A:=fun (s:Str)=>[encS s]) (B:=fun s=>[bx b1 [.int .i64 x1.Id,.int .i64 x1.View,.int .i64 x1.Start,.int .i64 x1.Done]]) ?_ ?_ ?_ ?_
     ·exact q_c0t (aF1 (cv_b 0 rfl (cvs_cons (cv_p rfl) (cvs_cons (cv_p rfl) (cvs_cons (cv_p rfl) (cvs_cons (cv_p rfl) cvs_nil))))) fun l0_=>w65 (by omega) l0_ x1)<|q_i (q_norm 0 rr)<|q_norm 0 rr
     ·exact fun s4=>q_p fr<|q_ld 0 rfl rfl<|q_c0 (aF1 (cv_p rfl) fun l0_=>w66 (by omega) x1.Id) fun y1 hy1=>q_cat fun t1 ht1=>q_cat fun t2 ht2=>q_p fr<|q_ld 0 rfl rfl<|q_c0 (aF1 (cv_p rfl) fun l0_=>w66 (by omega) x1.View) fun y2 hy2=>q_cat2 fun t3 ht3=>q_cat fun t4 ht4=>q_cat2 fun t5 ht5=>q_cat fun t6 ht6=>q_p fr<|q_ld 0 rfl rfl<|q_c0 (aF1 (cv_p rfl) fun l0_=>w66 (by omega) x1.Done) fun y3 hy3=>q_cat2 fun t7 ht7=>q_cat fun t8 ht8=>q_cat2 fun t9 ht9=>q_norm 1 rr
     ·exact fun i1 s4=>q_n (q_norm 1 rr)<|q_exit 1 rr
     ·exact fun s4=>q_lret 1 rr
    ·exact fun s5=>q_p fr<|q_norm 0 rr
    ·exact fun i2 s5=>q_exit 0 rr
    ·exact fun s5=>q_lret 0 rr
   ·exact q_exit 0 rr
  ·exact fun i3 s6=>q_n (q_q (fun _=>qs114_1)<|q_q fr<|q_p fr<|q_p fr<|q_q fr<|q_p fr<|q_p fr<|q_c0 (aF2 (cv_p rfl) cv_r fun l0_ l1_=>w61 (by omega) a0.F l1_ a0.Ledger) fun y4 hy4=>q_c0 (aF1 cv_r fun l0_=>w68 (by omega) l0_ y4) fun y5 hy5=>q_applit (xs:=[([108,111,103]:Str)]) (ys:=y5) rfl (fun _ _=>rfl) fun z1 hz1 v1 i4=>q_c0 (aF2 (cv_wls (α:=Str) 0 rfl) (cv_p rfl) fun l0_ l1_=>w67 (by omega) l0_ z1 ([32]:Str)) fun y6 hy6=>q_cat2 fun t10 ht10=>q_cat fun t11 ht11=>q_ret (cv_p rfl) rfl)<|q_none
  ·exact fun s6=>q_ret (cv_p rfl) rfl
def m8 (a0:TCluster):Option (TTextResult):=(m27 a0).bind fun y1=>bif y1 != 0 then some (⟨y1,[]⟩:TTextResult) else (m28 a0).bind fun y2=>some (⟨0,y2⟩:TTextResult)
theorem w8 {d:Nat} (hd:147≤d) (k0:Bool) (a0:TCluster):Fit (R NN d 8 [.agg (Enc.cs k0 a0)] []) (m8 a0) (P0 (fun (t:TTextResult)=>AV.agg (Enc.cs false t))):=by
  obtain ⟨d,rfl,g⟩:=up hd
  refine q_in (t8 NN d _) ?_
  unfold b8 m8
  exact q_box (n:=5) rfl rfl (by decide) fun b1=>q_new rfl fun b2=>q_lda 1 rfl rfl rfl<|q_c0 (aF1 (cv_a (cvs_e (l0:=k0) (x:=a0))) fun l0_=>w27 (by omega) l0_ a0) fun y1 hy1=>q_p fr<|q_i (q_p (fun _=>bd30_0 rfl)<|q_st 0 rfl rfl rfl (by decide) rfl<|q_retm (fun S hS=>hS.lda 0 rfl rfl) (cv_a (cvs_cons (cv_p rfl) (cvs_cons (cv_p rfl) cvs_nil))) rfl)<|q_c0 (aF1 (cv_b 1 rfl (cvs_cons (cv_p rfl) (cvs_cons cv_r (cvs_cons cv_r (cvs_cons cv_r (cvs_cons cv_r cvs_nil)))))) fun l0_=>w28 (by omega) l0_ a0) fun y2 hy2=>q_p (fun _=>bd30_1 rfl)<|q_st 0 rfl rfl rfl (by decide) rfl<|q_retm (fun S hS=>hS.lda 0 rfl rfl) (cv_a (cvs_cons (cv_p rfl) (cvs_cons (cv_p rfl) cvs_nil))) rfl
def m9 (a0:TTextResult) (a1:TTextResult):Bool:=bif a0.Code != a1.Code then false else bif !(a0.Text == a1.Text) then false else true
theorem w9 {d:Nat} (hd:1≤d) (k0:Bool) (a0:TTextResult) (k1:Bool) (a1:TTextResult):Fit (R NN d 9 [.agg (Enc.cs k0 a0),.agg (Enc.cs k1 a1)] []) (some (m9 a0 a1)) PB:=by
  obtain ⟨d,rfl,g⟩:=up hd
  refine q_in (t9 NN d _ _) ?_
  unfold b9 m9
  exact q_box (n:=2) rfl rfl (by decide) fun b1=>q_box (n:=2) rfl rfl (by decide) fun b2=>q_p fr<|q_ld 1 rfl rfl<|q_p fr<|q_ld 0 rfl rfl<|q_p fr<|q_ift (fun h2=>q_ret (cv_p rfl) rfl) fun h2=>q_p fr<|q_ld 1 rfl rfl<|q_p fr<|q_ld 0 rfl rfl<|q_p (fun _=>seq_neq2)<|q_ift (fun h1=>q_ret (cv_p rfl) rfl) fun h1=>q_ret (cv_p rfl) rfl
def ms29_0 (a0:List Int) (a1:List Int) (s1:Bool×Int):Option (LO (Bool×Int)):=bif decide (s1.2 < (a0.length:Int)) then (getI a0 s1.2).bind fun x1=>(getI a1 s1.2).bind fun x2=>bif x1 != x2 then some (LO.ret (false,s1.2)) else some (LO.norm (s1.1,wi .i64 (s1.2 + 1))) else some (LO.exit 0 (s1.1,s1.2))
def m29 (a0:List Int) (a1:List Int):Option (Bool):=bif (a0.length:Int) != (a1.length:Int) then some false else (loopO (ms29_0 a0 a1) NN (false,0)).bind (contO (fun _=>none) (fun i1 s2=>if i1 = 0 then some true else none) (fun s2=>some s2.1))
theorem w29 {d:Nat} (hd:1≤d) (k0:Bool) (a0:List Int) (k1:Bool) (a1:List Int):Fit (R NN d 29 [.rsl k0 false (a0.map (Enc.cs k0)),.rsl k1 false (a1.map (Enc.cs k1))] []) (m29 a0 a1) PB:=by
  obtain ⟨d,rfl,g⟩:=up hd
  refine q_in (t29 NN d _ _) ?_
  unfold b29 m29
  refine q_len<|q_len<|q_p fr<|q_i ?_ ?_
  ·exact q_ret (cv_p rfl) rfl
  ·refine q_lp (A:=fun (s:Bool×Int)=>[.bool s.1,.int .i64 s.2]) (B:=fun s=>[]) 0 rr ?_ ?_ ?_
   ·intro s1
    unfold s29_0 ms29_0
    exact q_len<|q_p fr<|q_i (q_ix rfl fun x1 hx1=>q_p fr<|q_ix rfl fun x2 hx2=>q_p fr<|q_p fr<|q_i (q_lret 0 rr)<|q_p fr<|q_norm 0 rr)<|q_exit 0 rr
   ·exact fun i1 s2=>q_n (q_ret (cv_p rfl) rfl)<|q_none
   ·exact fun s2=>q_ret (cv_p rfl) rfl
def m69 (a0:TReplica) (a1:TReplica):Bool:=bif a0.Id != a1.Id then false else bif a0.View != a1.View then false else bif a0.Start != a1.Start then false else bif a0.Done != a1.Done then false else true
theorem w69 {d:Nat} (hd:1≤d) (k0:Bool) (a0:TReplica) (k1:Bool) (a1:TReplica):Fit (R NN d 69 [.agg (Enc.cs k0 a0),.agg (Enc.cs k1 a1)] []) (some (m69 a0 a1)) PB:=by
  obtain ⟨d,rfl,g⟩:=up hd
  refine q_in (t69 NN d _ _) ?_
  unfold b69 m69
  exact q_box (n:=4) rfl rfl (by decide) fun b1=>q_box (n:=4) rfl rfl (by decide) fun b2=>q_p fr<|q_ld 1 rfl rfl<|q_p fr<|q_ld 0 rfl rfl<|q_p fr<|q_ift (fun h4=>q_ret (cv_p rfl) rfl) fun h4=>q_p fr<|q_ld 1 rfl rfl<|q_p fr<|q_ld 0 rfl rfl<|q_p fr<|q_ift (fun h3=>q_ret (cv_p rfl) rfl) fun h3=>q_p fr<|q_ld 1 rfl rfl<|q_p fr<|q_ld 0 rfl rfl<|q_p fr<|q_ift (fun h2=>q_ret (cv_p rfl) rfl) fun h2=>q_p fr<|q_ld 1 rfl rfl<|q_p fr<|q_ld 0 rfl rfl<|q_p fr<|q_ift (fun h1=>q_ret (cv_p rfl) rfl) fun h1=>q_ret (cv_p rfl) rfl
def ms30_0 (a0:List TReplica) (a1:List TReplica) (s1:Bool×Int):Option (LO (Bool×Int)):=bif decide (s1.2 < (a0.length:Int)) then (getI a0 s1.2).bind fun x1=>(getI a1 s1.2).bind fun x2=>bif !(m69 x1 x2) then some (LO.ret (false,s1.2)) else some (LO.norm (s1.1,wi .i64 (s1.2 + 1))) else some (LO.exit 0 (s1.1,s1.2))
def m30 (a0:List TReplica) (a1:List TReplica):Option (Bool):=bif (a0.length:Int) != (a1.length:Int) then some false else (loopO (ms30_0 a0 a1) NN (false,0)).bind (contO (fun _=>none) (fun i1 s2=>if i1 = 0 then some true else none) (fun s2=>some s2.1))
theorem w30 {d:Nat} (hd:2≤d) (k0:Bool) (a0:List TReplica) (k1:Bool) (a1:List TReplica):Fit (R NN d 30 [.rsl k0 false (a0.map (Enc.cs k0)),.rsl k1 false (a1.map (Enc.cs k1))] []) (m30 a0 a1) PB:=by
  obtain ⟨d,rfl,g⟩:=up hd
  refine q_in (t30 NN d _ _) ?_
  unfold b30 m30
  refine q_len<|q_len<|q_p fr<|q_i ?_ ?_
  ·exact q_ret (cv_p rfl) rfl
  ·refine q_lp (A:=fun (s:Bool×Int)=>[.bool s.1,.int .i64 s.2]) (B:=fun s=>[]) 0 rr ?_ ?_ ?_
   ·intro s1
    unfold s30_0 ms30_0
    exact q_len<|q_p fr<|q_i (q_ix rfl fun x1 hx1=>q_p fr<|q_ix rfl fun x2 hx2=>q_p fr<|q_c0t (aF2 (cv_a (cvs_e (l0:=k0) (x:=x1))) (cv_a (cvs_e (l0:=k1) (x:=x2))) fun l0_ l1_=>w69 (by omega) l0_ x1 l1_ x2)<|q_p fr<|q_i (q_lret 0 rr)<|q_p fr<|q_norm 0 rr)<|q_exit 0 rr
   ·exact fun i1 s2=>q_n (q_ret (cv_p rfl) rfl)<|q_none
   ·exact fun s2=>q_ret (cv_p rfl) rfl
def m176 (a0:TCert) (a1:TCert):Bool:=bif a0.Slot != a1.Slot then false else bif a0.View != a1.View then false else bif a0.Value != a1.Value then false else true
theorem w176 {d:Nat} (hd:1≤d) (k0:Bool) (a0:TCert) (k1:Bool) (a1:TCert):Fit (R NN d 176 [.agg (Enc.cs k0 a0),.agg (Enc.cs k1 a1)] []) (some (m176 a0 a1)) PB:=by
  obtain ⟨d,rfl,g⟩:=up hd
  refine q_in (t176 NN d _ _) ?_
  unfold b176 m176
  exact q_box (n:=3) rfl rfl (by decide) fun b1=>q_box (n:=3) rfl rfl (by decide) fun b2=>q_p fr<|q_ld 1 rfl rfl<|q_p fr<|q_ld 0 rfl rfl<|q_p fr<|q_ift (fun h3=>q_ret (cv_p rfl) rfl) fun h3=>q_p fr<|q_ld 1 rfl rfl<|q_p fr<|q_ld 0 rfl rfl<|q_p fr<|q_ift (fun h2=>q_ret (cv_p rfl) rfl) fun h2=>q_p fr<|q_ld 1 rfl rfl<|q_p fr<|q_ld 0 rfl rfl<|q_p fr<|q_ift (fun h1=>q_ret (cv_p rfl) rfl) fun h1=>q_ret (cv_p rfl) rfl
def ms125_0 (a0:List TCert) (a1:List TCert) (s1:Bool×Int):Option (LO (Bool×Int)):=bif decide (s1.2 < (a0.length:Int)) then (getI a0 s1.2).bind fun x1=>(getI a1 s1.2).bind fun x2=>bif !(m176 x1 x2) then some (LO.ret (false,s1.2)) else some (LO.norm (s1.1,wi .i64 (s1.2 + 1))) else some (LO.exit 0 (s1.1,s1.2))
def m125 (a0:List TCert) (a1:List TCert):Option (Bool):=bif (a0.length:Int) != (a1.length:Int) then some false else (loopO (ms125_0 a0 a1) NN (false,0)).bind (contO (fun _=>none) (fun i1 s2=>if i1 = 0 then some true else none) (fun s2=>some s2.1))
theorem w125 {d:Nat} (hd:2≤d) (k0:Bool) (a0:List TCert) (k1:Bool) (a1:List TCert):Fit (R NN d 125 [.rsl k0 false (a0.map (Enc.cs k0)),.rsl k1 false (a1.map (Enc.cs k1))] []) (m125 a0 a1) PB:=by
  obtain ⟨d,rfl,g⟩:=up hd
  refine q_in (t125 NN d _ _) ?_
  unfold b125 m125
  refine q_len<|q_len<|q_p fr<|q_i ?_ ?_
  ·exact q_ret (cv_p rfl) rfl
  ·refine q_lp (A:=fun (s:Bool×Int)=>[.bool s.1,.int .i64 s.2]) (B:=fun s=>[]) 0 rr ?_ ?_ ?_
   ·intro s1
    unfold s125_0 ms125_0
    exact q_len<|q_p fr<|q_i (q_ix rfl fun x1 hx1=>q_p fr<|q_ix rfl fun x2 hx2=>q_p fr<|q_c0t (aF2 (cv_a (cvs_e (l0:=k0) (x:=x1))) (cv_a (cvs_e (l0:=k1) (x:=x2))) fun l0_ l1_=>w176 (by omega) l0_ x1 l1_ x2)<|q_p fr<|q_i (q_lret 0 rr)<|q_p fr<|q_norm 0 rr)<|q_exit 0 rr
   ·exact fun i1 s2=>q_n (q_ret (cv_p rfl) rfl)<|q_none
   ·exact fun s2=>q_ret (cv_p rfl) rfl
def m70 (a0:TMsg) (a1:TMsg):Option (Bool):=bif a0.Kind != a1.Kind then some false else bif a0.View != a1.View then some false else bif a0.From != a1.From then some false else bif a0.Slot != a1.Slot then some false else bif a0.Value != a1.Value then some false else (m125 a0.Certs a1.Certs).bind fun y1=>bif !y1 then some false else (m29 a0.Refs a1.Refs).bind fun y2=>bif !y2 then some false else some true
theorem w70 {d:Nat} (hd:3≤d) (k0:Bool) (a0:TMsg) (k1:Bool) (a1:TMsg):Fit (R NN d 70 [.agg (Enc.cs k0 a0),.agg (Enc.cs k1 a1)] []) (m70 a0 a1) PB:=by
  obtain ⟨d,rfl,g⟩:=up hd
  refine q_in (t70 NN d _ _) ?_
  unfold b70 m70
  exact q_box (n:=7) rfl rfl (by decide) fun b1=>q_box (n:=7) rfl rfl (by decide) fun b2=>q_p fr<|q_ld 1 rfl rfl<|q_p fr<|q_ld 0 rfl rfl<|q_p fr<|q_i (q_ret (cv_p rfl) rfl)<|q_p fr<|q_ld 1 rfl rfl<|q_p fr<|q_ld 0 rfl rfl<|q_p fr<|q_i (q_ret (cv_p rfl) rfl)<|q_p fr<|q_ld 1 rfl rfl<|q_p fr<|q_ld 0 rfl rfl<|q_p fr<|q_i (q_ret (cv_p rfl) rfl)<|q_p fr<|q_ld 1 rfl rfl<|q_p fr<|q_ld 0 rfl rfl<|q_p fr<|q_i (q_ret (cv_p rfl) rfl)<|q_p fr<|q_ld 1 rfl rfl<|q_p fr<|q_ld 0 rfl rfl<|q_p fr<|q_i (q_ret (cv_p rfl) rfl)<|q_p fr<|q_ld 1 rfl rfl<|q_p fr<|q_ld 0 rfl rfl<|q_c0 (aF2 cv_r cv_r fun l0_ l1_=>w125 (by omega) l0_ a0.Certs l1_ a1.Certs) fun y1 hy1=>q_p fr<|q_i (q_ret (cv_p rfl) rfl)<|q_p fr<|q_ld 1 rfl rfl<|q_p fr<|q_ld 0 rfl rfl<|q_c0 (aF2 cv_r cv_r fun l0_ l1_=>w29 (by omega) l0_ a0.Refs l1_ a1.Refs) fun y2 hy2=>q_p fr<|q_i (q_ret (cv_p rfl) rfl)<|q_ret (cv_p rfl) rfl
def ms31_0 (a0:List TMsg) (a1:List TMsg) (s1:Bool×Int):Option (LO (Bool×Int)):=bif decide (s1.2 < (a0.length:Int)) then (getI a0 s1.2).bind fun x1=>(getI a1 s1.2).bind fun x2=>(m70 x1 x2).bind fun y1=>bif !y1 then some (LO.ret (false,s1.2)) else some (LO.norm (s1.1,wi .i64 (s1.2 + 1))) else some (LO.exit 0 (s1.1,s1.2))
def m31 (a0:List TMsg) (a1:List TMsg):Option (Bool):=bif (a0.length:Int) != (a1.length:Int) then some false else (loopO (ms31_0 a0 a1) NN (false,0)).bind (contO (fun _=>none) (fun i1 s2=>if i1 = 0 then some true else none) (fun s2=>some s2.1))
theorem w31 {d:Nat} (hd:4≤d) (k0:Bool) (a0:List TMsg) (k1:Bool) (a1:List TMsg):Fit (R NN d 31 [.rsl k0 false (a0.map (Enc.cs k0)),.rsl k1 false (a1.map (Enc.cs k1))] []) (m31 a0 a1) PB:=by
  obtain ⟨d,rfl,g⟩:=up hd
  refine q_in (t31 NN d _ _) ?_
  unfold b31 m31
  refine q_len<|q_len<|q_p fr<|q_i ?_ ?_
  ·exact q_ret (cv_p rfl) rfl
  ·refine q_lp (A:=fun (s:Bool×Int)=>[.bool s.1,.int .i64 s.2]) (B:=fun s=>[]) 0 rr ?_ ?_ ?_
   ·intro s1
    unfold s31_0 ms31_0
    exact q_len<|q_p fr<|q_i (q_ix rfl fun x1 hx1=>q_p fr<|q_ix rfl fun x2 hx2=>q_p fr<|q_c0 (aF2 (cv_a (cvs_e (l0:=k0) (x:=x1))) (cv_a (cvs_e (l0:=k1) (x:=x2))) fun l0_ l1_=>w70 (by omega) l0_ x1 l1_ x2) fun y1 hy1=>q_p fr<|q_i (q_lret 0 rr)<|q_p fr<|q_norm 0 rr)<|q_exit 0 rr
   ·exact fun i1 s2=>q_n (q_ret (cv_p rfl) rfl)<|q_none
   ·exact fun s2=>q_ret (cv_p rfl) rfl
def m177 (a0:TOp) (a1:TOp):Bool:=bif a0.Kind != a1.Kind then false else bif !(a0.Path == a1.Path) then false else bif a0.Data != a1.Data then false else bif a0.Version != a1.Version then false else bif a0.Seq != a1.Seq then false else bif a0.Own != a1.Own then false else true
theorem w177 {d:Nat} (hd:1≤d) (k0:Bool) (a0:TOp) (k1:Bool) (a1:TOp):Fit (R NN d 177 [.agg (Enc.cs k0 a0),.agg (Enc.cs k1 a1)] []) (some (m177 a0 a1)) PB:=by
  obtain ⟨d,rfl,g⟩:=up hd
  refine q_in (t177 NN d _ _) ?_
  unfold b177 m177
  exact q_box (n:=6) rfl rfl (by decide) fun b1=>q_box (n:=6) rfl rfl (by decide) fun b2=>q_p fr<|q_ld 1 rfl rfl<|q_p fr<|q_ld 0 rfl rfl<|q_p fr<|q_ift (fun h6=>q_ret (cv_p rfl) rfl) fun h6=>q_p fr<|q_ld 1 rfl rfl<|q_p fr<|q_ld 0 rfl rfl<|q_p (fun _=>seq_neq2)<|q_ift (fun h5=>q_ret (cv_p rfl) rfl) fun h5=>q_p fr<|q_ld 1 rfl rfl<|q_p fr<|q_ld 0 rfl rfl<|q_p fr<|q_ift (fun h4=>q_ret (cv_p rfl) rfl) fun h4=>q_p fr<|q_ld 1 rfl rfl<|q_p fr<|q_ld 0 rfl rfl<|q_p fr<|q_ift (fun h3=>q_ret (cv_p rfl) rfl) fun h3=>q_p fr<|q_ld 1 rfl rfl<|q_p fr<|q_ld 0 rfl rfl<|q_p (fun _=>bneq42 _ _)<|q_ift (fun h2=>q_ret (cv_p rfl) rfl) fun h2=>q_p fr<|q_ld 1 rfl rfl<|q_p fr<|q_ld 0 rfl rfl<|q_p (fun _=>bneq42 _ _)<|q_ift (fun h1=>q_ret (cv_p rfl) rfl) fun h1=>q_ret (cv_p rfl) rfl
def ms126_0 (a0:List TOp) (a1:List TOp) (s1:Bool×Int):Option (LO (Bool×Int)):=bif decide (s1.2 < (a0.length:Int)) then (getI a0 s1.2).bind fun x1=>(getI a1 s1.2).bind fun x2=>bif !(m177 x1 x2) then some (LO.ret (false,s1.2)) else some (LO.norm (s1.1,wi .i64 (s1.2 + 1))) else some (LO.exit 0 (s1.1,s1.2))
def m126 (a0:List TOp) (a1:List TOp):Option (Bool):=bif (a0.length:Int) != (a1.length:Int) then some false else (loopO (ms126_0 a0 a1) NN (false,0)).bind (contO (fun _=>none) (fun i1 s2=>if i1 = 0 then some true else none) (fun s2=>some s2.1))
theorem w126 {d:Nat} (hd:2≤d) (k0:Bool) (a0:List TOp) (k1:Bool) (a1:List TOp):Fit (R NN d 126 [.rsl k0 false (a0.map (Enc.cs k0)),.rsl k1 false (a1.map (Enc.cs k1))] []) (m126 a0 a1) PB:=by
  obtain ⟨d,rfl,g⟩:=up hd
  refine q_in (t126 NN d _ _) ?_
  unfold b126 m126
  refine q_len<|q_len<|q_p fr<|q_i ?_ ?_
  ·exact q_ret (cv_p rfl) rfl
  ·refine q_lp (A:=fun (s:Bool×Int)=>[.bool s.1,.int .i64 s.2]) (B:=fun s=>[]) 0 rr ?_ ?_ ?_
   ·intro s1
    unfold s126_0 ms126_0
    exact q_len<|q_p fr<|q_i (q_ix rfl fun x1 hx1=>q_p fr<|q_ix rfl fun x2 hx2=>q_p fr<|q_c0t (aF2 (cv_a (cvs_e (l0:=k0) (x:=x1))) (cv_a (cvs_e (l0:=k1) (x:=x2))) fun l0_ l1_=>w177 (by omega) l0_ x1 l1_ x2)<|q_p fr<|q_i (q_lret 0 rr)<|q_p fr<|q_norm 0 rr)<|q_exit 0 rr
   ·exact fun i1 s2=>q_n (q_ret (cv_p rfl) rfl)<|q_none
   ·exact fun s2=>q_ret (cv_p rfl) rfl
def m71 (a0:TRequest) (a1:TRequest):Option (Bool):=bif a0.Client != a1.Client then some false else bif a0.Number != a1.Number then some false else bif a0.Time != a1.Time then some false else (m126 a0.Ops a1.Ops).bind fun y1=>bif !y1 then some false else some true
theorem w71 {d:Nat} (hd:3≤d) (k0:Bool) (a0:TRequest) (k1:Bool) (a1:TRequest):Fit (R NN d 71 [.agg (Enc.cs k0 a0),.agg (Enc.cs k1 a1)] []) (m71 a0 a1) PB:=by
  obtain ⟨d,rfl,g⟩:=up hd
  refine q_in (t71 NN d _ _) ?_
  unfold b71 m71
  exact q_box (n:=4) rfl rfl (by decide) fun b1=>q_box (n:=4) rfl rfl (by decide) fun b2=>q_p fr<|q_ld 1 rfl rfl<|q_p fr<|q_ld 0 rfl rfl<|q_p fr<|q_i (q_ret (cv_p rfl) rfl)<|q_p fr<|q_ld 1 rfl rfl<|q_p fr<|q_ld 0 rfl rfl<|q_p fr<|q_i (q_ret (cv_p rfl) rfl)<|q_p fr<|q_ld 1 rfl rfl<|q_p fr<|q_ld 0 rfl rfl<|q_p fr<|q_i (q_ret (cv_p rfl) rfl)<|q_p fr<|q_ld 1 rfl rfl<|q_p fr<|q_ld 0 rfl rfl<|q_c0 (aF2 cv_r cv_r fun l0_ l1_=>w126 (by omega) l0_ a0.Ops l1_ a1.Ops) fun y1 hy1=>q_p fr<|q_i (q_ret (cv_p rfl) rfl)<|q_ret (cv_p rfl) rfl
def ms32_0 (a0:List TRequest) (a1:List TRequest) (s1:Bool×Int):Option (LO (Bool×Int)):=bif decide (s1.2 < (a0.length:Int)) then (getI a0 s1.2).bind fun x1=>(getI a1 s1.2).bind fun x2=>(m71 x1 x2).bind fun y1=>bif !y1 then some (LO.ret (false,s1.2)) else some (LO.norm (s1.1,wi .i64 (s1.2 + 1))) else some (LO.exit 0 (s1.1,s1.2))
def m32 (a0:List TRequest) (a1:List TRequest):Option (Bool):=bif (a0.length:Int) != (a1.length:Int) then some false else (loopO (ms32_0 a0 a1) NN (false,0)).bind (contO (fun _=>none) (fun i1 s2=>if i1 = 0 then some true else none) (fun s2=>some s2.1))
theorem w32 {d:Nat} (hd:4≤d) (k0:Bool) (a0:List TRequest) (k1:Bool) (a1:List TRequest):Fit (R NN d 32 [.rsl k0 false (a0.map (Enc.cs k0)),.rsl k1 false (a1.map (Enc.cs k1))] []) (m32 a0 a1) PB:=by
  obtain ⟨d,rfl,g⟩:=up hd
  refine q_in (t32 NN d _ _) ?_
  unfold b32 m32
  refine q_len<|q_len<|q_p fr<|q_i ?_ ?_
  ·exact q_ret (cv_p rfl) rfl
  ·refine q_lp (A:=fun (s:Bool×Int)=>[.bool s.1,.int .i64 s.2]) (B:=fun s=>[]) 0 rr ?_ ?_ ?_
   ·intro s1
    unfold s32_0 ms32_0
    exact q_len<|q_p fr<|q_i (q_ix rfl fun x1 hx1=>q_p fr<|q_ix rfl fun x2 hx2=>q_p fr<|q_c0 (aF2 (cv_a (cvs_e (l0:=k0) (x:=x1))) (cv_a (cvs_e (l0:=k1) (x:=x2))) fun l0_ l1_=>w71 (by omega) l0_ x1 l1_ x2) fun y1 hy1=>q_p fr<|q_i (q_lret 0 rr)<|q_p fr<|q_norm 0 rr)<|q_exit 0 rr
   ·exact fun i1 s2=>q_n (q_ret (cv_p rfl) rfl)<|q_none
   ·exact fun s2=>q_ret (cv_p rfl) rfl
def m10 (a0:TCluster) (a1:TCluster):Option (Bool):=bif a0.F != a1.F then some false else (m29 a0.Bad a1.Bad).bind fun y1=>bif !y1 then some false else (m30 a0.Replicas a1.Replicas).bind fun y2=>bif !y2 then some false else (m31 a0.Ledger a1.Ledger).bind fun y3=>bif !y3 then some false else (m32 a0.Requests a1.Requests).bind fun y4=>bif !y4 then some false else some true
theorem w10 {d:Nat} (hd:5≤d) (k0:Bool) (a0:TCluster) (k1:Bool) (a1:TCluster):Fit (R NN d 10 [.agg (Enc.cs k0 a0),.agg (Enc.cs k1 a1)] []) (m10 a0 a1) PB:=by
  obtain ⟨d,rfl,g⟩:=up hd
  refine q_in (t10 NN d _ _) ?_
  unfold b10 m10
  exact q_box (n:=5) rfl rfl (by decide) fun b1=>q_box (n:=5) rfl rfl (by decide) fun b2=>q_p fr<|q_ld 1 rfl rfl<|q_p fr<|q_ld 0 rfl rfl<|q_p fr<|q_i (q_ret (cv_p rfl) rfl)<|q_p fr<|q_ld 1 rfl rfl<|q_p fr<|q_ld 0 rfl rfl<|q_c0 (aF2 cv_r cv_r fun l0_ l1_=>w29 (by omega) l0_ a0.Bad l1_ a1.Bad) fun y1 hy1=>q_p fr<|q_i (q_ret (cv_p rfl) rfl)<|q_p fr<|q_ld 1 rfl rfl<|q_p fr<|q_ld 0 rfl rfl<|q_c0 (aF2 cv_r cv_r fun l0_ l1_=>w30 (by omega) l0_ a0.Replicas l1_ a1.Replicas) fun y2 hy2=>q_p fr<|q_i (q_ret (cv_p rfl) rfl)<|q_p fr<|q_ld 1 rfl rfl<|q_p fr<|q_ld 0 rfl rfl<|q_c0 (aF2 cv_r cv_r fun l0_ l1_=>w31 (by omega) l0_ a0.Ledger l1_ a1.Ledger) fun y3 hy3=>q_p fr<|q_i (q_ret (cv_p rfl) rfl)<|q_p fr<|q_ld 1 rfl rfl<|q_p fr<|q_ld 0 rfl rfl<|q_c0 (aF2 cv_r cv_r fun l0_ l1_=>w32 (by omega) l0_ a0.Requests l1_ a1.Requests) fun y4 hy4=>q_p fr<|q_i (q_ret (cv_p rfl) rfl)<|q_ret (cv_p rfl) rfl
def m3 (a0:TCluster):Option (Bool):=(m5 a0 1048576).bind fun y1=>bif decide (y1 < 0) then some true else (m7 a0).bind fun y2=>(m6 y2).bind fun y3=>(m7 a0).bind fun y4=>(m8 y4).bind fun y5=>bif !(m9 y5 y3) then some false else (m7 a0).bind fun y6=>(m10 y4 y6).bind fun y7=>bif !y7 then some false else some true
theorem w3 {d:Nat} (hd:148≤d) (k0:Bool) (a0:TCluster):Fit (R NN d 3 [.agg (Enc.cs k0 a0)] []) (m3 a0) PB:=by
  obtain ⟨d,rfl,g⟩:=up hd
  refine q_in (t3 NN d _) ?_
  unfold b3 m3
  exact q_box (n:=5) rfl rfl (by decide) fun b1=>q_lda 0 rfl rfl rfl<|q_c0 (aF2 (cv_a (cvs_e (l0:=k0) (x:=a0))) (cv_p rfl) fun l0_ l1_=>w5 (by omega) l0_ a0 1048576) fun y1 hy1=>q_p fr<|q_i (q_ret (cv_p rfl) rfl)<|q_lda 0 rfl rfl rfl<|q_c0 (aF1 (cv_a (cvs_e (l0:=k0) (x:=a0))) fun l0_=>w7 (by omega) l0_ a0) fun y2 hy2=>q_c0 (aF1 (cv_a (cvs_e (l0:=false) (x:=y2))) fun l0_=>w6 (by omega) l0_ y2) fun y3 hy3=>q_new rfl fun b2=>q_st 0 rfl rfl rfl (by decide) rfl<|q_lda 1 rfl rfl rfl<|q_c0 (aF1 (cv_a (cvs_e (l0:=k0) (x:=a0))) fun l0_=>w7 (by omega) l0_ a0) fun y4 hy4=>q_new rfl fun b3=>q_st 0 rfl rfl rfl (by decide) rfl<|q_lda 0 rfl rfl rfl<|q_c0 (aF1 (cv_a (cvs_e (l0:=false) (x:=y4))) fun l0_=>w8 (by omega) l0_ y4) fun y5 hy5=>q_new rfl fun b4=>q_st 0 rfl rfl rfl (by decide) rfl<|q_lda 0 rfl rfl rfl<|q_lda 2 rfl rfl rfl<|q_c0t (aF2 (cv_a (cvs_e (l0:=false) (x:=y5))) (cv_a (cvs_e (l0:=false) (x:=y3))) fun l0_ l1_=>w9 (by omega) l0_ y5 l1_ y3)<|q_p fr<|q_i (q_ret (cv_p rfl) rfl)<|q_lda 1 rfl rfl rfl<|q_lda 3 rfl rfl rfl<|q_c0 (aF1 (cv_a (cvs_e (l0:=k0) (x:=a0))) fun l0_=>w7 (by omega) l0_ a0) fun y6 hy6=>q_c0 (aF2 (cv_a (cvs_e (l0:=false) (x:=y4))) (cv_a (cvs_e (l0:=false) (x:=y6))) fun l0_ l1_=>w10 (by omega) l0_ y4 l1_ y6) fun y7 hy7=>q_p fr<|q_i (q_ret (cv_p rfl) rfl)<|q_ret (cv_p rfl) rfl
end
end Go.Proofs.YtifocmbeahpopaaGreatDoor
