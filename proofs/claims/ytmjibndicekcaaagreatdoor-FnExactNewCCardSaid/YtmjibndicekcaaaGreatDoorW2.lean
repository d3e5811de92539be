/- Plain functions, and that the evaluator computes them. -/
import Derived.Test.YtmjibndicekcaaaGreatDoorW1
namespace Go.Proofs.YtmjibndicekcaaaGreatDoor
open Go Go.Rf
set_option linter.unusedVariables false
set_option linter.unusedSimpArgs false
noncomputable section
def ms201_0 (a1:Int) (s1:Int×Int×(List Int)) (s2:Int):Option (LO (Int)):=( ( bif decide (s2≤s1.2.1) then (getI s1.2.2 a1).bind fun x5=>(getI s1.2.2 s2).bind fun x6=>(m200 x5 x6).bind fun y1=>some (LO.norm (!y1)) else some (LO.norm false)).bind (contO (fun s5=>bif s5 then some (LO.norm s5) else some (LO.exit 2 s5)) (fun i1 s5=>some (LO.exit i1 s5)) (fun s5=>some (LO.ret s5)))).bind (contO (fun s6=>some (LO.norm (wi .i64 (s2 + 1)))) (fun i2 s6=>some (LO.exit i2 s2)) (fun s6=>some (LO.ret s2)))
def ms201_1 (a1:Int) (s1:Int×Int×(List Int)) (s7:Int) (s8:Int):Option (LO (Int)):=( ( bif decide (s7≤s8) then (getI s1.2.2 a1).bind fun x7=>(getI s1.2.2 s8).bind fun x8=>(m200 x7 x8).bind fun y2=>some (LO.norm y2) else some (LO.norm false)).bind (contO (fun s11=>bif s11 then some (LO.norm s11) else some (LO.exit 4 s11)) (fun i4 s11=>some (LO.exit i4 s11)) (fun s11=>some (LO.ret s11)))).bind (contO (fun s12=>some (LO.norm (wi .i64 (s8 - 1)))) (fun i5 s12=>some (LO.exit i5 s8)) (fun s12=>some (LO.ret s8)))
def ms201_2 (a1:Int) (s1:Int×Int×(List Int)):Option (LO (Int×Int×(List Int))):=(loopO (ms201_0 a1 s1) NN s1.1).bind (contO (fun _=>none) (fun i3 s7=>if i3 = 2 then (loopO (ms201_1 a1 s1 s7) NN s1.2.1).bind (contO (fun _=>none) (fun i6 s13=>if i6 = 4 then bif decide (s7 > s13) then some (LO.exit 0 (s7,s13,s1.2.2)) else (getI s1.2.2 s13).bind fun x9=>(getI s1.2.2 s7).bind fun x10=>(getI s1.2.2 s7).bind fun x11=>(getI (s1.2.2.set (Int.toNat s7) x9) s13).bind fun x12=>some (LO.norm (wi .i64 (s7 + 1),wi .i64 (s13 - 1),(s1.2.2.set (Int.toNat s7) x9).set (Int.toNat s13) x10)) else if i6 = 1 then some (LO.norm (s7,s13,s1.2.2)) else some (LO.exit i6 (s7,s13,s1.2.2))) (fun s13=>some (LO.ret (s7,s13,s1.2.2)))) else if i3 = 1 then some (LO.norm (s7,s1.2.1,s1.2.2)) else some (LO.exit i3 (s7,s1.2.1,s1.2.2))) (fun s7=>some (LO.ret (s7,s1.2.1,s1.2.2))))
def m201 (a0:List Int) (a1:Int) (a2:Int) (a3:Int):Option (Int×(List Int)):=(getI a0 a3).bind fun x1=>(getI a0 a1).bind fun x2=>(getI a0 a1).bind fun x3=>(getI (a0.set (Int.toNat a1) x1) a3).bind fun x4=>(loopO (ms201_2 a1) NN (wi .i64 (a1 + 1),wi .i64 (a2 - 1),(a0.set (Int.toNat a1) x1).set (Int.toNat a3) x2)).bind (contO (fun _=>none) (fun i7 s14=>if i7 = 0 then some (s14.1,s14.2.2) else none) (fun s14=>some (0,s14.2.2)))
theorem w201 {d:Nat} (hd:3≤d) (L0:List En) (v0_:AV) (a0:List Int) (a1:Int) (a2:Int) (a3:Int):Okh (sl false v0_ (a0:List Int)::L0) (fun S=>R NN d 201 [v0_,.int .i64 a1,.int .i64 a2,.int .i64 a3] S) (m201 a0 a1 a2 a3) (P2 (fun (t:Int×(List Int))=>AV.int .i64 t.1) (fun (t:Int×(List Int))=>sl false v0_ t.2::L0)):=by
  obtain ⟨d,rfl,g⟩:=up hd
  refine q_to (t201 NN d _ _ _ _) ?_
  unfold b201 m201
  refine q_ixo 0 rfl rfl fun x1 hx1=>q_ldo 0 rfl hx1 rfl<|q_ixo 0 rfl rfl fun x2 hx2=>q_ldo 0 rfl hx2 rfl<|q_ixo 0 rfl rfl fun x3 hx3=>q_stoe (y:=x1) 0 rfl rfl hx3 rfl (by decide)<|q_ixo 0 rfl rfl fun x4 hx4=>q_stoe (y:=x2) 0 rfl rfl hx4 rfl (by decide)<|q_p fr<|q_p fr<|q_lp (A:=fun (s:Int×Int×(List Int))=>[.int .i64 s.1,.int .i64 s.2.1]) (B:=fun s=>sl false v0_ (s.2.2:List Int)::L0) 0 rr ?_ ?_ ?_
  ·intro s1
   unfold s201_2 ms201_2
   refine q_lp (A:=fun (s:Int)=>[.int .i64 s]) (B:=fun s=>sl false v0_ (s1.2.2:List Int)::L0) 0 rr ?_ ?_ ?_
   ·intro s2
    unfold s201_0 ms201_0
    refine q_cu (A:=fun (s:Bool)=>[.bool s]) (B:=fun s=>sl false v0_ (s1.2.2:List Int)::L0) ?_ ?_ ?_ ?_
    ·refine q_cu (A:=fun (s:Bool)=>[.bool s]) (B:=fun s=>sl false v0_ (s1.2.2:List Int)::L0) ?_ ?_ ?_ ?_
     ·exact q_p fr<|q_k (q_ixo 0 rfl rfl fun x5 hx5=>q_ldo 0 rfl hx5 rfl<|q_ixo 0 rfl rfl fun x6 hx6=>q_ldo 0 rfl hx6 rfl<|q_c0 (aF2 (cv_p rfl) (cv_p rfl) fun l0_ l1_=>w200 (by omega) x5 x6) fun y1 hy1=>q_p fr<|q_norm 0 rr)<|q_norm 0 rr
     ·exact fun s5=>q_i (q_norm 0 rr)<|q_exit 0 rr
     ·exact fun i1 s5=>q_exit 0 rr
     ·exact fun s5=>q_lret 0 rr
    ·exact fun s6=>q_p fr<|q_norm 0 rr
    ·exact fun i2 s6=>q_exit 0 rr
    ·exact fun s6=>q_lret 0 rr
   ·intro i3 s7
    refine q_n ?_ ?_
    ·refine q_lp (A:=fun (s:Int)=>[.int .i64 s]) (B:=fun s=>sl false v0_ (s1.2.2:List Int)::L0) 0 rr ?_ ?_ ?_
     ·intro s8
      unfold s201_1 ms201_1
      refine q_cu (A:=fun (s:Bool)=>[.bool s]) (B:=fun s=>sl false v0_ (s1.2.2:List Int)::L0) ?_ ?_ ?_ ?_
      ·refine q_cu (A:=fun (s:Bool)=>[.bool s]) (B:=fun s=>sl false v0_ (s1.2.2:List Int)::L0) ?_ ?_ ?_ ?_
       ·exact q_p fr<|q_k (q_ixo 0 rfl rfl fun x7 hx7=>q_ldo 0 rfl hx7 rfl<|q_ixo 0 rfl rfl fun x8 hx8=>q_ldo 0 rfl hx8 rfl<|q_c0 (aF2 (cv_p rfl) (cv_p rfl) fun l0_ l1_=>w200 (by omega) x7 x8) fun y2 hy2=>q_norm 0 rr)<|q_norm 0 rr
       ·exact fun s11=>q_i (q_norm 0 rr)<|q_exit 0 rr
       ·exact fun i4 s11=>q_exit 0 rr
       ·exact fun s11=>q_lret 0 rr
      ·exact fun s12=>q_p fr<|q_norm 0 rr
      ·exact fun i5 s12=>q_exit 0 rr
      ·exact fun s12=>q_lret 0 rr
     ·exact fun i6 s13=>q_n (q_p fr<|q_i (q_exit 0 rr)<|q_ixo 0 rfl rfl fun x9 hx9=>q_ldo 0 rfl hx9 rfl<|q_ixo 0 rfl rfl fun x10 hx10=>q_ldo 0 rfl hx10 rfl<|q_ixo 0 rfl rfl fun x11 hx11=>q_stoe (y:=x9) 0 rfl rfl hx11 rfl (by decide)<|q_ixo 0 rfl rfl fun x12 hx12=>q_stoe (y:=x10) 0 rfl rfl hx12 rfl (by decide)<|q_p fr<|q_p fr<|q_norm 0 rr)<|q_n (q_norm 0 rr)<|q_exit 0 rr
     ·exact fun s13=>q_lret 0 rr
    ·exact q_n (q_norm 0 rr)<|q_exit 0 rr
   ·exact fun s7=>q_lret 0 rr
  ·exact fun i7 s14=>q_n (q_ret2 0 rfl rfl)<|q_none
  ·exact fun s14=>q_ret2 0 rfl rfl
def ms202_0 (a0:List Int) (a1:Int) (a2:Int) (a3:Int) (x1:Int) (x2:Int) (s1:Int):Option (LO (Int)):=( ( bif decide (s1≤(wi .i64 (a2 - 1))) then (getI ((a0.set (Int.toNat a1) x1).set (Int.toNat a3) x2) s1).bind fun x5=>(getI ((a0.set (Int.toNat a1) x1).set (Int.toNat a3) x2) a1).bind fun x6=>(m200 x5 x6).bind fun y1=>some (LO.norm y1) else some (LO.norm false)).bind (contO (fun s4=>bif s4 then some (LO.norm s4) else some (LO.exit 0 s4)) (fun i1 s4=>some (LO.exit i1 s4)) (fun s4=>some (LO.ret s4)))).bind (contO (fun s5=>some (LO.norm (wi .i64 (s1 + 1)))) (fun i2 s5=>some (LO.exit i2 s1)) (fun s5=>some (LO.ret s1)))
def ms202_1 (a0:List Int) (a1:Int) (a3:Int) (s6:Int) (x1:Int) (x2:Int) (s7:Int):Option (LO (Int)):=( ( bif decide (s6≤s7) then (getI ((a0.set (Int.toNat a1) x1).set (Int.toNat a3) x2) s7).bind fun x7=>(getI ((a0.set (Int.toNat a1) x1).set (Int.toNat a3) x2) a1).bind fun x8=>(m200 x7 x8).bind fun y2=>some (LO.norm (!y2)) else some (LO.norm false)).bind (contO (fun s10=>bif s10 then some (LO.norm s10) else some (LO.exit 2 s10)) (fun i4 s10=>some (LO.exit i4 s10)) (fun s10=>some (LO.ret s10)))).bind (contO (fun s11=>some (LO.norm (wi .i64 (s7 - 1)))) (fun i5 s11=>some (LO.exit i5 s7)) (fun s11=>some (LO.ret s7)))
def ms202_2 (a1:Int) (s13:Int×Int×(List Int)) (s14:Int):Option (LO (Int)):=( ( bif decide (s14≤s13.2.1) then (getI s13.2.2 s14).bind fun x17=>(getI s13.2.2 a1).bind fun x18=>(m200 x17 x18).bind fun y3=>some (LO.norm y3) else some (LO.norm false)).bind (contO (fun s17=>bif s17 then some (LO.norm s17) else some (LO.exit 6 s17)) (fun i7 s17=>some (LO.exit i7 s17)) (fun s17=>some (LO.ret s17)))).bind (contO (fun s18=>some (LO.norm (wi .i64 (s14 + 1)))) (fun i8 s18=>some (LO.exit i8 s14)) (fun s18=>some (LO.ret s14)))
def ms202_3 (a1:Int) (s13:Int×Int×(List Int)) (s19:Int) (s20:Int):Option (LO (Int)):=( ( bif decide (s19≤s20) then (getI s13.2.2 s20).bind fun x19=>(getI s13.2.2 a1).bind fun x20=>(m200 x19 x20).bind fun y4=>some (LO.norm (!y4)) else some (LO.norm false)).bind (contO (fun s23=>bif s23 then some (LO.norm s23) else some (LO.exit 8 s23)) (fun i10 s23=>some (LO.exit i10 s23)) (fun s23=>some (LO.ret s23)))).bind (contO (fun s24=>some (LO.norm (wi .i64 (s20 - 1)))) (fun i11 s24=>some (LO.exit i11 s20)) (fun s24=>some (LO.ret s20)))
def ms202_4 (a1:Int) (s13:Int×Int×(List Int)):Option (LO (Int×Int×(List Int))):=(loopO (ms202_2 a1 s13) NN s13.1).bind (contO (fun _=>none) (fun i9 s19=>if i9 = 6 then (loopO (ms202_3 a1 s13 s19) NN s13.2.1).bind (contO (fun _=>none) (fun i12 s25=>if i12 = 8 then bif decide (s19 > s25) then some (LO.exit 4 (s19,s25,s13.2.2)) else (getI s13.2.2 s25).bind fun x21=>(getI s13.2.2 s19).bind fun x22=>(getI s13.2.2 s19).bind fun x23=>(getI (s13.2.2.set (Int.toNat s19) x21) s25).bind fun x24=>some (LO.norm (wi .i64 (s19 + 1),wi .i64 (s25 - 1),(s13.2.2.set (Int.toNat s19) x21).set (Int.toNat s25) x22)) else if i12 = 5 then some (LO.norm (s19,s25,s13.2.2)) else some (LO.exit i12 (s19,s25,s13.2.2))) (fun s25=>some (LO.ret (s19,s25,s13.2.2)))) else if i9 = 5 then some (LO.norm (s19,s13.2.1,s13.2.2)) else some (LO.exit i9 (s19,s13.2.1,s13.2.2))) (fun s19=>some (LO.ret (s19,s13.2.1,s13.2.2))))
def m202 (a0:List Int) (a1:Int) (a2:Int) (a3:Int):Option (Int×Bool×(List Int)):=(getI a0 a3).bind fun x1=>(getI a0 a1).bind fun x2=>(getI a0 a1).bind fun x3=>(getI (a0.set (Int.toNat a1) x1) a3).bind fun x4=>(loopO (ms202_0 a0 a1 a2 a3 x1 x2) NN (wi .i64 (a1 + 1))).bind (contO (fun _=>none) (fun i3 s6=>if i3 = 0 then (loopO (ms202_1 a0 a1 a3 s6 x1 x2) NN (wi .i64 (a2 - 1))).bind (contO (fun _=>none) (fun i6 s12=>if i6 = 2 then bif decide (s6 > s12) then (getI ((a0.set (Int.toNat a1) x1).set (Int.toNat a3) x2) a1).bind fun x9=>(getI ((a0.set (Int.toNat a1) x1).set (Int.toNat a3) x2) s12).bind fun x10=>(getI ((a0.set (Int.toNat a1) x1).set (Int.toNat a3) x2) s12).bind fun x11=>(getI (((a0.set (Int.toNat a1) x1).set (Int.toNat a3) x2).set (Int.toNat s12) x9) a1).bind fun x12=>some (s12,true,(((a0.set (Int.toNat a1) x1).set (Int.toNat a3) x2).set (Int.toNat s12) x9).set (Int.toNat a1) x10) else (getI ((a0.set (Int.toNat a1) x1).set (Int.toNat a3) x2) s12).bind fun x13=>(getI ((a0.set (Int.toNat a1) x1).set (Int.toNat a3) x2) s6).bind fun x14=>(getI ((a0.set (Int.toNat a1) x1).set (Int.toNat a3) x2) s6).bind fun x15=>(getI (((a0.set (Int.toNat a1) x1).set (Int.toNat a3) x2).set (Int.toNat s6) x13) s12).bind fun x16=>(loopO (ms202_4 a1) NN (wi .i64 (s6 + 1),wi .i64 (s12 - 1),(((a0.set (Int.toNat a1) x1).set (Int.toNat a3) x2).set (Int.toNat s6) x13).set (Int.toNat s12) x14)).bind (contO (fun _=>none) (fun i13 s26=>if i13 = 4 then (getI s26.2.2 a1).bind fun x25=>(getI s26.2.2 s26.2.1).bind fun x26=>(getI s26.2.2 s26.2.1).bind fun x27=>(getI (s26.2.2.set (Int.toNat s26.2.1) x25) a1).bind fun x28=>some (s26.2.1,false,(s26.2.2.set (Int.toNat s26.2.1) x25).set (Int.toNat a1) x26) else none) (fun s26=>some (0,false,s26.2.2))) else none) (fun s12=>some (0,false,(a0.set (Int.toNat a1) x1).set (Int.toNat a3) x2))) else none) (fun s6=>some (0,false,(a0.set (Int.toNat a1) x1).set (Int.toNat a3) x2)))
theorem w202 {d:Nat} (hd:3≤d) (L0:List En) (v0_:AV) (a0:List Int) (a1:Int) (a2:Int) (a3:Int):Okh (sl false v0_ (a0:List Int)::L0) (fun S=>R NN d 202 [v0_,.int .i64 a1,.int .i64 a2,.int .i64 a3] S) (m202 a0 a1 a2 a3) (P2 (fun (t:Int×Bool×(List Int))=>AV.tup [.int .i64 t.1,.bool t.2.1]) (fun (t:Int×Bool×(List Int))=>sl false v0_ t.2.2::L0)):=by
  obtain ⟨d,rfl,g⟩:=up hd
  refine q_to (t202 NN d _ _ _ _) ?_
  unfold b202 m202
  refine q_ixo 0 rfl rfl fun x1 hx1=>q_ldo 0 rfl hx1 rfl<|q_ixo 0 rfl rfl fun x2 hx2=>q_ldo 0 rfl hx2 rfl<|q_ixo 0 rfl rfl fun x3 hx3=>q_stoe (y:=x1) 0 rfl rfl hx3 rfl (by decide)<|q_ixo 0 rfl rfl fun x4 hx4=>q_stoe (y:=x2) 0 rfl rfl hx4 rfl (by decide)<|q_p fr<|q_p fr<|q_lp (A:=fun (s:Int)=>[.int .i64 s]) (B:=fun s=>sl false v0_ ((a0.set (Int.toNat a1) x1).set (Int.toNat a3) x2:List Int)::L0) 0 rr ?_ ?_ ?_
  ·intro s1
   unfold s202_0 ms202_0
   refine q_cu (A:=fun (s:Bool)=>[.bool s]) (B:=fun s=>sl false v0_ ((a0.set (Int.toNat a1) x1).set (Int.toNat a3) x2:List Int)::L0) ?_ ?_ ?_ ?_
   ·refine q_cu (A:=fun (s:Bool)=>[.bool s]) (B:=fun s=>sl false v0_ ((a0.set (Int.toNat a1) x1).set (Int.toNat a3) x2:List Int)::L0) ?_ ?_ ?_ ?_
    ·exact q_p fr<|q_k (q_ixo 0 rfl rfl fun x5 hx5=>q_ldo 0 rfl hx5 rfl<|q_ixo 0 rfl rfl fun x6 hx6=>q_ldo 0 rfl hx6 rfl<|q_c0 (aF2 (cv_p rfl) (cv_p rfl) fun l0_ l1_=>w200 (by omega) x5 x6) fun y1 hy1=>q_norm 0 rr)<|q_norm 0 rr
    ·exact fun s4=>q_i (q_norm 0 rr)<|q_exit 0 rr
    ·exact fun i1 s4=>q_exit 0 rr
    ·exact fun s4=>q_lret 0 rr
   ·exact fun s5=>q_p fr<|q_norm 0 rr
   ·exact fun i2 s5=>q_exit 0 rr
   ·exact fun s5=>q_lret 0 rr
  ·intro i3 s6
   refine q_n ?_ ?_
   ·refine q_lp (A:=fun (s:Int)=>[.int .i64 s]) (B:=fun s=>sl false v0_ ((a0.set (Int.toNat a1) x1).set (Int.toNat a3) x2:List Int)::L0) 0 rr ?_ ?_ ?_
    ·intro s7
     unfold s202_1 ms202_1
     refine q_cu (A:=fun (s:Bool)=>[.bool s]) (B:=fun s=>sl false v0_ ((a0.set (Int.toNat a1) x1).set (Int.toNat a3) x2:List Int)::L0) ?_ ?_ ?_ ?_
     ·refine q_cu (A:=fun (s:Bool)=>[.bool s]) (B:=fun s=>sl false v0_ ((a0.set (Int.toNat a1) x1).set (Int.toNat a3) x2:List Int)::L0) ?_ ?_ ?_ ?_
      ·exact q_p fr<|q_k (q_ixo 0 rfl rfl fun x7 hx7=>q_ldo 0 rfl hx7 rfl<|q_ixo 0 rfl rfl fun x8 hx8=>q_ldo 0 rfl hx8 rfl<|q_c0 (aF2 (cv_p rfl) (cv_p rfl) fun l0_ l1_=>w200 (by omega) x7 x8) fun y2 hy2=>q_p fr<|q_norm 0 rr)<|q_norm 0 rr
      ·exact fun s10=>q_i (q_norm 0 rr)<|q_exit 0 rr
      ·exact fun i4 s10=>q_exit 0 rr
      ·exact fun s10=>q_lret 0 rr
     ·exact fun s11=>q_p fr<|q_norm 0 rr
     ·exact fun i5 s11=>q_exit 0 rr
     ·exact fun s11=>q_lret 0 rr
    ·intro i6 s12
     refine q_n ?_ ?_
     ·refine q_p fr<|q_i ?_ ?_
      ·exact q_ixo 0 rfl rfl fun x9 hx9=>q_ldo 0 rfl hx9 rfl<|q_ixo 0 rfl rfl fun x10 hx10=>q_ldo 0 rfl hx10 rfl<|q_ixo 0 rfl rfl fun x11 hx11=>q_stoe (y:=x9) 0 rfl rfl hx11 rfl (by decide)<|q_ixo 0 rfl rfl fun x12 hx12=>q_stoe (y:=x10) 0 rfl rfl hx12 rfl (by decide)<|q_ret2 0 rfl rfl
      ·refine q_ixo 0 rfl rfl fun x13 hx13=>q_ldo 0 rfl hx13 rfl<|q_ixo 0 rfl rfl fun x14 hx14=>q_ldo 0 rfl hx14 rfl<|q_ixo 0 rfl rfl fun x15 hx15=>q_stoe (y:=x13) 0 rfl rfl hx15 rfl (by decide)<|q_ixo 0 rfl rfl fun x16 hx16=>q_stoe (y:=x14) 0 rfl rfl hx16 rfl (by decide)<|q_p fr<|q_p fr<|q_lp (A:=fun (s:Int×Int×(List Int))=>[.int .i64 s.1,.int .i64 s.2.1]) (B:=fun s=>sl false v0_ (s.2.2:List Int)::L0) 0 rr ?_ ?_ ?_
       ·intro s13
        unfold s202_4 ms202_4
        refine q_lp (A:=fun (s:Int)=>[.int .i64 s]) (B:=fun s=>sl false v0_ (s13.2.2:List Int)::L0) 0 rr ?_ ?_ ?_
        ·intro s14
         unfold s202_2 ms202_2
         refine q_cu (A:=fun (s:Bool)=>[.bool s]) (B:=fun s=>sl false v0_ (s13.2.2:List Int)::L0) ?_ ?_ ?_ ?_
         ·refine q_cu (A:=fun (s:Bool)=>[.bool s]) (B:=fun s=>sl false v0_ (s13.2.2:List Int)::L0) ?_ ?_ ?_ ?_
          ·exact q_p fr<|q_k (q_ixo 0 rfl rfl fun x17 hx17=>q_ldo 0 rfl hx17 rfl<|q_ixo 0 rfl rfl fun x18 hx18=>q_ldo 0 rfl hx18 rfl<|q_c0 (aF2 (cv_p rfl) (cv_p rfl) fun l0_ l1_=>w200 (by omega) x17 x18) fun y3 hy3=>q_norm 0 rr)<|q_norm 0 rr
          ·exact fun s17=>q_i (q_norm 0 rr)<|q_exit 0 rr
          ·exact fun i7 s17=>q_exit 0 rr
          ·exact fun s17=>q_lret 0 rr
         ·exact fun s18=>q_p fr<|q_norm 0 rr
         ·exact fun i8 s18=>q_exit 0 rr
         ·exact fun s18=>q_lret 0 rr
        ·intro i9 s19
         refine q_n ?_ ?_
         ·refine q_lp (A:=fun (s:Int)=>[.int .i64 s]) (B:=fun s=>sl false v0_ (s13.2.2:List Int)::L0) 0 rr ?_ ?_ ?_
          ·intro s20
           unfold s202_3 ms202_3
           refine q_cu (A:=fun (s:Bool)=>[.bool s]) (B:=fun s=>sl false v0_ (s13.2.2:List Int)::L0) ?_ ?_ ?_ ?_
           ·refine q_cu (A:=fun (s:Bool)=>[.bool s]) (B:=fun s=>sl false v0_ (s13.2.2:List Int)::L0) ?_ ?_ ?_ ?_
            ·exact q_p fr<|q_k (q_ixo 0 rfl rfl fun x19 hx19=>q_ldo 0 rfl hx19 rfl<|q_ixo 0 rfl rfl fun x20 hx20=>q_ldo 0 rfl hx20 rfl<|q_c0 (aF2 (cv_p rfl) (cv_p rfl) fun l0_ l1_=>w200 (by omega) x19 x20) fun y4 hy4=>q_p fr<|q_norm 0 rr)<|q_norm 0 rr
            ·exact fun s23=>q_i (q_norm 0 rr)<|q_exit 0 rr
            ·exact fun i10 s23=>q_exit 0 rr
            ·exact fun s23=>q_lret 0 rr
           ·exact fun s24=>q_p fr<|q_norm 0 rr
           ·exact fun i11 s24=>q_exit 0 rr
           ·exact fun s24=>q_lret 0 rr
          ·exact fun i12 s25=>q_n (q_p fr<|q_i (q_exit 0 rr)<|q_ixo 0 rfl rfl fun x21 hx21=>q_ldo 0 rfl hx21 rfl<|q_ixo 0 rfl rfl fun x22 hx22=>q_ldo 0 rfl hx22 rfl<|q_ixo 0 rfl rfl fun x23 hx23=>q_stoe (y:=x21) 0 rfl rfl hx23 rfl (by decide)<|q_ixo 0 rfl rfl fun x24 hx24=>q_stoe (y:=x22) 0 rfl rfl hx24 rfl (by decide)<|q_p fr<|q_p fr<|q_norm 0 rr)<|q_n (q_norm 0 rr)<|q_exit 0 rr
          ·exact fun s25=>q_lret 0 rr
         ·exact q_n (q_norm 0 rr)<|q_exit 0 rr
        ·exact fun s19=>q_lret 0 rr
       ·exact fun i13 s26=>q_n (q_ixo 0 rfl rfl fun x25 hx25=>q_ldo 0 rfl hx25 rfl<|q_ixo 0 rfl rfl fun x26 hx26=>q_ldo 0 rfl hx26 rfl<|q_ixo 0 rfl rfl fun x27 hx27=>q_stoe (y:=x25) 0 rfl rfl hx27 rfl (by decide)<|q_ixo 0 rfl rfl fun x28 hx28=>q_stoe (y:=x26) 0 rfl rfl hx28 rfl (by decide)<|q_ret2 0 rfl rfl)<|q_none
       ·exact fun s26=>q_ret2 0 rfl rfl
     ·exact q_none
    ·exact fun s12=>q_ret2 0 rfl rfl
   ·exact q_none
  ·exact fun s6=>q_ret2 0 rfl rfl
def ms187_0 (rec_:(List Int)→Int→Int→Int→Option ((List Int))) (s1:Int×Int×Int×Bool×Bool×(List Int)):Option (LO (Int×Int×Int×Bool×Bool×(List Int))):=bif decide ((wi .i64 (s1.2.1 - s1.1))≤12) then (m194 s1.2.2.2.2.2 s1.1 s1.2.1).bind fun y1=>some (LO.ret (s1.1,s1.2.1,s1.2.2.1,s1.2.2.2.1,s1.2.2.2.2.1,y1)) else bif s1.2.2.1 == 0 then (m195 s1.2.2.2.2.2 s1.1 s1.2.1).bind fun y2=>some (LO.ret (s1.1,s1.2.1,s1.2.2.1,s1.2.2.2.1,s1.2.2.2.2.1,y2)) else ( bif !s1.2.2.2.1 then (m196 s1.2.2.2.2.2 s1.1 s1.2.1).bind fun y3=>some (LO.norm (wi .i64 (s1.2.2.1 - 1),y3)) else some (LO.norm (s1.2.2.1,s1.2.2.2.2.2))).bind (contO (fun s3=>(m197 s3.2 s1.1 s1.2.1).bind fun y4=>( bif y4.2 == 2 then (m198 s3.2 s1.1 s1.2.1).bind fun y5=>some (LO.norm (wi .i64 ((wi .i64 (s1.2.1 - 1)) - (wi .i64 (y4.1 - s1.1))),1,y5)) else some (LO.norm (y4.1,y4.2,s3.2))).bind (contO (fun s5=>( ( bif s1.2.2.2.1 then bif s1.2.2.2.2.1 then some (LO.norm (s5.2.1 == 1)) else some (LO.norm false) else some (LO.norm false)).bind (contO (fun s8=>bif s8 then (m199 s5.2.2 s1.1 s1.2.1).bind fun y6=>bif y6.1 then some (LO.ret y6.2) else some (LO.norm y6.2) else some (LO.norm s5.2.2)) (fun i3 s8=>some (LO.exit i3 s5.2.2)) (fun s8=>some (LO.ret s5.2.2)))).bind (contO (fun s9=>( bif decide (s1.1 > 0) then (getI s9 (wi .i64 (s1.1 - 1))).bind fun x1=>(getI s9 s5.1).bind fun x2=>(m200 x1 x2).bind fun y7=>bif !y7 then (m201 s9 s1.1 s1.2.1 s5.1).bind fun y8=>some (LO.exit 1 (y8.1,y8.2)) else some (LO.norm (s1.1,s9)) else some (LO.norm (s1.1,s9))).bind (contO (fun s11=>(m202 s11.2 s11.1 s1.2.1 s5.1).bind fun y9=>bif decide ((wi .i64 (y9.1 - s11.1)) < (wi .i64 (s1.2.1 - y9.1))) then (rec_ y9.2.2 s11.1 y9.1 s3.1).bind fun y10=>some (LO.norm (wi .i64 (y9.1 + 1),s1.2.1,s3.1,decide ((wi .i64 (y9.1 - s11.1)) ≥ (wi .i64 (Int.tdiv (wi .i64 (s1.2.1 - s1.1)) 8))),y9.2.1,y10)) else (rec_ y9.2.2 (wi .i64 (y9.1 + 1)) s1.2.1 s3.1).bind fun y11=>some (LO.norm (s11.1,y9.1,s3.1,decide ((wi .i64 (s1.2.1 - y9.1)) ≥ (wi .i64 (Int.tdiv (wi .i64 (s1.2.1 - s1.1)) 8))),y9.2.1,y11))) (fun i5 s11=>if i5 = 1 then some (LO.norm (s11.1,s1.2.1,s3.1,s1.2.2.2.1,s1.2.2.2.2.1,s11.2)) else some (LO.exit i5 (s11.1,s1.2.1,s3.1,s1.2.2.2.1,s1.2.2.2.2.1,s11.2))) (fun s11=>some (LO.ret (s11.1,s1.2.1,s3.1,s1.2.2.2.1,s1.2.2.2.2.1,s11.2))))) (fun i4 s9=>if i4 = 1 then some (LO.norm (s1.1,s1.2.1,s3.1,s1.2.2.2.1,s1.2.2.2.2.1,s9)) else some (LO.exit i4 (s1.1,s1.2.1,s3.1,s1.2.2.2.1,s1.2.2.2.2.1,s9))) (fun s9=>some (LO.ret (s1.1,s1.2.1,s3.1,s1.2.2.2.1,s1.2.2.2.2.1,s9))))) (fun i2 s5=>if i2 = 1 then some (LO.norm (s1.1,s1.2.1,s3.1,s1.2.2.2.1,s1.2.2.2.2.1,s5.2.2)) else some (LO.exit i2 (s1.1,s1.2.1,s3.1,s1.2.2.2.1,s1.2.2.2.2.1,s5.2.2))) (fun s5=>some (LO.ret (s1.1,s1.2.1,s3.1,s1.2.2.2.1,s1.2.2.2.2.1,s5.2.2))))) (fun i1 s3=>if i1 = 1 then some (LO.norm (s1.1,s1.2.1,s3.1,s1.2.2.2.1,s1.2.2.2.2.1,s3.2)) else some (LO.exit i1 (s1.1,s1.2.1,s3.1,s1.2.2.2.1,s1.2.2.2.2.1,s3.2))) (fun s3=>some (LO.ret (s1.1,s1.2.1,s3.1,s1.2.2.2.1,s1.2.2.2.2.1,s3.2))))
def m187F (rec_:(List Int)→Int→Int→Int→Option ((List Int))) (a0:List Int) (a1:Int) (a2:Int) (a3:Int):Option ((List Int)):=(loopO (ms187_0 rec_) NN (a1,a2,a3,true,true,a0)).bind (contO (fun _=>none) (fun i6 s12=>if i6 = 0 then some s12.2.2.2.2.2 else none) (fun s12=>some s12.2.2.2.2.2))
def m187 (n:Nat):(List Int)→Int→Int→Int→Option ((List Int)):=Nat.rec (fun _ _ _ _=>none) (fun _ ih=>m187F ih) n
theorem w187:∀ (n d:Nat) (hd:n + 71≤d) (L0:List En) (v0_:AV) (a0:List Int) (a1:Int) (a2:Int) (a3:Int),Okh (sl false v0_ (a0:List Int)::L0) (fun S=>R NN d 187 [v0_,.int .i64 a1,.int .i64 a2,.int .i64 a3] S) (m187 n a0 a1 a2 a3) (P2 (fun (t:(List Int))=>und) (fun (t:(List Int))=>sl false v0_ t::L0))
  | 0,_,_,L0,v0_,a0,a1,a2,a3=>q_none
  | n + 1,d,hd,L0,v0_,a0,a1,a2,a3=>by
    have ih:=w187 n
    obtain ⟨d,rfl,g⟩:=up (n:=n + 71) (d:=d) (by omega)
    refine q_to (t187 NN d _ _ _ _) ?_
    rw [show m187 (n + 1) = m187F (m187 n) from rfl]
    unfold b187 m187F
    refine q_lp (A:=fun (s:Int×Int×Int×Bool×Bool×(List Int))=>[.int .i64 s.1,.int .i64 s.2.1,.int .i64 s.2.2.1,.bool s.2.2.2.1,.bool s.2.2.2.2.1]) (B:=fun s=>sl false v0_ (s.2.2.2.2.2:List Int)::L0) 0 rr ?_ ?_ ?_
    ·intro s1
     unfold s187_0 ms187_0
     refine q_p fr<|q_p fr<|q_i ?_ ?_
     ·exact q_s (mg:=m194 s1.2.2.2.2.2 s1.1 s1.2.1) (w194 (by omega) _ _ s1.2.2.2.2.2 s1.1 s1.2.1) fun y1 hy1=>q_lret 0 rr
     ·refine q_p fr<|q_i ?_ ?_
      ·exact q_s (mg:=m195 s1.2.2.2.2.2 s1.1 s1.2.1) (w195 (by omega) _ _ s1.2.2.2.2.2 s1.1 s1.2.1) fun y2 hy2=>q_lret 0 rr
      ·refine q_cu (A:=fun (s:Int×(List Int))=>[.int .i64 s.1]) (B:=fun s=>sl false v0_ (s.2:List Int)::L0) ?_ ?_ ?_ ?_
       ·refine q_p fr<|q_i ?_ ?_
        ·exact q_s (mg:=m196 s1.2.2.2.2.2 s1.1 s1.2.1) (w196 (by omega) _ _ s1.2.2.2.2.2 s1.1 s1.2.1) fun y3 hy3=>q_p fr<|q_norm 0 rr
        ·exact q_norm 0 rr
       ·intro s3
        refine q_c0 (aF3 (cv_o 0 rfl) (cv_p rfl) (cv_p rfl) fun l0_ l1_ l2_=>w197 (by omega) l0_ s3.2 s1.1 s1.2.1) fun y4 hy4=>q_q fr<|q_q fr<|q_cu (A:=fun (s:Int×Int×(List Int))=>[.int .i64 s.1,.int .i64 s.2.1]) (B:=fun s=>sl false v0_ (s.2.2:List Int)::L0) ?_ ?_ ?_ ?_
        ·refine q_p fr<|q_i ?_ ?_
         ·exact q_s (mg:=m198 s3.2 s1.1 s1.2.1) (w198 (by omega) _ _ s3.2 s1.1 s1.2.1) fun y5 hy5=>q_p fr<|q_p fr<|q_p fr<|q_norm 0 rr
         ·exact q_norm 0 rr
        ·intro s5
         refine q_cu (A:=fun (s:(List Int))=>[]) (B:=fun s=>sl false v0_ (s:List Int)::L0) ?_ ?_ ?_ ?_
         ·refine q_cu (A:=fun (s:Bool)=>[.bool s]) (B:=fun s=>sl false v0_ (s5.2.2:List Int)::L0) ?_ ?_ ?_ ?_
          ·refine q_k ?_ ?_
           ·refine q_k ?_ ?_
            ·exact q_p fr<|q_norm 0 rr
            ·exact q_norm 0 rr
           ·exact q_norm 0 rr
          ·intro s8
           refine q_i ?_ ?_
           ·refine q_s (mg:=m199 s5.2.2 s1.1 s1.2.1) (w199 (by omega) _ _ s5.2.2 s1.1 s1.2.1) fun y6 hy6=>q_i ?_ ?_
            ·exact q_lret 0 rr
            ·exact q_norm 0 rr
           ·exact q_norm 0 rr
          ·intro i3 s8
           exact q_exit 0 rr
          ·intro s8
           exact q_lret 0 rr
         ·intro s9
          refine q_cu (A:=fun (s:Int×(List Int))=>[.int .i64 s.1]) (B:=fun s=>sl false v0_ (s.2:List Int)::L0) ?_ ?_ ?_ ?_
          ·refine q_p fr<|q_k ?_ ?_
           ·refine q_p fr<|q_ixo 0 rfl rfl fun x1 hx1=>q_ldo 0 rfl hx1 rfl<|q_ixo 0 rfl rfl fun x2 hx2=>q_ldo 0 rfl hx2 rfl<|q_c0 (aF2 (cv_p rfl) (cv_p rfl) fun l0_ l1_=>w200 (by omega) x1 x2) fun y7 hy7=>q_p fr<|q_i ?_ ?_
            ·exact q_s (mg:=m201 s9 s1.1 s1.2.1 s5.1) (w201 (by omega) _ _ s9 s1.1 s1.2.1 s5.1) fun y8 hy8=>q_exit 0 rr
            ·exact q_norm 0 rr
           ·first | refine q_ifF1 ?_ | skip
            exact q_norm 0 rr
          ·intro s11
           refine q_s (mg:=m202 s11.2 s11.1 s1.2.1 s5.1) (w202 (by omega) _ _ s11.2 s11.1 s1.2.1 s5.1) fun y9 hy9=>q_q fr<|q_q fr<|q_p fr<|q_p fr<|q_p fr<|q_p fr<|q_i ?_ ?_
           ·exact q_p fr<|q_s (mg:=(m187 n) y9.2.2 s11.1 y9.1 s3.1) (ih d (by omega) _ _ y9.2.2 s11.1 y9.1 s3.1) fun y10 hy10=>q_p fr<|q_norm 0 rr
           ·exact q_p fr<|q_p fr<|q_s (mg:=(m187 n) y9.2.2 (wi .i64 (y9.1 + 1)) s1.2.1 s3.1) (ih d (by omega) _ _ y9.2.2 (wi .i64 (y9.1 + 1)) s1.2.1 s3.1) fun y11 hy11=>q_norm 0 rr
          ·intro i5 s11
           refine q_n ?_ ?_
           ·exact q_norm 0 rr
           ·exact q_exit 0 rr
          ·intro s11
           exact q_lret 0 rr
         ·intro i4 s9
          refine q_n ?_ ?_
          ·exact q_norm 0 rr
          ·exact q_exit 0 rr
         ·intro s9
          exact q_lret 0 rr
        ·intro i2 s5
         refine q_n ?_ ?_
         ·exact q_norm 0 rr
         ·exact q_exit 0 rr
        ·intro s5
         exact q_lret 0 rr
       ·intro i1 s3
        refine q_n ?_ ?_
        ·exact q_norm 0 rr
        ·exact q_exit 0 rr
       ·intro s3
        exact q_lret 0 rr
    ·intro i6 s12
     refine q_n ?_ ?_
     ·exact q_ret2 0 rfl rfl
     ·exact q_none
    ·intro s12
     exact q_ret2 0 rfl rfl
def m176 (a0:List Int):Option ((List Int)):=(m188 (wi .u64 (a0.length:Int))).bind fun y1=>(m187 64 a0 0 (a0.length:Int) y1).bind fun y2=>some y2
theorem w176 {d:Nat} (hd:136≤d) (L0:List En) (v0_:AV) (a0:List Int):Okh (sl false v0_ (a0:List Int)::L0) (fun S=>R NN d 176 [v0_] S) (m176 a0) (P2 (fun (t:(List Int))=>und) (fun (t:(List Int))=>sl false v0_ t::L0)):=by
  obtain ⟨d,rfl,g⟩:=up hd
  refine q_to (t176 NN d _) ?_
  unfold b176 m176
  exact q_leno 0 rfl<|q_p (fun _=>cvt3_200 _ _)<|q_c0 (aF1 (cv_p rfl) fun l0_=>w188 (by omega) (wi .u64 (a0.length:Int))) fun y1 hy1=>q_s (mg:=m187 64 a0 0 (a0.length:Int) y1) (w187 64 _ (by omega) _ _ a0 0 (a0.length:Int) y1) fun y2 hy2=>q_ret2 0 rfl rfl
def ms193_0 (lo n:Int) (s:Int×Int×List Int):Option (LO (Int×Int×List Int)):=bif decide (s.2.1 < n - lo) then ((getV s.2.2 lo n s.2.1).bind fun x1=>(getV s.2.2 lo n (wi .i64 (s.2.1 - 1))).bind fun x2=>bif x1 != x2 then (getV s.2.2 lo n s.2.1).bind fun x3=>(getI s.2.2 s.1).bind fun _=>some (LO.norm (wi .i64 (s.1 + 1),s.2.2.set s.1.toNat x3)) else some (LO.norm (s.1,s.2.2))).bind (contO (fun s'=>some (LO.norm (s'.1,wi .i64 (s.2.1 + 1),s'.2))) (fun i s'=>some (LO.exit i (s'.1,s.2.1,s'.2))) (fun s'=>some (LO.ret (s'.1,s.2.1,s'.2)))) else some (LO.exit 2 s)
def ms193_1 (xs:List Int) (s:Option (List Int)×Int):Option (LO (Option (List Int)×Int)):=
  match s.1 with
  | some _=>none
  | none=>
    bif decide (s.2 < (xs.length:Int)) then
      (getI xs s.2).bind fun x1=>(getI xs (wi .i64 (s.2 - 1))).bind fun x2=>
      bif x1 == x2 then
        (viO xs.length s.2 xs.length).bind fun _=>(loopO (ms193_0 s.2 xs.length) NN (s.2,1,xs)).bind (contO (fun _=>none) (fun i t=>if i = 2 then (viO t.2.2.length t.1 t.2.2.length).bind fun _=>(viO (clr t.2.2 t.1).length 0 t.1).bind fun _=>some (LO.ret (some ((clr t.2.2 t.1).take t.1.toNat),t.1)) else none) (fun _=>none))
      else some (LO.norm (none,wi .i64 (s.2 + 1)))
    else some (LO.exit 0 (none,s.2))
def m193 (xs:List Int):Option (List Int):=
  bif decide ((xs.length:Int) < 2) then some xs
  else (loopO (ms193_1 xs) NN (none,1)).bind (contO (fun _=>none) (fun i s=>if i = 0 then (match s.1 with | none=>some xs | some _=>none) else none) (fun s=>s.1))
theorem und193:Tryz.prog.underlying 22 = some (.slice 2):=by kernel_rfl
theorem zer193:zeroA Tryz.prog 2 = some (Enc.cs false (0:Int)):=by kernel_rfl
theorem w193 {d:Nat} (hd:1≤d) (L0:List En) (v0_:AV) (a0:List Int):Okh (sl false v0_ a0::L0) (fun S=>R NN d 193 [v0_] S) (m193 a0) (P2 (fun (t:List Int)=>cpv v0_ t.length) (fun (t:List Int)=>cl v0_ t::L0)):=by
  obtain ⟨d,rfl,g⟩:=up hd
  rw [show (fun S=>R NN (d + 1) 193 [v0_] S) = fun S=>b193 (cfg NN) (R NN d) (v0_) S from funext fun S=>t193 NN d v0_ S]
  have hwhole:Okh (sl false v0_ a0::L0) (fun S=>some (v0_,S)) (some a0) (P2 (fun (t:List Int)=>cpv v0_ t.length) (fun (t:List Int)=>cl v0_ t::L0)):=fun S hS t ht=>by
    injection ht with ht; subst ht
    refine ⟨_,rfl,?_,?_⟩
    · rcases hS.get (k:=0) rfl with ⟨rfl,rfl⟩ | ⟨b,fl,pl,rfl,_,_⟩
      · rfl
      · simp [cpv]
    · have h:=q_cl (L0:=L0) (v:=v0_) (xs:=a0) (k:=fun S=>some S) (m:=some ()) (P:=fun _ S'=>HP S' (cl v0_ a0::L0)) (fun S hS t ht=>⟨S,rfl,hS⟩) S hS () rfl
      obtain ⟨S',h1,h2⟩:=h
      injection h1 with h1; subst h1; exact h2
  unfold b193 m193
  refine q_leno 0 rfl ?_
  refine q_p (fun _=>rfl) ?_
  refine q_if (fun h1=>?_) (fun h1=>?_)
  · exact hwhole
  · refine q_loop (I:=(fun (s:Option (List Int)×Int) l L=>match s.1 with | none=>l = [.rsl false true [],.int .i64 s.2]∧L = sl false v0_ a0::L0 | some ys=>l = [cpv v0_ ys.length,.int .i64 s.2]∧L = cl v0_ ys::L0)) 0 rr ?_ ?_ ?_
    · rintro ⟨s1,k⟩ l L' hI
      cases s1 with
      | some ys=>exact q_none
      | none=>
        obtain ⟨rfl,rfl⟩:=hI
        unfold s193_1 ms193_1
        refine q_leno 0 rfl ?_
        refine q_p (fun _=>rfl) ?_
        refine q_if (fun h2=>?_) (fun h2=>?_)
        · refine q_ixo 0 rfl rfl fun x1 hx1=>?_
          refine q_ldo 0 rfl hx1 rfl ?_
          refine q_p (fun _=>rfl) ?_
          refine q_ixo 0 rfl rfl fun x2 hx2=>?_
          refine q_ldo 0 rfl hx2 rfl ?_
          refine q_p (fun _=>rfl) ?_
          refine q_i ?_ ?_
          · refine q_vi 0 rfl rfl (.inl rfl) (.inr ⟨rfl,rfl⟩) fun g1 g2 g3=>?_
            refine q_loop (I:=(fun (s:Int×Int×List Int) l L=>l = [.int .i64 s.1,.int .i64 s.2.1]∧L = sl false v0_ s.2.2::L0∧s.2.2.length = a0.length)) 0 ⟨rfl,rfl,rfl⟩ ?_ ?_ ?_
            · rintro ⟨i,k2,ys⟩ _ _ ⟨rfl,rfl,hl⟩
              unfold s193_0 ms193_0
              refine q_vlen 0 rfl g1 g2 (by dsimp only at hl ⊢; omega) ?_
              refine q_p (fun _=>rfl) ?_
              refine q_i ?_ ?_
              · refine q_cut (I:=(fun (s:Int×List Int) l L=>l = [.int .i64 s.1]∧L = sl false v0_ s.2::L0∧s.2.length = a0.length)) ?_ ?_ ?_ ?_
                · refine q_vix 0 rfl rfl g1 g2 (by dsimp only at hl ⊢; omega) fun x3 hx3=>?_
                  refine q_ldo 0 rfl hx3 rfl ?_
                  refine q_p (fun _=>rfl) ?_
                  refine q_vix 0 rfl rfl g1 g2 (by dsimp only at hl ⊢; omega) fun x4 hx4=>?_
                  refine q_ldo 0 rfl hx4 rfl ?_
                  refine q_p (fun _=>rfl) ?_
                  refine q_i ?_ ?_
                  · refine q_vix 0 rfl rfl g1 g2 (by dsimp only at hl ⊢; omega) fun x5 hx5=>?_
                    refine q_ldo 0 rfl hx5 rfl ?_
                    refine q_ixo 0 rfl rfl fun x6 hx6=>?_
                    refine q_stoe 0 rfl rfl hx6 rfl (by decide) ?_
                    refine q_p (fun _=>rfl) ?_
                    exact q_norm 0 ⟨rfl,rfl,by simpa using hl⟩
                  · exact q_norm 0 ⟨rfl,rfl,hl⟩
                · rintro ⟨i',ys'⟩ _ _ ⟨rfl,rfl,hl'⟩
                  refine q_p (fun _=>rfl) ?_
                  exact q_norm 0 ⟨rfl,rfl,hl'⟩
                · rintro j ⟨i',ys'⟩ _ _ ⟨rfl,rfl,hl'⟩
                  exact q_exit 0 ⟨rfl,rfl,hl'⟩
                · rintro ⟨i',ys'⟩ _ _ ⟨rfl,rfl,hl'⟩
                  exact q_lret 0 ⟨rfl,rfl,hl'⟩
              · exact q_exit 0 ⟨rfl,rfl,hl⟩
            · rintro j ⟨i,k2,ys⟩ _ _ ⟨rfl,rfl,hl⟩
              refine q_n ?_ ?_
              · refine q_vi 0 rfl rfl (.inl rfl) (.inr ⟨rfl,rfl⟩) fun g4 g5 g6=>?_
                refine q_vclr (te:=2) (z:=(0:Int)) 0 rfl und193 zer193 g4 g5 g6 ?_
                refine q_vi (xs:=clr ys i) (i:=0) 0 rfl rfl (.inr ⟨rfl,rfl⟩) (.inl rfl) fun g7 g8 g9=>?_
                have e1:((clr ys i).take i.toNat).length = i.toNat:=by rw [List.length_take]; omega
                refine q_cut0 (ys:=(clr ys i).take i.toNat) (by rw [e1]; rfl) ?_
                refine q_lret 0 ⟨?_,rfl⟩
                rw [e1]
                show [viA v0_ 0 i.toNat,_] = _
                rw [viA0]; rfl
              · exact q_none
            · rintro ⟨i,k2,ys⟩ _ _ ⟨rfl,rfl,hl⟩
              exact q_none
          · refine q_p (fun _=>rfl) ?_
            exact q_norm 0 rr
        · exact q_exit 0 rr
    · rintro i ⟨s1,k⟩ l L' hI
      refine q_n ?_ ?_
      · cases s1 with
        | some ys=>exact q_none
        | none=>obtain ⟨rfl,rfl⟩:=hI; exact hwhole
      · exact q_none
    · rintro ⟨s1,k⟩ l L' hI
      cases s1 with
      | none=>exact q_none
      | some ys=>
        obtain ⟨rfl,rfl⟩:=hI
        exact q_ret2 0 rfl rfl
def ms186_0 (a0:List TMsg) (a1:Int) (a2:Int) (a3:Int) (a4:Int) (s1:Int×(List Int)):Option (LO (Int×(List Int))):=bif decide (s1.1 < (a0.length:Int)) then ( (getI a0 s1.1).bind fun x1=>( bif x1.Kind == a1 then bif x1.View == a2 then bif x1.Slot == a3 then some (LO.norm (x1.Value == a4)) else some (LO.norm false) else some (LO.norm false) else some (LO.norm false)).bind (contO (fun s4=>bif s4 then (appO 8 s1.2 [x1.From]).bind fun z1=>some (LO.norm z1) else some (LO.norm s1.2)) (fun i1 s4=>if i1 = 1 then some (LO.norm s1.2) else some (LO.exit i1 s1.2)) (fun s4=>some (LO.ret s1.2)))).bind (contO (fun s5=>some (LO.norm (wi .i64 (s1.1 + 1),s5))) (fun i2 s5=>some (LO.exit i2 (s1.1,s5))) (fun s5=>some (LO.ret (s1.1,s5)))) else some (LO.exit 0 (s1.1,s1.2))
def m186 (a0:List TMsg) (a1:Int) (a2:Int) (a3:Int) (a4:Int):Option ((List Int)):=(loopO (ms186_0 a0 a1 a2 a3 a4) NN (0,[])).bind (contO (fun _=>none) (fun i3 s6=>if i3 = 0 then (m176 s6.2).bind fun y1=>(m193 y1).bind fun y2=>some y2 else none) (fun s6=>some []))
theorem w186 {d:Nat} (hd:137≤d) (k0:Bool) (a0:List TMsg) (a1:Int) (a2:Int) (a3:Int) (a4:Int):Fit (R NN d 186 [.rsl k0 false (a0.map (Enc.cs k0)),.int .i64 a1,.int .i64 a2,.int .i64 a3,.int .i64 a4] []) (m186 a0 a1 a2 a3 a4) (P0 (fun (t:List Int)=>AV.rsl false false (t.map (Enc.cs false)))):=by
  obtain ⟨d,rfl,g⟩:=up hd
  refine q_in (t186 NN d _ _ _ _ _) ?_
  unfold b186 m186
  refine q_q (fun _=>qs22_0)<|q_len<|q_nil (α:=Int) false<|q_loop (I:=(fun (s:Int×(List Int)) l L=>∃ (v1:AV),l = [v1,.int .i64 s.1]∧L = [sl false v1 (s.2:List Int)])) 0 ⟨(.rsl false true []),rfl,rfl⟩ ?_ ?_ ?_
  ·rintro s1 _ _ ⟨v1,rfl,rfl⟩
   unfold s186_0 ms186_0
   refine q_p fr<|q_i ?_ ?_
   ·refine q_cut (I:=(fun (s:(List Int)) l L=>∃ (v2:AV),l = [v2]∧L = [sl false v2 (s:List Int)])) ?_ ?_ ?_ ?_
    ·refine q_ix rfl fun x1 hx1=>q_p fr<|q_new rfl fun b1=>q_st 0 rfl rfl rfl (by decide) rfl<|q_cu (A:=fun (s:Bool)=>[.bool s]) (B:=fun s=>[bx b1 [.int .i64 x1.Kind,.int .i64 x1.View,.int .i64 x1.From,.int .i64 x1.Slot,.int .i64 x1.Value,.rsl k0 false (x1.Certs.map (Enc.cs k0)),.rsl k0 false (x1.Refs.map (Enc.cs k0))],sl false v1 (s1.2:List Int)]) ?_ ?_ ?_ ?_
     ·exact q_p fr<|q_ld 0 rfl rfl<|q_p fr<|q_k (q_p fr<|q_ld 0 rfl rfl<|q_p fr<|q_k (q_p fr<|q_ld 0 rfl rfl<|q_p fr<|q_k (q_p fr<|q_ld 0 rfl rfl<|q_p fr<|q_norm 0 rr)<|q_norm 0 rr)<|q_norm 0 rr)<|q_norm 0 rr
     ·exact fun s4=>q_i (q_p fr<|q_ld 0 rfl rfl<|q_q (fun _=>qi22_1)<|q_app (ys:=[x1.From]) 1 rfl rfl (fun _ _=>rfl) fun v2 z1 hz1=>q_norm 1 ⟨v2,rfl,rfl⟩)<|q_norm 1 ⟨v1,rfl,rfl⟩
     ·exact fun i1 s4=>q_n (q_norm 1 ⟨v1,rfl,rfl⟩)<|q_exit 1 ⟨v1,rfl,rfl⟩
     ·exact fun s4=>q_lret 1 ⟨v1,rfl,rfl⟩
    ·rintro s5 _ _ ⟨v3,rfl,rfl⟩
     exact q_p fr<|q_norm 0 ⟨v3,rfl,rfl⟩
    ·rintro i2 s5 _ _ ⟨v4,rfl,rfl⟩
     exact q_exit 0 ⟨v4,rfl,rfl⟩
    ·rintro s5 _ _ ⟨v5,rfl,rfl⟩
     exact q_lret 0 ⟨v5,rfl,rfl⟩
   ·exact q_exit 0 ⟨v1,rfl,rfl⟩
  ·rintro i3 s6 _ _ ⟨v6,rfl,rfl⟩
   exact q_n (q_s (mg:=m176 s6.2) (w176 (by omega) _ _ s6.2) fun y1 hy1=>q_s (mg:=m193 y1) (w193 (by omega) _ _ y1) fun y2 hy2=>q_ret (cv_cl 0 rfl) rfl)<|q_none
  ·rintro s6 _ _ ⟨v7,rfl,rfl⟩
   exact q_ret (cv_r (α:=Int) (l0:=false) (fl:=true) (xs:=[])) rfl
def m175 (a0:Int) (a1:List TMsg) (a2:Int) (a3:Int) (a4:Int) (a5:Int):Option (Bool):=(m186 a1 a2 a3 a4 a5).bind fun y1=>some (decide ((y1.length:Int) ≥ (wi .i64 ((wi .i64 (2 * a0)) + 1))))
theorem w175 {d:Nat} (hd:138≤d) (a0:Int) (k1:Bool) (a1:List TMsg) (a2:Int) (a3:Int) (a4:Int) (a5:Int):Fit (R NN d 175 [.int .i64 a0,.rsl k1 false (a1.map (Enc.cs k1)),.int .i64 a2,.int .i64 a3,.int .i64 a4,.int .i64 a5] []) (m175 a0 a1 a2 a3 a4 a5) PB:=by
  obtain ⟨d,rfl,g⟩:=up hd
  refine q_in (t175 NN d _ _ _ _ _ _) ?_
  unfold b175 m175
  exact q_c0 (fun S hS=>argF5 cv_r (cv_p rfl) (cv_p rfl) (cv_p rfl) (cv_p rfl) hS fun l0_ l1_ l2_ l3_ l4_=>w186 (by omega) l0_ a1 a2 a3 a4 a5) fun y1 hy1=>q_len<|q_p fr<|q_p fr<|q_p fr<|q_ret (cv_p rfl) rfl
def m162 (a0:Int) (a1:List TMsg) (a2:TCert):Option (Bool):=( bif (m171 a2.Slot) then bif (m147 a2.View) then bif (m172 a2.Value) then (m175 a0 a1 2 a2.View a2.Slot a2.Value).bind fun y1=>some (LO.norm y1) else some (LO.norm false) else some (LO.norm false) else some (LO.norm false)).bind (contO (fun s2=>some s2) (fun i1 s2=>none) (fun s2=>some s2))
theorem w162 {d:Nat} (hd:139≤d) (a0:Int) (k1:Bool) (a1:List TMsg) (k2:Bool) (a2:TCert):Fit (R NN d 162 [.int .i64 a0,.rsl k1 false (a1.map (Enc.cs k1)),.agg (Enc.cs k2 a2)] []) (m162 a0 a1 a2) PB:=by
  obtain ⟨d,rfl,g⟩:=up hd
  refine q_in (t162 NN d _ _ _) ?_
  unfold b162 m162
  refine q_box (n:=3) rfl rfl (by decide) fun b1=>q_cu (A:=fun (s:Bool)=>[.bool s]) (B:=fun s=>[bx b1 [.int .i64 a2.Slot,.int .i64 a2.View,.int .i64 a2.Value]]) ?_ ?_ ?_ ?_
  ·exact q_p fr<|q_ld 0 rfl rfl<|q_c0t (aF1 (cv_p rfl) fun l0_=>w171 (by omega) a2.Slot)<|q_k (q_p fr<|q_ld 0 rfl rfl<|q_c0t (aF1 (cv_p rfl) fun l0_=>w147 (by omega) a2.View)<|q_k (q_p fr<|q_ld 0 rfl rfl<|q_c0t (aF1 (cv_p rfl) fun l0_=>w172 (by omega) a2.Value)<|q_k (q_p fr<|q_ld 0 rfl rfl<|q_p fr<|q_ld 0 rfl rfl<|q_p fr<|q_ld 0 rfl rfl<|q_c0 (fun S hS=>argF6 (cv_p rfl) cv_r (cv_p rfl) (cv_p rfl) (cv_p rfl) (cv_p rfl) hS fun l0_ l1_ l2_ l3_ l4_ l5_=>w175 (by omega) a0 l1_ a1 2 a2.View a2.Slot a2.Value) fun y1 hy1=>q_norm 0 rr)<|q_norm 0 rr)<|q_norm 0 rr)<|q_norm 0 rr
  ·exact fun s2=>q_ret (cv_p rfl) rfl
  ·exact fun i1 s2=>q_none
  ·exact fun s2=>q_ret (cv_p rfl) rfl
def m161 (a0:TCert) (a1:Int) (a2:List TMsg):Option (Bool):=(m162 a1 a2 a0).bind fun y1=>some (!y1)
theorem w161 {d:Nat} (hd:140≤d) (k0:Bool) (a0:TCert) (k1:Bool) (a1:Int) (k2:Bool) (a2:List TMsg):Fit (R NN d 161 [.agg (Enc.cs k0 a0),.rp k1 (Enc.cs k1 a1),.rp k2 (Enc.cs k2 a2)] []) (m161 a0 a1 a2) PB:=by
  obtain ⟨d,rfl,g⟩:=up hd
  refine q_in (t161 NN d _ _ _) ?_
  unfold b161 m161
  exact q_box (n:=3) rfl rfl (by decide) fun b1=>q_p fr<|q_p fr<|q_lda 0 rfl rfl rfl<|q_c0 (aF3 (cv_p rfl) cv_r (cv_a (cvs_e (l0:=false) (x:=a0))) fun l0_ l1_ l2_=>w162 (by omega) a1 l1_ a2 l2_ a0) fun y1 hy1=>q_p fr<|q_ret (cv_p rfl) rfl
def m126 (a0:Int) (a1:List TMsg) (a2:Int):Option (Bool):=(m159 a1 a2 4).bind fun y1=>bif y1.2 then (m160 y1.1.Certs (fun x0_=>m161 x0_ a0 a1)).bind fun y2=>some (!y2) else some false
theorem w126 {d:Nat} (hd:143≤d) (a0:Int) (k1:Bool) (a1:List TMsg) (a2:Int):Fit (R NN d 126 [.int .i64 a0,.rsl k1 false (a1.map (Enc.cs k1)),.int .i64 a2] []) (m126 a0 a1 a2) PB:=by
  obtain ⟨d,rfl,g⟩:=up hd
  refine q_in (t126 NN d _ _ _) ?_
  unfold b126 m126
  exact q_box (n:=1) rfl rfl (by decide) fun b1=>q_box (n:=1) rfl rfl (by decide) fun b2=>q_ld 0 rfl rfl<|q_s3 (mg:=m159 a1 a2 4) (w159 (by omega) _ k1 _ a1 a2 4) fun y1 hy1 x1=>q_q fr<|q_q fr<|q_new rfl fun b3=>q_st 0 rfl rfl rfl (by decide) rfl<|q_k (q_p fr<|q_ld 0 rfl rfl<|q_c0 (aF2 cv_r (cv_f (cvs_cons (cv_b 2 rfl (cvs_e (l0:=false) (x:=a0))) (cvs_cons (cv_b 1 rfl (cvs_e (l0:=k1) (x:=a1))) cvs_nil))) fun l0_ l1_=>w160 (Dc:=140) (by omega) l0_ y1.1.Certs (fun l=>.fn 161 [.rp l (Enc.cs l a0),.rp l (Enc.cs l a1)]) (fun l=>cv_f (cvs_cons (cv_rp (cvs_e (l0:=l) (x:=a0)) (fun _ _ _ h=>Enc.frz _ a0 _ _ _ h)) (cvs_cons (cv_rp (cvs_e (l0:=l) (x:=a1)) (fun _ _ _ h=>Enc.frz _ a1 _ _ _ h)) cvs_nil))) (fun x0_=>m161 x0_ a0 a1) (fun d hd l q0_ x0_ S t ht=>(cv183_161 _ _ _ _).trans (call0_of (E:=(fun (t:Bool)=>AV.bool t)) (mg:=m161 x0_ a0 a1) (args3 (M:=fun a=>Fit (R NN d 161 a []) _ _) (cv_a (cvs_e (l0:=q0_) (x:=x0_))) (cv_rp (cvs_e (l0:=l) (x:=a0)) (fun _ _ _ h=>Enc.frz _ a0 _ _ _ h)) (cv_rp (cvs_e (l0:=l) (x:=a1)) (fun _ _ _ h=>Enc.frz _ a1 _ _ _ h)) HP.nil fun u0_ v0_ v1_=>w161 hd u0_ x0_ v0_ a0 v1_ a1) ht)) l1_) fun y2 hy2=>q_p fr<|q_ret (cv_p rfl) rfl)<|q_ret (cv_p rfl) rfl
def ms85_0 (a0:Int) (a1:List TMsg) (a2:Int) (s1:Int×(List Int)×(List Int)):Option (LO (Int×(List Int)×(List Int))):=bif decide (s1.1 < (a1.length:Int)) then ( (getI a1 s1.1).bind fun x1=>( bif decide ((s1.2.2.length:Int) < (wi .i64 ((wi .i64 (2 * a0)) + 1))) then bif x1.View == a2 then (m125 s1.2.1 x1.From).bind fun y1=>bif !y1 then (m126 a0 a1 s1.1).bind fun y2=>some (LO.norm y2) else some (LO.norm false) else some (LO.norm false) else some (LO.norm false)).bind (contO (fun s4=>bif s4 then (appO 8 s1.2.2 [s1.1]).bind fun z1=>(appO 8 s1.2.1 [x1.From]).bind fun z2=>some (LO.norm (z2,z1)) else some (LO.norm (s1.2.1,s1.2.2))) (fun i1 s4=>if i1 = 1 then some (LO.norm (s1.2.1,s1.2.2)) else some (LO.exit i1 (s1.2.1,s1.2.2))) (fun s4=>some (LO.ret (s1.2.1,s1.2.2))))).bind (contO (fun s5=>some (LO.norm (wi .i64 (s1.1 + 1),s5.1,s5.2))) (fun i2 s5=>some (LO.exit i2 (s1.1,s5.1,s5.2))) (fun s5=>some (LO.ret (s1.1,s5.1,s5.2)))) else some (LO.exit 0 (s1.1,s1.2.1,s1.2.2))
def m85 (a0:Int) (a1:List TMsg) (a2:Int):Option ((List Int)):=(loopO (ms85_0 a0 a1 a2) NN (0,[],[])).bind (contO (fun _=>none) (fun i3 s6=>if i3 = 0 then some s6.2.2 else none) (fun s6=>some []))
theorem w85 {d:Nat} (hd:144≤d) (a0:Int) (k1:Bool) (a1:List TMsg) (a2:Int):Fit (R NN d 85 [.int .i64 a0,.rsl k1 false (a1.map (Enc.cs k1)),.int .i64 a2] []) (m85 a0 a1 a2) (P0 (fun (t:List Int)=>AV.rsl false false (t.map (Enc.cs false)))):=by
  obtain ⟨d,rfl,g⟩:=up hd
  refine q_in (t85 NN d _ _ _) ?_
  unfold b85 m85
  refine q_q (fun _=>qs22_0)<|q_q (fun _=>qs22_0)<|q_len<|q_nil (α:=Int) false<|q_nil (α:=Int) false<|q_loop (I:=(fun (s:Int×(List Int)×(List Int)) l L=>∃ (v1:AV) (v2:AV),l = [v2,v1,.int .i64 s.1]∧L = [sl false v1 (s.2.1:List Int),sl false v2 (s.2.2:List Int)])) 0 ⟨(.rsl false true []),(.rsl false true []),rfl,rfl⟩ ?_ ?_ ?_
  ·rintro s1 _ _ ⟨v1,v2,rfl,rfl⟩
   unfold s85_0 ms85_0
   refine q_p fr<|q_i ?_ ?_
   ·refine q_cut (I:=(fun (s:(List Int)×(List Int)) l L=>∃ (v3:AV) (v4:AV),l = [v4,v3]∧L = [sl false v3 (s.1:List Int),sl false v4 (s.2:List Int)])) ?_ ?_ ?_ ?_
    ·refine q_ix rfl fun x1 hx1=>q_p fr<|q_new rfl fun b1=>q_st 0 rfl rfl rfl (by decide) rfl<|q_cu (A:=fun (s:Bool)=>[.bool s]) (B:=fun s=>[bx b1 [.int .i64 x1.Kind,.int .i64 x1.View,.int .i64 x1.From,.int .i64 x1.Slot,.int .i64 x1.Value,.rsl k1 false (x1.Certs.map (Enc.cs k1)),.rsl k1 false (x1.Refs.map (Enc.cs k1))],sl false v1 (s1.2.1:List Int),sl false v2 (s1.2.2:List Int)]) ?_ ?_ ?_ ?_
     ·exact q_leno 2 rfl<|q_p fr<|q_p fr<|q_p fr<|q_k (q_p fr<|q_ld 0 rfl rfl<|q_p fr<|q_k (q_p fr<|q_ld 0 rfl rfl<|q_c0 (aF2 (cv_o 1 rfl) (cv_p rfl) fun l0_ l1_=>w125 (by omega) l0_ s1.2.1 x1.From) fun y1 hy1=>q_p fr<|q_k (q_c0 (aF3 (cv_p rfl) cv_r (cv_p rfl) fun l0_ l1_ l2_=>w126 (by omega) a0 l1_ a1 s1.1) fun y2 hy2=>q_norm 0 rr)<|q_norm 0 rr)<|q_norm 0 rr)<|q_norm 0 rr
     ·exact fun s4=>q_i (q_q (fun _=>qi22_1)<|q_p fr<|q_ld 0 rfl rfl<|q_q (fun _=>qi22_1)<|q_fact (φ:=apAV (.bp b1 0 2 1 1) v2 = true) (fun S hS=>hS.apS 0 2 rfl rfl (by decide)) fun ap1=>q_app (ys:=[s1.1]) 2 rfl rfl (fun _ _=>rfl) fun v3 z1 hz1=>q_app (ys:=[x1.From]) 1 rfl rfl (fun _ _=>rfl) fun v4 z2 hz2=>q_ap (fun S hS=>(and_t ap1 rfl))<|q_norm 1 ⟨v4,v3,rfl,rfl⟩)<|q_norm 1 ⟨v1,v2,rfl,rfl⟩
     ·exact fun i1 s4=>q_n (q_norm 1 ⟨v1,v2,rfl,rfl⟩)<|q_exit 1 ⟨v1,v2,rfl,rfl⟩
     ·exact fun s4=>q_lret 1 ⟨v1,v2,rfl,rfl⟩
    ·rintro s5 _ _ ⟨v5,v6,rfl,rfl⟩
     exact q_p fr<|q_norm 0 ⟨v5,v6,rfl,rfl⟩
    ·rintro i2 s5 _ _ ⟨v7,v8,rfl,rfl⟩
     exact q_exit 0 ⟨v7,v8,rfl,rfl⟩
    ·rintro s5 _ _ ⟨v9,v10,rfl,rfl⟩
     exact q_lret 0 ⟨v9,v10,rfl,rfl⟩
   ·exact q_exit 0 ⟨v1,v2,rfl,rfl⟩
  ·rintro i3 s6 _ _ ⟨v11,v12,rfl,rfl⟩
   exact q_n (q_ret (cv_o 1 rfl) rfl)<|q_none
  ·rintro s6 _ _ ⟨v13,v14,rfl,rfl⟩
   exact q_ret (cv_r (α:=Int) (l0:=false) (fl:=true) (xs:=[])) rfl
def m54 (a0:TReplica) (a1:Int) (a2:List TMsg):Option (TMsgResult):=( ( bif a0.View == 0 then some (LO.norm true) else (m84 a1 a0.View).bind fun y1=>bif a0.Id != y1 then some (LO.norm true) else some (LO.norm (a0.Start != (-1)))).bind (contO (fun s3=>bif s3 then some (LO.ret 8) else some (LO.norm 0)) (fun i1 s3=>some (LO.exit i1 0)) (fun s3=>some (LO.ret 0)))).bind (contO (fun s4=>(m85 a1 a2 a0.View).bind fun y2=>bif decide ((y2.length:Int) < (wi .i64 ((wi .i64 (2 * a1)) + 1))) then some (⟨10,(⟨0,0,0,0,0,[],[]⟩:TMsg)⟩:TMsgResult) else some (⟨0,(⟨5,a0.View,a0.Id,0,0,[],y2⟩:TMsg)⟩:TMsgResult)) (fun i2 s4=>none) (fun s4=>some (⟨s4,(⟨0,0,0,0,0,[],[]⟩:TMsg)⟩:TMsgResult)))
theorem w54 {d:Nat} (hd:145≤d) (k0:Bool) (a0:TReplica) (a1:Int) (k2:Bool) (a2:List TMsg):Fit (R NN d 54 [.rp k0 (Enc.cs k0 a0),.int .i64 a1,.rsl k2 false (a2.map (Enc.cs k2))] []) (m54 a0 a1 a2) (P0 (fun (t:TMsgResult)=>AV.agg (Enc.cs false t))):=by
  obtain ⟨d,rfl,g⟩:=up hd
  refine q_in (t54 NN d _ _ _) ?_
  unfold b54 m54
  refine q_new rfl fun b1=>q_cu (A:=fun (s:Int)=>[]) (B:=fun s=>[bx b1 [.int .i64 s,.int .i64 0,.int .i64 0,.int .i64 0,.int .i64 0,.int .i64 0,.rsl false true [],.rsl false true []]]) ?_ ?_ ?_ ?_
  ·refine q_cu (A:=fun (s:Bool)=>[.bool s]) (B:=fun s=>[bx b1 [.int .i64 0,.int .i64 0,.int .i64 0,.int .i64 0,.int .i64 0,.int .i64 0,.rsl false true [],.rsl false true []]]) ?_ ?_ ?_ ?_
   ·exact q_q fr<|q_p fr<|q_p fr<|q_p fr<|q_j (q_norm 0 rr)<|q_q fr<|q_p fr<|q_p fr<|q_q fr<|q_p fr<|q_p fr<|q_c0 (aF2 (cv_p rfl) (cv_p rfl) fun l0_ l1_=>w84 (by omega) a1 a0.View) fun y1 hy1=>q_p fr<|q_j (q_norm 0 rr)<|q_q fr<|q_p fr<|q_p fr<|q_p fr<|q_norm 0 rr
   ·exact fun s3=>q_i (q_p (fun _=>bd55_0 rfl)<|q_st 0 rfl rfl rfl (by decide) rfl<|q_lret 0 rr)<|q_norm 0 rr
   ·exact fun i1 s3=>q_exit 0 rr
   ·exact fun s3=>q_lret 0 rr
  ·exact fun s4=>q_q fr<|q_p fr<|q_p fr<|q_c0 (aF3 (cv_p rfl) cv_r (cv_p rfl) fun l0_ l1_ l2_=>w85 (by omega) a1 l1_ a2 a0.View) fun y2 hy2=>q_len<|q_p fr<|q_p fr<|q_p fr<|q_i (q_p (fun _=>bd55_0 rfl)<|q_st 0 rfl rfl rfl (by decide) rfl<|q_retm (fun S hS=>hS.lda 0 rfl rfl) (cv_a (cvs_cons (cv_p rfl) (cvs_cons (cv_p rfl) (cvs_cons (cv_p rfl) (cvs_cons (cv_p rfl) (cvs_cons (cv_p rfl) (cvs_cons (cv_p rfl) (cvs_cons (cv_r (α:=TCert) (l0:=false) (fl:=true) (xs:=[])) (cvs_cons (cv_r (α:=Int) (l0:=false) (fl:=true) (xs:=[])) cvs_nil))))))))) rfl)<|q_q fr<|q_p fr<|q_p fr<|q_q fr<|q_p fr<|q_p fr<|q_p (fun _=>bd53_0_1_2_6 rfl)<|q_p (fun _=>bd55_1 rfl)<|q_st 0 rfl rfl rfl (by decide) rfl<|q_retm (fun S hS=>hS.lda 0 rfl rfl) (cv_a (cvs_cons (cv_p rfl) (cvs_cons (cv_p rfl) (cvs_cons (cv_p rfl) (cvs_cons (cv_p rfl) (cvs_cons (cv_p rfl) (cvs_cons (cv_p rfl) (cvs_cons (cv_r (α:=TCert) (l0:=false) (fl:=true) (xs:=[])) (cvs_cons cv_r cvs_nil))))))))) rfl
  ·exact fun i2 s4=>q_none
  ·exact fun s4=>q_retm (fun S hS=>hS.lda 0 rfl rfl) (cv_a (cvs_cons (cv_p rfl) (cvs_cons (cv_p rfl) (cvs_cons (cv_p rfl) (cvs_cons (cv_p rfl) (cvs_cons (cv_p rfl) (cvs_cons (cv_p rfl) (cvs_cons (cv_r (α:=TCert) (l0:=false) (fl:=true) (xs:=[])) (cvs_cons (cv_r (α:=Int) (l0:=false) (fl:=true) (xs:=[])) cvs_nil))))))))) rfl
def ms87_0 (a0:List TMsg) (a1:TMsg→Option (Bool)) (s1:Int×Int):Option (LO (Int×Int)):=bif decide (s1.2 < (a0.length:Int)) then (getI a0 s1.2).bind fun x1=>(a1 x1).bind fun y1=>bif y1 then some (LO.ret (s1.2,s1.2)) else some (LO.norm (s1.1,wi .i64 (s1.2 + 1))) else some (LO.exit 0 (s1.1,s1.2))
def m87 (a0:List TMsg) (a1:TMsg→Option (Bool)):Option (Int):=(loopO (ms87_0 a0 a1) NN (0,0)).bind (contO (fun _=>none) (fun i1 s2=>if i1 = 0 then some (-1) else none) (fun s2=>some s2.1))
theorem w87 {Dc:Nat} {d:Nat} (hd:Dc + 1≤d) (k0:Bool) (a0:List TMsg) (c1:Bool→AV) (hc1:∀ l,CV 8 [] false (c1 l) c1) (a1:TMsg→Option (Bool)) (tc1:∀ (d:Nat),Dc≤d→∀ (l:Bool) (q0:Bool) (x0:TMsg) (S:St) (t:Bool),a1 x0 = some t→callV (cfg NN) (R NN d) 87 (c1 l) [.agg (Enc.cs q0 x0)] S = some ((fun (t:Bool)=>AV.bool t) t,S)) (k1:Bool):Fit (R NN d 87 [.rsl k0 false (a0.map (Enc.cs k0)),c1 k1] []) (m87 a0 a1) PI:=by
  obtain ⟨d,rfl,g⟩:=up hd
  refine q_in (t87 NN d _ _) ?_
  unfold b87 m87
  refine q_len<|q_lp (A:=fun (s:Int×Int)=>[.int .i64 s.1,.int .i64 s.2]) (B:=fun s=>[]) 0 rr ?_ ?_ ?_
  ·intro s1
   unfold s87_0 ms87_0
   exact q_p fr<|q_i (q_ix rfl fun x1 hx1=>q_p fr<|q_cv (mg:=a1 x1) (E:=(fun (t:Bool)=>AV.bool t)) (fun S t ht=>tc1 d (by omega) k1 k0 x1 S t ht) fun y1 hy1=>q_i (q_lret 0 rr)<|q_p fr<|q_norm 0 rr)<|q_exit 0 rr
  ·exact fun i1 s2=>q_n (q_ret (cv_p rfl) rfl)<|q_none
  ·exact fun s2=>q_ret (cv_p rfl) rfl
def ms112_0 (a0:List Int) (a1:List Int) (s1:Bool×Int):Option (LO (Bool×Int)):=bif decide (s1.2 < (a0.length:Int)) then (getI a0 s1.2).bind fun x1=>(getI a1 s1.2).bind fun x2=>bif x1 != x2 then some (LO.ret (false,s1.2)) else some (LO.norm (s1.1,wi .i64 (s1.2 + 1))) else some (LO.exit 0 (s1.1,s1.2))
def m112 (a0:List Int) (a1:List Int):Option (Bool):=bif (a0.length:Int) != (a1.length:Int) then some false else (loopO (ms112_0 a0 a1) NN (false,0)).bind (contO (fun _=>none) (fun i1 s2=>if i1 = 0 then some true else none) (fun s2=>some s2.1))
theorem w112 {d:Nat} (hd:1≤d) (k0:Bool) (a0:List Int) (k1:Bool) (a1:List Int):Fit (R NN d 112 [.rsl k0 false (a0.map (Enc.cs k0)),.rsl k1 false (a1.map (Enc.cs k1))] []) (m112 a0 a1) PB:=by
  obtain ⟨d,rfl,g⟩:=up hd
  refine q_in (t112 NN d _ _) ?_
  unfold b112 m112
  refine q_len<|q_len<|q_p fr<|q_i ?_ ?_
  ·exact q_ret (cv_p rfl) rfl
  ·refine q_len<|q_lp (A:=fun (s:Bool×Int)=>[.bool s.1,.int .i64 s.2]) (B:=fun s=>[]) 0 rr ?_ ?_ ?_
   ·intro s1
    unfold s112_0 ms112_0
    exact q_p fr<|q_i (q_ix rfl fun x1 hx1=>q_p fr<|q_ix rfl fun x2 hx2=>q_p fr<|q_p fr<|q_i (q_lret 0 rr)<|q_p fr<|q_norm 0 rr)<|q_exit 0 rr
   ·exact fun i1 s2=>q_n (q_ret (cv_p rfl) rfl)<|q_none
   ·exact fun s2=>q_ret (cv_p rfl) rfl
def ms130_0 (a0:List TCert) (a1:List TCert) (s1:Bool×Int):Option (LO (Bool×Int)):=bif decide (s1.2 < (a0.length:Int)) then (getI a0 s1.2).bind fun x1=>(getI a1 s1.2).bind fun x2=>bif !(((x1.Slot == x2.Slot) && ((x1.View == x2.View) && ((x1.Value == x2.Value) && true)))) then some (LO.ret (false,s1.2)) else some (LO.norm (s1.1,wi .i64 (s1.2 + 1))) else some (LO.exit 0 (s1.1,s1.2))
def m130 (a0:List TCert) (a1:List TCert):Option (Bool):=bif (a0.length:Int) != (a1.length:Int) then some false else (loopO (ms130_0 a0 a1) NN (false,0)).bind (contO (fun _=>none) (fun i1 s2=>if i1 = 0 then some true else none) (fun s2=>some s2.1))
theorem w130 {d:Nat} (hd:1≤d) (k0:Bool) (a0:List TCert) (k1:Bool) (a1:List TCert):Fit (R NN d 130 [.rsl k0 false (a0.map (Enc.cs k0)),.rsl k1 false (a1.map (Enc.cs k1))] []) (m130 a0 a1) PB:=by
  obtain ⟨d,rfl,g⟩:=up hd
  refine q_in (t130 NN d _ _) ?_
  unfold b130 m130
  refine q_len<|q_len<|q_p fr<|q_i ?_ ?_
  ·exact q_ret (cv_p rfl) rfl
  ·refine q_len<|q_lp (A:=fun (s:Bool×Int)=>[.bool s.1,.int .i64 s.2]) (B:=fun s=>[]) 0 rr ?_ ?_ ?_
   ·intro s1
    unfold s130_0 ms130_0
    exact q_p fr<|q_i (q_ix rfl fun x1 hx1=>q_p fr<|q_ix rfl fun x2 hx2=>q_p fr<|q_p (fun _=>sneq1242 _ _ _ _ _ _)<|q_i (q_lret 0 rr)<|q_p fr<|q_norm 0 rr)<|q_exit 0 rr
   ·exact fun i1 s2=>q_n (q_ret (cv_p rfl) rfl)<|q_none
   ·exact fun s2=>q_ret (cv_p rfl) rfl
def m89 (a0:TMsg) (a1:TMsg):Option (Bool):=( bif a0.Kind == a1.Kind then bif a0.View == a1.View then bif a0.From == a1.From then bif a0.Slot == a1.Slot then bif a0.Value == a1.Value then (m130 a0.Certs a1.Certs).bind fun y1=>bif y1 then (m112 a0.Refs a1.Refs).bind fun y2=>some (LO.norm y2) else some (LO.norm false) else some (LO.norm false) else some (LO.norm false) else some (LO.norm false) else some (LO.norm false) else some (LO.norm false)).bind (contO (fun s2=>some s2) (fun i1 s2=>none) (fun s2=>some s2))
theorem w89 {d:Nat} (hd:2≤d) (k0:Bool) (a0:TMsg) (k1:Bool) (a1:TMsg):Fit (R NN d 89 [.agg (Enc.cs k0 a0),.agg (Enc.cs k1 a1)] []) (m89 a0 a1) PB:=by
  obtain ⟨d,rfl,g⟩:=up hd
  refine q_in (t89 NN d _ _) ?_
  unfold b89 m89
  refine q_box (n:=7) rfl rfl (by decide) fun b1=>q_box (n:=7) rfl rfl (by decide) fun b2=>q_cu (A:=fun (s:Bool)=>[.bool s]) (B:=fun s=>[bx b2 [.int .i64 a1.Kind,.int .i64 a1.View,.int .i64 a1.From,.int .i64 a1.Slot,.int .i64 a1.Value,.rsl k1 false (a1.Certs.map (Enc.cs k1)),.rsl k1 false (a1.Refs.map (Enc.cs k1))],bx b1 [.int .i64 a0.Kind,.int .i64 a0.View,.int .i64 a0.From,.int .i64 a0.Slot,.int .i64 a0.Value,.rsl k0 false (a0.Certs.map (Enc.cs k0)),.rsl k0 false (a0.Refs.map (Enc.cs k0))]]) ?_ ?_ ?_ ?_
  ·exact q_p fr<|q_ld 1 rfl rfl<|q_p fr<|q_ld 0 rfl rfl<|q_p fr<|q_k (q_p fr<|q_ld 1 rfl rfl<|q_p fr<|q_ld 0 rfl rfl<|q_p fr<|q_k (q_p fr<|q_ld 1 rfl rfl<|q_p fr<|q_ld 0 rfl rfl<|q_p fr<|q_k (q_p fr<|q_ld 1 rfl rfl<|q_p fr<|q_ld 0 rfl rfl<|q_p fr<|q_k (q_p fr<|q_ld 1 rfl rfl<|q_p fr<|q_ld 0 rfl rfl<|q_p fr<|q_k (q_p fr<|q_ld 1 rfl rfl<|q_p fr<|q_ld 0 rfl rfl<|q_c0 (aF2 cv_r cv_r fun l0_ l1_=>w130 (by omega) l0_ a0.Certs l1_ a1.Certs) fun y1 hy1=>q_k (q_p fr<|q_ld 1 rfl rfl<|q_p fr<|q_ld 0 rfl rfl<|q_c0 (aF2 cv_r cv_r fun l0_ l1_=>w112 (by omega) l0_ a0.Refs l1_ a1.Refs) fun y2 hy2=>q_norm 0 rr)<|q_norm 0 rr)<|q_norm 0 rr)<|q_norm 0 rr)<|q_norm 0 rr)<|q_norm 0 rr)<|q_norm 0 rr
  ·exact fun s2=>q_ret (cv_p rfl) rfl
  ·exact fun i1 s2=>q_none
  ·exact fun s2=>q_ret (cv_p rfl) rfl
def m88 (a0:TMsg) (a1:TMsg):Option (Bool):=(m89 a0 a1).bind fun y1=>some y1
theorem w88 {d:Nat} (hd:3≤d) (k0:Bool) (a0:TMsg) (k1:Bool) (a1:TMsg):Fit (R NN d 88 [.agg (Enc.cs k0 a0),.rp k1 (Enc.cs k1 a1)] []) (m88 a0 a1) PB:=by
  obtain ⟨d,rfl,g⟩:=up hd
  refine q_in (t88 NN d _ _) ?_
  unfold b88 m88
  exact q_box (n:=7) rfl rfl (by decide) fun b1=>q_lda 0 rfl rfl rfl<|q_p fr<|q_c0 (aF2 (cv_a (cvs_e (l0:=k0) (x:=a0))) (cv_a (cvs_e (l0:=k1) (x:=a1))) fun l0_ l1_=>w89 (by omega) l0_ a0 l1_ a1) fun y1 hy1=>q_ret (cv_p rfl) rfl
def m56 (a0:List TMsg) (a1:TMsg):Option (Int):=(m87 a0 (fun x0_=>m88 x0_ a1)).bind fun y1=>some y1
theorem w56 {d:Nat} (hd:5≤d) (k0:Bool) (a0:List TMsg) (k1:Bool) (a1:TMsg):Fit (R NN d 56 [.rsl k0 false (a0.map (Enc.cs k0)),.agg (Enc.cs k1 a1)] []) (m56 a0 a1) PI:=by
  obtain ⟨d,rfl,g⟩:=up hd
  refine q_in (t56 NN d _ _) ?_
  unfold b56 m56
  exact q_box (n:=7) rfl rfl (by decide) fun b1=>q_c0 (aF2 cv_r (cv_f (cvs_cons (cv_b 0 rfl (cvs_e (l0:=k1) (x:=a1))) cvs_nil)) fun l0_ l1_=>w87 (Dc:=3) (by omega) l0_ a0 (fun l=>.fn 88 [.rp l (Enc.cs l a1)]) (fun l=>cv_f (cvs_cons (cv_rp (cvs_e (l0:=l) (x:=a1)) (fun _ _ _ h=>Enc.frz _ a1 _ _ _ h)) cvs_nil)) (fun x0_=>m88 x0_ a1) (fun d hd l q0_ x0_ S t ht=>(cv87_88 _ _ _ _).trans (call0_of (E:=(fun (t:Bool)=>AV.bool t)) (mg:=m88 x0_ a1) (args2 (M:=fun a=>Fit (R NN d 88 a []) _ _) (cv_a (cvs_e (l0:=q0_) (x:=x0_))) (cv_rp (cvs_e (l0:=l) (x:=a1)) (fun _ _ _ h=>Enc.frz _ a1 _ _ _ h)) HP.nil fun u0_ v0_=>w88 hd u0_ x0_ v0_ a1) ht)) l1_) fun y1 hy1=>q_ret (cv_p rfl) rfl
def ms184_0 (a0:List Int) (a1:Int→Option (Bool)) (s1:Int×Int):Option (LO (Int×Int)):=bif decide (s1.2 < (a0.length:Int)) then (getI a0 s1.2).bind fun x1=>(a1 x1).bind fun y1=>bif y1 then some (LO.ret (s1.2,s1.2)) else some (LO.norm (s1.1,wi .i64 (s1.2 + 1))) else some (LO.exit 0 (s1.1,s1.2))
def m184 (a0:List Int) (a1:Int→Option (Bool)):Option (Int):=(loopO (ms184_0 a0 a1) NN (0,0)).bind (contO (fun _=>none) (fun i1 s2=>if i1 = 0 then some (-1) else none) (fun s2=>some s2.1))
theorem w184 {Dc:Nat} {d:Nat} (hd:Dc + 1≤d) (k0:Bool) (a0:List Int) (c1:Bool→AV) (hc1:∀ l,CV 8 [] false (c1 l) c1) (a1:Int→Option (Bool)) (tc1:∀ (d:Nat),Dc≤d→∀ (l:Bool) (x0:Int) (S:St) (t:Bool),a1 x0 = some t→callV (cfg NN) (R NN d) 184 (c1 l) [.int .i64 x0] S = some ((fun (t:Bool)=>AV.bool t) t,S)) (k1:Bool):Fit (R NN d 184 [.rsl k0 false (a0.map (Enc.cs k0)),c1 k1] []) (m184 a0 a1) PI:=by
  obtain ⟨d,rfl,g⟩:=up hd
  refine q_in (t184 NN d _ _) ?_
  unfold b184 m184
  refine q_len<|q_lp (A:=fun (s:Int×Int)=>[.int .i64 s.1,.int .i64 s.2]) (B:=fun s=>[]) 0 rr ?_ ?_ ?_
  ·intro s1
   unfold s184_0 ms184_0
   exact q_p fr<|q_i (q_ix rfl fun x1 hx1=>q_p fr<|q_cv (mg:=a1 x1) (E:=(fun (t:Bool)=>AV.bool t)) (fun S t ht=>tc1 d (by omega) k1 x1 S t ht) fun y1 hy1=>q_i (q_lret 0 rr)<|q_p fr<|q_norm 0 rr)<|q_exit 0 rr
  ·exact fun i1 s2=>q_n (q_ret (cv_p rfl) rfl)<|q_none
  ·exact fun s2=>q_ret (cv_p rfl) rfl
def m163 (a0:List Int) (a1:Int→Option (Bool)):Option (Bool):=(m184 a0 a1).bind fun y1=>some (decide (y1 ≥ 0))
theorem w163 {Dc:Nat} {d:Nat} (hd:Dc + 2≤d) (k0:Bool) (a0:List Int) (c1:Bool→AV) (hc1:∀ l,CV 8 [] false (c1 l) c1) (a1:Int→Option (Bool)) (tc1:∀ (d:Nat),Dc≤d→∀ (l:Bool) (x0:Int) (S:St) (t:Bool),a1 x0 = some t→callV (cfg NN) (R NN d) 184 (c1 l) [.int .i64 x0] S = some ((fun (t:Bool)=>AV.bool t) t,S)) (k1:Bool):Fit (R NN d 163 [.rsl k0 false (a0.map (Enc.cs k0)),c1 k1] []) (m163 a0 a1) PB:=by
  obtain ⟨d,rfl,g⟩:=up hd
  refine q_in (t163 NN d _ _) ?_
  unfold b163 m163
  exact q_c0 (aF2 cv_r (CV.any (hc1 k1)) fun l0_ l1_=>w184 (by omega) l0_ a0 c1 hc1 a1 tc1 l1_) fun y1 hy1=>q_p fr<|q_ret (cv_p rfl) rfl
def m164 (a0:Int) (a1:Int):Bool:=decide (a0 ≥ a1)
theorem w164 {d:Nat} (hd:1≤d) (a0:Int) (k1:Bool) (a1:Int):Fit (R NN d 164 [.int .i64 a0,.rp k1 (Enc.cs k1 a1)] []) (some (m164 a0 a1)) PB:=by
  obtain ⟨d,rfl,g⟩:=up hd
  refine q_in (t164 NN d _ _) ?_
  unfold b164 m164
  exact q_p fr<|q_p fr<|q_ret (cv_p rfl) rfl
def m127 (a0:TMsg) (a1:Int):Option (Bool):=(m163 a0.Refs (fun x0_=>some (m164 x0_ a1))).bind fun y1=>some (!y1)
theorem w127 {d:Nat} (hd:4≤d) (k0:Bool) (a0:TMsg) (a1:Int):Fit (R NN d 127 [.agg (Enc.cs k0 a0),.int .i64 a1] []) (m127 a0 a1) PB:=by
  obtain ⟨d,rfl,g⟩:=up hd
  refine q_in (t127 NN d _ _) ?_
  unfold b127 m127
  exact q_box (n:=7) rfl rfl (by decide) fun b1=>q_box (n:=1) rfl rfl (by decide) fun b2=>q_p fr<|q_ld 1 rfl rfl<|q_c0 (aF2 cv_r (cv_f (cvs_cons (cv_b 0 rfl (cvs_e (l0:=false) (x:=a1))) cvs_nil)) fun l0_ l1_=>w163 (Dc:=1) (by omega) l0_ a0.Refs (fun l=>.fn 164 [.rp l (Enc.cs l a1)]) (fun l=>cv_f (cvs_cons (cv_rp (cvs_e (l0:=l) (x:=a1)) (fun _ _ _ h=>Enc.frz _ a1 _ _ _ h)) cvs_nil)) (fun x0_=>some (m164 x0_ a1)) (fun d hd l x0_ S t ht=>(cv184_164 _ _ _ _).trans (call0_of (E:=(fun (t:Bool)=>AV.bool t)) (mg:=some (m164 x0_ a1)) (args2 (M:=fun a=>Fit (R NN d 164 a []) _ _) (cv_p rfl) (cv_rp (cvs_e (l0:=l) (x:=a1)) (fun _ _ _ h=>Enc.frz _ a1 _ _ _ h)) HP.nil fun u0_ v0_=>w164 hd x0_ v0_ a1) ht)) l1_) fun y1 hy1=>q_p fr<|q_ret (cv_p rfl) rfl
def m128 (a0:List TMsg):Option (List TMsg):=appO 88 [] a0
theorem w128c {d:Nat} (hd:1≤d) (v:AV) (S:St):R NN d 128 [v] S = pk (anil Tryz.prog 30 v) S fun r1=>ifA r1 (some (AV.rsl false true [],S)) (pq (quietS (abuildS Tryz.prog 30 0 [] S) S) fun r2=>pe (appA 7 88 r2 v S) fun r3 S3=>some (r3,S3)):=by
  obtain ⟨d,rfl,g⟩:=up hd
  exact t128 NN d v S
def m118 (a0:List Int):Option (List Int):=appO 8 [] a0
theorem w118 {d:Nat} (hd:1≤d) (k0:Bool) (a0:List Int):Fit (R NN d 118 [.rsl k0 false (a0.map (Enc.cs k0))] []) (m118 a0) (P1 (T:=List Int) one1):=by
  obtain ⟨d,rfl,g⟩:=up hd
  rw [t118]
  refine (?_:Okh [] (fun S=>b118 (cfg NN) (R NN d) (.rsl k0 false (a0.map (Enc.cs k0))) S) _ _) [] HP.nil
  unfold b118 m118
  refine q_nilc (e:=2) und22 (fun h S=>?_) ?_
  · subst h
    refine Eq.symm (show pq (quietS (abuildS _ _ _ _ S) S) _ = _ from ?_)
    rw [qs22_0]; rfl
  refine q_q (fun _=>qs22_0) ?_
  refine q_nil (α:=Int) false ?_
  rw [show appO 8 ([]:List Int) a0 = (appO 8 [] a0).bind some from by cases appO 8 ([]:List Int) a0 <;> rfl]
  refine q_app (ys:=a0) 0 rfl rfl (fun _ _=>rfl) fun v1 z1 hz1=>?_
  exact q_out (tb_sl 0 rfl plt2) rfl
def m165 (a0:List TCert):Option (List TCert):=appO 24 [] a0
theorem w165 {d:Nat} (hd:1≤d) (k0:Bool) (a0:List TCert):Fit (R NN d 165 [.rsl k0 false (a0.map (Enc.cs k0))] []) (m165 a0) (P1 (T:=List TCert) one1):=by
  obtain ⟨d,rfl,g⟩:=up hd
  rw [t165]
  refine (?_:Okh [] (fun S=>b165 (cfg NN) (R NN d) (.rsl k0 false (a0.map (Enc.cs k0))) S) _ _) [] HP.nil
  unfold b165 m165
  refine q_nilc (e:=124) und51 (fun h S=>?_) ?_
  · subst h
    refine Eq.symm (show pq (quietS (abuildS _ _ _ _ S) S) _ = _ from ?_)
    rw [qs51_0]; rfl
  refine q_q (fun _=>qs51_0) ?_
  refine q_nil (α:=TCert) false ?_
  rw [show appO 24 ([]:List TCert) a0 = (appO 24 [] a0).bind some from by cases appO 24 ([]:List TCert) a0 <;> rfl]
  refine q_app (ys:=a0) 0 rfl rfl (fun _ _=>rfl) fun v1 z1 hz1=>?_
  exact q_out (tb_sl 0 rfl plt124) rfl
def m129 (a0:TMsg):Option (TMsg):=(m165 a0.Certs).bind fun y1=>(m118 a0.Refs).bind fun y2=>some (⟨a0.Kind,a0.View,a0.From,a0.Slot,a0.Value,y1,y2⟩:TMsg)
theorem w129 {d:Nat} (hd:2≤d) (k0:Bool) (a0:TMsg):Fit (R NN d 129 [.agg (Enc.cs k0 a0)] []) (m129 a0) (P1 (T:=TMsg) AV.agg):=by
  obtain ⟨d,rfl,g⟩:=up hd
  refine q_in (t129 NN d _) ?_
  unfold b129 m129
  exact q_box (n:=7) rfl rfl (by decide) fun b1=>q_new rfl fun b2=>q_p fr<|q_ld 1 rfl rfl<|q_c1s (mg:=m165 a0.Certs) (aF1 cv_r fun l0_=>w165 (by omega) l0_ a0.Certs) fun y1 hy1 i1 v1=>q_p fr<|q_sto1 2 rfl (fun S hS=>(HP.cell1t hS 0 rfl)) rfl<|q_p fr<|q_ld 2 rfl rfl<|q_c1s (mg:=m118 a0.Refs) (aF1 cv_r fun l0_=>w118 (by omega) l0_ a0.Refs) fun y2 hy2 i2 v2=>q_p fr<|q_sto1 3 rfl (fun S hS=>(HP.cell1t hS 0 rfl)) rfl<|q_lda 3 rfl rfl rfl<|q_st 2 rfl rfl rfl (by decide) rfl<|q_outm (fun S hS=>hS.lda 2 rfl rfl) (tb_of (α:=TMsg) (β:=Int×Int×Int×Int×Int×(List TCert)×(List Int)) (f:=fun x=>(x.Kind,x.View,x.From,x.Slot,x.Value,x.Certs,x.Refs)) (x:=(⟨a0.Kind,a0.View,a0.From,a0.Slot,a0.Value,y1,y2⟩:TMsg)) rfl (tb_pair (tb_int (n:=a0.Kind)) (tb_pair (tb_int (n:=a0.View)) (tb_pair (tb_int (n:=a0.From)) (tb_pair (tb_int (n:=a0.Slot)) (tb_pair (tb_int (n:=a0.Value)) (tb_pair (tb_tr 1 rfl) (tb_tr 0 rfl)))))))) rfl
theorem w129f {d:Nat} (hd:2≤d) (k0:Bool) (a0:TMsg):Fit (R NN d 129 [.agg (Enc.cs k0 a0)] []) (m129 a0) (P0 (fun (t:TMsg)=>AV.agg (Enc.cs false t))):=p1_agg (w129 hd k0 a0)
def m86 (a0:List TMsg) (a1:TMsg):Option ((List TMsg)×Int):=(m127 a1 (a0.length:Int)).bind fun y1=>bif !y1 then some ([],4) else (m56 a0 a1).bind fun y2=>bif decide (y2 ≥ 0) then some (a0,0) else bif (a0.length:Int) == 240 then some ([],2) else (m128 a0).bind fun z1=>(m129 a1).bind fun y3=>(appO 88 z1 [y3]).bind fun z2=>some (z2,0)
theorem w86 {d:Nat} (hd:6≤d) (L0:List En) (i0_:List Nat) (v0_:AV) (a0:List TMsg) (c1_0 c1_1 c1_2 c1_3 c1_4 c1_5 c1_6:AV) (a1:TMsg) (hc1:CVs 7 [] false [c1_0,c1_1,c1_2,c1_3,c1_4,c1_5,c1_6] (fun l=>Enc.cs l a1)):Okh (wls i0_ v0_ (a0:List TMsg)::L0) (fun S=>R NN d 86 [v0_,.agg [c1_0,c1_1,c1_2,c1_3,c1_4,c1_5,c1_6]] S) (m86 a0 a1) (P8 i0_ v0_ a0 L0):=by
  obtain ⟨d,rfl,g⟩:=up hd
  refine q_to (t86 NN d _ _) ?_
  unfold b86 m86
  exact q_box (n:=7) rfl rfl (by decide) fun b1=>q_lda 0 rfl rfl rfl<|q_lens 1 rfl<|q_c0 (aF2 (cv_a (CVs.any hc1)) (cv_p rfl) fun l0_ l1_=>w127 (by omega) l0_ a1 (a0.length:Int)) fun y1 hy1=>q_p fr<|q_i (q_p8F 1 (by decide) rfl rfl)<|q_lda 0 rfl rfl rfl<|q_c0 (aF2 (cv_wls (α:=TMsg) 1 rfl) (cv_a (CVs.any hc1)) fun l0_ l1_=>w56 (by omega) l0_ a0 l1_ a1) fun y2 hy2=>q_p fr<|q_i (q_sel 2 [1,0] (by decide) (by decide)<|q_sel 2 [1,0] (by decide) (by decide)<|q_p8T 1 (by decide) rfl rfl)<|q_lens 1 rfl<|q_p fr<|q_i (q_p8F 1 (by decide) rfl rfl)<|q_lda 0 rfl rfl rfl<|q_sel 2 [1,0] (by decide) (by decide)<|q_cl3 (mg:=m128 a0) (fun S=>w128c (by omega) _ S) und30 qs30_0 rfl rfl fun z1 hz1 i1 v1=>q_c0 (aF1 (cv_a (CVs.any hc1)) fun l0_=>w129f (by omega) l0_ a1) fun y3 hy3=>q_e (fun _=>bs30_1 rfl)<|q_apw (y:=y3) (l:=false) (fl':=true) rfl fun z2 hz2 v2 i2=>q_was<|q_sel 2 [1,0] (by decide) (by decide)<|q_p8T 1 (by decide) rfl rfl
def m55 (a0:TCluster) (a1:TMsg):Option (Int×TCluster):=(m86 a0.Ledger a1).bind fun y1=>bif y1.2 == 0 then some (y1.2,(⟨a0.F,a0.Bad,a0.Replicas,y1.1,a0.Requests⟩:TCluster)) else some (y1.2,a0)
theorem w55 {d:Nat} (hd:7≤d) (L0:List En) (b0_:Nat) (i0_1 i0_2 i0_3 i0_4:List Nat) (v0_1 v0_2 v0_3 v0_4:AV) (a0:TCluster) (c1_0 c1_1 c1_2 c1_3 c1_4 c1_5 c1_6:AV) (a1:TMsg) (hc1:CVs 7 [] false [c1_0,c1_1,c1_2,c1_3,c1_4,c1_5,c1_6] (fun l=>Enc.cs l a1)):Okh (bx b0_ [.int .i64 a0.F,v0_1,v0_2,v0_3,v0_4]::tr i0_1 [v0_1] (a0.Bad:List Int)::tr i0_2 [v0_2] (a0.Replicas:List TReplica)::wls i0_3 v0_3 (a0.Ledger:List TMsg)::wla i0_4 v0_4 (a0.Requests:List TRequest)::L0) (fun S=>R NN d 55 [.bp b0_ 0 0 5 1,.agg [c1_0,c1_1,c1_2,c1_3,c1_4,c1_5,c1_6]] S) (m55 a0 a1) (P5 (fun (x:List Nat×List Nat×AV×AV) (t:Int×TCluster)=>AV.int .i64 t.1) (fun (x:List Nat×List Nat×AV×AV) (t:Int×TCluster)=>bx b0_ [.int .i64 t.2.F,v0_1,v0_2,x.2.2.1,x.2.2.2]::tr i0_1 [v0_1] (t.2.Bad:List Int)::tr i0_2 [v0_2] (t.2.Replicas:List TReplica)::wls x.1 x.2.2.1 (t.2.Ledger:List TMsg)::wla x.2.1 x.2.2.2 (t.2.Requests:List TRequest)::L0)):=by
  obtain ⟨d,rfl,g⟩:=up hd
  refine q_to (t55 NN d _ _) ?_
  unfold b55 m55
  exact q_box (n:=7) rfl rfl (by decide) fun b1=>q_q fr<|q_p fr<|q_ld 1 rfl rfl<|q_lda 0 rfl rfl rfl<|q_sel 6 [4,0,1,2,3,5] (by decide) (by decide)<|q_s8 (mg:=m86 a0.Ledger a1) (w86 (by omega) _ i0_3 v0_3 a0.Ledger c1_0 c1_1 c1_2 c1_3 c1_4 c1_5 c1_6 a1 hc1) (fun y1 hy1 hky1 i1 w1=>q_q fr<|q_q fr<|q_p fr<|q_ifkT hky1<|q_q fr<|q_p fr<|q_sto1 2 rfl (fun S hS=>(HP.cells_ hS 0 rfl)) rfl<|q_sel 6 [1,2,3,4,0,5] (by decide) (by decide)<|q_ret5 (i1,i0_4,w1,v0_4) 1 rfl rfl) fun y1 hy1 hky1=>q_q fr<|q_q fr<|q_p fr<|q_ifkF hky1<|q_sel 6 [1,2,3,4,0,5] (by decide) (by decide)<|q_ret5 (i0_3,i0_4,v0_3,v0_4) 1 rfl rfl
def m27 (a0:TCluster) (a1:Int):Option (Int×TCluster):=(getI a0.Replicas a1).bind fun x1=>(m54 x1 a0.F a0.Ledger).bind fun y1=>bif y1.Code != 0 then some (y1.Code,a0) else (m55 a0 y1.Msg).bind fun y2=>bif y2.1 != 0 then some (y2.1,y2.2) else (m56 y2.2.Ledger y1.Msg).bind fun y3=>(getI y2.2.Replicas a1).bind fun x2=>(getI y2.2.Replicas a1).bind fun x3=>(getI y2.2.Replicas a1).bind fun x4=>letO (y2.2.Replicas.set (Int.toNat a1) ({ x4 with Start:=y3 })) fun z1=>some (0,(⟨y2.2.F,y2.2.Bad,z1,y2.2.Ledger,y2.2.Requests⟩:TCluster))
theorem w27 {d:Nat} (hd:146≤d) (L0:List En) (b0_:Nat) (i0_1 i0_2 i0_3 i0_4:List Nat) (v0_1 v0_2 v0_3 v0_4:AV) (a0:TCluster) (a1:Int):Okh (bx b0_ [.int .i64 a0.F,v0_1,v0_2,v0_3,v0_4]::tr i0_1 [v0_1] (a0.Bad:List Int)::tr i0_2 [v0_2] (a0.Replicas:List TReplica)::wls i0_3 v0_3 (a0.Ledger:List TMsg)::wla i0_4 v0_4 (a0.Requests:List TRequest)::L0) (fun S=>R NN d 27 [.bp b0_ 0 0 5 1,elP 4 v0_2 (Int.toNat a1)] S) (m27 a0 a1) (P5 (fun (x:List Nat×List Nat×AV×AV) (t:Int×TCluster)=>AV.int .i64 t.1) (fun (x:List Nat×List Nat×AV×AV) (t:Int×TCluster)=>bx b0_ [.int .i64 t.2.F,v0_1,v0_2,x.2.2.1,x.2.2.2]::tr i0_1 [v0_1] (t.2.Bad:List Int)::tr i0_2 [v0_2] (t.2.Replicas:List TReplica)::wls x.1 x.2.2.1 (t.2.Ledger:List TMsg)::wla x.2.1 x.2.2.2 (t.2.Requests:List TRequest)::L0)):=by
  obtain ⟨d,rfl,g⟩:=up hd
  refine q_to (t27 NN d _ _) ?_
  unfold b27 m27
  exact q_new rfl fun b1=>q_q fr<|q_p fr<|q_ld 1 rfl rfl<|q_q fr<|q_p fr<|q_ld 1 rfl rfl<|q_gb fun x1 hx1=>q_c0 (aF3 (cv_el 3 rfl rfl hx1) (cv_p rfl) (cv_wls (α:=TMsg) 4 rfl) fun l0_ l1_ l2_=>w54 (by omega) l0_ x1 a0.F l2_ a0.Ledger) fun y1 hy1=>q_st 0 rfl rfl rfl (by decide) rfl<|q_p fr<|q_ld 0 rfl rfl<|q_p fr<|q_i (q_p fr<|q_ld 0 rfl rfl<|q_ret5 (i0_3,i0_4,v0_3,v0_4) 1 rfl rfl)<|q_p fr<|q_lda 0 rfl rfl rfl<|q_sel 6 [1,2,3,4,5,0] (by decide) (by decide)<|q_s5 (mg:=m55 a0 y1.Msg) (fun S=>rfl) (w55 (by omega) _ b0_ i0_1 i0_2 i0_3 i0_4 v0_1 v0_2 v0_3 v0_4 a0 _ _ _ _ _ _ _ y1.Msg (cvs_e (l0:=false) (x:=y1.Msg))) fun y2 hy2 ⟨i1,i2,v1,v2⟩=>q_p fr<|q_i (q_sel 6 [5,0,1,2,3,4] (by decide) (by decide)<|q_ret5 (i1,i2,v1,v2) 1 rfl rfl)<|q_q fr<|q_p fr<|q_ld 0 rfl rfl<|q_p fr<|q_lda 5 rfl rfl rfl<|q_c0 (aF2 (cv_wls (α:=TMsg) 3 rfl) (cv_a (cvs_e (l0:=false) (x:=y1.Msg))) fun l0_ l1_=>w56 (by omega) l0_ y2.2.Ledger l1_ y1.Msg) fun y3 hy3=>q_gb fun x2 hx2=>q_nile 2 rfl hx2<|q_gb fun x3 hx3=>q_flt 2 rfl hx3 (by decide)<|q_gb fun x4 hx4=>q_stl 2 rfl rfl hx4 rfl (up58_Start y3) fun z1 hz1=>q_sel 6 [5,0,1,2,3,4] (by decide) (by decide)<|q_ret5 (i1,i2,v1,v2) 1 rfl rfl
def ms122_0 (a0:List TReplica) (a1:TReplica→Option (Bool)) (s1:Int×Int):Option (LO (Int×Int)):=bif decide (s1.2 < (a0.length:Int)) then (getI a0 s1.2).bind fun x1=>(a1 x1).bind fun y1=>bif y1 then some (LO.ret (s1.2,s1.2)) else some (LO.norm (s1.1,wi .i64 (s1.2 + 1))) else some (LO.exit 0 (s1.1,s1.2))
def m122 (a0:List TReplica) (a1:TReplica→Option (Bool)):Option (Int):=(loopO (ms122_0 a0 a1) NN (0,0)).bind (contO (fun _=>none) (fun i1 s2=>if i1 = 0 then some (-1) else none) (fun s2=>some s2.1))
theorem w122 {Dc:Nat} {d:Nat} (hd:Dc + 1≤d) (k0:Bool) (a0:List TReplica) (c1:Bool→AV) (hc1:∀ l,CV 8 [] false (c1 l) c1) (a1:TReplica→Option (Bool)) (tc1:∀ (d:Nat),Dc≤d→∀ (l:Bool) (q0:Bool) (x0:TReplica) (S:St) (t:Bool),a1 x0 = some t→callV (cfg NN) (R NN d) 122 (c1 l) [.agg (Enc.cs q0 x0)] S = some ((fun (t:Bool)=>AV.bool t) t,S)) (k1:Bool):Fit (R NN d 122 [.rsl k0 false (a0.map (Enc.cs k0)),c1 k1] []) (m122 a0 a1) PI:=by
  obtain ⟨d,rfl,g⟩:=up hd
  refine q_in (t122 NN d _ _) ?_
  unfold b122 m122
  refine q_len<|q_lp (A:=fun (s:Int×Int)=>[.int .i64 s.1,.int .i64 s.2]) (B:=fun s=>[]) 0 rr ?_ ?_ ?_
  ·intro s1
   unfold s122_0 ms122_0
   exact q_p fr<|q_i (q_ix rfl fun x1 hx1=>q_p fr<|q_cv (mg:=a1 x1) (E:=(fun (t:Bool)=>AV.bool t)) (fun S t ht=>tc1 d (by omega) k1 k0 x1 S t ht) fun y1 hy1=>q_i (q_lret 0 rr)<|q_p fr<|q_norm 0 rr)<|q_exit 0 rr
  ·exact fun i1 s2=>q_n (q_ret (cv_p rfl) rfl)<|q_none
  ·exact fun s2=>q_ret (cv_p rfl) rfl
def m123 (a0:TReplica) (a1:Int):Bool:=a0.Id == a1
theorem w123 {d:Nat} (hd:1≤d) (k0:Bool) (a0:TReplica) (k1:Bool) (a1:Int):Fit (R NN d 123 [.agg (Enc.cs k0 a0),.rp k1 (Enc.cs k1 a1)] []) (some (m123 a0 a1)) PB:=by
  obtain ⟨d,rfl,g⟩:=up hd
  refine q_in (t123 NN d _ _) ?_
  unfold b123 m123
  exact q_box (n:=4) rfl rfl (by decide) fun b1=>q_p fr<|q_ld 0 rfl rfl<|q_p fr<|q_p fr<|q_ret (cv_p rfl) rfl
def m83 (a0:TCluster) (a1:Int):Option ((Option TReplica)):=(m122 a0.Replicas (fun x0_=>some (m123 x0_ a1))).bind fun y1=>bif decide (y1 < 0) then some none else (getI a0.Replicas y1).bind fun x1=>some (some x1)
def m83c (a0:TCluster) (a1:Int):Option (Option Int):=(m122 a0.Replicas (fun x0_=>some (m123 x0_ a1))).bind fun y1=>bif decide (y1 < 0) then some none else (getI a0.Replicas y1).bind fun x1=>some (some y1)
theorem w83c {d:Nat} (hd:3≤d) (L0:List En) (b0_:Nat) (i0_1 i0_2 i0_3 i0_4:List Nat) (v0_1 v0_2 v0_3 v0_4:AV) (a0:TCluster) (a1:Int):Okh (bx b0_ [.int .i64 a0.F,v0_1,v0_2,v0_3,v0_4]::tr i0_1 [v0_1] (a0.Bad:List Int)::tr i0_2 [v0_2] (a0.Replicas:List TReplica)::wls i0_3 v0_3 (a0.Ledger:List TMsg)::wla i0_4 v0_4 (a0.Requests:List TRequest)::L0) (fun S=>R NN d 83 [.bp b0_ 0 0 5 1,.int .i64 a1] S) (m83c a0 a1) (P3 (fun (x:Bool) (t:Option Int)=>t.elim AV.nilp fun r=>elP 4 v0_2 (Int.toNat r)) (fun (_:Option Int)=>bx b0_ [.int .i64 a0.F,v0_1,v0_2,v0_3,v0_4]::tr i0_1 [v0_1] (a0.Bad:List Int)::tr i0_2 [v0_2] (a0.Replicas:List TReplica)::wls i0_3 v0_3 (a0.Ledger:List TMsg)::wla i0_4 v0_4 (a0.Requests:List TRequest)::L0)):=by
  obtain ⟨d,rfl,g⟩:=up hd
  refine q_to (t83 NN d _ _) ?_
  unfold b83 m83c
  exact q_box (n:=1) rfl rfl (by decide) fun b1=>q_q fr<|q_p fr<|q_ld 1 rfl rfl<|q_c0 (aF2 (cv_tr 3 rfl) (cv_f (cvs_cons (cv_b 0 rfl (cvs_e (l0:=false) (x:=a1))) cvs_nil)) fun l0_ l1_=>w122 (Dc:=1) (by omega) l0_ a0.Replicas (fun l=>.fn 123 [.rp l (Enc.cs l a1)]) (fun l=>cv_f (cvs_cons (cv_rp (cvs_e (l0:=l) (x:=a1)) (fun _ _ _ h=>Enc.frz _ a1 _ _ _ h)) cvs_nil)) (fun x0_=>some (m123 x0_ a1)) (fun d hd l q0_ x0_ S t ht=>(cv122_123 _ _ _ _).trans (call0_of (E:=(fun (t:Bool)=>AV.bool t)) (mg:=some (m123 x0_ a1)) (args2 (M:=fun a=>Fit (R NN d 123 a []) _ _) (cv_a (cvs_e (l0:=q0_) (x:=x0_))) (cv_rp (cvs_e (l0:=l) (x:=a1)) (fun _ _ _ h=>Enc.frz _ a1 _ _ _ h)) HP.nil fun u0_ v0_=>w123 hd u0_ x0_ v0_ a1) ht)) l1_) fun y1 hy1=>q_p fr<|q_i (q_ret3 false 1 rfl rfl)<|q_q fr<|q_p fr<|q_ld 1 rfl rfl<|q_ixt 3 rfl rfl fun x1 hx1=>q_ret3 false 1 rfl rfl
def m53 (a0:TCluster) (a1:Int):Option (Int×TCluster):=(m83c a0 a1).bind fun y1=>optO y1 ( some (4,a0)) fun r1=>(getI a0.Replicas r1).bind fun x2=>(m27 a0 r1).bind fun y2=>some (y2.1,y2.2)
theorem w53 {d:Nat} (hd:147≤d) (L0:List En) (b0_:Nat) (i0_1 i0_2 i0_3 i0_4:List Nat) (v0_1 v0_2 v0_3 v0_4:AV) (a0:TCluster) (a1:Int):Okh (bx b0_ [.int .i64 a0.F,v0_1,v0_2,v0_3,v0_4]::tr i0_1 [v0_1] (a0.Bad:List Int)::tr i0_2 [v0_2] (a0.Replicas:List TReplica)::wls i0_3 v0_3 (a0.Ledger:List TMsg)::wla i0_4 v0_4 (a0.Requests:List TRequest)::L0) (fun S=>R NN d 53 [.bp b0_ 0 0 5 1,.int .i64 a1,.fn 27 []] S) (m53 a0 a1) (P5 (fun (x:List Nat×List Nat×AV×AV) (t:Int×TCluster)=>AV.int .i64 t.1) (fun (x:List Nat×List Nat×AV×AV) (t:Int×TCluster)=>bx b0_ [.int .i64 t.2.F,v0_1,v0_2,x.2.2.1,x.2.2.2]::tr i0_1 [v0_1] (t.2.Bad:List Int)::tr i0_2 [v0_2] (t.2.Replicas:List TReplica)::wls x.1 x.2.2.1 (t.2.Ledger:List TMsg)::wla x.2.1 x.2.2.2 (t.2.Requests:List TRequest)::L0)):=by
  obtain ⟨d,rfl,g⟩:=up hd
  refine q_to (t53 NN d _ _ _) ?_
  unfold b53 m53
  refine q_s3o (mg:=m83c a0 a1) (v0:=fun _=>AV.nilp) (v1:=fun x r=>elP 4 v0_2 (Int.toNat r)) (fun _=>rfl) (fun _ _=>rfl) (w83c (by omega) _ b0_ i0_1 i0_2 i0_3 i0_4 v0_1 v0_2 v0_3 v0_4 a0 a1) (fun x1=>?_) (fun r1 x1 hy1=>?_)
  ·refine q_p (fun _=>peql86n) ?_
   first | refine q_ifT1 ?_ | skip
   exact q_ret5 (i0_3,i0_4,v0_3,v0_4) 0 rfl rfl
  ·refine q_gb fun x2 hx2=>q_pe (f:=fun a=>abin Tryz.prog .eql 86 a .nilp) 2 rfl hx2 (fun _ _ _ _ _=>pbeql86 _ _ _ _ _) ?_
   first | refine q_ifF1 ?_ | skip
   exact q_s5 (mg:=m27 a0 r1) (fun S=>cw53_27 _ _ _ _) (w27 (by omega) _ b0_ i0_1 i0_2 i0_3 i0_4 v0_1 v0_2 v0_3 v0_4 a0 r1) fun y2 hy2 ⟨i1,i2,v1,v2⟩=>q_ret5 (i1,i2,v1,v2) 0 rfl rfl
def m52 (a0:TCluster) (a1:Int):Option (Int×TCluster):=(m53 a0 a1).bind fun y1=>some (y1.1,y1.2)
theorem w52 {d:Nat} (hd:148≤d) (L0:List En) (b0_:Nat) (i0_1 i0_2 i0_3 i0_4:List Nat) (v0_1 v0_2 v0_3 v0_4:AV) (a0:TCluster) (k1:Bool) (a1:Int) (k2:Bool):Okh (bx b0_ [.int .i64 a0.F,v0_1,v0_2,v0_3,v0_4]::tr i0_1 [v0_1] (a0.Bad:List Int)::tr i0_2 [v0_2] (a0.Replicas:List TReplica)::wls i0_3 v0_3 (a0.Ledger:List TMsg)::wla i0_4 v0_4 (a0.Requests:List TRequest)::L0) (fun S=>R NN d 52 [.bp b0_ 0 0 5 1,.rp k1 (Enc.cs k1 a1),.rp k2 [.fn 27 []]] S) (m52 a0 a1) (P5 (fun (x:List Nat×List Nat×AV×AV) (t:Int×TCluster)=>AV.int .i64 t.1) (fun (x:List Nat×List Nat×AV×AV) (t:Int×TCluster)=>bx b0_ [.int .i64 t.2.F,v0_1,v0_2,x.2.2.1,x.2.2.2]::tr i0_1 [v0_1] (t.2.Bad:List Int)::tr i0_2 [v0_2] (t.2.Replicas:List TReplica)::wls x.1 x.2.2.1 (t.2.Ledger:List TMsg)::wla x.2.1 x.2.2.2 (t.2.Requests:List TRequest)::L0)):=by
  obtain ⟨d,rfl,g⟩:=up hd
  refine q_to (t52 NN d _ _ _) ?_
  unfold b52 m52
  exact q_p fr<|q_p fr<|q_s5 (mg:=m53 a0 a1) (fun S=>rfl) (w53 (by omega) _ b0_ i0_1 i0_2 i0_3 i0_4 v0_1 v0_2 v0_3 v0_4 a0 a1) fun y1 hy1 ⟨i1,i2,v1,v2⟩=>q_ret5 (i1,i2,v1,v2) 0 rfl rfl
def m143 (a0:Int):Bool:=(m148 a0 1 2)
theorem w143 {d:Nat} (hd:2≤d) (a0:Int):Fit (R NN d 143 [.int .i64 a0] []) (some (m143 a0)) PB:=by
  obtain ⟨d,rfl,g⟩:=up hd
  refine q_in (t143 NN d _) ?_
  unfold b143 m143
  exact q_c0t (aF3 (cv_p rfl) (cv_p rfl) (cv_p rfl) fun l0_ l1_ l2_=>w148 (by omega) a0 1 2)<|q_ret (cv_p rfl) rfl
def m145 (a0:Int) (a1:Int):Bool:=(m148 a1 1 (m124 a0))
theorem w145 {d:Nat} (hd:2≤d) (a0:Int) (a1:Int):Fit (R NN d 145 [.int .i64 a0,.int .i64 a1] []) (some (m145 a0 a1)) PB:=by
  obtain ⟨d,rfl,g⟩:=up hd
  refine q_in (t145 NN d _ _) ?_
  unfold b145 m145
  exact q_c0t (aF1 (cv_p rfl) fun l0_=>w124 (by omega) a0)<|q_c0t (aF3 (cv_p rfl) (cv_p rfl) (cv_p rfl) fun l0_ l1_ l2_=>w148 (by omega) a1 1 (m124 a0))<|q_ret (cv_p rfl) rfl
def m170 (a0:Int):Bool:=(m148 a0 1 3)
theorem w170 {d:Nat} (hd:2≤d) (a0:Int):Fit (R NN d 170 [.int .i64 a0] []) (some (m170 a0)) PB:=by
  obtain ⟨d,rfl,g⟩:=up hd
  refine q_in (t170 NN d _) ?_
  unfold b170 m170
  exact q_c0t (aF3 (cv_p rfl) (cv_p rfl) (cv_p rfl) fun l0_ l1_ l2_=>w148 (by omega) a0 1 3)<|q_ret (cv_p rfl) rfl
def m173 (a0:TCert) (a1:TMsg):Option (Bool):=( bif !(m171 a0.Slot) then some (LO.norm true) else bif !(m148 a0.View 0 (wi .i64 (a1.View - 1))) then some (LO.norm true) else some (LO.norm (!(m172 a0.Value)))).bind (contO (fun s2=>some s2) (fun i1 s2=>none) (fun s2=>some s2))
theorem w173 {d:Nat} (hd:3≤d) (k0:Bool) (a0:TCert) (k1:Bool) (a1:TMsg):Fit (R NN d 173 [.agg (Enc.cs k0 a0),.rp k1 (Enc.cs k1 a1)] []) (m173 a0 a1) PB:=by
  obtain ⟨d,rfl,g⟩:=up hd
  refine q_in (t173 NN d _ _) ?_
  unfold b173 m173
  refine q_box (n:=3) rfl rfl (by decide) fun b1=>q_cu (A:=fun (s:Bool)=>[.bool s]) (B:=fun s=>[bx b1 [.int .i64 a0.Slot,.int .i64 a0.View,.int .i64 a0.Value]]) ?_ ?_ ?_ ?_
  ·exact q_p fr<|q_ld 0 rfl rfl<|q_c0t (aF1 (cv_p rfl) fun l0_=>w171 (by omega) a0.Slot)<|q_p fr<|q_j (q_norm 0 rr)<|q_p fr<|q_ld 0 rfl rfl<|q_p fr<|q_p fr<|q_p fr<|q_c0t (aF3 (cv_p rfl) (cv_p rfl) (cv_p rfl) fun l0_ l1_ l2_=>w148 (by omega) a0.View 0 (wi .i64 (a1.View - 1)))<|q_p fr<|q_j (q_norm 0 rr)<|q_p fr<|q_ld 0 rfl rfl<|q_c0t (aF1 (cv_p rfl) fun l0_=>w172 (by omega) a0.Value)<|q_p fr<|q_norm 0 rr
  ·exact fun s2=>q_ret (cv_p rfl) rfl
  ·exact fun i1 s2=>q_none
  ·exact fun s2=>q_ret (cv_p rfl) rfl
def m174 (a0:Int):Bool:=!(m148 a0 0 239)
theorem w174 {d:Nat} (hd:2≤d) (a0:Int):Fit (R NN d 174 [.int .i64 a0] []) (some (m174 a0)) PB:=by
  obtain ⟨d,rfl,g⟩:=up hd
  refine q_in (t174 NN d _) ?_
  unfold b174 m174
  exact q_c0t (aF3 (cv_p rfl) (cv_p rfl) (cv_p rfl) fun l0_ l1_ l2_=>w148 (by omega) a0 0 239)<|q_p fr<|q_ret (cv_p rfl) rfl
def ms144_0 (a1:TMsg) (s7:Int×Int):Option (LO (Int×Int)):=bif decide (s7.2 < (a1.Certs.length:Int)) then ( (getI a1.Certs s7.2).bind fun x1=>bif decide (s7.2 > 0) then (getI a1.Certs (wi .i64 (s7.2 - 1))).bind fun x2=>bif decide (x1.Slot≤x2.Slot) then some (LO.ret 1) else some (LO.norm s7.1) else some (LO.norm s7.1)).bind (contO (fun s9=>some (LO.norm (s9,wi .i64 (s7.2 + 1)))) (fun i4 s9=>some (LO.exit i4 (s9,s7.2))) (fun s9=>some (LO.ret (s9,s7.2)))) else some (LO.exit 1 (s7.1,s7.2))
def ms144_1 (a1:TMsg) (s11:Int×Int):Option (LO (Int×Int)):=bif decide (s11.2 < (a1.Refs.length:Int)) then ( (getI a1.Refs s11.2).bind fun x3=>bif decide (s11.2 > 0) then (getI a1.Refs (wi .i64 (s11.2 - 1))).bind fun x4=>bif decide (x3≤x4) then some (LO.ret 1) else some (LO.norm s11.1) else some (LO.norm s11.1)).bind (contO (fun s13=>some (LO.norm (s13,wi .i64 (s11.2 + 1)))) (fun i6 s13=>some (LO.exit i6 (s13,s11.2))) (fun s13=>some (LO.ret (s13,s11.2)))) else some (LO.exit 3 (s11.1,s11.2))
def m144 (a0:Int) (a1:TMsg):Option (Int):=( ( bif !(m148 a1.Kind 1 5) then some (LO.norm true) else bif !(m170 a1.Kind) then bif a1.Slot != 0 then some (LO.norm true) else bif a1.Value != 0 then some (LO.norm true) else bif a1.Kind != 4 then bif decide ((a1.Certs.length:Int) > 0) then some (LO.norm true) else bif a1.Kind != 5 then some (LO.norm (decide ((a1.Refs.length:Int) > 0))) else some (LO.norm false) else bif a1.Kind != 5 then some (LO.norm (decide ((a1.Refs.length:Int) > 0))) else some (LO.norm false) else bif a1.Kind != 4 then bif decide ((a1.Certs.length:Int) > 0) then some (LO.norm true) else bif a1.Kind != 5 then some (LO.norm (decide ((a1.Refs.length:Int) > 0))) else some (LO.norm false) else bif a1.Kind != 5 then some (LO.norm (decide ((a1.Refs.length:Int) > 0))) else some (LO.norm false)).bind (contO (fun s3=>bif s3 then some (LO.ret 1) else ( bif !(m147 a1.View) then some (LO.norm true) else bif !(m145 a0 a1.From) then some (LO.norm true) else bif (m170 a1.Kind) then bif !(m171 a1.Slot) then some (LO.norm true) else some (LO.norm (!(m172 a1.Value))) else some (LO.norm false)).bind (contO (fun s5=>bif s5 then some (LO.ret 3) else bif decide ((a1.Certs.length:Int) > 30) then some (LO.ret 2) else bif decide ((a1.Refs.length:Int) > (m124 a0)) then some (LO.ret 2) else some (LO.norm 0)) (fun i2 s5=>if i2 = 0 then some (LO.norm 0) else some (LO.exit i2 0)) (fun s5=>some (LO.ret 0)))) (fun i1 s3=>if i1 = 0 then some (LO.norm 0) else some (LO.exit i1 0)) (fun s3=>some (LO.ret 0)))).bind (contO (fun s6=>(loopO (ms144_0 a1) NN (s6,0)).bind (contO (fun _=>none) (fun i5 s10=>if i5 = 1 then (loopO (ms144_1 a1) NN (s10.1,0)).bind (contO (fun _=>none) (fun i7 s14=>if i7 = 3 then (m160 a1.Certs (fun x0_=>m173 x0_ a1)).bind fun y1=>bif y1 then some 3 else (m163 a1.Refs (fun x0_=>some (m174 x0_))).bind fun y2=>bif y2 then some 3 else some 0 else none) (fun s14=>some s14.1)) else none) (fun s10=>some s10.1))) (fun i3 s6=>none) (fun s6=>some s6))
theorem w144 {d:Nat} (hd:6≤d) (a0:Int) (k1:Bool) (a1:TMsg):Fit (R NN d 144 [.int .i64 a0,.agg (Enc.cs k1 a1)] []) (m144 a0 a1) PI:=by
  obtain ⟨d,rfl,g⟩:=up hd
  refine q_in (t144 NN d _ _) ?_
  unfold b144 m144
  refine q_box (n:=7) rfl rfl (by decide) fun b1=>q_p fr<|q_ld 0 rfl rfl<|q_c0t (aF1 (cv_p rfl) fun l0_=>w170 (by omega) a1.Kind)<|q_cu (A:=fun (s:Int)=>[.int .i64 s]) (B:=fun s=>[bx b1 [.int .i64 a1.Kind,.int .i64 a1.View,.int .i64 a1.From,.int .i64 a1.Slot,.int .i64 a1.Value,.rsl k1 false (a1.Certs.map (Enc.cs k1)),.rsl k1 false (a1.Refs.map (Enc.cs k1))]]) ?_ ?_ ?_ ?_
  ·refine q_cu (A:=fun (s:Bool)=>[.bool s]) (B:=fun s=>[bx b1 [.int .i64 a1.Kind,.int .i64 a1.View,.int .i64 a1.From,.int .i64 a1.Slot,.int .i64 a1.Value,.rsl k1 false (a1.Certs.map (Enc.cs k1)),.rsl k1 false (a1.Refs.map (Enc.cs k1))]]) ?_ ?_ ?_ ?_
   ·exact q_p fr<|q_ld 0 rfl rfl<|q_c0t (aF3 (cv_p rfl) (cv_p rfl) (cv_p rfl) fun l0_ l1_ l2_=>w148 (by omega) a1.Kind 1 5)<|q_p fr<|q_j (q_norm 0 rr)<|q_p fr<|q_k (q_p fr<|q_ld 0 rfl rfl<|q_p fr<|q_j (q_norm 0 rr)<|q_p fr<|q_ld 0 rfl rfl<|q_p fr<|q_j (q_norm 0 rr)<|q_p fr<|q_ld 0 rfl rfl<|q_p fr<|q_k (q_p fr<|q_ld 0 rfl rfl<|q_len<|q_p fr<|q_j (q_norm 0 rr)<|q_p fr<|q_ld 0 rfl rfl<|q_p fr<|q_k (q_p fr<|q_ld 0 rfl rfl<|q_len<|q_p fr<|q_norm 0 rr)<|q_norm 0 rr)<|q_p fr<|q_ld 0 rfl rfl<|q_p fr<|q_k (q_p fr<|q_ld 0 rfl rfl<|q_len<|q_p fr<|q_norm 0 rr)<|q_norm 0 rr)<|q_p fr<|q_ld 0 rfl rfl<|q_p fr<|q_k (q_p fr<|q_ld 0 rfl rfl<|q_len<|q_p fr<|q_j (q_norm 0 rr)<|q_p fr<|q_ld 0 rfl rfl<|q_p fr<|q_k (q_p fr<|q_ld 0 rfl rfl<|q_len<|q_p fr<|q_norm 0 rr)<|q_norm 0 rr)<|q_p fr<|q_ld 0 rfl rfl<|q_p fr<|q_k (q_p fr<|q_ld 0 rfl rfl<|q_len<|q_p fr<|q_norm 0 rr)<|q_norm 0 rr
   ·intro s3
    refine q_i ?_ ?_
    ·exact q_lret 0 rr
    ·refine q_cu (A:=fun (s:Bool)=>[.bool s]) (B:=fun s=>[bx b1 [.int .i64 a1.Kind,.int .i64 a1.View,.int .i64 a1.From,.int .i64 a1.Slot,.int .i64 a1.Value,.rsl k1 false (a1.Certs.map (Enc.cs k1)),.rsl k1 false (a1.Refs.map (Enc.cs k1))]]) ?_ ?_ ?_ ?_
     ·exact q_p fr<|q_ld 0 rfl rfl<|q_c0t (aF1 (cv_p rfl) fun l0_=>w147 (by omega) a1.View)<|q_p fr<|q_j (q_norm 0 rr)<|q_p fr<|q_ld 0 rfl rfl<|q_c0t (aF2 (cv_p rfl) (cv_p rfl) fun l0_ l1_=>w145 (by omega) a0 a1.From)<|q_p fr<|q_j (q_norm 0 rr)<|q_k (q_p fr<|q_ld 0 rfl rfl<|q_c0t (aF1 (cv_p rfl) fun l0_=>w171 (by omega) a1.Slot)<|q_p fr<|q_j (q_norm 0 rr)<|q_p fr<|q_ld 0 rfl rfl<|q_c0t (aF1 (cv_p rfl) fun l0_=>w172 (by omega) a1.Value)<|q_p fr<|q_norm 0 rr)<|q_norm 0 rr
     ·intro s5
      refine q_i ?_ ?_
      ·exact q_lret 0 rr
      ·refine q_p fr<|q_ld 0 rfl rfl<|q_len<|q_p fr<|q_j ?_ ?_
       ·first | refine q_ifT1 ?_ | skip
        exact q_lret 0 rr
       ·exact q_p fr<|q_ld 0 rfl rfl<|q_len<|q_c0t (aF1 (cv_p rfl) fun l0_=>w124 (by omega) a0)<|q_p fr<|q_i (q_lret 0 rr)<|q_norm 0 rr
     ·exact fun i2 s5=>q_n (q_norm 0 rr)<|q_exit 0 rr
     ·exact fun s5=>q_lret 0 rr
   ·exact fun i1 s3=>q_n (q_norm 0 rr)<|q_exit 0 rr
   ·exact fun s3=>q_lret 0 rr
  ·intro s6
   refine q_p fr<|q_ld 0 rfl rfl<|q_len<|q_lp (A:=fun (s:Int×Int)=>[.int .i64 s.1,.int .i64 s.2]) (B:=fun s=>[bx b1 [.int .i64 a1.Kind,.int .i64 a1.View,.int .i64 a1.From,.int .i64 a1.Slot,.int .i64 a1.Value,.rsl k1 false (a1.Certs.map (Enc.cs k1)),.rsl k1 false (a1.Refs.map (Enc.cs k1))]]) 0 rr ?_ ?_ ?_
   ·intro s7
    unfold s144_0 ms144_0
    refine q_p fr<|q_i ?_ ?_
    ·refine q_cu (A:=fun (s:Int)=>[.int .i64 s]) (B:=fun s=>[bx b1 [.int .i64 a1.Kind,.int .i64 a1.View,.int .i64 a1.From,.int .i64 a1.Slot,.int .i64 a1.Value,.rsl k1 false (a1.Certs.map (Enc.cs k1)),.rsl k1 false (a1.Refs.map (Enc.cs k1))]]) ?_ ?_ ?_ ?_
     ·refine q_ix rfl fun x1 hx1=>q_p fr<|q_new rfl fun b2=>q_st 0 rfl rfl rfl (by decide) rfl<|q_p fr<|q_k ?_ ?_
      ·exact q_p fr<|q_ld 0 rfl rfl<|q_p fr<|q_ld 1 rfl rfl<|q_p fr<|q_ix rfl fun x2 hx2=>q_p fr<|q_p fr<|q_p fr<|q_i (q_lret 1 rr)<|q_norm 1 rr
      ·first | refine q_ifF1 ?_ | skip
       exact q_norm 1 rr
     ·exact fun s9=>q_p fr<|q_norm 0 rr
     ·exact fun i4 s9=>q_exit 0 rr
     ·exact fun s9=>q_lret 0 rr
    ·exact q_exit 0 rr
   ·intro i5 s10
    refine q_n ?_ ?_
    ·refine q_p fr<|q_ld 0 rfl rfl<|q_len<|q_lp (A:=fun (s:Int×Int)=>[.int .i64 s.1,.int .i64 s.2]) (B:=fun s=>[bx b1 [.int .i64 a1.Kind,.int .i64 a1.View,.int .i64 a1.From,.int .i64 a1.Slot,.int .i64 a1.Value,.rsl k1 false (a1.Certs.map (Enc.cs k1)),.rsl k1 false (a1.Refs.map (Enc.cs k1))]]) 0 rr ?_ ?_ ?_
     ·intro s11
      unfold s144_1 ms144_1
      refine q_p fr<|q_i ?_ ?_
      ·refine q_cu (A:=fun (s:Int)=>[.int .i64 s]) (B:=fun s=>[bx b1 [.int .i64 a1.Kind,.int .i64 a1.View,.int .i64 a1.From,.int .i64 a1.Slot,.int .i64 a1.Value,.rsl k1 false (a1.Certs.map (Enc.cs k1)),.rsl k1 false (a1.Refs.map (Enc.cs k1))]]) ?_ ?_ ?_ ?_
       ·refine q_ix rfl fun x3 hx3=>q_p fr<|q_p fr<|q_k ?_ ?_
        ·exact q_p fr<|q_ld 0 rfl rfl<|q_p fr<|q_ix rfl fun x4 hx4=>q_p fr<|q_p fr<|q_i (q_lret 0 rr)<|q_norm 0 rr
        ·first | refine q_ifF1 ?_ | skip
         exact q_norm 0 rr
       ·exact fun s13=>q_p fr<|q_norm 0 rr
       ·exact fun i6 s13=>q_exit 0 rr
       ·exact fun s13=>q_lret 0 rr
      ·exact q_exit 0 rr
     ·exact fun i7 s14=>q_n (q_p fr<|q_ld 0 rfl rfl<|q_c0 (aF2 cv_r (cv_f (cvs_cons (cv_b 0 rfl (cvs_e (l0:=k1) (x:=a1))) cvs_nil)) fun l0_ l1_=>w160 (Dc:=3) (by omega) l0_ a1.Certs (fun l=>.fn 173 [.rp l (Enc.cs l a1)]) (fun l=>cv_f (cvs_cons (cv_rp (cvs_e (l0:=l) (x:=a1)) (fun _ _ _ h=>Enc.frz _ a1 _ _ _ h)) cvs_nil)) (fun x0_=>m173 x0_ a1) (fun d hd l q0_ x0_ S t ht=>(cv183_173 _ _ _ _).trans (call0_of (E:=(fun (t:Bool)=>AV.bool t)) (mg:=m173 x0_ a1) (args2 (M:=fun a=>Fit (R NN d 173 a []) _ _) (cv_a (cvs_e (l0:=q0_) (x:=x0_))) (cv_rp (cvs_e (l0:=l) (x:=a1)) (fun _ _ _ h=>Enc.frz _ a1 _ _ _ h)) HP.nil fun u0_ v0_=>w173 hd u0_ x0_ v0_ a1) ht)) l1_) fun y1 hy1=>q_i (q_ret (cv_p rfl) rfl)<|q_p fr<|q_ld 0 rfl rfl<|q_c0 (aF2 cv_r (cv_f cvs_nil) fun l0_ l1_=>w163 (Dc:=2) (by omega) l0_ a1.Refs (fun l=>.fn 174 []) (fun l=>cv_f cvs_nil) (fun x0_=>some (m174 x0_)) (fun d hd l x0_ S t ht=>(cv184_174 _ _ _ _).trans (call0_of (E:=(fun (t:Bool)=>AV.bool t)) (mg:=some (m174 x0_)) (args1 (M:=fun a=>Fit (R NN d 174 a []) _ _) (cv_p rfl) HP.nil fun u0_=>w174 hd x0_) ht)) l1_) fun y2 hy2=>q_i (q_ret (cv_p rfl) rfl)<|q_ret (cv_p rfl) rfl)<|q_none
     ·exact fun s14=>q_ret (cv_p rfl) rfl
    ·exact q_none
   ·exact fun s10=>q_ret (cv_p rfl) rfl
  ·exact fun i3 s6=>q_none
  ·exact fun s6=>q_ret (cv_p rfl) rfl
def ms110_0 (a0:Int) (a1:List TMsg) (s1:Int×Int):Option (LO (Int×Int)):=bif decide (s1.2 < (a1.length:Int)) then (getI a1 s1.2).bind fun x1=>(m144 a0 x1).bind fun y1=>bif y1 != 0 then some (LO.ret (y1,s1.2)) else (m127 x1 s1.2).bind fun y2=>bif !y2 then some (LO.ret (4,s1.2)) else (subI a1 0 s1.2).bind fun ys1=>(m56 ys1 x1).bind fun y3=>bif decide (y3 ≥ 0) then some (LO.ret (6,s1.2)) else some (LO.norm (s1.1,wi .i64 (s1.2 + 1))) else some (LO.exit 1 (s1.1,s1.2))
def m110 (a0:Int) (a1:List TMsg):Option (Int):=bif !(m143 a0) then some 3 else bif decide ((a1.length:Int) > 240) then some 2 else (loopO (ms110_0 a0 a1) NN (0,0)).bind (contO (fun _=>none) (fun i1 s2=>if i1 = 1 then some 0 else none) (fun s2=>some s2.1))
theorem w110 {d:Nat} (hd:7≤d) (a0:Int) (k1:Bool) (a1:List TMsg):Fit (R NN d 110 [.int .i64 a0,.rsl k1 false (a1.map (Enc.cs k1))] []) (m110 a0 a1) PI:=by
  obtain ⟨d,rfl,g⟩:=up hd
  refine q_in (t110 NN d _ _) ?_
  unfold b110 m110
  refine q_c0t (aF1 (cv_p rfl) fun l0_=>w143 (by omega) a0)<|q_p fr<|q_i ?_ ?_
  ·exact q_ret (cv_p rfl) rfl
  ·refine q_len<|q_p fr<|q_i ?_ ?_
   ·exact q_ret (cv_p rfl) rfl
   ·refine q_len<|q_lp (A:=fun (s:Int×Int)=>[.int .i64 s.1,.int .i64 s.2]) (B:=fun s=>[]) 0 rr ?_ ?_ ?_
    ·intro s1
     unfold s110_0 ms110_0
     exact q_p fr<|q_i (q_ix rfl fun x1 hx1=>q_p fr<|q_new rfl fun b1=>q_st 0 rfl rfl rfl (by decide) rfl<|q_lda 0 rfl rfl rfl<|q_c0 (aF2 (cv_p rfl) (cv_a (cvs_e (l0:=k1) (x:=x1))) fun l0_ l1_=>w144 (by omega) a0 l1_ x1) fun y1 hy1=>q_p fr<|q_i (q_lret 1 rr)<|q_lda 0 rfl rfl rfl<|q_c0 (aF2 (cv_a (cvs_e (l0:=k1) (x:=x1))) (cv_p rfl) fun l0_ l1_=>w127 (by omega) l0_ x1 s1.2) fun y2 hy2=>q_p fr<|q_i (q_lret 1 rr)<|q_sub rfl (.inr ⟨rfl,rfl⟩) (.inl rfl) fun fl1 ys1 hys1=>q_lda 0 rfl rfl rfl<|q_c0 (aF2 cv_r (cv_a (cvs_e (l0:=k1) (x:=x1))) fun l0_ l1_=>w56 (by omega) l0_ ys1 l1_ x1) fun y3 hy3=>q_p fr<|q_i (q_lret 1 rr)<|q_p fr<|q_norm 1 rr)<|q_exit 0 rr
    ·exact fun i1 s2=>q_n (q_ret (cv_p rfl) rfl)<|q_none
    ·exact fun s2=>q_ret (cv_p rfl) rfl
def ms111_0 (a0:Int) (a1:List Int) (s1:Int×Int):Option (LO (Int×Int)):=bif decide (s1.2 < (a1.length:Int)) then ( (getI a1 s1.2).bind fun x1=>bif !(m145 a0 x1) then some (LO.ret 3) else bif decide (s1.2 > 0) then (getI a1 (wi .i64 (s1.2 - 1))).bind fun x2=>bif decide (x1≤x2) then some (LO.ret 1) else some (LO.norm s1.1) else some (LO.norm s1.1)).bind (contO (fun s3=>some (LO.norm (s3,wi .i64 (s1.2 + 1)))) (fun i1 s3=>some (LO.exit i1 (s3,s1.2))) (fun s3=>some (LO.ret (s3,s1.2)))) else some (LO.exit 0 (s1.1,s1.2))
def m111 (a0:Int) (a1:List Int):Option (Int):=(loopO (ms111_0 a0 a1) NN (0,0)).bind (contO (fun _=>none) (fun i2 s4=>if i2 = 0 then some 0 else none) (fun s4=>some s4.1))
theorem w111 {d:Nat} (hd:3≤d) (a0:Int) (k1:Bool) (a1:List Int):Fit (R NN d 111 [.int .i64 a0,.rsl k1 false (a1.map (Enc.cs k1))] []) (m111 a0 a1) PI:=by
  obtain ⟨d,rfl,g⟩:=up hd
  refine q_in (t111 NN d _ _) ?_
  unfold b111 m111
  refine q_len<|q_lp (A:=fun (s:Int×Int)=>[.int .i64 s.1,.int .i64 s.2]) (B:=fun s=>[]) 0 rr ?_ ?_ ?_
  ·intro s1
   unfold s111_0 ms111_0
   refine q_p fr<|q_i ?_ ?_
   ·refine q_cu (A:=fun (s:Int)=>[.int .i64 s]) (B:=fun s=>[]) ?_ ?_ ?_ ?_
    ·refine q_ix rfl fun x1 hx1=>q_p fr<|q_c0t (aF2 (cv_p rfl) (cv_p rfl) fun l0_ l1_=>w145 (by omega) a0 x1)<|q_p fr<|q_i ?_ ?_
     ·exact q_lret 0 rr
     ·refine q_p fr<|q_k ?_ ?_
      ·exact q_p fr<|q_ix rfl fun x2 hx2=>q_p fr<|q_p fr<|q_i (q_lret 0 rr)<|q_norm 0 rr
      ·first | refine q_ifF1 ?_ | skip
       exact q_norm 0 rr
    ·exact fun s3=>q_p fr<|q_norm 0 rr
    ·exact fun i1 s3=>q_exit 0 rr
    ·exact fun s3=>q_lret 0 rr
   ·exact q_exit 0 rr
  ·exact fun i2 s4=>q_n (q_ret (cv_p rfl) rfl)<|q_none
  ·exact fun s4=>q_ret (cv_p rfl) rfl
def ms113_0 (a0:Int) (a1:List Int) (s1:Int×(List Int)):Option (LO (Int×(List Int))):=bif decide (s1.1≤(m124 a0)) then ( (m125 a1 s1.1).bind fun y1=>bif !y1 then (appO 8 s1.2 [s1.1]).bind fun z1=>some (LO.norm z1) else some (LO.norm s1.2)).bind (contO (fun s3=>some (LO.norm (wi .i64 (s1.1 + 1),s3))) (fun i1 s3=>some (LO.exit i1 (s1.1,s3))) (fun s3=>some (LO.ret (s1.1,s3)))) else some (LO.exit 0 (s1.1,s1.2))
def m113 (a0:Int) (a1:List Int):Option ((List Int)):=(loopO (ms113_0 a0 a1) NN (1,[])).bind (contO (fun _=>none) (fun i2 s4=>if i2 = 0 then some s4.2 else none) (fun s4=>some []))
theorem w113 {d:Nat} (hd:3≤d) (a0:Int) (k1:Bool) (a1:List Int):Fit (R NN d 113 [.int .i64 a0,.rsl k1 false (a1.map (Enc.cs k1))] []) (m113 a0 a1) (P0 (fun (t:List Int)=>AV.rsl false false (t.map (Enc.cs false)))):=by
  obtain ⟨d,rfl,g⟩:=up hd
  refine q_in (t113 NN d _ _) ?_
  unfold b113 m113
  refine q_q (fun _=>qs22_0)<|q_nil (α:=Int) false<|q_loop (I:=(fun (s:Int×(List Int)) l L=>∃ (v1:AV),l = [v1,.int .i64 s.1]∧L = [sl false v1 (s.2:List Int)])) 0 ⟨(.rsl false true []),rfl,rfl⟩ ?_ ?_ ?_
  ·rintro s1 _ _ ⟨v1,rfl,rfl⟩
   unfold s113_0 ms113_0
   refine q_c0t (aF1 (cv_p rfl) fun l0_=>w124 (by omega) a0)<|q_p fr<|q_i ?_ ?_
   ·refine q_cut (I:=(fun (s:(List Int)) l L=>∃ (v2:AV),l = [v2]∧L = [sl false v2 (s:List Int)])) ?_ ?_ ?_ ?_
    ·exact q_c0 (aF2 cv_r (cv_p rfl) fun l0_ l1_=>w125 (by omega) l0_ a1 s1.1) fun y1 hy1=>q_p fr<|q_i (q_q (fun _=>qi22_1)<|q_app (ys:=[s1.1]) 0 rfl rfl (fun _ _=>rfl) fun v2 z1 hz1=>q_norm 0 ⟨v2,rfl,rfl⟩)<|q_norm 0 ⟨v1,rfl,rfl⟩
    ·rintro s3 _ _ ⟨v3,rfl,rfl⟩
     exact q_p fr<|q_norm 0 ⟨v3,rfl,rfl⟩
    ·rintro i1 s3 _ _ ⟨v4,rfl,rfl⟩
     exact q_exit 0 ⟨v4,rfl,rfl⟩
    ·rintro s3 _ _ ⟨v5,rfl,rfl⟩
     exact q_lret 0 ⟨v5,rfl,rfl⟩
   ·exact q_exit 0 ⟨v1,rfl,rfl⟩
  ·rintro i2 s4 _ _ ⟨v6,rfl,rfl⟩
   exact q_n (q_ret (cv_o 0 rfl) rfl)<|q_none
  ·rintro s4 _ _ ⟨v7,rfl,rfl⟩
   exact q_ret (cv_r (α:=Int) (l0:=false) (fl:=true) (xs:=[])) rfl
def ms146_0 (a0:Int) (a1:List TMsg) (a2:Int) (s1:Int×(List Int)):Option (LO (Int×(List Int))):=bif decide (s1.1 < (a1.length:Int)) then ( (getI a1 s1.1).bind fun x1=>( bif x1.Kind == 3 then bif x1.Slot == a2 then (m125 s1.2 x1.Value).bind fun y1=>bif !y1 then (m175 a0 a1 3 x1.View a2 x1.Value).bind fun y2=>some (LO.norm y2) else some (LO.norm false) else some (LO.norm false) else some (LO.norm false)).bind (contO (fun s4=>bif s4 then (appO 8 s1.2 [x1.Value]).bind fun z1=>some (LO.norm z1) else some (LO.norm s1.2)) (fun i1 s4=>if i1 = 1 then some (LO.norm s1.2) else some (LO.exit i1 s1.2)) (fun s4=>some (LO.ret s1.2)))).bind (contO (fun s5=>some (LO.norm (wi .i64 (s1.1 + 1),s5))) (fun i2 s5=>some (LO.exit i2 (s1.1,s5))) (fun s5=>some (LO.ret (s1.1,s5)))) else some (LO.exit 0 (s1.1,s1.2))
def m146 (a0:Int) (a1:List TMsg) (a2:Int):Option ((List Int)):=(loopO (ms146_0 a0 a1 a2) NN (0,[])).bind (contO (fun _=>none) (fun i3 s6=>if i3 = 0 then (m176 s6.2).bind fun y3=>some y3 else none) (fun s6=>some []))
theorem w146 {d:Nat} (hd:139≤d) (a0:Int) (k1:Bool) (a1:List TMsg) (a2:Int):Fit (R NN d 146 [.int .i64 a0,.rsl k1 false (a1.map (Enc.cs k1)),.int .i64 a2] []) (m146 a0 a1 a2) (P0 (fun (t:List Int)=>AV.rsl false false (t.map (Enc.cs false)))):=by
  obtain ⟨d,rfl,g⟩:=up hd
  refine q_in (t146 NN d _ _ _) ?_
  unfold b146 m146
  refine q_q (fun _=>qs22_0)<|q_len<|q_nil (α:=Int) false<|q_loop (I:=(fun (s:Int×(List Int)) l L=>∃ (v1:AV),l = [v1,.int .i64 s.1]∧L = [sl false v1 (s.2:List Int)])) 0 ⟨(.rsl false true []),rfl,rfl⟩ ?_ ?_ ?_
  ·rintro s1 _ _ ⟨v1,rfl,rfl⟩
   unfold s146_0 ms146_0
   refine q_p fr<|q_i ?_ ?_
   ·refine q_cut (I:=(fun (s:(List Int)) l L=>∃ (v2:AV),l = [v2]∧L = [sl false v2 (s:List Int)])) ?_ ?_ ?_ ?_
    ·refine q_ix rfl fun x1 hx1=>q_p fr<|q_new rfl fun b1=>q_st 0 rfl rfl rfl (by decide) rfl<|q_cu (A:=fun (s:Bool)=>[.bool s]) (B:=fun s=>[bx b1 [.int .i64 x1.Kind,.int .i64 x1.View,.int .i64 x1.From,.int .i64 x1.Slot,.int .i64 x1.Value,.rsl k1 false (x1.Certs.map (Enc.cs k1)),.rsl k1 false (x1.Refs.map (Enc.cs k1))],sl false v1 (s1.2:List Int)]) ?_ ?_ ?_ ?_
     ·exact q_p fr<|q_ld 0 rfl rfl<|q_p fr<|q_k (q_p fr<|q_ld 0 rfl rfl<|q_p fr<|q_k (q_p fr<|q_ld 0 rfl rfl<|q_c0 (aF2 (cv_o 1 rfl) (cv_p rfl) fun l0_ l1_=>w125 (by omega) l0_ s1.2 x1.Value) fun y1 hy1=>q_p fr<|q_k (q_p fr<|q_ld 0 rfl rfl<|q_p fr<|q_ld 0 rfl rfl<|q_c0 (fun S hS=>argF6 (cv_p rfl) cv_r (cv_p rfl) (cv_p rfl) (cv_p rfl) (cv_p rfl) hS fun l0_ l1_ l2_ l3_ l4_ l5_=>w175 (by omega) a0 l1_ a1 3 x1.View a2 x1.Value) fun y2 hy2=>q_norm 0 rr)<|q_norm 0 rr)<|q_norm 0 rr)<|q_norm 0 rr
     ·exact fun s4=>q_i (q_p fr<|q_ld 0 rfl rfl<|q_q (fun _=>qi22_1)<|q_app (ys:=[x1.Value]) 1 rfl rfl (fun _ _=>rfl) fun v2 z1 hz1=>q_norm 1 ⟨v2,rfl,rfl⟩)<|q_norm 1 ⟨v1,rfl,rfl⟩
     ·exact fun i1 s4=>q_n (q_norm 1 ⟨v1,rfl,rfl⟩)<|q_exit 1 ⟨v1,rfl,rfl⟩
     ·exact fun s4=>q_lret 1 ⟨v1,rfl,rfl⟩
    ·rintro s5 _ _ ⟨v3,rfl,rfl⟩
     exact q_p fr<|q_norm 0 ⟨v3,rfl,rfl⟩
    ·rintro i2 s5 _ _ ⟨v4,rfl,rfl⟩
     exact q_exit 0 ⟨v4,rfl,rfl⟩
    ·rintro s5 _ _ ⟨v5,rfl,rfl⟩
     exact q_lret 0 ⟨v5,rfl,rfl⟩
   ·exact q_exit 0 ⟨v1,rfl,rfl⟩
  ·rintro i3 s6 _ _ ⟨v6,rfl,rfl⟩
   exact q_n (q_s (mg:=m176 s6.2) (w176 (by omega) _ _ s6.2) fun y3 hy3=>q_ret (cv_o 0 rfl) rfl)<|q_none
  ·rintro s6 _ _ ⟨v7,rfl,rfl⟩
   exact q_ret (cv_r (α:=Int) (l0:=false) (fl:=true) (xs:=[])) rfl
def ms114_0 (a0:Int) (a1:List TMsg) (s1:Int×(List Int)):Option (LO (Int×(List Int))):=bif decide (s1.1≤30) then (m146 a0 a1 s1.1).bind fun y1=>bif (y1.length:Int) == 0 then some (LO.exit 0 (s1.1,s1.2)) else (getI y1 0).bind fun x1=>(appO 8 s1.2 [x1]).bind fun z1=>some (LO.norm (wi .i64 (s1.1 + 1),z1)) else some (LO.exit 0 (s1.1,s1.2))
def m114 (a0:Int) (a1:List TMsg):Option ((List Int)):=(loopO (ms114_0 a0 a1) NN (1,[])).bind (contO (fun _=>none) (fun i1 s2=>if i1 = 0 then some s2.2 else none) (fun s2=>some []))
theorem w114 {d:Nat} (hd:140≤d) (a0:Int) (k1:Bool) (a1:List TMsg):Fit (R NN d 114 [.int .i64 a0,.rsl k1 false (a1.map (Enc.cs k1))] []) (m114 a0 a1) (P0 (fun (t:List Int)=>AV.rsl false false (t.map (Enc.cs false)))):=by
  obtain ⟨d,rfl,g⟩:=up hd
  refine q_in (t114 NN d _ _) ?_
  unfold b114 m114
  refine q_q (fun _=>qs22_0)<|q_nil (α:=Int) false<|q_loop (I:=(fun (s:Int×(List Int)) l L=>∃ (v1:AV),l = [v1,.int .i64 s.1]∧L = [sl false v1 (s.2:List Int)])) 0 ⟨(.rsl false true []),rfl,rfl⟩ ?_ ?_ ?_
  ·rintro s1 _ _ ⟨v1,rfl,rfl⟩
   unfold s114_0 ms114_0
   exact q_p fr<|q_i (q_c0 (aF3 (cv_p rfl) cv_r (cv_p rfl) fun l0_ l1_ l2_=>w146 (by omega) a0 l1_ a1 s1.1) fun y1 hy1=>q_len<|q_p fr<|q_i (q_exit 0 ⟨v1,rfl,rfl⟩)<|q_ix rfl fun x1 hx1=>q_p fr<|q_q (fun _=>qi22_1)<|q_app (ys:=[x1]) 0 rfl rfl (fun _ _=>rfl) fun v2 z1 hz1=>q_p fr<|q_norm 0 ⟨v2,rfl,rfl⟩)<|q_exit 0 ⟨v1,rfl,rfl⟩
  ·rintro i1 s2 _ _ ⟨v3,rfl,rfl⟩
   exact q_n (q_ret (cv_o 0 rfl) rfl)<|q_none
  ·rintro s2 _ _ ⟨v4,rfl,rfl⟩
   exact q_ret (cv_r (α:=Int) (l0:=false) (fl:=true) (xs:=[])) rfl
def ms149_0 (a0:Int) (a1:List TMsg) (y1:TMsg×Bool) (s5:Bool×Int×(List Int)):Option (LO (Bool×Int×(List Int))):=bif decide (s5.2.1 < (y1.1.Refs.length:Int)) then ( (getI y1.1.Refs s5.2.1).bind fun x2=>( ( (m126 a0 a1 x2).bind fun y3=>bif !y3 then some (LO.norm true) else (getI a1 x2).bind fun x3=>bif x3.View != y1.1.View then some (LO.norm true) else (getI a1 x2).bind fun x4=>(m125 s5.2.2 x4.From).bind fun y4=>some (LO.norm y4)).bind (contO (fun s9=>bif s9 then some (LO.ret false) else some (LO.norm s5.1)) (fun i3 s9=>some (LO.exit i3 s5.1)) (fun s9=>some (LO.ret s5.1)))).bind (contO (fun s10=>(getI a1 x2).bind fun x5=>(appO 8 s5.2.2 [x5.From]).bind fun z1=>some (LO.norm (s10,z1))) (fun i4 s10=>if i4 = 1 then some (LO.norm (s10,s5.2.2)) else some (LO.exit i4 (s10,s5.2.2))) (fun s10=>some (LO.ret (s10,s5.2.2))))).bind (contO (fun s11=>some (LO.norm (s11.1,wi .i64 (s5.2.1 + 1),s11.2))) (fun i5 s11=>some (LO.exit i5 (s11.1,s5.2.1,s11.2))) (fun s11=>some (LO.ret (s11.1,s5.2.1,s11.2)))) else some (LO.exit 0 (s5.1,s5.2.1,s5.2.2))
def m149 (a0:Int) (a1:List TMsg) (a2:Int):Option (Bool):=(m159 a1 a2 5).bind fun y1=>( ( bif !y1.2 then some (LO.norm true) else (m84 a0 y1.1.View).bind fun y2=>bif y1.1.From != y2 then some (LO.norm true) else some (LO.norm (decide ((y1.1.Refs.length:Int) < (wi .i64 ((wi .i64 (2 * a0)) + 1)))))).bind (contO (fun s3=>bif s3 then some (LO.ret false) else some (LO.norm false)) (fun i1 s3=>some (LO.exit i1 false)) (fun s3=>some (LO.ret false)))).bind (contO (fun s4=>(loopO (ms149_0 a0 a1 y1) NN (s4,0,[])).bind (contO (fun _=>none) (fun i6 s12=>if i6 = 0 then some true else none) (fun s12=>some s12.1))) (fun i2 s4=>none) (fun s4=>some s4))
theorem w149 {d:Nat} (hd:144≤d) (a0:Int) (k1:Bool) (a1:List TMsg) (a2:Int):Fit (R NN d 149 [.int .i64 a0,.rsl k1 false (a1.map (Enc.cs k1)),.int .i64 a2] []) (m149 a0 a1 a2) PB:=by
  obtain ⟨d,rfl,g⟩:=up hd
  refine q_in (t149 NN d _ _ _) ?_
  unfold b149 m149
  refine q_s3 (mg:=m159 a1 a2 5) (w159 (by omega) _ k1 _ a1 a2 5) fun y1 hy1 x1=>q_q fr<|q_q fr<|q_new rfl fun b1=>q_st 0 rfl rfl rfl (by decide) rfl<|q_cu (A:=fun (s:Bool)=>[.bool s]) (B:=fun s=>[bx b1 [.int .i64 y1.1.Kind,.int .i64 y1.1.View,.int .i64 y1.1.From,.int .i64 y1.1.Slot,.int .i64 y1.1.Value,.rsl x1.1 x1.2.1 (y1.1.Certs.map (Enc.cs x1.1)),.rsl x1.2.2.1 x1.2.2.2 (y1.1.Refs.map (Enc.cs x1.2.2.1))]]) ?_ ?_ ?_ ?_
  ·refine q_cu (A:=fun (s:Bool)=>[.bool s]) (B:=fun s=>[bx b1 [.int .i64 y1.1.Kind,.int .i64 y1.1.View,.int .i64 y1.1.From,.int .i64 y1.1.Slot,.int .i64 y1.1.Value,.rsl x1.1 x1.2.1 (y1.1.Certs.map (Enc.cs x1.1)),.rsl x1.2.2.1 x1.2.2.2 (y1.1.Refs.map (Enc.cs x1.2.2.1))]]) ?_ ?_ ?_ ?_
   ·exact q_p fr<|q_j (q_norm 0 rr)<|q_p fr<|q_ld 0 rfl rfl<|q_p fr<|q_ld 0 rfl rfl<|q_c0 (aF2 (cv_p rfl) (cv_p rfl) fun l0_ l1_=>w84 (by omega) a0 y1.1.View) fun y2 hy2=>q_p fr<|q_j (q_norm 0 rr)<|q_p fr<|q_ld 0 rfl rfl<|q_len<|q_p fr<|q_p fr<|q_p fr<|q_norm 0 rr
   ·exact fun s3=>q_i (q_lret 0 rr)<|q_norm 0 rr
   ·exact fun i1 s3=>q_exit 0 rr
   ·exact fun s3=>q_lret 0 rr
  ·intro s4
   refine q_q (fun _=>qs22_0)<|q_p fr<|q_ld 0 rfl rfl<|q_len<|q_nil (α:=Int) false<|q_loop (I:=(fun (s:Bool×Int×(List Int)) l L=>∃ (v1:AV),l = [.bool s.1,v1,.int .i64 s.2.1]∧L = [sl false v1 (s.2.2:List Int),bx b1 [.int .i64 y1.1.Kind,.int .i64 y1.1.View,.int .i64 y1.1.From,.int .i64 y1.1.Slot,.int .i64 y1.1.Value,.rsl x1.1 x1.2.1 (y1.1.Certs.map (Enc.cs x1.1)),.rsl x1.2.2.1 x1.2.2.2 (y1.1.Refs.map (Enc.cs x1.2.2.1))]])) 0 ⟨(.rsl false true []),rfl,rfl⟩ ?_ ?_ ?_
   ·rintro s5 _ _ ⟨v1,rfl,rfl⟩
    unfold s149_0 ms149_0
    refine q_p fr<|q_i ?_ ?_
    ·refine q_cut (I:=(fun (s:Bool×(List Int)) l L=>∃ (v2:AV),l = [.bool s.1,v2]∧L = [sl false v2 (s.2:List Int),bx b1 [.int .i64 y1.1.Kind,.int .i64 y1.1.View,.int .i64 y1.1.From,.int .i64 y1.1.Slot,.int .i64 y1.1.Value,.rsl x1.1 x1.2.1 (y1.1.Certs.map (Enc.cs x1.1)),.rsl x1.2.2.1 x1.2.2.2 (y1.1.Refs.map (Enc.cs x1.2.2.1))]])) ?_ ?_ ?_ ?_
     ·refine q_ix rfl fun x2 hx2=>q_p fr<|q_cu (A:=fun (s:Bool)=>[.bool s]) (B:=fun s=>[sl false v1 (s5.2.2:List Int),bx b1 [.int .i64 y1.1.Kind,.int .i64 y1.1.View,.int .i64 y1.1.From,.int .i64 y1.1.Slot,.int .i64 y1.1.Value,.rsl x1.1 x1.2.1 (y1.1.Certs.map (Enc.cs x1.1)),.rsl x1.2.2.1 x1.2.2.2 (y1.1.Refs.map (Enc.cs x1.2.2.1))]]) ?_ ?_ ?_ ?_
      ·refine q_cu (A:=fun (s:Bool)=>[.bool s]) (B:=fun s=>[sl false v1 (s5.2.2:List Int),bx b1 [.int .i64 y1.1.Kind,.int .i64 y1.1.View,.int .i64 y1.1.From,.int .i64 y1.1.Slot,.int .i64 y1.1.Value,.rsl x1.1 x1.2.1 (y1.1.Certs.map (Enc.cs x1.1)),.rsl x1.2.2.1 x1.2.2.2 (y1.1.Refs.map (Enc.cs x1.2.2.1))]]) ?_ ?_ ?_ ?_
       ·exact q_c0 (aF3 (cv_p rfl) cv_r (cv_p rfl) fun l0_ l1_ l2_=>w126 (by omega) a0 l1_ a1 x2) fun y3 hy3=>q_p fr<|q_j (q_norm 0 rr)<|q_ix rfl fun x3 hx3=>q_p fr<|q_p fr<|q_p fr<|q_ld 1 rfl rfl<|q_p fr<|q_j (q_norm 0 rr)<|q_ix rfl fun x4 hx4=>q_p fr<|q_p fr<|q_c0 (aF2 (cv_o 0 rfl) (cv_p rfl) fun l0_ l1_=>w125 (by omega) l0_ s5.2.2 x4.From) fun y4 hy4=>q_norm 0 rr
       ·exact fun s9=>q_i (q_lret 0 rr)<|q_norm 0 rr
       ·exact fun i3 s9=>q_exit 0 rr
       ·exact fun s9=>q_lret 0 rr
      ·exact fun s10=>q_ix rfl fun x5 hx5=>q_p fr<|q_p fr<|q_q (fun _=>qi22_1)<|q_app (ys:=[x5.From]) 0 rfl rfl (fun _ _=>rfl) fun v2 z1 hz1=>q_norm 0 ⟨v2,rfl,rfl⟩
      ·exact fun i4 s10=>q_n (q_norm 0 ⟨v1,rfl,rfl⟩)<|q_exit 0 ⟨v1,rfl,rfl⟩
      ·exact fun s10=>q_lret 0 ⟨v1,rfl,rfl⟩
     ·rintro s11 _ _ ⟨v3,rfl,rfl⟩
      exact q_p fr<|q_norm 0 ⟨v3,rfl,rfl⟩
     ·rintro i5 s11 _ _ ⟨v4,rfl,rfl⟩
      exact q_exit 0 ⟨v4,rfl,rfl⟩
     ·rintro s11 _ _ ⟨v5,rfl,rfl⟩
      exact q_lret 0 ⟨v5,rfl,rfl⟩
    ·exact q_exit 0 ⟨v1,rfl,rfl⟩
   ·rintro i6 s12 _ _ ⟨v6,rfl,rfl⟩
    exact q_n (q_ret (cv_p rfl) rfl)<|q_none
   ·rintro s12 _ _ ⟨v7,rfl,rfl⟩
    exact q_ret (cv_p rfl) rfl
  ·exact fun i2 s4=>q_none
  ·exact fun s4=>q_ret (cv_p rfl) rfl
def m115 (a0:Int) (a1:List TMsg) (a2:TReplica) (a3:Int):Option (Int):=( ( bif !(m145 a0 a2.Id) then some (LO.norm true) else bif !(m147 a2.View) then some (LO.norm true) else some (LO.norm (!(m148 a2.Done 0 30)))).bind (contO (fun s3=>bif s3 then some (LO.ret 3) else ( bif a2.Start != (-1) then bif a2.View == 0 then some (LO.norm true) else (m149 a0 a1 a2.Start).bind fun y1=>bif !y1 then some (LO.norm true) else (getI a1 a2.Start).bind fun x1=>some (LO.norm (x1.View != a2.View)) else some (LO.norm false)).bind (contO (fun s5=>bif s5 then some (LO.ret 1) else bif decide (a2.Done > a3) then some (LO.ret 8) else some (LO.norm 0)) (fun i2 s5=>if i2 = 0 then some (LO.norm 0) else some (LO.exit i2 0)) (fun s5=>some (LO.ret 0)))) (fun i1 s3=>if i1 = 0 then some (LO.norm 0) else some (LO.exit i1 0)) (fun s3=>some (LO.ret 0)))).bind (contO (fun s6=>some 0) (fun i3 s6=>none) (fun s6=>some s6))
theorem w115 {d:Nat} (hd:145≤d) (a0:Int) (k1:Bool) (a1:List TMsg) (k2:Bool) (a2:TReplica) (a3:Int):Fit (R NN d 115 [.int .i64 a0,.rsl k1 false (a1.map (Enc.cs k1)),.agg (Enc.cs k2 a2),.int .i64 a3] []) (m115 a0 a1 a2 a3) PI:=by
  obtain ⟨d,rfl,g⟩:=up hd
  refine q_in (t115 NN d _ _ _ _) ?_
  unfold b115 m115
  refine q_box (n:=4) rfl rfl (by decide) fun b1=>q_cu (A:=fun (s:Int)=>[.int .i64 s]) (B:=fun s=>[bx b1 [.int .i64 a2.Id,.int .i64 a2.View,.int .i64 a2.Start,.int .i64 a2.Done]]) ?_ ?_ ?_ ?_
  ·refine q_cu (A:=fun (s:Bool)=>[.bool s]) (B:=fun s=>[bx b1 [.int .i64 a2.Id,.int .i64 a2.View,.int .i64 a2.Start,.int .i64 a2.Done]]) ?_ ?_ ?_ ?_
   ·exact q_p fr<|q_ld 0 rfl rfl<|q_c0t (aF2 (cv_p rfl) (cv_p rfl) fun l0_ l1_=>w145 (by omega) a0 a2.Id)<|q_p fr<|q_j (q_norm 0 rr)<|q_p fr<|q_ld 0 rfl rfl<|q_c0t (aF1 (cv_p rfl) fun l0_=>w147 (by omega) a2.View)<|q_p fr<|q_j (q_norm 0 rr)<|q_p fr<|q_ld 0 rfl rfl<|q_c0t (aF3 (cv_p rfl) (cv_p rfl) (cv_p rfl) fun l0_ l1_ l2_=>w148 (by omega) a2.Done 0 30)<|q_p fr<|q_norm 0 rr
   ·intro s3
    refine q_i ?_ ?_
    ·exact q_lret 0 rr
    ·refine q_cu (A:=fun (s:Bool)=>[.bool s]) (B:=fun s=>[bx b1 [.int .i64 a2.Id,.int .i64 a2.View,.int .i64 a2.Start,.int .i64 a2.Done]]) ?_ ?_ ?_ ?_
     ·exact q_p fr<|q_ld 0 rfl rfl<|q_p fr<|q_k (q_p fr<|q_ld 0 rfl rfl<|q_p fr<|q_j (q_norm 0 rr)<|q_p fr<|q_ld 0 rfl rfl<|q_c0 (aF3 (cv_p rfl) cv_r (cv_p rfl) fun l0_ l1_ l2_=>w149 (by omega) a0 l1_ a1 a2.Start) fun y1 hy1=>q_p fr<|q_j (q_norm 0 rr)<|q_p fr<|q_ld 0 rfl rfl<|q_ix rfl fun x1 hx1=>q_p fr<|q_p fr<|q_p fr<|q_ld 0 rfl rfl<|q_p fr<|q_norm 0 rr)<|q_norm 0 rr
     ·exact fun s5=>q_i (q_lret 0 rr)<|q_p fr<|q_ld 0 rfl rfl<|q_p fr<|q_i (q_lret 0 rr)<|q_norm 0 rr
     ·exact fun i2 s5=>q_n (q_norm 0 rr)<|q_exit 0 rr
     ·exact fun s5=>q_lret 0 rr
   ·exact fun i1 s3=>q_n (q_norm 0 rr)<|q_exit 0 rr
   ·exact fun s3=>q_lret 0 rr
  ·exact fun s6=>q_ret (cv_p rfl) rfl
  ·exact fun i3 s6=>q_none
  ·exact fun s6=>q_ret (cv_p rfl) rfl
def m150 (a0:Int):Bool:=(m148 a0 1 9)
theorem w150 {d:Nat} (hd:2≤d) (a0:Int):Fit (R NN d 150 [.int .i64 a0] []) (some (m150 a0)) PB:=by
  obtain ⟨d,rfl,g⟩:=up hd
  refine q_in (t150 NN d _) ?_
  unfold b150 m150
  exact q_c0t (aF3 (cv_p rfl) (cv_p rfl) (cv_p rfl) fun l0_ l1_ l2_=>w148 (by omega) a0 1 9)<|q_ret (cv_p rfl) rfl
def m151 (a0:Int):Bool:=(m148 a0 0 9000)
theorem w151 {d:Nat} (hd:2≤d) (a0:Int):Fit (R NN d 151 [.int .i64 a0] []) (some (m151 a0)) PB:=by
  obtain ⟨d,rfl,g⟩:=up hd
  refine q_in (t151 NN d _) ?_
  unfold b151 m151
  exact q_c0t (aF3 (cv_p rfl) (cv_p rfl) (cv_p rfl) fun l0_ l1_ l2_=>w148 (by omega) a0 0 9000)<|q_ret (cv_p rfl) rfl
def m177 (a0:Int):Str×Str:=bif a0 == 1 then (([111,112,101,110]:Str),([]:Str)) else bif a0 == 2 then (([99,108,111,115,101]:Str),([]:Str)) else bif a0 == 3 then (([99,114,101,97,116,101]:Str),([112,100,115,111]:Str)) else bif a0 == 4 then (([100,101,108,101,116,101]:Str),([112,118]:Str)) else bif a0 == 5 then (([115,101,116]:Str),([112,100,118]:Str)) else bif a0 == 6 then (([103,101,116]:Str),([112]:Str)) else bif a0 == 7 then (([107,105,100,115]:Str),([112]:Str)) else bif a0 == 8 then (([99,104,101,99,107]:Str),([112,118]:Str)) else (([]:Str),([]:Str))
theorem w177 {d:Nat} (hd:1≤d) (a0:Int):Fit (R NN d 177 [.int .i64 a0] []) (some (m177 a0)) (P0 (fun (t:Str×Str)=>AV.tup [encS t.1,encS t.2])):=by
  obtain ⟨d,rfl,g⟩:=up hd
  refine q_in (t177 NN d _) ?_
  unfold b177 m177
  exact q_p fr<|q_ift (fun h8=>q_ret (cv_t (cvs_cons (cv_p rfl) (cvs_cons (cv_p rfl) cvs_nil))) rfl) fun h8=>q_p fr<|q_ift (fun h7=>q_ret (cv_t (cvs_cons (cv_p rfl) (cvs_cons (cv_p rfl) cvs_nil))) rfl) fun h7=>q_p fr<|q_ift (fun h6=>q_ret (cv_t (cvs_cons (cv_p rfl) (cvs_cons (cv_p rfl) cvs_nil))) rfl) fun h6=>q_p fr<|q_ift (fun h5=>q_ret (cv_t (cvs_cons (cv_p rfl) (cvs_cons (cv_p rfl) cvs_nil))) rfl) fun h5=>q_p fr<|q_ift (fun h4=>q_ret (cv_t (cvs_cons (cv_p rfl) (cvs_cons (cv_p rfl) cvs_nil))) rfl) fun h4=>q_p fr<|q_ift (fun h3=>q_ret (cv_t (cvs_cons (cv_p rfl) (cvs_cons (cv_p rfl) cvs_nil))) rfl) fun h3=>q_p fr<|q_ift (fun h2=>q_ret (cv_t (cvs_cons (cv_p rfl) (cvs_cons (cv_p rfl) cvs_nil))) rfl) fun h2=>q_p fr<|q_ift (fun h1=>q_ret (cv_t (cvs_cons (cv_p rfl) (cvs_cons (cv_p rfl) cvs_nil))) rfl) fun h1=>q_ret (cv_t (cvs_cons (cv_p rfl) (cvs_cons (cv_p rfl) cvs_nil))) rfl
def m189 (a0 a1:Str):Option Int:=match a1 with
  | [c]=>some (Lib.indexByte a0 c:Int)
  | _=>none
theorem w189 {d:Nat} (hd:1≤d) (a0 a1:Str):Fit (R NN d 189 [encS a0,encS a1] []) (m189 a0 a1) PI:=by
  obtain ⟨d,rfl,g⟩:=up hd
  rw [t189]
  intro t ht
  unfold m189 at ht
  split at ht
  · injection ht with ht
    subst ht
    exact ⟨_,rfl,rfl⟩
  · cases ht
def m179 (a0:Str) (a1:Str):Option (Bool):=(m189 a0 a1).bind fun y1=>some (decide (y1 ≥ 0))
theorem w179 {d:Nat} (hd:2≤d) (a0:Str) (a1:Str):Fit (R NN d 179 [encS a0,encS a1] []) (m179 a0 a1) PB:=by
  obtain ⟨d,rfl,g⟩:=up hd
  refine q_in (t179 NN d _ _) ?_
  unfold b179 m179
  exact q_c0 (aF2 (cv_p rfl) (cv_p rfl) fun l0_ l1_=>w189 (by omega) a0 a1) fun y1 hy1=>q_p fr<|q_ret (cv_p rfl) rfl
def m178 (a0:Str) (a1:Str):Option (Bool):=(m179 a1 a0).bind fun y1=>some (!y1)
theorem w178 {d:Nat} (hd:3≤d) (a0:Str) (k1:Bool) (a1:Str):Fit (R NN d 178 [encS a0,.rp k1 (Enc.cs k1 a1)] []) (m178 a0 a1) PB:=by
  obtain ⟨d,rfl,g⟩:=up hd
  refine q_in (t178 NN d _ _) ?_
  unfold b178 m178
  exact q_p fr<|q_c0 (aF2 (cv_p rfl) (cv_p rfl) fun l0_ l1_=>w179 (by omega) a1 a0) fun y1 hy1=>q_p fr<|q_ret (cv_p rfl) rfl
def m190 (a0 a1:Str):Option Int:=match a1 with
  | [c]=>some (Lib.countByte a0 c:Int)
  | _=>none
theorem w190 {d:Nat} (hd:1≤d) (a0 a1:Str):Fit (R NN d 190 [encS a0,encS a1] []) (m190 a0 a1) PI:=by
  obtain ⟨d,rfl,g⟩:=up hd
  rw [t190]
  intro t ht
  unfold m190 at ht
  split at ht
  · injection ht with ht
    subst ht
    exact ⟨_,rfl,rfl⟩
  · cases ht
def ms208_0 (a0:Str) (a1:Str) (a2:Int) (s2:Int) (s3:Str×Int×(List Str)):Option (LO (Str×Int×(List Str))):=bif decide (s3.2.1 < (wi .i64 ((minI s2 (wi .i64 ((a0.length:Int) + 1))) - 1))) then (m189 s3.1 a1).bind fun y2=>bif decide (y2 < 0) then some (LO.exit 0 (s3.1,s3.2.1,s3.2.2)) else (subI s3.1 0 (wi .i64 (y2 + a2))).bind fun t1=>(getI s3.2.2 s3.2.1).bind fun x1=>(subI s3.1 (wi .i64 (y2 + (a1.length:Int))) (s3.1.length:Int)).bind fun t2=>some (LO.norm (t2,wi .i64 (s3.2.1 + 1),s3.2.2.set (Int.toNat s3.2.1) t1)) else some (LO.exit 0 (s3.1,s3.2.1,s3.2.2))
def m208 (a0:Str) (a1:Str) (a2:Int) (a3:Int):Option ((List Str)):=bif a3 == 0 then some [] else bif a1 == ([]:Str) then none else ( bif decide (a3 < 0) then (m190 a0 a1).bind fun y1=>some (LO.norm (wi .i64 (y1 + 1))) else some (LO.norm a3)).bind (contO (fun s2=>(mkO 16 (minI s2 (wi .i64 ((a0.length:Int) + 1))) []).bind fun z1=>(loopO (ms208_0 a0 a1 a2 s2) NN (a0,0,z1)).bind (contO (fun _=>none) (fun i2 s4=>if i2 = 0 then (getI s4.2.2 s4.2.1).bind fun x2=>(subI (s4.2.2.set (Int.toNat s4.2.1) s4.1) 0 (wi .i64 (s4.2.1 + 1))).bind fun ys1=>some ys1 else none) (fun s4=>some []))) (fun i1 s2=>none) (fun s2=>some []))
theorem w208 {d:Nat} (hd:2≤d) (a0:Str) (a1:Str) (a2:Int) (a3:Int):Fit (R NN d 208 [encS a0,encS a1,.int .i64 a2,.int .i64 a3] []) (m208 a0 a1 a2 a3) (P0 (fun (t:List Str)=>AV.rsl false false (t.map (Enc.cs false)))):=by
  obtain ⟨d,rfl,g⟩:=up hd
  refine q_in (t208 NN d _ _ _ _) ?_
  unfold b208 m208
  refine q_p fr<|q_i ?_ ?_
  ·exact q_ret (cv_r (α:=Str) (l0:=false) (fl:=true) (xs:=[])) rfl
  ·refine q_p (fun _=>seq_eql)<|q_i ?_ ?_
   ·exact q_none
   ·refine q_cu (A:=fun (s:Int)=>[.int .i64 s]) (B:=fun s=>[]) ?_ ?_ ?_ ?_
    ·exact q_p fr<|q_i (q_c0 (aF2 (cv_p rfl) (cv_p rfl) fun l0_ l1_=>w190 (by omega) a0 a1) fun y1 hy1=>q_p fr<|q_norm 0 rr)<|q_norm 0 rr
    ·intro s2
     refine q_slen<|q_p fr<|q_p (fun _=>amin_)<|q_mk (z:=[]) mk184 fun v1 z1 hz1=>q_p fr<|q_lp (A:=fun (s:Str×Int×(List Str))=>[encS s.1,.int .i64 s.2.1]) (B:=fun s=>[sl false v1 (s.2.2:List Str)]) 0 rr ?_ ?_ ?_
     ·intro s3
      unfold s208_0 ms208_0
      exact q_p fr<|q_i (q_c0 (aF2 (cv_p rfl) (cv_p rfl) fun l0_ l1_=>w189 (by omega) s3.1 a1) fun y2 hy2=>q_p fr<|q_i (q_exit 0 rr)<|q_p fr<|q_ssub (.inr ⟨rfl,rfl⟩) (.inl rfl) fun t1 ht1=>q_ixo 0 rfl rfl fun x1 hx1=>q_stoe (y:=t1) 0 rfl rfl hx1 rfl (by decide)<|q_slen<|q_p fr<|q_ssub (.inl rfl) (.inr ⟨rfl,rfl⟩) fun t2 ht2=>q_p fr<|q_norm 0 rr)<|q_exit 0 rr
     ·exact fun i2 s4=>q_n (q_ixo 0 rfl rfl fun x2 hx2=>q_stoe (y:=s4.1) 0 rfl rfl hx2 rfl (by decide)<|q_p fr<|q_cutv rfl (.inr ⟨rfl,rfl⟩) (.inl rfl) fun ys1 hys1=>q_ret (cv_cl 0 rfl) rfl)<|q_none
     ·exact fun s4=>q_ret (cv_r (α:=Str) (l0:=false) (fl:=true) (xs:=[])) rfl
    ·exact fun i1 s2=>q_none
    ·exact fun s2=>q_ret (cv_r (α:=Str) (l0:=false) (fl:=true) (xs:=[])) rfl
def m191 (a0:Str) (a1:Str):Option ((List Str)):=(m208 a0 a1 0 (-1)).bind fun y1=>some y1
theorem w191 {d:Nat} (hd:3≤d) (a0:Str) (a1:Str):Fit (R NN d 191 [encS a0,encS a1] []) (m191 a0 a1) (P0 (fun (t:List Str)=>AV.rsl false false (t.map (Enc.cs false)))):=by
  obtain ⟨d,rfl,g⟩:=up hd
  refine q_in (t191 NN d _ _) ?_
  unfold b191 m191
  exact q_c0 (fun S hS=>argF4 (cv_p rfl) (cv_p rfl) (cv_p rfl) (cv_p rfl) hS fun l0_ l1_ l2_ l3_=>w208 (by omega) a0 a1 0 (-1)) fun y1 hy1=>q_ret cv_r rfl
def ms192_0 (a0:Str) (s1:Bool×Int):Option (LO (Bool×Int)):=bif decide (s1.2 < (a0.length:Int)) then ( ( (getI a0 s1.2).bind fun c1=>bif decide ((c1.toNat:Int) < 97) then (getI a0 s1.2).bind fun c5=>bif decide ((c5.toNat:Int) < 48) then some (LO.norm true) else (getI a0 s1.2).bind fun c6=>some (LO.norm (decide ((c6.toNat:Int) > 57))) else (getI a0 s1.2).bind fun c2=>bif decide ((c2.toNat:Int) > 122) then (getI a0 s1.2).bind fun c3=>bif decide ((c3.toNat:Int) < 48) then some (LO.norm true) else (getI a0 s1.2).bind fun c4=>some (LO.norm (decide ((c4.toNat:Int) > 57))) else some (LO.norm false)).bind (contO (fun s4=>bif s4 then some (LO.ret false) else some (LO.norm s1.1)) (fun i1 s4=>if i1 = 1 then some (LO.norm s1.1) else some (LO.exit i1 s1.1)) (fun s4=>some (LO.ret s1.1)))).bind (contO (fun s5=>some (LO.norm (s5,wi .i64 (s1.2 + 1)))) (fun i2 s5=>some (LO.exit i2 (s5,s1.2))) (fun s5=>some (LO.ret (s5,s1.2)))) else some (LO.exit 0 (s1.1,s1.2))
def m192 (a0:Str):Option (Bool):=(loopO (ms192_0 a0) NN (false,0)).bind (contO (fun _=>none) (fun i3 s6=>if i3 = 0 then some (m148 (a0.length:Int) 1 8) else none) (fun s6=>some s6.1))
theorem w192 {d:Nat} (hd:2≤d) (a0:Str):Fit (R NN d 192 [encS a0] []) (m192 a0) PB:=by
  obtain ⟨d,rfl,g⟩:=up hd
  refine q_in (t192 NN d _) ?_
  unfold b192 m192
  refine q_slen<|q_lp (A:=fun (s:Bool×Int)=>[.bool s.1,.int .i64 s.2]) (B:=fun s=>[]) 0 rr ?_ ?_ ?_
  ·intro s1
   unfold s192_0 ms192_0
   refine q_p fr<|q_i ?_ ?_
   ·refine q_cu (A:=fun (s:Bool)=>[.bool s]) (B:=fun s=>[]) ?_ ?_ ?_ ?_
    ·refine q_cu (A:=fun (s:Bool)=>[.bool s]) (B:=fun s=>[]) ?_ ?_ ?_ ?_
     ·exact q_sx fun c1 hc1=>q_p fr<|q_j (q_sx fun c5 hc5=>q_p fr<|q_j (q_norm 0 rr)<|q_sx fun c6 hc6=>q_p fr<|q_norm 0 rr)<|q_sx fun c2 hc2=>q_p fr<|q_k (q_sx fun c3 hc3=>q_p fr<|q_j (q_norm 0 rr)<|q_sx fun c4 hc4=>q_p fr<|q_norm 0 rr)<|q_norm 0 rr
     ·exact fun s4=>q_i (q_lret 0 rr)<|q_norm 0 rr
     ·exact fun i1 s4=>q_n (q_norm 0 rr)<|q_exit 0 rr
     ·exact fun s4=>q_lret 0 rr
    ·exact fun s5=>q_p fr<|q_norm 0 rr
    ·exact fun i2 s5=>q_exit 0 rr
    ·exact fun s5=>q_lret 0 rr
   ·exact q_exit 0 rr
  ·exact fun i3 s6=>q_n (q_slen<|q_c0t (aF3 (cv_p rfl) (cv_p rfl) (cv_p rfl) fun l0_ l1_ l2_=>w148 (by omega) (a0.length:Int) 1 8)<|q_ret (cv_p rfl) rfl)<|q_none
  ·exact fun s6=>q_ret (cv_p rfl) rfl
def ms180_0 (ys1:List Str) (s5:Int×Int):Option (LO (Int×Int)):=bif decide (s5.2 < (ys1.length:Int)) then (getI ys1 s5.2).bind fun x2=>(m192 x2).bind fun y3=>bif !y3 then some (LO.ret (5,s5.2)) else some (LO.norm (s5.1,wi .i64 (s5.2 + 1))) else some (LO.exit 0 (s5.1,s5.2))
def m180 (a0:Str):Option (Int):=( bif decide ((a0.length:Int) > 24) then some (LO.ret 2) else (m190 a0 ([47]:Str)).bind fun y1=>bif decide (y1 > 4) then some (LO.ret 2) else some (LO.norm 0)).bind (contO (fun s2=>bif a0 == ([47]:Str) then some 0 else (m191 a0 ([47]:Str)).bind fun y2=>( bif decide ((y2.length:Int) < 2) then some (LO.ret 5) else (getI y2 0).bind fun x1=>bif !(x1 == ([]:Str)) then some (LO.ret 5) else some (LO.norm s2)).bind (contO (fun s4=>(subI y2 1 (y2.length:Int)).bind fun ys1=>(loopO (ms180_0 ys1) NN (s4,0)).bind (contO (fun _=>none) (fun i3 s6=>if i3 = 0 then some 0 else none) (fun s6=>some s6.1))) (fun i2 s4=>none) (fun s4=>some s4))) (fun i1 s2=>none) (fun s2=>some s2))
theorem w180 {d:Nat} (hd:4≤d) (a0:Str):Fit (R NN d 180 [encS a0] []) (m180 a0) PI:=by
  obtain ⟨d,rfl,g⟩:=up hd
  refine q_in (t180 NN d _) ?_
  unfold b180 m180
  refine q_cu (A:=fun (s:Int)=>[.int .i64 s]) (B:=fun s=>[]) ?_ ?_ ?_ ?_
  ·refine q_slen<|q_p fr<|q_j ?_ ?_
   ·first | refine q_ifT1 ?_ | skip
    exact q_lret 0 rr
   ·exact q_c0 (aF2 (cv_p rfl) (cv_p rfl) fun l0_ l1_=>w190 (by omega) a0 ([47]:Str)) fun y1 hy1=>q_p fr<|q_i (q_lret 0 rr)<|q_norm 0 rr
  ·intro s2
   refine q_p (fun _=>seq_eql)<|q_i ?_ ?_
   ·exact q_ret (cv_p rfl) rfl
   ·refine q_c0 (aF2 (cv_p rfl) (cv_p rfl) fun l0_ l1_=>w191 (by omega) a0 ([47]:Str)) fun y2 hy2=>q_cu (A:=fun (s:Int)=>[.int .i64 s]) (B:=fun s=>[]) ?_ ?_ ?_ ?_
    ·refine q_len<|q_p fr<|q_j ?_ ?_
     ·first | refine q_ifT1 ?_ | skip
      exact q_lret 0 rr
     ·exact q_ix rfl fun x1 hx1=>q_p fr<|q_p (fun _=>seq_neq)<|q_i (q_lret 0 rr)<|q_norm 0 rr
    ·intro s4
     refine q_sub rfl (.inl rfl) (.inr ⟨rfl,rfl⟩) fun fl1 ys1 hys1=>q_len<|q_lp (A:=fun (s:Int×Int)=>[.int .i64 s.1,.int .i64 s.2]) (B:=fun s=>[]) 0 rr ?_ ?_ ?_
     ·intro s5
      unfold s180_0 ms180_0
      exact q_p fr<|q_i (q_ix rfl fun x2 hx2=>q_p fr<|q_c0 (aF1 (cv_p rfl) fun l0_=>w192 (by omega) x2) fun y3 hy3=>q_p fr<|q_i (q_lret 0 rr)<|q_p fr<|q_norm 0 rr)<|q_exit 0 rr
     ·exact fun i3 s6=>q_n (q_ret (cv_p rfl) rfl)<|q_none
     ·exact fun s6=>q_ret (cv_p rfl) rfl
    ·exact fun i2 s4=>q_none
    ·exact fun s4=>q_ret (cv_p rfl) rfl
  ·exact fun i1 s2=>q_none
  ·exact fun s2=>q_ret (cv_p rfl) rfl
def m181 (a0:Int):Bool:=(m148 a0 0 9999)
theorem w181 {d:Nat} (hd:2≤d) (a0:Int):Fit (R NN d 181 [.int .i64 a0] []) (some (m181 a0)) PB:=by
  obtain ⟨d,rfl,g⟩:=up hd
  refine q_in (t181 NN d _) ?_
  unfold b181 m181
  exact q_c0t (aF3 (cv_p rfl) (cv_p rfl) (cv_p rfl) fun l0_ l1_ l2_=>w148 (by omega) a0 0 9999)<|q_ret (cv_p rfl) rfl
def m152 (a0:TOp):Option (Int):=( ( bif !(m148 a0.Kind 1 8) then some (LO.norm true) else (m178 ([112]:Str) ((m177 a0.Kind).2)).bind fun y1=>bif y1 then bif !(a0.Path == ([]:Str)) then some (LO.norm true) else (m178 ([100]:Str) ((m177 a0.Kind).2)).bind fun y2=>bif y2 then bif a0.Data != 0 then some (LO.norm true) else (m178 ([118]:Str) ((m177 a0.Kind).2)).bind fun y3=>bif y3 then bif a0.Version != 0 then some (LO.norm true) else (m178 ([115]:Str) ((m177 a0.Kind).2)).bind fun y4=>bif y4 then bif a0.Seq then some (LO.norm true) else (m178 ([111]:Str) ((m177 a0.Kind).2)).bind fun y5=>bif y5 then some (LO.norm a0.Own) else some (LO.norm false) else (m178 ([111]:Str) ((m177 a0.Kind).2)).bind fun y6=>bif y6 then some (LO.norm a0.Own) else some (LO.norm false) else (m178 ([115]:Str) ((m177 a0.Kind).2)).bind fun y7=>bif y7 then bif a0.Seq then some (LO.norm true) else (m178 ([111]:Str) ((m177 a0.Kind).2)).bind fun y8=>bif y8 then some (LO.norm a0.Own) else some (LO.norm false) else (m178 ([111]:Str) ((m177 a0.Kind).2)).bind fun y9=>bif y9 then some (LO.norm a0.Own) else some (LO.norm false) else (m178 ([118]:Str) ((m177 a0.Kind).2)).bind fun y10=>bif y10 then bif a0.Version != 0 then some (LO.norm true) else (m178 ([115]:Str) ((m177 a0.Kind).2)).bind fun y11=>bif y11 then bif a0.Seq then some (LO.norm true) else (m178 ([111]:Str) ((m177 a0.Kind).2)).bind fun y12=>bif y12 then some (LO.norm a0.Own) else some (LO.norm false) else (m178 ([111]:Str) ((m177 a0.Kind).2)).bind fun y13=>bif y13 then some (LO.norm a0.Own) else some (LO.norm false) else (m178 ([115]:Str) ((m177 a0.Kind).2)).bind fun y14=>bif y14 then bif a0.Seq then some (LO.norm true) else (m178 ([111]:Str) ((m177 a0.Kind).2)).bind fun y15=>bif y15 then some (LO.norm a0.Own) else some (LO.norm false) else (m178 ([111]:Str) ((m177 a0.Kind).2)).bind fun y16=>bif y16 then some (LO.norm a0.Own) else some (LO.norm false) else (m178 ([100]:Str) ((m177 a0.Kind).2)).bind fun y17=>bif y17 then bif a0.Data != 0 then some (LO.norm true) else (m178 ([118]:Str) ((m177 a0.Kind).2)).bind fun y18=>bif y18 then bif a0.Version != 0 then some (LO.norm true) else (m178 ([115]:Str) ((m177 a0.Kind).2)).bind fun y19=>bif y19 then bif a0.Seq then some (LO.norm true) else (m178 ([111]:Str) ((m177 a0.Kind).2)).bind fun y20=>bif y20 then some (LO.norm a0.Own) else some (LO.norm false) else (m178 ([111]:Str) ((m177 a0.Kind).2)).bind fun y21=>bif y21 then some (LO.norm a0.Own) else some (LO.norm false) else (m178 ([115]:Str) ((m177 a0.Kind).2)).bind fun y22=>bif y22 then bif a0.Seq then some (LO.norm true) else (m178 ([111]:Str) ((m177 a0.Kind).2)).bind fun y23=>bif y23 then some (LO.norm a0.Own) else some (LO.norm false) else (m178 ([111]:Str) ((m177 a0.Kind).2)).bind fun y24=>bif y24 then some (LO.norm a0.Own) else some (LO.norm false) else (m178 ([118]:Str) ((m177 a0.Kind).2)).bind fun y25=>bif y25 then bif a0.Version != 0 then some (LO.norm true) else (m178 ([115]:Str) ((m177 a0.Kind).2)).bind fun y26=>bif y26 then bif a0.Seq then some (LO.norm true) else (m178 ([111]:Str) ((m177 a0.Kind).2)).bind fun y27=>bif y27 then some (LO.norm a0.Own) else some (LO.norm false) else (m178 ([111]:Str) ((m177 a0.Kind).2)).bind fun y28=>bif y28 then some (LO.norm a0.Own) else some (LO.norm false) else (m178 ([115]:Str) ((m177 a0.Kind).2)).bind fun y29=>bif y29 then bif a0.Seq then some (LO.norm true) else (m178 ([111]:Str) ((m177 a0.Kind).2)).bind fun y30=>bif y30 then some (LO.norm a0.Own) else some (LO.norm false) else (m178 ([111]:Str) ((m177 a0.Kind).2)).bind fun y31=>bif y31 then some (LO.norm a0.Own) else some (LO.norm false)).bind (contO (fun s3=>bif s3 then some (LO.ret 1) else (m178 ([112]:Str) ((m177 a0.Kind).2)).bind fun y32=>bif y32 then some (LO.ret 0) else some (LO.norm 0)) (fun i1 s3=>if i1 = 0 then some (LO.norm 0) else some (LO.exit i1 0)) (fun s3=>some (LO.ret 0)))).bind (contO (fun s4=>(m180 a0.Path).bind fun y33=>bif y33 != 0 then some y33 else ( bif !(m181 a0.Data) then some (LO.ret 3) else bif !(m148 a0.Version (-1) 999) then some (LO.ret 3) else some (LO.norm s4)).bind (contO (fun s6=>some 0) (fun i3 s6=>none) (fun s6=>some s6))) (fun i2 s4=>none) (fun s4=>some s4))
theorem w152 {d:Nat} (hd:5≤d) (k0:Bool) (a0:TOp):Fit (R NN d 152 [.agg (Enc.cs k0 a0)] []) (m152 a0) PI:=by
  obtain ⟨d,rfl,g⟩:=up hd
  refine q_in (t152 NN d _) ?_
  unfold b152 m152
  refine q_box (n:=6) rfl rfl (by decide) fun b1=>q_p fr<|q_ld 0 rfl rfl<|q_c0t (aF1 (cv_p rfl) fun l0_=>w177 (by omega) a0.Kind)<|q_q fr<|q_q fr<|q_new rfl fun b2=>q_st 0 rfl rfl rfl (by decide) rfl<|q_cu (A:=fun (s:Int)=>[.int .i64 s]) (B:=fun s=>[bx b2 [encS ((m177 a0.Kind).2)],bx b1 [.int .i64 a0.Kind,encS a0.Path,.int .i64 a0.Data,.int .i64 a0.Version,.bool a0.Seq,.bool a0.Own]]) ?_ ?_ ?_ ?_
  ·refine q_cu (A:=fun (s:Bool)=>[.bool s]) (B:=fun s=>[bx b2 [encS ((m177 a0.Kind).2)],bx b1 [.int .i64 a0.Kind,encS a0.Path,.int .i64 a0.Data,.int .i64 a0.Version,.bool a0.Seq,.bool a0.Own]]) ?_ ?_ ?_ ?_
   ·exact q_p fr<|q_ld 1 rfl rfl<|q_c0t (aF3 (cv_p rfl) (cv_p rfl) (cv_p rfl) fun l0_ l1_ l2_=>w148 (by omega) a0.Kind 1 8)<|q_p fr<|q_j (q_norm 0 rr)<|q_v0 (mg:=m178 ([112]:Str) ((m177 a0.Kind).2)) (E:=(fun (t:Bool)=>AV.bool t)) (fun S=>cv152_178 _ _ _ _) (aF2 (cv_p rfl) (cv_b 0 rfl (cvs_e (l0:=false) (x:=(m177 a0.Kind).2))) fun l0_ l1_=>w178 (by omega) ([112]:Str) l1_ ((m177 a0.Kind).2)) fun y1 hy1=>q_k (q_p fr<|q_ld 1 rfl rfl<|q_p (fun _=>seq_neq)<|q_j (q_norm 0 rr)<|q_v0 (mg:=m178 ([100]:Str) ((m177 a0.Kind).2)) (E:=(fun (t:Bool)=>AV.bool t)) (fun S=>cv152_178 _ _ _ _) (aF2 (cv_p rfl) (cv_b 0 rfl (cvs_e (l0:=false) (x:=(m177 a0.Kind).2))) fun l0_ l1_=>w178 (by omega) ([100]:Str) l1_ ((m177 a0.Kind).2)) fun y2 hy2=>q_k (q_p fr<|q_ld 1 rfl rfl<|q_p fr<|q_j (q_norm 0 rr)<|q_v0 (mg:=m178 ([118]:Str) ((m177 a0.Kind).2)) (E:=(fun (t:Bool)=>AV.bool t)) (fun S=>cv152_178 _ _ _ _) (aF2 (cv_p rfl) (cv_b 0 rfl (cvs_e (l0:=false) (x:=(m177 a0.Kind).2))) fun l0_ l1_=>w178 (by omega) ([118]:Str) l1_ ((m177 a0.Kind).2)) fun y3 hy3=>q_k (q_p fr<|q_ld 1 rfl rfl<|q_p fr<|q_j (q_norm 0 rr)<|q_v0 (mg:=m178 ([115]:Str) ((m177 a0.Kind).2)) (E:=(fun (t:Bool)=>AV.bool t)) (fun S=>cv152_178 _ _ _ _) (aF2 (cv_p rfl) (cv_b 0 rfl (cvs_e (l0:=false) (x:=(m177 a0.Kind).2))) fun l0_ l1_=>w178 (by omega) ([115]:Str) l1_ ((m177 a0.Kind).2)) fun y4 hy4=>q_k (q_p fr<|q_ld 1 rfl rfl<|q_j (q_norm 0 rr)<|q_v0 (mg:=m178 ([111]:Str) ((m177 a0.Kind).2)) (E:=(fun (t:Bool)=>AV.bool t)) (fun S=>cv152_178 _ _ _ _) (aF2 (cv_p rfl) (cv_b 0 rfl (cvs_e (l0:=false) (x:=(m177 a0.Kind).2))) fun l0_ l1_=>w178 (by omega) ([111]:Str) l1_ ((m177 a0.Kind).2)) fun y5 hy5=>q_k (q_p fr<|q_ld 1 rfl rfl<|q_norm 0 rr)<|q_norm 0 rr)<|q_v0 (mg:=m178 ([111]:Str) ((m177 a0.Kind).2)) (E:=(fun (t:Bool)=>AV.bool t)) (fun S=>cv152_178 _ _ _ _) (aF2 (cv_p rfl) (cv_b 0 rfl (cvs_e (l0:=false) (x:=(m177 a0.Kind).2))) fun l0_ l1_=>w178 (by omega) ([111]:Str) l1_ ((m177 a0.Kind).2)) fun y6 hy6=>q_k (q_p fr<|q_ld 1 rfl rfl<|q_norm 0 rr)<|q_norm 0 rr)<|q_v0 (mg:=m178 ([115]:Str) ((m177 a0.Kind).2)) (E:=(fun (t:Bool)=>AV.bool t)) (fun S=>cv152_178 _ _ _ _) (aF2 (cv_p rfl) (cv_b 0 rfl (cvs_e (l0:=false) (x:=(m177 a0.Kind).2))) fun l0_ l1_=>w178 (by omega) ([115]:Str) l1_ ((m177 a0.Kind).2)) fun y7 hy7=>q_k (q_p fr<|q_ld 1 rfl rfl<|q_j (q_norm 0 rr)<|q_v0 (mg:=m178 ([111]:Str) ((m177 a0.Kind).2)) (E:=(fun (t:Bool)=>AV.bool t)) (fun S=>cv152_178 _ _ _ _) (aF2 (cv_p rfl) (cv_b 0 rfl (cvs_e (l0:=false) (x:=(m177 a0.Kind).2))) fun l0_ l1_=>w178 (by omega) ([111]:Str) l1_ ((m177 a0.Kind).2)) fun y8 hy8=>q_k (q_p fr<|q_ld 1 rfl rfl<|q_norm 0 rr)<|q_norm 0 rr)<|q_v0 (mg:=m178 ([111]:Str) ((m177 a0.Kind).2)) (E:=(fun (t:Bool)=>AV.bool t)) (fun S=>cv152_178 _ _ _ _) (aF2 (cv_p rfl) (cv_b 0 rfl (cvs_e (l0:=false) (x:=(m177 a0.Kind).2))) fun l0_ l1_=>w178 (by omega) ([111]:Str) l1_ ((m177 a0.Kind).2)) fun y9 hy9=>q_k (q_p fr<|q_ld 1 rfl rfl<|q_norm 0 rr)<|q_norm 0 rr)<|q_v0 (mg:=m178 ([118]:Str) ((m177 a0.Kind).2)) (E:=(fun (t:Bool)=>AV.bool t)) (fun S=>cv152_178 _ _ _ _) (aF2 (cv_p rfl) (cv_b 0 rfl (cvs_e (l0:=false) (x:=(m177 a0.Kind).2))) fun l0_ l1_=>w178 (by omega) ([118]:Str) l1_ ((m177 a0.Kind).2)) fun y10 hy10=>q_k (q_p fr<|q_ld 1 rfl rfl<|q_p fr<|q_j (q_norm 0 rr)<|q_v0 (mg:=m178 ([115]:Str) ((m177 a0.Kind).2)) (E:=(fun (t:Bool)=>AV.bool t)) (fun S=>cv152_178 _ _ _ _) (aF2 (cv_p rfl) (cv_b 0 rfl (cvs_e (l0:=false) (x:=(m177 a0.Kind).2))) fun l0_ l1_=>w178 (by omega) ([115]:Str) l1_ ((m177 a0.Kind).2)) fun y11 hy11=>q_k (q_p fr<|q_ld 1 rfl rfl<|q_j (q_norm 0 rr)<|q_v0 (mg:=m178 ([111]:Str) ((m177 a0.Kind).2)) (E:=(fun (t:Bool)=>AV.bool t)) (fun S=>cv152_178 _ _ _ _) (aF2 (cv_p rfl) (cv_b 0 rfl (cvs_e (l0:=false) (x:=(m177 a0.Kind).2))) fun l0_ l1_=>w178 (by omega) ([111]:Str) l1_ ((m177 a0.Kind).2)) fun y12 hy12=>q_k (q_p fr<|q_ld 1 rfl rfl<|q_norm 0 rr)<|q_norm 0 rr)<|q_v0 (mg:=m178 ([111]:Str) ((m177 a0.Kind).2)) (E:=(fun (t:Bool)=>AV.bool t)) (fun S=>cv152_178 _ _ _ _) (aF2 (cv_p rfl) (cv_b 0 rfl (cvs_e (l0:=false) (x:=(m177 a0.Kind).2))) fun l0_ l1_=>w178 (by omega) ([111]:Str) l1_ ((m177 a0.Kind).2)) fun y13 hy13=>q_k (q_p fr<|q_ld 1 rfl rfl<|q_norm 0 rr)<|q_norm 0 rr)<|q_v0 (mg:=m178 ([115]:Str) ((m177 a0.Kind).2)) (E:=(fun (t:Bool)=>AV.bool t)) (fun S=>cv152_178 _ _ _ _) (aF2 (cv_p rfl) (cv_b 0 rfl (cvs_e (l0:=false) (x:=(m177 a0.Kind).2))) fun l0_ l1_=>w178 (by omega) ([115]:Str) l1_ ((m177 a0.Kind).2)) fun y14 hy14=>q_k (q_p fr<|q_ld 1 rfl rfl<|q_j (q_norm 0 rr)<|q_v0 (mg:=m178 ([111]:Str) ((m177 a0.Kind).2)) (E:=(fun (t:Bool)=>AV.bool t)) (fun S=>cv152_178 _ _ _ _) (aF2 (cv_p rfl) (cv_b 0 rfl (cvs_e (l0:=false) (x:=(m177 a0.Kind).2))) fun l0_ l1_=>w178 (by omega) ([111]:Str) l1_ ((m177 a0.Kind).2)) fun y15 hy15=>q_k (q_p fr<|q_ld 1 rfl rfl<|q_norm 0 rr)<|q_norm 0 rr)<|q_v0 (mg:=m178 ([111]:Str) ((m177 a0.Kind).2)) (E:=(fun (t:Bool)=>AV.bool t)) (fun S=>cv152_178 _ _ _ _) (aF2 (cv_p rfl) (cv_b 0 rfl (cvs_e (l0:=false) (x:=(m177 a0.Kind).2))) fun l0_ l1_=>w178 (by omega) ([111]:Str) l1_ ((m177 a0.Kind).2)) fun y16 hy16=>q_k (q_p fr<|q_ld 1 rfl rfl<|q_norm 0 rr)<|q_norm 0 rr)<|q_v0 (mg:=m178 ([100]:Str) ((m177 a0.Kind).2)) (E:=(fun (t:Bool)=>AV.bool t)) (fun S=>cv152_178 _ _ _ _) (aF2 (cv_p rfl) (cv_b 0 rfl (cvs_e (l0:=false) (x:=(m177 a0.Kind).2))) fun l0_ l1_=>w178 (by omega) ([100]:Str) l1_ ((m177 a0.Kind).2)) fun y17 hy17=>q_k (q_p fr<|q_ld 1 rfl rfl<|q_p fr<|q_j (q_norm 0 rr)<|q_v0 (mg:=m178 ([118]:Str) ((m177 a0.Kind).2)) (E:=(fun (t:Bool)=>AV.bool t)) (fun S=>cv152_178 _ _ _ _) (aF2 (cv_p rfl) (cv_b 0 rfl (cvs_e (l0:=false) (x:=(m177 a0.Kind).2))) fun l0_ l1_=>w178 (by omega) ([118]:Str) l1_ ((m177 a0.Kind).2)) fun y18 hy18=>q_k (q_p fr<|q_ld 1 rfl rfl<|q_p fr<|q_j (q_norm 0 rr)<|q_v0 (mg:=m178 ([115]:Str) ((m177 a0.Kind).2)) (E:=(fun (t:Bool)=>AV.bool t)) (fun S=>cv152_178 _ _ _ _) (aF2 (cv_p rfl) (cv_b 0 rfl (cvs_e (l0:=false) (x:=(m177 a0.Kind).2))) fun l0_ l1_=>w178 (by omega) ([115]:Str) l1_ ((m177 a0.Kind).2)) fun y19 hy19=>q_k (q_p fr<|q_ld 1 rfl rfl<|q_j (q_norm 0 rr)<|q_v0 (mg:=m178 ([111]:Str) ((m177 a0.Kind).2)) (E:=(fun (t:Bool)=>AV.bool t)) (fun S=>cv152_178 _ _ _ _) (aF2 (cv_p rfl) (cv_b 0 rfl (cvs_e (l0:=false) (x:=(m177 a0.Kind).2))) fun l0_ l1_=>w178 (by omega) ([111]:Str) l1_ ((m177 a0.Kind).2)) fun y20 hy20=>q_k (q_p fr<|q_ld 1 rfl rfl<|q_norm 0 rr)<|q_norm 0 rr)<|q_v0 (mg:=m178 ([111]:Str) ((m177 a0.Kind).2)) (E:=(fun (t:Bool)=>AV.bool t)) (fun S=>cv152_178 _ _ _ _) (aF2 (cv_p rfl) (cv_b 0 rfl (cvs_e (l0:=false) (x:=(m177 a0.Kind).2))) fun l0_ l1_=>w178 (by omega) ([111]:Str) l1_ ((m177 a0.Kind).2)) fun y21 hy21=>q_k (q_p fr<|q_ld 1 rfl rfl<|q_norm 0 rr)<|q_norm 0 rr)<|q_v0 (mg:=m178 ([115]:Str) ((m177 a0.Kind).2)) (E:=(fun (t:Bool)=>AV.bool t)) (fun S=>cv152_178 _ _ _ _) (aF2 (cv_p rfl) (cv_b 0 rfl (cvs_e (l0:=false) (x:=(m177 a0.Kind).2))) fun l0_ l1_=>w178 (by omega) ([115]:Str) l1_ ((m177 a0.Kind).2)) fun y22 hy22=>q_k (q_p fr<|q_ld 1 rfl rfl<|q_j (q_norm 0 rr)<|q_v0 (mg:=m178 ([111]:Str) ((m177 a0.Kind).2)) (E:=(fun (t:Bool)=>AV.bool t)) (fun S=>cv152_178 _ _ _ _) (aF2 (cv_p rfl) (cv_b 0 rfl (cvs_e (l0:=false) (x:=(m177 a0.Kind).2))) fun l0_ l1_=>w178 (by omega) ([111]:Str) l1_ ((m177 a0.Kind).2)) fun y23 hy23=>q_k (q_p fr<|q_ld 1 rfl rfl<|q_norm 0 rr)<|q_norm 0 rr)<|q_v0 (mg:=m178 ([111]:Str) ((m177 a0.Kind).2)) (E:=(fun (t:Bool)=>AV.bool t)) (fun S=>cv152_178 _ _ _ _) (aF2 (cv_p rfl) (cv_b 0 rfl (cvs_e (l0:=false) (x:=(m177 a0.Kind).2))) fun l0_ l1_=>w178 (by omega) ([111]:Str) l1_ ((m177 a0.Kind).2)) fun y24 hy24=>q_k (q_p fr<|q_ld 1 rfl rfl<|q_norm 0 rr)<|q_norm 0 rr)<|q_v0 (mg:=m178 ([118]:Str) ((m177 a0.Kind).2)) (E:=(fun (t:Bool)=>AV.bool t)) (fun S=>cv152_178 _ _ _ _) (aF2 (cv_p rfl) (cv_b 0 rfl (cvs_e (l0:=false) (x:=(m177 a0.Kind).2))) fun l0_ l1_=>w178 (by omega) ([118]:Str) l1_ ((m177 a0.Kind).2)) fun y25 hy25=>q_k (q_p fr<|q_ld 1 rfl rfl<|q_p fr<|q_j (q_norm 0 rr)<|q_v0 (mg:=m178 ([115]:Str) ((m177 a0.Kind).2)) (E:=(fun (t:Bool)=>AV.bool t)) (fun S=>cv152_178 _ _ _ _) (aF2 (cv_p rfl) (cv_b 0 rfl (cvs_e (l0:=false) (x:=(m177 a0.Kind).2))) fun l0_ l1_=>w178 (by omega) ([115]:Str) l1_ ((m177 a0.Kind).2)) fun y26 hy26=>q_k (q_p fr<|q_ld 1 rfl rfl<|q_j (q_norm 0 rr)<|q_v0 (mg:=m178 ([111]:Str) ((m177 a0.Kind).2)) (E:=(fun (t:Bool)=>AV.bool t)) (fun S=>cv152_178 _ _ _ _) (aF2 (cv_p rfl) (cv_b 0 rfl (cvs_e (l0:=false) (x:=(m177 a0.Kind).2))) fun l0_ l1_=>w178 (by omega) ([111]:Str) l1_ ((m177 a0.Kind).2)) fun y27 hy27=>q_k (q_p fr<|q_ld 1 rfl rfl<|q_norm 0 rr)<|q_norm 0 rr)<|q_v0 (mg:=m178 ([111]:Str) ((m177 a0.Kind).2)) (E:=(fun (t:Bool)=>AV.bool t)) (fun S=>cv152_178 _ _ _ _) (aF2 (cv_p rfl) (cv_b 0 rfl (cvs_e (l0:=false) (x:=(m177 a0.Kind).2))) fun l0_ l1_=>w178 (by omega) ([111]:Str) l1_ ((m177 a0.Kind).2)) fun y28 hy28=>q_k (q_p fr<|q_ld 1 rfl rfl<|q_norm 0 rr)<|q_norm 0 rr)<|q_v0 (mg:=m178 ([115]:Str) ((m177 a0.Kind).2)) (E:=(fun (t:Bool)=>AV.bool t)) (fun S=>cv152_178 _ _ _ _) (aF2 (cv_p rfl) (cv_b 0 rfl (cvs_e (l0:=false) (x:=(m177 a0.Kind).2))) fun l0_ l1_=>w178 (by omega) ([115]:Str) l1_ ((m177 a0.Kind).2)) fun y29 hy29=>q_k (q_p fr<|q_ld 1 rfl rfl<|q_j (q_norm 0 rr)<|q_v0 (mg:=m178 ([111]:Str) ((m177 a0.Kind).2)) (E:=(fun (t:Bool)=>AV.bool t)) (fun S=>cv152_178 _ _ _ _) (aF2 (cv_p rfl) (cv_b 0 rfl (cvs_e (l0:=false) (x:=(m177 a0.Kind).2))) fun l0_ l1_=>w178 (by omega) ([111]:Str) l1_ ((m177 a0.Kind).2)) fun y30 hy30=>q_k (q_p fr<|q_ld 1 rfl rfl<|q_norm 0 rr)<|q_norm 0 rr)<|q_v0 (mg:=m178 ([111]:Str) ((m177 a0.Kind).2)) (E:=(fun (t:Bool)=>AV.bool t)) (fun S=>cv152_178 _ _ _ _) (aF2 (cv_p rfl) (cv_b 0 rfl (cvs_e (l0:=false) (x:=(m177 a0.Kind).2))) fun l0_ l1_=>w178 (by omega) ([111]:Str) l1_ ((m177 a0.Kind).2)) fun y31 hy31=>q_k (q_p fr<|q_ld 1 rfl rfl<|q_norm 0 rr)<|q_norm 0 rr
   ·exact fun s3=>q_i (q_lret 0 rr)<|q_v0 (mg:=m178 ([112]:Str) ((m177 a0.Kind).2)) (E:=(fun (t:Bool)=>AV.bool t)) (fun S=>cv152_178 _ _ _ _) (aF2 (cv_p rfl) (cv_b 0 rfl (cvs_e (l0:=false) (x:=(m177 a0.Kind).2))) fun l0_ l1_=>w178 (by omega) ([112]:Str) l1_ ((m177 a0.Kind).2)) fun y32 hy32=>q_i (q_lret 0 rr)<|q_norm 0 rr
   ·exact fun i1 s3=>q_n (q_norm 0 rr)<|q_exit 0 rr
   ·exact fun s3=>q_lret 0 rr
  ·intro s4
   refine q_p fr<|q_ld 1 rfl rfl<|q_c0 (aF1 (cv_p rfl) fun l0_=>w180 (by omega) a0.Path) fun y33 hy33=>q_p fr<|q_i ?_ ?_
   ·exact q_ret (cv_p rfl) rfl
   ·refine q_cu (A:=fun (s:Int)=>[.int .i64 s]) (B:=fun s=>[bx b2 [encS ((m177 a0.Kind).2)],bx b1 [.int .i64 a0.Kind,encS a0.Path,.int .i64 a0.Data,.int .i64 a0.Version,.bool a0.Seq,.bool a0.Own]]) ?_ ?_ ?_ ?_
    ·refine q_p fr<|q_ld 1 rfl rfl<|q_c0t (aF1 (cv_p rfl) fun l0_=>w181 (by omega) a0.Data)<|q_p fr<|q_j ?_ ?_
     ·first | refine q_ifT1 ?_ | skip
      exact q_lret 0 rr
     ·exact q_p fr<|q_ld 1 rfl rfl<|q_c0t (aF3 (cv_p rfl) (cv_p rfl) (cv_p rfl) fun l0_ l1_ l2_=>w148 (by omega) a0.Version (-1) 999)<|q_p fr<|q_i (q_lret 0 rr)<|q_norm 0 rr
    ·exact fun s6=>q_ret (cv_p rfl) rfl
    ·exact fun i3 s6=>q_none
    ·exact fun s6=>q_ret (cv_p rfl) rfl
  ·exact fun i2 s4=>q_none
  ·exact fun s4=>q_ret (cv_p rfl) rfl
def ms182_0 (a0:List TOp) (a1:TOp→Option (Bool)) (s1:Int×Int):Option (LO (Int×Int)):=bif decide (s1.2 < (a0.length:Int)) then (getI a0 s1.2).bind fun x1=>(a1 x1).bind fun y1=>bif y1 then some (LO.ret (s1.2,s1.2)) else some (LO.norm (s1.1,wi .i64 (s1.2 + 1))) else some (LO.exit 0 (s1.1,s1.2))
def m182 (a0:List TOp) (a1:TOp→Option (Bool)):Option (Int):=(loopO (ms182_0 a0 a1) NN (0,0)).bind (contO (fun _=>none) (fun i1 s2=>if i1 = 0 then some (-1) else none) (fun s2=>some s2.1))
theorem w182 {Dc:Nat} {d:Nat} (hd:Dc + 1≤d) (k0:Bool) (a0:List TOp) (c1:Bool→AV) (hc1:∀ l,CV 8 [] false (c1 l) c1) (a1:TOp→Option (Bool)) (tc1:∀ (d:Nat),Dc≤d→∀ (l:Bool) (q0:Bool) (x0:TOp) (S:St) (t:Bool),a1 x0 = some t→callV (cfg NN) (R NN d) 182 (c1 l) [.agg (Enc.cs q0 x0)] S = some ((fun (t:Bool)=>AV.bool t) t,S)) (k1:Bool):Fit (R NN d 182 [.rsl k0 false (a0.map (Enc.cs k0)),c1 k1] []) (m182 a0 a1) PI:=by
  obtain ⟨d,rfl,g⟩:=up hd
  refine q_in (t182 NN d _ _) ?_
  unfold b182 m182
  refine q_len<|q_lp (A:=fun (s:Int×Int)=>[.int .i64 s.1,.int .i64 s.2]) (B:=fun s=>[]) 0 rr ?_ ?_ ?_
  ·intro s1
   unfold s182_0 ms182_0
   exact q_p fr<|q_i (q_ix rfl fun x1 hx1=>q_p fr<|q_cv (mg:=a1 x1) (E:=(fun (t:Bool)=>AV.bool t)) (fun S t ht=>tc1 d (by omega) k1 k0 x1 S t ht) fun y1 hy1=>q_i (q_lret 0 rr)<|q_p fr<|q_norm 0 rr)<|q_exit 0 rr
  ·exact fun i1 s2=>q_n (q_ret (cv_p rfl) rfl)<|q_none
  ·exact fun s2=>q_ret (cv_p rfl) rfl
def m153 (a0:List TOp) (a1:TOp→Option (Bool)):Option (Bool):=(m182 a0 a1).bind fun y1=>some (decide (y1 ≥ 0))
theorem w153 {Dc:Nat} {d:Nat} (hd:Dc + 2≤d) (k0:Bool) (a0:List TOp) (c1:Bool→AV) (hc1:∀ l,CV 8 [] false (c1 l) c1) (a1:TOp→Option (Bool)) (tc1:∀ (d:Nat),Dc≤d→∀ (l:Bool) (q0:Bool) (x0:TOp) (S:St) (t:Bool),a1 x0 = some t→callV (cfg NN) (R NN d) 182 (c1 l) [.agg (Enc.cs q0 x0)] S = some ((fun (t:Bool)=>AV.bool t) t,S)) (k1:Bool):Fit (R NN d 153 [.rsl k0 false (a0.map (Enc.cs k0)),c1 k1] []) (m153 a0 a1) PB:=by
  obtain ⟨d,rfl,g⟩:=up hd
  refine q_in (t153 NN d _ _) ?_
  unfold b153 m153
  exact q_c0 (aF2 cv_r (CV.any (hc1 k1)) fun l0_ l1_=>w182 (by omega) l0_ a0 c1 hc1 a1 tc1 l1_) fun y1 hy1=>q_p fr<|q_ret (cv_p rfl) rfl
def m154 (a0:TOp):Bool:=bif a0.Kind == 1 then true else a0.Kind == 2
theorem w154 {d:Nat} (hd:1≤d) (k0:Bool) (a0:TOp):Fit (R NN d 154 [.agg (Enc.cs k0 a0)] []) (some (m154 a0)) PB:=by
  obtain ⟨d,rfl,g⟩:=up hd
  refine q_in (t154 NN d _) ?_
  unfold b154 m154
  exact q_box (n:=6) rfl rfl (by decide) fun b1=>q_p fr<|q_ld 0 rfl rfl<|q_p fr<|q_gFt (fun h1=>q_ret (cv_p rfl) rfl) fun h1=>q_p fr<|q_ld 0 rfl rfl<|q_p fr<|q_ret (cv_p rfl) rfl
def ms116_0 (a0:TRequest) (s5:Int×Int):Option (LO (Int×Int)):=bif decide (s5.2 < (a0.Ops.length:Int)) then (getI a0.Ops s5.2).bind fun x1=>(m152 x1).bind fun y1=>bif y1 != 0 then some (LO.ret (y1,s5.2)) else some (LO.norm (s5.1,wi .i64 (s5.2 + 1))) else some (LO.exit 1 (s5.1,s5.2))
def m116 (a0:TRequest):Option (Int):=( ( bif !(m150 a0.Client) then some (LO.norm true) else bif !(m148 a0.Number 1 99) then some (LO.norm true) else some (LO.norm (!(m151 a0.Time)))).bind (contO (fun s3=>bif s3 then some (LO.ret 3) else bif !(m148 (a0.Ops.length:Int) 1 3) then some (LO.ret 2) else some (LO.norm 0)) (fun i1 s3=>if i1 = 0 then some (LO.norm 0) else some (LO.exit i1 0)) (fun s3=>some (LO.ret 0)))).bind (contO (fun s4=>(loopO (ms116_0 a0) NN (s4,0)).bind (contO (fun _=>none) (fun i3 s6=>if i3 = 1 then ( bif decide ((a0.Ops.length:Int) > 1) then (m153 a0.Ops (fun x0_=>some (m154 x0_))).bind fun y2=>bif y2 then some (LO.ret 1) else some (LO.norm s6.1) else some (LO.norm s6.1)).bind (contO (fun s8=>some 0) (fun i4 s8=>none) (fun s8=>some s8)) else none) (fun s6=>some s6.1))) (fun i2 s4=>none) (fun s4=>some s4))
theorem w116 {d:Nat} (hd:8≤d) (k0:Bool) (a0:TRequest):Fit (R NN d 116 [.agg (Enc.cs k0 a0)] []) (m116 a0) PI:=by
  obtain ⟨d,rfl,g⟩:=up hd
  refine q_in (t116 NN d _) ?_
  unfold b116 m116
  refine q_box (n:=4) rfl rfl (by decide) fun b1=>q_cu (A:=fun (s:Int)=>[.int .i64 s]) (B:=fun s=>[bx b1 [.int .i64 a0.Client,.int .i64 a0.Number,.int .i64 a0.Time,.rsl k0 false (a0.Ops.map (Enc.cs k0))]]) ?_ ?_ ?_ ?_
  ·refine q_cu (A:=fun (s:Bool)=>[.bool s]) (B:=fun s=>[bx b1 [.int .i64 a0.Client,.int .i64 a0.Number,.int .i64 a0.Time,.rsl k0 false (a0.Ops.map (Enc.cs k0))]]) ?_ ?_ ?_ ?_
   ·exact q_p fr<|q_ld 0 rfl rfl<|q_c0t (aF1 (cv_p rfl) fun l0_=>w150 (by omega) a0.Client)<|q_p fr<|q_j (q_norm 0 rr)<|q_p fr<|q_ld 0 rfl rfl<|q_c0t (aF3 (cv_p rfl) (cv_p rfl) (cv_p rfl) fun l0_ l1_ l2_=>w148 (by omega) a0.Number 1 99)<|q_p fr<|q_j (q_norm 0 rr)<|q_p fr<|q_ld 0 rfl rfl<|q_c0t (aF1 (cv_p rfl) fun l0_=>w151 (by omega) a0.Time)<|q_p fr<|q_norm 0 rr
   ·exact fun s3=>q_i (q_lret 0 rr)<|q_p fr<|q_ld 0 rfl rfl<|q_len<|q_c0t (aF3 (cv_p rfl) (cv_p rfl) (cv_p rfl) fun l0_ l1_ l2_=>w148 (by omega) (a0.Ops.length:Int) 1 3)<|q_p fr<|q_i (q_lret 0 rr)<|q_norm 0 rr
   ·exact fun i1 s3=>q_n (q_norm 0 rr)<|q_exit 0 rr
   ·exact fun s3=>q_lret 0 rr
  ·intro s4
   refine q_p fr<|q_ld 0 rfl rfl<|q_len<|q_lp (A:=fun (s:Int×Int)=>[.int .i64 s.1,.int .i64 s.2]) (B:=fun s=>[bx b1 [.int .i64 a0.Client,.int .i64 a0.Number,.int .i64 a0.Time,.rsl k0 false (a0.Ops.map (Enc.cs k0))]]) 0 rr ?_ ?_ ?_
   ·intro s5
    unfold s116_0 ms116_0
    exact q_p fr<|q_i (q_ix rfl fun x1 hx1=>q_p fr<|q_new rfl fun b2=>q_st 0 rfl rfl rfl (by decide) rfl<|q_lda 0 rfl rfl rfl<|q_c0 (aF1 (cv_a (cvs_e (l0:=false) (x:=x1))) fun l0_=>w152 (by omega) l0_ x1) fun y1 hy1=>q_p fr<|q_i (q_lret 1 rr)<|q_p fr<|q_norm 1 rr)<|q_exit 0 rr
   ·intro i3 s6
    refine q_n ?_ ?_
    ·refine q_cu (A:=fun (s:Int)=>[.int .i64 s]) (B:=fun s=>[bx b1 [.int .i64 a0.Client,.int .i64 a0.Number,.int .i64 a0.Time,.rsl k0 false (a0.Ops.map (Enc.cs k0))]]) ?_ ?_ ?_ ?_
     ·refine q_p fr<|q_ld 0 rfl rfl<|q_len<|q_p fr<|q_k ?_ ?_
      ·exact q_p fr<|q_ld 0 rfl rfl<|q_c0 (aF2 cv_r (cv_f cvs_nil) fun l0_ l1_=>w153 (Dc:=1) (by omega) l0_ a0.Ops (fun l=>.fn 154 []) (fun l=>cv_f cvs_nil) (fun x0_=>some (m154 x0_)) (fun d hd l q0_ x0_ S t ht=>(cv182_154 _ _ _ _).trans (call0_of (E:=(fun (t:Bool)=>AV.bool t)) (mg:=some (m154 x0_)) (args1 (M:=fun a=>Fit (R NN d 154 a []) _ _) (cv_a (cvs_e (l0:=q0_) (x:=x0_))) HP.nil fun u0_=>w154 hd u0_ x0_) ht)) l1_) fun y2 hy2=>q_i (q_lret 0 rr)<|q_norm 0 rr
      ·first | refine q_ifF1 ?_ | skip
       exact q_norm 0 rr
     ·exact fun s8=>q_ret (cv_p rfl) rfl
     ·exact fun i4 s8=>q_none
     ·exact fun s8=>q_ret (cv_p rfl) rfl
    ·exact q_none
   ·exact fun s6=>q_ret (cv_p rfl) rfl
  ·exact fun i2 s4=>q_none
  ·exact fun s4=>q_ret (cv_p rfl) rfl
def ms155_0 (a0:List TRequest) (a1:TRequest→Option (Bool)) (s1:Int×Int):Option (LO (Int×Int)):=bif decide (s1.2 < (a0.length:Int)) then (getI a0 s1.2).bind fun x1=>(a1 x1).bind fun y1=>bif y1 then some (LO.ret (s1.2,s1.2)) else some (LO.norm (s1.1,wi .i64 (s1.2 + 1))) else some (LO.exit 0 (s1.1,s1.2))
def m155 (a0:List TRequest) (a1:TRequest→Option (Bool)):Option (Int):=(loopO (ms155_0 a0 a1) NN (0,0)).bind (contO (fun _=>none) (fun i1 s2=>if i1 = 0 then some (-1) else none) (fun s2=>some s2.1))
theorem w155 {Dc:Nat} {d:Nat} (hd:Dc + 1≤d) (k0:Bool) (a0:List TRequest) (c1:Bool→AV) (hc1:∀ l,CV 8 [] false (c1 l) c1) (a1:TRequest→Option (Bool)) (tc1:∀ (d:Nat),Dc≤d→∀ (l:Bool) (q0:Bool) (x0:TRequest) (S:St) (t:Bool),a1 x0 = some t→callV (cfg NN) (R NN d) 155 (c1 l) [.agg (Enc.cs q0 x0)] S = some ((fun (t:Bool)=>AV.bool t) t,S)) (k1:Bool):Fit (R NN d 155 [.rsl k0 false (a0.map (Enc.cs k0)),c1 k1] []) (m155 a0 a1) PI:=by
  obtain ⟨d,rfl,g⟩:=up hd
  refine q_in (t155 NN d _ _) ?_
  unfold b155 m155
  refine q_len<|q_lp (A:=fun (s:Int×Int)=>[.int .i64 s.1,.int .i64 s.2]) (B:=fun s=>[]) 0 rr ?_ ?_ ?_
  ·intro s1
   unfold s155_0 ms155_0
   exact q_p fr<|q_i (q_ix rfl fun x1 hx1=>q_p fr<|q_cv (mg:=a1 x1) (E:=(fun (t:Bool)=>AV.bool t)) (fun S t ht=>tc1 d (by omega) k1 k0 x1 S t ht) fun y1 hy1=>q_i (q_lret 0 rr)<|q_p fr<|q_norm 0 rr)<|q_exit 0 rr
  ·exact fun i1 s2=>q_n (q_ret (cv_p rfl) rfl)<|q_none
  ·exact fun s2=>q_ret (cv_p rfl) rfl
def m156 (a0:TRequest) (a1:TRequest):Bool:=bif a0.Client == a1.Client then a0.Number == a1.Number else false
theorem w156 {d:Nat} (hd:1≤d) (k0:Bool) (a0:TRequest) (k1:Bool) (a1:TRequest):Fit (R NN d 156 [.agg (Enc.cs k0 a0),.rp k1 (Enc.cs k1 a1)] []) (some (m156 a0 a1)) PB:=by
  obtain ⟨d,rfl,g⟩:=up hd
  refine q_in (t156 NN d _ _) ?_
  unfold b156 m156
  exact q_box (n:=4) rfl rfl (by decide) fun b1=>q_p fr<|q_ld 0 rfl rfl<|q_p fr<|q_p fr<|q_p fr<|q_gTt (fun h1=>q_p fr<|q_ld 0 rfl rfl<|q_p fr<|q_p fr<|q_p fr<|q_ret (cv_p rfl) rfl) fun h1=>q_ret (cv_p rfl) rfl
def m117 (a0:List TRequest) (a1:TRequest):Option (Int):=(m155 a0 (fun x0_=>some (m156 x0_ a1))).bind fun y1=>some y1
theorem w117 {d:Nat} (hd:3≤d) (k0:Bool) (a0:List TRequest) (k1:Bool) (a1:TRequest):Fit (R NN d 117 [.rsl k0 false (a0.map (Enc.cs k0)),.agg (Enc.cs k1 a1)] []) (m117 a0 a1) PI:=by
  obtain ⟨d,rfl,g⟩:=up hd
  refine q_in (t117 NN d _ _) ?_
  unfold b117 m117
  exact q_box (n:=4) rfl rfl (by decide) fun b1=>q_c0 (aF2 cv_r (cv_f (cvs_cons (cv_b 0 rfl (cvs_e (l0:=k1) (x:=a1))) cvs_nil)) fun l0_ l1_=>w155 (Dc:=1) (by omega) l0_ a0 (fun l=>.fn 156 [.rp l (Enc.cs l a1)]) (fun l=>cv_f (cvs_cons (cv_rp (cvs_e (l0:=l) (x:=a1)) (fun _ _ _ h=>Enc.frz _ a1 _ _ _ h)) cvs_nil)) (fun x0_=>some (m156 x0_ a1)) (fun d hd l q0_ x0_ S t ht=>(cv155_156 _ _ _ _).trans (call0_of (E:=(fun (t:Bool)=>AV.bool t)) (mg:=some (m156 x0_ a1)) (args2 (M:=fun a=>Fit (R NN d 156 a []) _ _) (cv_a (cvs_e (l0:=q0_) (x:=x0_))) (cv_rp (cvs_e (l0:=l) (x:=a1)) (fun _ _ _ h=>Enc.frz _ a1 _ _ _ h)) HP.nil fun u0_ v0_=>w156 hd u0_ x0_ v0_ a1) ht)) l1_) fun y1 hy1=>q_ret (cv_p rfl) rfl
def ms81_0 (a0:TCluster) (s3:Int×(List Int)):Option (LO (Int×(List Int))):=bif decide (s3.1 < (a0.Replicas.length:Int)) then (getI a0.Replicas s3.1).bind fun x1=>(appO 8 s3.2 [x1.Id]).bind fun z1=>some (LO.norm (wi .i64 (s3.1 + 1),z1)) else some (LO.exit 0 (s3.1,s3.2))
def ms81_1 (a0:TCluster) (y5:(List Int)) (s5:Int×Int):Option (LO (Int×Int)):=bif decide (s5.2 < (a0.Replicas.length:Int)) then (getI a0.Replicas s5.2).bind fun x2=>(m115 a0.F a0.Ledger x2 (y5.length:Int)).bind fun y6=>bif y6 != 0 then some (LO.ret (y6,s5.2)) else some (LO.norm (s5.1,wi .i64 (s5.2 + 1))) else some (LO.exit 2 (s5.1,s5.2))
def ms81_2 (a0:TCluster) (s7:Int×Int):Option (LO (Int×Int)):=bif decide (s7.2 < (a0.Requests.length:Int)) then (getI a0.Requests s7.2).bind fun x3=>(m116 x3).bind fun y7=>bif y7 != 0 then some (LO.ret (y7,s7.2)) else (subI a0.Requests 0 s7.2).bind fun ys1=>(m117 ys1 x3).bind fun y8=>bif decide (y8 ≥ 0) then some (LO.ret (6,s7.2)) else some (LO.norm (s7.1,wi .i64 (s7.2 + 1))) else some (LO.exit 4 (s7.1,s7.2))
def m81 (a0:TCluster):Option (Int):=(m110 a0.F a0.Ledger).bind fun y1=>bif y1 != 0 then some y1 else ( bif decide ((a0.Bad.length:Int) > a0.F) then some (LO.ret 2) else bif decide ((a0.Requests.length:Int) > 12) then some (LO.ret 2) else some (LO.norm 0)).bind (contO (fun s2=>(m111 a0.F a0.Bad).bind fun y2=>bif y2 != 0 then some y2 else (loopO (ms81_0 a0) NN (0,[])).bind (contO (fun _=>none) (fun i2 s4=>if i2 = 0 then (m113 a0.F a0.Bad).bind fun y3=>(m112 s4.2 y3).bind fun y4=>bif !y4 then some 1 else (m114 a0.F a0.Ledger).bind fun y5=>(loopO (ms81_1 a0 y5) NN (s2,0)).bind (contO (fun _=>none) (fun i3 s6=>if i3 = 2 then (loopO (ms81_2 a0) NN (s6.1,0)).bind (contO (fun _=>none) (fun i4 s8=>if i4 = 4 then some 0 else none) (fun s8=>some s8.1)) else none) (fun s6=>some s6.1)) else none) (fun s4=>some s2))) (fun i1 s2=>none) (fun s2=>some s2))
theorem w81 {d:Nat} (hd:146≤d) (k0:Bool) (a0:TCluster):Fit (R NN d 81 [.agg (Enc.cs k0 a0)] []) (m81 a0) PI:=by
  obtain ⟨d,rfl,g⟩:=up hd
  refine q_in (t81 NN d _) ?_
  unfold b81 m81
  refine q_box (n:=5) rfl rfl (by decide) fun b1=>q_p fr<|q_ld 0 rfl rfl<|q_p fr<|q_ld 0 rfl rfl<|q_c0 (aF2 (cv_p rfl) cv_r fun l0_ l1_=>w110 (by omega) a0.F l1_ a0.Ledger) fun y1 hy1=>q_p fr<|q_i ?_ ?_
  ·exact q_ret (cv_p rfl) rfl
  ·refine q_cu (A:=fun (s:Int)=>[.int .i64 s]) (B:=fun s=>[bx b1 [.int .i64 a0.F,.rsl k0 false (a0.Bad.map (Enc.cs k0)),.rsl k0 false (a0.Replicas.map (Enc.cs k0)),.rsl k0 false (a0.Ledger.map (Enc.cs k0)),.rsl k0 false (a0.Requests.map (Enc.cs k0))]]) ?_ ?_ ?_ ?_
   ·refine q_p fr<|q_ld 0 rfl rfl<|q_len<|q_p fr<|q_ld 0 rfl rfl<|q_p fr<|q_j ?_ ?_
    ·first | refine q_ifT1 ?_ | skip
     exact q_lret 0 rr
    ·exact q_p fr<|q_ld 0 rfl rfl<|q_len<|q_p fr<|q_i (q_lret 0 rr)<|q_norm 0 rr
   ·intro s2
    refine q_p fr<|q_ld 0 rfl rfl<|q_p fr<|q_ld 0 rfl rfl<|q_c0 (aF2 (cv_p rfl) cv_r fun l0_ l1_=>w111 (by omega) a0.F l1_ a0.Bad) fun y2 hy2=>q_p fr<|q_i ?_ ?_
    ·exact q_ret (cv_p rfl) rfl
    ·refine q_q (fun _=>qs22_0)<|q_p fr<|q_ld 0 rfl rfl<|q_len<|q_nil (α:=Int) false<|q_loop (I:=(fun (s:Int×(List Int)) l L=>∃ (v1:AV),l = [v1,.int .i64 s.1]∧L = [sl false v1 (s.2:List Int),bx b1 [.int .i64 a0.F,.rsl k0 false (a0.Bad.map (Enc.cs k0)),.rsl k0 false (a0.Replicas.map (Enc.cs k0)),.rsl k0 false (a0.Ledger.map (Enc.cs k0)),.rsl k0 false (a0.Requests.map (Enc.cs k0))]])) 0 ⟨(.rsl false true []),rfl,rfl⟩ ?_ ?_ ?_
     ·rintro s3 _ _ ⟨v1,rfl,rfl⟩
      unfold s81_0 ms81_0
      exact q_p fr<|q_i (q_ix rfl fun x1 hx1=>q_p fr<|q_new rfl fun b2=>q_st 0 rfl rfl rfl (by decide) rfl<|q_p fr<|q_ld 0 rfl rfl<|q_q (fun _=>qi22_1)<|q_app (ys:=[x1.Id]) 1 rfl rfl (fun _ _=>rfl) fun v2 z1 hz1=>q_p fr<|q_norm 1 ⟨v2,rfl,rfl⟩)<|q_exit 0 ⟨v1,rfl,rfl⟩
     ·rintro i2 s4 _ _ ⟨v3,rfl,rfl⟩
      refine q_n ?_ ?_
      ·refine q_p fr<|q_ld 1 rfl rfl<|q_p fr<|q_ld 1 rfl rfl<|q_c0 (aF2 (cv_p rfl) cv_r fun l0_ l1_=>w113 (by omega) a0.F l1_ a0.Bad) fun y3 hy3=>q_c0 (aF2 (cv_o 0 rfl) cv_r fun l0_ l1_=>w112 (by omega) l0_ s4.2 l1_ y3) fun y4 hy4=>q_p fr<|q_i ?_ ?_
       ·exact q_ret (cv_p rfl) rfl
       ·refine q_p fr<|q_ld 1 rfl rfl<|q_p fr<|q_ld 1 rfl rfl<|q_c0 (aF2 (cv_p rfl) cv_r fun l0_ l1_=>w114 (by omega) a0.F l1_ a0.Ledger) fun y5 hy5=>q_len<|q_p fr<|q_ld 1 rfl rfl<|q_len<|q_lp (A:=fun (s:Int×Int)=>[.int .i64 s.1,.int .i64 s.2]) (B:=fun s=>[sl false v3 (s4.2:List Int),bx b1 [.int .i64 a0.F,.rsl k0 false (a0.Bad.map (Enc.cs k0)),.rsl k0 false (a0.Replicas.map (Enc.cs k0)),.rsl k0 false (a0.Ledger.map (Enc.cs k0)),.rsl k0 false (a0.Requests.map (Enc.cs k0))]]) 0 rr ?_ ?_ ?_
        ·intro s5
         unfold s81_1 ms81_1
         exact q_p fr<|q_i (q_ix rfl fun x2 hx2=>q_p fr<|q_new rfl fun b3=>q_st 0 rfl rfl rfl (by decide) rfl<|q_p fr<|q_ld 2 rfl rfl<|q_p fr<|q_ld 2 rfl rfl<|q_lda 0 rfl rfl rfl<|q_c0 (fun S hS=>argF4 (cv_p rfl) cv_r (cv_a (cvs_e (l0:=false) (x:=x2))) (cv_p rfl) hS fun l0_ l1_ l2_ l3_=>w115 (by omega) a0.F l1_ a0.Ledger l2_ x2 (y5.length:Int)) fun y6 hy6=>q_p fr<|q_i (q_lret 1 rr)<|q_p fr<|q_norm 1 rr)<|q_exit 0 rr
        ·intro i3 s6
         refine q_n ?_ ?_
         ·refine q_p fr<|q_ld 1 rfl rfl<|q_len<|q_lp (A:=fun (s:Int×Int)=>[.int .i64 s.1,.int .i64 s.2]) (B:=fun s=>[sl false v3 (s4.2:List Int),bx b1 [.int .i64 a0.F,.rsl k0 false (a0.Bad.map (Enc.cs k0)),.rsl k0 false (a0.Replicas.map (Enc.cs k0)),.rsl k0 false (a0.Ledger.map (Enc.cs k0)),.rsl k0 false (a0.Requests.map (Enc.cs k0))]]) 0 rr ?_ ?_ ?_
          ·intro s7
           unfold s81_2 ms81_2
           exact q_p fr<|q_i (q_ix rfl fun x3 hx3=>q_p fr<|q_new rfl fun b4=>q_st 0 rfl rfl rfl (by decide) rfl<|q_lda 0 rfl rfl rfl<|q_c0 (aF1 (cv_a (cvs_e (l0:=k0) (x:=x3))) fun l0_=>w116 (by omega) l0_ x3) fun y7 hy7=>q_p fr<|q_i (q_lret 1 rr)<|q_p fr<|q_ld 2 rfl rfl<|q_sub rfl (.inr ⟨rfl,rfl⟩) (.inl rfl) fun fl1 ys1 hys1=>q_lda 0 rfl rfl rfl<|q_c0 (aF2 cv_r (cv_a (cvs_e (l0:=k0) (x:=x3))) fun l0_ l1_=>w117 (by omega) l0_ ys1 l1_ x3) fun y8 hy8=>q_p fr<|q_i (q_lret 1 rr)<|q_p fr<|q_norm 1 rr)<|q_exit 0 rr
          ·exact fun i4 s8=>q_n (q_ret (cv_p rfl) rfl)<|q_none
          ·exact fun s8=>q_ret (cv_p rfl) rfl
         ·exact q_none
        ·exact fun s6=>q_ret (cv_p rfl) rfl
      ·exact q_none
     ·rintro s4 _ _ ⟨v4,rfl,rfl⟩
      exact q_ret (cv_p rfl) rfl
   ·exact fun i1 s2=>q_none
   ·exact fun s2=>q_ret (cv_p rfl) rfl
def m119 (a0:List TReplica):Option (List TReplica):=appO 32 [] a0
theorem w119 {d:Nat} (hd:1≤d) (k0:Bool) (a0:List TReplica):Fit (R NN d 119 [.rsl k0 false (a0.map (Enc.cs k0))] []) (m119 a0) (P1 (T:=List TReplica) one1):=by
  obtain ⟨d,rfl,g⟩:=up hd
  rw [t119]
  refine (?_:Okh [] (fun S=>b119 (cfg NN) (R NN d) (.rsl k0 false (a0.map (Enc.cs k0))) S) _ _) [] HP.nil
  unfold b119 m119
  refine q_nilc (e:=58) und29 (fun h S=>?_) ?_
  · subst h
    refine Eq.symm (show pq (quietS (abuildS _ _ _ _ S) S) _ = _ from ?_)
    rw [qs29_0]; rfl
  refine q_q (fun _=>qs29_0) ?_
  refine q_nil (α:=TReplica) false ?_
  rw [show appO 32 ([]:List TReplica) a0 = (appO 32 [] a0).bind some from by cases appO 32 ([]:List TReplica) a0 <;> rfl]
  refine q_app (ys:=a0) 0 rfl rfl (fun _ _=>rfl) fun v1 z1 hz1=>?_
  exact q_out (tb_sl 0 rfl plt58) rfl
def ms120_0 (a0:List TMsg) (s1:Int×(List TMsg)):Option (LO (Int×(List TMsg))):=bif decide (s1.1 < (a0.length:Int)) then (getI a0 s1.1).bind fun x1=>(m129 x1).bind fun y1=>(appO 88 s1.2 [y1]).bind fun z1=>some (LO.norm (wi .i64 (s1.1 + 1),z1)) else some (LO.exit 0 (s1.1,s1.2))
def m120 (a0:List TMsg):Option ((List TMsg)):=(loopO (ms120_0 a0) NN (0,[])).bind (contO (fun _=>none) (fun i4 s2=>if i4 = 0 then some s2.2 else none) (fun s2=>some []))
theorem w120 {d:Nat} (hd:3≤d) (k0:Bool) (a0:List TMsg):Fit (R NN d 120 [.rsl k0 false (a0.map (Enc.cs k0))] []) (m120 a0) (P1 (T:=List TMsg) one1):=by
  obtain ⟨d,rfl,g⟩:=up hd
  refine q_in (t120 NN d _) ?_
  unfold b120 m120
  refine q_q (fun _=>qs30_0)<|q_len<|q_nila (α:=TMsg)<|q_loop (I:=(fun (s:Int×(List TMsg)) l L=>∃ (i1:List Nat) (v1:AV),l = [v1,.int .i64 s.1]∧L = [tra i1 v1 (s.2:List TMsg)])) 0 ⟨[],(.rsl false true []),rfl,rfl⟩ ?_ ?_ ?_
  ·rintro s1 _ _ ⟨i1,v1,rfl,rfl⟩
   unfold s120_0 ms120_0
   refine q_p fr<|q_i ?_ ?_
   ·refine q_ix rfl fun x1 hx1=>q_p fr<|q_new rfl fun b1=>q_st 0 rfl rfl rfl (by decide) rfl<|q_lda 0 rfl rfl rfl<|q_c1 (W:=AV.agg) (mg:=m129 x1) sh_agg (aF1 (cv_a (cvs_e (l0:=k0) (x:=x1))) fun l0_=>w129 (by omega) l0_ x1) fun y1 hy1 i2 cs1=>q_cx (fun S hS=>trx53 (hS.get (k:=0) rfl)) fun hcs_=>?_
    obtain ⟨v2,v3,rfl⟩:=hcs_
    exact q_sel 3 [0,2,1] (by decide) (by decide)<|q_ap1 rfl (fun _=>bt30) rfl fun z1 hz1 v4 i3=>q_p fr<|q_sel 2 [1,0] (by decide) (by decide)<|q_norm 1 ⟨i3,v4,rfl,rfl⟩
   ·exact q_exit 0 ⟨i1,v1,rfl,rfl⟩
  ·rintro i4 s2 _ _ ⟨i5,v5,rfl,rfl⟩
   exact q_n (q_wk<|q_out (tb_tr 0 rfl) rfl)<|q_none
  ·rintro s2 _ _ ⟨i6,v6,rfl,rfl⟩
   exact q_out (tb_nil (α:=TMsg) (fl:=true)) rfl
def m157 (a0:List TOp):Option (List TOp):=appO 48 [] a0
theorem w157 {d:Nat} (hd:1≤d) (k0:Bool) (a0:List TOp):Fit (R NN d 157 [.rsl k0 false (a0.map (Enc.cs k0))] []) (m157 a0) (P1 (T:=List TOp) one1):=by
  obtain ⟨d,rfl,g⟩:=up hd
  rw [t157]
  refine (?_:Okh [] (fun S=>b157 (cfg NN) (R NN d) (.rsl k0 false (a0.map (Enc.cs k0))) S) _ _) [] HP.nil
  unfold b157 m157
  refine q_nilc (e:=135) und97 (fun h S=>?_) ?_
  · subst h
    refine Eq.symm (show pq (quietS (abuildS _ _ _ _ S) S) _ = _ from ?_)
    rw [qs97_0]; rfl
  refine q_q (fun _=>qs97_0) ?_
  refine q_nil (α:=TOp) false ?_
  rw [show appO 48 ([]:List TOp) a0 = (appO 48 [] a0).bind some from by cases appO 48 ([]:List TOp) a0 <;> rfl]
  refine q_app (ys:=a0) 0 rfl rfl (fun _ _=>rfl) fun v1 z1 hz1=>?_
  exact q_out (tb_sl 0 rfl plt135) rfl
def m121 (a0:TRequest):Option (TRequest):=(m157 a0.Ops).bind fun y1=>some (⟨a0.Client,a0.Number,a0.Time,y1⟩:TRequest)
theorem w121 {d:Nat} (hd:2≤d) (k0:Bool) (a0:TRequest):Fit (R NN d 121 [.agg (Enc.cs k0 a0)] []) (m121 a0) (P1 (T:=TRequest) AV.agg):=by
  obtain ⟨d,rfl,g⟩:=up hd
  refine q_in (t121 NN d _) ?_
  unfold b121 m121
  exact q_box (n:=4) rfl rfl (by decide) fun b1=>q_new rfl fun b2=>q_p fr<|q_ld 1 rfl rfl<|q_c1s (mg:=m157 a0.Ops) (aF1 cv_r fun l0_=>w157 (by omega) l0_ a0.Ops) fun y1 hy1 i1 v1=>q_p fr<|q_sto1 2 rfl (fun S hS=>(HP.cell1t hS 0 rfl)) rfl<|q_lda 2 rfl rfl rfl<|q_st 1 rfl rfl rfl (by decide) rfl<|q_outm (fun S hS=>hS.lda 1 rfl rfl) (tb_of (α:=TRequest) (β:=Int×Int×Int×(List TOp)) (f:=fun x=>(x.Client,x.Number,x.Time,x.Ops)) (x:=(⟨a0.Client,a0.Number,a0.Time,y1⟩:TRequest)) rfl (tb_pair (tb_int (n:=a0.Client)) (tb_pair (tb_int (n:=a0.Number)) (tb_pair (tb_int (n:=a0.Time)) (tb_tr 0 rfl))))) rfl
def ms82_0 (a0:TCluster) (s1:Int×(List TRequest)):Option (LO (Int×(List TRequest))):=bif decide (s1.1 < (a0.Requests.length:Int)) then (getI a0.Requests s1.1).bind fun x1=>(m121 x1).bind fun y4=>(appO 48 s1.2 [y4]).bind fun z1=>some (LO.norm (wi .i64 (s1.1 + 1),z1)) else some (LO.exit 0 (s1.1,s1.2))
def m82 (a0:TCluster):Option (TCluster):=(m118 a0.Bad).bind fun y1=>(m119 a0.Replicas).bind fun y2=>(m120 a0.Ledger).bind fun y3=>(loopO (ms82_0 a0) NN (0,[])).bind (contO (fun _=>none) (fun i7 s2=>if i7 = 0 then some (⟨a0.F,y1,y2,y3,s2.2⟩:TCluster) else none) (fun s2=>some (⟨0,[],[],[],[]⟩:TCluster)))
theorem w82 {d:Nat} (hd:4≤d) (k0:Bool) (a0:TCluster):Fit (R NN d 82 [.agg (Enc.cs k0 a0)] []) (m82 a0) (P1q (T:=TCluster) AV.agg):=by
  obtain ⟨d,rfl,g⟩:=up hd
  refine q_in (t82 NN d _) ?_
  unfold b82 m82
  refine q_box (n:=5) rfl rfl (by decide) fun b1=>q_new rfl fun b2=>q_new rfl fun b3=>q_p fr<|q_ld 2 rfl rfl<|q_p fr<|q_ld 2 rfl rfl<|q_p fr<|q_ld 2 rfl rfl<|q_p fr<|q_ld 2 rfl rfl<|q_c1s (mg:=m118 a0.Bad) (aF1 cv_r fun l0_=>w118 (by omega) l0_ a0.Bad) fun y1 hy1 i1 v1=>q_c1s (mg:=m119 a0.Replicas) (aF1 cv_r fun l0_=>w119 (by omega) l0_ a0.Replicas) fun y2 hy2 i2 v2=>?_
  refine q_c1s (mg:=m120 a0.Ledger) (aF1 cv_r fun l0_=>w120 (by omega) l0_ a0.Ledger) fun y3 hy3 i3 v3=>q_ph (fun S hS=>bd33_0_1_2_3 (by simp only [afill,plc,gd,List.getD_cons_zero,List.getD_cons_succ,List.getElem?_cons_zero,List.getElem?_cons_succ,hS.cell1t 2 rfl,hS.cell1t 1 rfl,hS.cell1t 0 rfl]; rfl)) ?_
  refine q_st 3 rfl rfl rfl (by decide) rfl<|q_p fr<|q_ld 5 rfl rfl<|q_len<|q_nila (α:=TRequest)<|q_loop (I:=(fun (s:Int×(List TRequest)) l L=>∃ (i4:List Nat) (v4:AV),l = [.int .i64 s.1]∧L = [tra i4 v4 (s.2:List TRequest),tr i3 [v3] (y3:List TMsg),tr i2 [v2] (y2:List TReplica),tr i1 [v1] (y1:List Int),bx b3 [.int .i64 a0.F,v1,v2,v3,v4],bx b2 [.int .i64 0,.rsl false true [],.rsl false true [],.rsl false true [],.rsl false true []],bx b1 [.int .i64 a0.F,.rsl k0 false (a0.Bad.map (Enc.cs k0)),.rsl k0 false (a0.Replicas.map (Enc.cs k0)),.rsl k0 false (a0.Ledger.map (Enc.cs k0)),.rsl k0 false (a0.Requests.map (Enc.cs k0))]])) 0 ⟨[],(.rsl false true []),rfl,rfl⟩ ?_ ?_ ?_
  ·rintro s1 _ _ ⟨i4,v4,rfl,rfl⟩
   unfold s82_0 ms82_0
   refine q_p fr<|q_i ?_ ?_
   ·refine q_ix rfl fun x1 hx1=>q_p fr<|q_new rfl fun b4=>q_st 0 rfl rfl rfl (by decide) rfl<|q_p fr<|q_ld 5 rfl rfl<|q_lda 0 rfl rfl rfl<|q_c1 (W:=AV.agg) (mg:=m121 x1) sh_agg (aF1 (cv_a (cvs_e (l0:=k0) (x:=x1))) fun l0_=>w121 (by omega) l0_ x1) fun y4 hy4 i5 cs4=>q_cx (fun S hS=>trx99 (hS.get (k:=0) rfl)) fun hcs_=>?_
    obtain ⟨v5,rfl⟩:=hcs_
    exact q_sel 9 [0,2,1,3,4,5,6,7,8] (by decide) (by decide)<|q_ap1 rfl (fun _=>bt31) rfl fun z1 hz1 v6 i6=>q_p fr<|q_sto1 5 rfl (fun S hS=>(HP.cella hS 0 rfl)) rfl<|q_p fr<|q_sel 8 [1,0,2,3,4,5,6,7] (by decide) (by decide)<|q_norm 1 ⟨i6,v6,rfl,rfl⟩
   ·exact q_exit 0 ⟨i4,v4,rfl,rfl⟩
  ·rintro i7 s2 _ _ ⟨i8,v7,rfl,rfl⟩
   exact q_n (q_lda 4 rfl rfl rfl<|q_st 5 rfl rfl rfl (by decide) rfl<|q_outqm (fun S hS=>q4_tra 0 rfl S hS) (fun S hS=>hS.lda 5 rfl rfl) (tb_of (α:=TCluster) (β:=Int×(List Int)×(List TReplica)×(List TMsg)×(List TRequest)) (f:=fun x=>(x.F,x.Bad,x.Replicas,x.Ledger,x.Requests)) (x:=(⟨a0.F,y1,y2,y3,s2.2⟩:TCluster)) rfl (tb_pair (tb_int (n:=a0.F)) (tb_pair (tb_tr (cs:=[v1]) 3 rfl) (tb_pair (tb_tr (cs:=[v2]) 2 rfl) (tb_pair (tb_tr (cs:=[v3]) 1 rfl) (tb_tra 0 rfl)))))) rfl)<|q_none
  ·rintro s2 _ _ ⟨i9,v8,rfl,rfl⟩
   exact q_outqm (fun _ _=>q4_nil) (fun S hS=>hS.lda 5 rfl rfl) (tb_of (α:=TCluster) (β:=Int×(List Int)×(List TReplica)×(List TMsg)×(List TRequest)) (f:=fun x=>(x.F,x.Bad,x.Replicas,x.Ledger,x.Requests)) (x:=(⟨0,[],[],[],[]⟩:TCluster)) rfl (tb_pair (tb_int (n:=0)) (tb_pair (tb_nil (α:=Int) (fl:=true)) (tb_pair (tb_nil (α:=TReplica) (fl:=true)) (tb_pair (tb_nil (α:=TMsg) (fl:=true)) (tb_nil (α:=TRequest) (fl:=true))))))) rfl
theorem w82g {d:Nat} (hd:4≤d) (k0:Bool) (a0:TCluster):Fit (R NN d 82 [.agg (Enc.cs k0 a0)] []) (m82 a0) (P1 AV.agg):=p1q (w82 hd k0 a0)
def m51 (a0:TCluster) (a1_0:Int):Option (TClusterResult):=(m81 a0).bind fun y1=>bif y1 != 0 then some (⟨y1,(⟨0,[],[],[],[]⟩:TCluster)⟩:TClusterResult) else (m82 a0).bind fun y2=>(m52 y2 a1_0).bind fun y3=>bif y3.1 != 0 then some (⟨y3.1,(⟨0,[],[],[],[]⟩:TCluster)⟩:TClusterResult) else (m82 y3.2).bind fun y4=>some (⟨0,y4⟩:TClusterResult)
theorem w51 {d:Nat} (hd:149≤d) (k0:Bool) (a0:TCluster) (k1_0:Bool) (a1_0:Int) (k1_1:Bool):Fit (R NN d 51 [.agg (Enc.cs k0 a0),.fn 52 [.rp k1_0 (Enc.cs k1_0 a1_0),.rp k1_1 [.fn 27 []]]] []) (m51 a0 a1_0) (P1 (T:=TClusterResult) AV.agg):=by
  obtain ⟨d,rfl,g⟩:=up hd
  refine q_in (t51 NN d _ _) ?_
  unfold b51 m51
  refine q_box (n:=5) rfl rfl (by decide) fun b1=>q_new rfl fun b2=>q_lda 1 rfl rfl rfl<|q_c0 (aF1 (cv_a (cvs_e (l0:=k0) (x:=a0))) fun l0_=>w81 (by omega) l0_ a0) fun y1 hy1=>q_p fr<|q_i ?_ ?_
  ·exact q_p (fun _=>bd35_0 rfl)<|q_st 0 rfl rfl rfl (by decide) rfl<|q_outm (fun S hS=>hS.lda 0 rfl rfl) (tb_of (α:=TClusterResult) (β:=Int×TCluster) (f:=fun x=>(x.Code,x.Cluster)) (x:=(⟨y1,(⟨0,[],[],[],[]⟩:TCluster)⟩:TClusterResult)) rfl (tb_pair (tb_int (n:=y1)) (tb_of (α:=TCluster) (β:=Int×(List Int)×(List TReplica)×(List TMsg)×(List TRequest)) (f:=fun x=>(x.F,x.Bad,x.Replicas,x.Ledger,x.Requests)) (x:=(⟨0,[],[],[],[]⟩:TCluster)) rfl (tb_pair (tb_int (n:=0)) (tb_pair (tb_nil (α:=Int) (fl:=true)) (tb_pair (tb_nil (α:=TReplica) (fl:=true)) (tb_pair (tb_nil (α:=TMsg) (fl:=true)) (tb_nil (α:=TRequest) (fl:=true))))))))) rfl
  ·refine q_lda 1 rfl rfl rfl<|q_c1q (mg:=m82 a0) (aF1 (cv_a (cvs_e (l0:=k0) (x:=a0))) fun l0_=>w82 (by omega) l0_ a0) fun y2 hy2 i1 cs1 hq_=>q_cx (fun S hS=>trx33 (hS.get (k:=0) rfl)) fun hcs_=>?_
   obtain ⟨v1,v2,v3,v4,rfl⟩:=hcs_
   refine q_xpl (x:=(y2.F,y2.Bad,y2.Replicas,y2.Ledger,y2.Requests)) hq_ rfl (fun _ h=>h) fun i2 i3 i4 i5=>q_new rfl fun b3=>q_st 0 rfl rfl rfl (by decide) rfl<|q_s5 (mg:=m52 y2 a1_0) (fun S=>cw51_52 _ _ _ _) (w52 (by omega) _ b3 i2 i3 i4 i5 v1 v2 v3 v4 y2 k1_0 a1_0 k1_1) fun y3 hy3 ⟨i6,i7,v5,v6⟩=>q_p fr<|q_i ?_ ?_
   ·exact q_p (fun _=>bd35_0 rfl)<|q_st 5 rfl rfl rfl (by decide) rfl<|q_outm (fun S hS=>hS.lda 5 rfl rfl) (tb_of (α:=TClusterResult) (β:=Int×TCluster) (f:=fun x=>(x.Code,x.Cluster)) (x:=(⟨y3.1,(⟨0,[],[],[],[]⟩:TCluster)⟩:TClusterResult)) rfl (tb_pair (tb_int (n:=y3.1)) (tb_of (α:=TCluster) (β:=Int×(List Int)×(List TReplica)×(List TMsg)×(List TRequest)) (f:=fun x=>(x.F,x.Bad,x.Replicas,x.Ledger,x.Requests)) (x:=(⟨0,[],[],[],[]⟩:TCluster)) rfl (tb_pair (tb_int (n:=0)) (tb_pair (tb_nil (α:=Int) (fl:=true)) (tb_pair (tb_nil (α:=TReplica) (fl:=true)) (tb_pair (tb_nil (α:=TMsg) (fl:=true)) (tb_nil (α:=TRequest) (fl:=true))))))))) rfl
   ·refine q_lda 0 rfl rfl rfl<|q_c1 (W:=AV.agg) (mg:=m82 y3.2) sh_agg (aF1 (cv_a (cvs_cons (cv_p rfl) (cvs_cons (cv_tr 1 rfl) (cvs_cons (cv_tr 2 rfl) (cvs_cons (cv_wls (α:=TMsg) 3 rfl) (cvs_cons (cv_wla (α:=TRequest) 4 rfl) cvs_nil)))))) fun l0_=>w82g (by omega) l0_ y3.2) fun y4 hy4 i8 cs2=>q_cx (fun S hS=>trx33 (hS.get (k:=0) rfl)) fun hcs_=>?_
    obtain ⟨v7,v8,v9,v10,rfl⟩:=hcs_
    exact q_p (fun _=>bd35_1 rfl)<|q_st 6 rfl rfl rfl (by decide) rfl<|q_outm (fun S hS=>hS.lda 6 rfl rfl) (tb_of (α:=TClusterResult) (β:=Int×TCluster) (f:=fun x=>(x.Code,x.Cluster)) (x:=(⟨0,y4⟩:TClusterResult)) rfl (tb_pair (tb_int (n:=0)) (tb_tr 0 rfl))) rfl
def m26 (a0:TCluster) (a1:Int):Option (TClusterResult):=(m51 a0 a1).bind fun y1=>some y1
theorem w26 {d:Nat} (hd:298≤d) (k0:Bool) (a0:TCluster) (a1:Int):Fit (R NN d 26 [.agg (Enc.cs k0 a0),.int .i64 a1,.fn 27 []] []) (m26 a0 a1) (P1 (T:=TClusterResult) AV.agg):=by
  obtain ⟨d,rfl,g⟩:=up hd
  refine q_in (t26 NN d _ _ _) ?_
  unfold b26 m26
  refine q_box (n:=5) rfl rfl (by decide) fun b1=>q_box (n:=1) rfl rfl (by decide) fun b2=>q_box (n:=1) rfl rfl (by decide) fun b3=>q_new rfl fun b4=>q_lda 3 rfl rfl rfl<|q_c1 (W:=AV.agg) (mg:=m51 a0 a1) sh_agg (aF2 (cv_a (cvs_e (l0:=k0) (x:=a0))) (cv_f (cvs_cons (cv_b 2 rfl (cvs_e (l0:=false) (x:=a1))) (cvs_cons (cv_b 1 rfl (cvs_cons (cv_f cvs_nil) cvs_nil)) cvs_nil))) fun l0_ l1_=>w51 (by omega) l0_ a0 l1_ a1 l1_) fun y1 hy1 i1 cs1=>q_cx (fun S hS=>trx35 (hS.get (k:=0) rfl)) fun hcs_=>?_
  obtain ⟨v1,v2,v3,v4,rfl⟩:=hcs_
  exact q_st 1 rfl rfl rfl (by decide) rfl<|q_outm (fun S hS=>hS.lda 1 rfl rfl) (tb_tr 0 rfl) rfl
def m7 (a0:TCluster) (a1:Int):Option (TClusterResult):=(m26 a0 a1).bind fun y1=>some y1
theorem w7 {d:Nat} (hd:445≤d) (k0:Bool) (a0:TCluster) (a1:Int):Fit (R NN d 7 [.agg (Enc.cs k0 a0),.int .i64 a1] []) (m7 a0 a1) (P1 (T:=TClusterResult) AV.agg):=by
  obtain ⟨d,rfl,g⟩:=up hd
  refine q_in (t7 NN d _ _) ?_
  unfold b7 m7
  refine q_box (n:=5) rfl rfl (by decide) fun b1=>q_new rfl fun b2=>q_lda 1 rfl rfl rfl<|q_c1 (W:=AV.agg) (mg:=m26 a0 a1) sh_agg (aF3 (cv_a (cvs_e (l0:=k0) (x:=a0))) (cv_p rfl) (cv_f cvs_nil) fun l0_ l1_ l2_=>w26 (by omega) l0_ a0 a1) fun y1 hy1 i1 cs1=>q_cx (fun S hS=>trx35 (hS.get (k:=0) rfl)) fun hcs_=>?_
  obtain ⟨v1,v2,v3,v4,rfl⟩:=hcs_
  exact q_st 1 rfl rfl rfl (by decide) rfl<|q_outm (fun S hS=>hS.lda 1 rfl rfl) (tb_tr 0 rfl) rfl
def ms28_0 (a0:List Int) (a1:List Int) (s1:Bool×Int):Option (LO (Bool×Int)):=bif decide (s1.2 < (a0.length:Int)) then (getI a0 s1.2).bind fun x1=>(getI a1 s1.2).bind fun x2=>bif x1 != x2 then some (LO.ret (false,s1.2)) else some (LO.norm (s1.1,wi .i64 (s1.2 + 1))) else some (LO.exit 0 (s1.1,s1.2))
def m28 (a0:List Int) (a1:List Int):Option (Bool):=bif (a0.length:Int) != (a1.length:Int) then some false else (loopO (ms28_0 a0 a1) NN (false,0)).bind (contO (fun _=>none) (fun i1 s2=>if i1 = 0 then some true else none) (fun s2=>some s2.1))
theorem w28 {d:Nat} (hd:1≤d) (k0:Bool) (a0:List Int) (k1:Bool) (a1:List Int):Fit (R NN d 28 [.rsl k0 false (a0.map (Enc.cs k0)),.rsl k1 false (a1.map (Enc.cs k1))] []) (m28 a0 a1) PB:=by
  obtain ⟨d,rfl,g⟩:=up hd
  refine q_in (t28 NN d _ _) ?_
  unfold b28 m28
  refine q_len<|q_len<|q_p fr<|q_i ?_ ?_
  ·exact q_ret (cv_p rfl) rfl
  ·refine q_lp (A:=fun (s:Bool×Int)=>[.bool s.1,.int .i64 s.2]) (B:=fun s=>[]) 0 rr ?_ ?_ ?_
   ·intro s1
    unfold s28_0 ms28_0
    exact q_len<|q_p fr<|q_i (q_ix rfl fun x1 hx1=>q_p fr<|q_ix rfl fun x2 hx2=>q_p fr<|q_p fr<|q_i (q_lret 0 rr)<|q_p fr<|q_norm 0 rr)<|q_exit 0 rr
   ·exact fun i1 s2=>q_n (q_ret (cv_p rfl) rfl)<|q_none
   ·exact fun s2=>q_ret (cv_p rfl) rfl
def m57 (a0:TReplica) (a1:TReplica):Bool:=bif a0.Id != a1.Id then false else bif a0.View != a1.View then false else bif a0.Start != a1.Start then false else bif a0.Done != a1.Done then false else true
theorem w57 {d:Nat} (hd:1≤d) (k0:Bool) (a0:TReplica) (k1:Bool) (a1:TReplica):Fit (R NN d 57 [.agg (Enc.cs k0 a0),.agg (Enc.cs k1 a1)] []) (some (m57 a0 a1)) PB:=by
  obtain ⟨d,rfl,g⟩:=up hd
  refine q_in (t57 NN d _ _) ?_
  unfold b57 m57
  exact q_box (n:=4) rfl rfl (by decide) fun b1=>q_box (n:=4) rfl rfl (by decide) fun b2=>q_p fr<|q_ld 1 rfl rfl<|q_p fr<|q_ld 0 rfl rfl<|q_p fr<|q_ift (fun h4=>q_ret (cv_p rfl) rfl) fun h4=>q_p fr<|q_ld 1 rfl rfl<|q_p fr<|q_ld 0 rfl rfl<|q_p fr<|q_ift (fun h3=>q_ret (cv_p rfl) rfl) fun h3=>q_p fr<|q_ld 1 rfl rfl<|q_p fr<|q_ld 0 rfl rfl<|q_p fr<|q_ift (fun h2=>q_ret (cv_p rfl) rfl) fun h2=>q_p fr<|q_ld 1 rfl rfl<|q_p fr<|q_ld 0 rfl rfl<|q_p fr<|q_ift (fun h1=>q_ret (cv_p rfl) rfl) fun h1=>q_ret (cv_p rfl) rfl
def ms29_0 (a0:List TReplica) (a1:List TReplica) (s1:Bool×Int):Option (LO (Bool×Int)):=bif decide (s1.2 < (a0.length:Int)) then (getI a0 s1.2).bind fun x1=>(getI a1 s1.2).bind fun x2=>bif !(m57 x1 x2) then some (LO.ret (false,s1.2)) else some (LO.norm (s1.1,wi .i64 (s1.2 + 1))) else some (LO.exit 0 (s1.1,s1.2))
def m29 (a0:List TReplica) (a1:List TReplica):Option (Bool):=bif (a0.length:Int) != (a1.length:Int) then some false else (loopO (ms29_0 a0 a1) NN (false,0)).bind (contO (fun _=>none) (fun i1 s2=>if i1 = 0 then some true else none) (fun s2=>some s2.1))
theorem w29 {d:Nat} (hd:2≤d) (k0:Bool) (a0:List TReplica) (k1:Bool) (a1:List TReplica):Fit (R NN d 29 [.rsl k0 false (a0.map (Enc.cs k0)),.rsl k1 false (a1.map (Enc.cs k1))] []) (m29 a0 a1) PB:=by
  obtain ⟨d,rfl,g⟩:=up hd
  refine q_in (t29 NN d _ _) ?_
  unfold b29 m29
  refine q_len<|q_len<|q_p fr<|q_i ?_ ?_
  ·exact q_ret (cv_p rfl) rfl
  ·refine q_lp (A:=fun (s:Bool×Int)=>[.bool s.1,.int .i64 s.2]) (B:=fun s=>[]) 0 rr ?_ ?_ ?_
   ·intro s1
    unfold s29_0 ms29_0
    exact q_len<|q_p fr<|q_i (q_ix rfl fun x1 hx1=>q_p fr<|q_ix rfl fun x2 hx2=>q_p fr<|q_c0t (aF2 (cv_a (cvs_e (l0:=k0) (x:=x1))) (cv_a (cvs_e (l0:=k1) (x:=x2))) fun l0_ l1_=>w57 (by omega) l0_ x1 l1_ x2)<|q_p fr<|q_i (q_lret 0 rr)<|q_p fr<|q_norm 0 rr)<|q_exit 0 rr
   ·exact fun i1 s2=>q_n (q_ret (cv_p rfl) rfl)<|q_none
   ·exact fun s2=>q_ret (cv_p rfl) rfl
def m131 (a0:TCert) (a1:TCert):Bool:=bif a0.Slot != a1.Slot then false else bif a0.View != a1.View then false else bif a0.Value != a1.Value then false else true
theorem w131 {d:Nat} (hd:1≤d) (k0:Bool) (a0:TCert) (k1:Bool) (a1:TCert):Fit (R NN d 131 [.agg (Enc.cs k0 a0),.agg (Enc.cs k1 a1)] []) (some (m131 a0 a1)) PB:=by
  obtain ⟨d,rfl,g⟩:=up hd
  refine q_in (t131 NN d _ _) ?_
  unfold b131 m131
  exact q_box (n:=3) rfl rfl (by decide) fun b1=>q_box (n:=3) rfl rfl (by decide) fun b2=>q_p fr<|q_ld 1 rfl rfl<|q_p fr<|q_ld 0 rfl rfl<|q_p fr<|q_ift (fun h3=>q_ret (cv_p rfl) rfl) fun h3=>q_p fr<|q_ld 1 rfl rfl<|q_p fr<|q_ld 0 rfl rfl<|q_p fr<|q_ift (fun h2=>q_ret (cv_p rfl) rfl) fun h2=>q_p fr<|q_ld 1 rfl rfl<|q_p fr<|q_ld 0 rfl rfl<|q_p fr<|q_ift (fun h1=>q_ret (cv_p rfl) rfl) fun h1=>q_ret (cv_p rfl) rfl
def ms90_0 (a0:List TCert) (a1:List TCert) (s1:Bool×Int):Option (LO (Bool×Int)):=bif decide (s1.2 < (a0.length:Int)) then (getI a0 s1.2).bind fun x1=>(getI a1 s1.2).bind fun x2=>bif !(m131 x1 x2) then some (LO.ret (false,s1.2)) else some (LO.norm (s1.1,wi .i64 (s1.2 + 1))) else some (LO.exit 0 (s1.1,s1.2))
def m90 (a0:List TCert) (a1:List TCert):Option (Bool):=bif (a0.length:Int) != (a1.length:Int) then some false else (loopO (ms90_0 a0 a1) NN (false,0)).bind (contO (fun _=>none) (fun i1 s2=>if i1 = 0 then some true else none) (fun s2=>some s2.1))
theorem w90 {d:Nat} (hd:2≤d) (k0:Bool) (a0:List TCert) (k1:Bool) (a1:List TCert):Fit (R NN d 90 [.rsl k0 false (a0.map (Enc.cs k0)),.rsl k1 false (a1.map (Enc.cs k1))] []) (m90 a0 a1) PB:=by
  obtain ⟨d,rfl,g⟩:=up hd
  refine q_in (t90 NN d _ _) ?_
  unfold b90 m90
  refine q_len<|q_len<|q_p fr<|q_i ?_ ?_
  ·exact q_ret (cv_p rfl) rfl
  ·refine q_lp (A:=fun (s:Bool×Int)=>[.bool s.1,.int .i64 s.2]) (B:=fun s=>[]) 0 rr ?_ ?_ ?_
   ·intro s1
    unfold s90_0 ms90_0
    exact q_len<|q_p fr<|q_i (q_ix rfl fun x1 hx1=>q_p fr<|q_ix rfl fun x2 hx2=>q_p fr<|q_c0t (aF2 (cv_a (cvs_e (l0:=k0) (x:=x1))) (cv_a (cvs_e (l0:=k1) (x:=x2))) fun l0_ l1_=>w131 (by omega) l0_ x1 l1_ x2)<|q_p fr<|q_i (q_lret 0 rr)<|q_p fr<|q_norm 0 rr)<|q_exit 0 rr
   ·exact fun i1 s2=>q_n (q_ret (cv_p rfl) rfl)<|q_none
   ·exact fun s2=>q_ret (cv_p rfl) rfl
def m58 (a0:TMsg) (a1:TMsg):Option (Bool):=bif a0.Kind != a1.Kind then some false else bif a0.View != a1.View then some false else bif a0.From != a1.From then some false else bif a0.Slot != a1.Slot then some false else bif a0.Value != a1.Value then some false else (m90 a0.Certs a1.Certs).bind fun y1=>bif !y1 then some false else (m28 a0.Refs a1.Refs).bind fun y2=>bif !y2 then some false else some true
theorem w58 {d:Nat} (hd:3≤d) (k0:Bool) (a0:TMsg) (k1:Bool) (a1:TMsg):Fit (R NN d 58 [.agg (Enc.cs k0 a0),.agg (Enc.cs k1 a1)] []) (m58 a0 a1) PB:=by
  obtain ⟨d,rfl,g⟩:=up hd
  refine q_in (t58 NN d _ _) ?_
  unfold b58 m58
  exact q_box (n:=7) rfl rfl (by decide) fun b1=>q_box (n:=7) rfl rfl (by decide) fun b2=>q_p fr<|q_ld 1 rfl rfl<|q_p fr<|q_ld 0 rfl rfl<|q_p fr<|q_i (q_ret (cv_p rfl) rfl)<|q_p fr<|q_ld 1 rfl rfl<|q_p fr<|q_ld 0 rfl rfl<|q_p fr<|q_i (q_ret (cv_p rfl) rfl)<|q_p fr<|q_ld 1 rfl rfl<|q_p fr<|q_ld 0 rfl rfl<|q_p fr<|q_i (q_ret (cv_p rfl) rfl)<|q_p fr<|q_ld 1 rfl rfl<|q_p fr<|q_ld 0 rfl rfl<|q_p fr<|q_i (q_ret (cv_p rfl) rfl)<|q_p fr<|q_ld 1 rfl rfl<|q_p fr<|q_ld 0 rfl rfl<|q_p fr<|q_i (q_ret (cv_p rfl) rfl)<|q_p fr<|q_ld 1 rfl rfl<|q_p fr<|q_ld 0 rfl rfl<|q_c0 (aF2 cv_r cv_r fun l0_ l1_=>w90 (by omega) l0_ a0.Certs l1_ a1.Certs) fun y1 hy1=>q_p fr<|q_i (q_ret (cv_p rfl) rfl)<|q_p fr<|q_ld 1 rfl rfl<|q_p fr<|q_ld 0 rfl rfl<|q_c0 (aF2 cv_r cv_r fun l0_ l1_=>w28 (by omega) l0_ a0.Refs l1_ a1.Refs) fun y2 hy2=>q_p fr<|q_i (q_ret (cv_p rfl) rfl)<|q_ret (cv_p rfl) rfl
def ms30_0 (a0:List TMsg) (a1:List TMsg) (s1:Bool×Int):Option (LO (Bool×Int)):=bif decide (s1.2 < (a0.length:Int)) then (getI a0 s1.2).bind fun x1=>(getI a1 s1.2).bind fun x2=>(m58 x1 x2).bind fun y1=>bif !y1 then some (LO.ret (false,s1.2)) else some (LO.norm (s1.1,wi .i64 (s1.2 + 1))) else some (LO.exit 0 (s1.1,s1.2))
def m30 (a0:List TMsg) (a1:List TMsg):Option (Bool):=bif (a0.length:Int) != (a1.length:Int) then some false else (loopO (ms30_0 a0 a1) NN (false,0)).bind (contO (fun _=>none) (fun i1 s2=>if i1 = 0 then some true else none) (fun s2=>some s2.1))
theorem w30 {d:Nat} (hd:4≤d) (k0:Bool) (a0:List TMsg) (k1:Bool) (a1:List TMsg):Fit (R NN d 30 [.rsl k0 false (a0.map (Enc.cs k0)),.rsl k1 false (a1.map (Enc.cs k1))] []) (m30 a0 a1) PB:=by
  obtain ⟨d,rfl,g⟩:=up hd
  refine q_in (t30 NN d _ _) ?_
  unfold b30 m30
  refine q_len<|q_len<|q_p fr<|q_i ?_ ?_
  ·exact q_ret (cv_p rfl) rfl
  ·refine q_lp (A:=fun (s:Bool×Int)=>[.bool s.1,.int .i64 s.2]) (B:=fun s=>[]) 0 rr ?_ ?_ ?_
   ·intro s1
    unfold s30_0 ms30_0
    exact q_len<|q_p fr<|q_i (q_ix rfl fun x1 hx1=>q_p fr<|q_ix rfl fun x2 hx2=>q_p fr<|q_c0 (aF2 (cv_a (cvs_e (l0:=k0) (x:=x1))) (cv_a (cvs_e (l0:=k1) (x:=x2))) fun l0_ l1_=>w58 (by omega) l0_ x1 l1_ x2) fun y1 hy1=>q_p fr<|q_i (q_lret 0 rr)<|q_p fr<|q_norm 0 rr)<|q_exit 0 rr
   ·exact fun i1 s2=>q_n (q_ret (cv_p rfl) rfl)<|q_none
   ·exact fun s2=>q_ret (cv_p rfl) rfl
def m132 (a0:TOp) (a1:TOp):Bool:=bif a0.Kind != a1.Kind then false else bif !(a0.Path == a1.Path) then false else bif a0.Data != a1.Data then false else bif a0.Version != a1.Version then false else bif a0.Seq != a1.Seq then false else bif a0.Own != a1.Own then false else true
theorem w132 {d:Nat} (hd:1≤d) (k0:Bool) (a0:TOp) (k1:Bool) (a1:TOp):Fit (R NN d 132 [.agg (Enc.cs k0 a0),.agg (Enc.cs k1 a1)] []) (some (m132 a0 a1)) PB:=by
  obtain ⟨d,rfl,g⟩:=up hd
  refine q_in (t132 NN d _ _) ?_
  unfold b132 m132
  exact q_box (n:=6) rfl rfl (by decide) fun b1=>q_box (n:=6) rfl rfl (by decide) fun b2=>q_p fr<|q_ld 1 rfl rfl<|q_p fr<|q_ld 0 rfl rfl<|q_p fr<|q_ift (fun h6=>q_ret (cv_p rfl) rfl) fun h6=>q_p fr<|q_ld 1 rfl rfl<|q_p fr<|q_ld 0 rfl rfl<|q_p (fun _=>seq_neq2)<|q_ift (fun h5=>q_ret (cv_p rfl) rfl) fun h5=>q_p fr<|q_ld 1 rfl rfl<|q_p fr<|q_ld 0 rfl rfl<|q_p fr<|q_ift (fun h4=>q_ret (cv_p rfl) rfl) fun h4=>q_p fr<|q_ld 1 rfl rfl<|q_p fr<|q_ld 0 rfl rfl<|q_p fr<|q_ift (fun h3=>q_ret (cv_p rfl) rfl) fun h3=>q_p fr<|q_ld 1 rfl rfl<|q_p fr<|q_ld 0 rfl rfl<|q_p (fun _=>bneq42 _ _)<|q_ift (fun h2=>q_ret (cv_p rfl) rfl) fun h2=>q_p fr<|q_ld 1 rfl rfl<|q_p fr<|q_ld 0 rfl rfl<|q_p (fun _=>bneq42 _ _)<|q_ift (fun h1=>q_ret (cv_p rfl) rfl) fun h1=>q_ret (cv_p rfl) rfl
def ms91_0 (a0:List TOp) (a1:List TOp) (s1:Bool×Int):Option (LO (Bool×Int)):=bif decide (s1.2 < (a0.length:Int)) then (getI a0 s1.2).bind fun x1=>(getI a1 s1.2).bind fun x2=>bif !(m132 x1 x2) then some (LO.ret (false,s1.2)) else some (LO.norm (s1.1,wi .i64 (s1.2 + 1))) else some (LO.exit 0 (s1.1,s1.2))
def m91 (a0:List TOp) (a1:List TOp):Option (Bool):=bif (a0.length:Int) != (a1.length:Int) then some false else (loopO (ms91_0 a0 a1) NN (false,0)).bind (contO (fun _=>none) (fun i1 s2=>if i1 = 0 then some true else none) (fun s2=>some s2.1))
theorem w91 {d:Nat} (hd:2≤d) (k0:Bool) (a0:List TOp) (k1:Bool) (a1:List TOp):Fit (R NN d 91 [.rsl k0 false (a0.map (Enc.cs k0)),.rsl k1 false (a1.map (Enc.cs k1))] []) (m91 a0 a1) PB:=by
  obtain ⟨d,rfl,g⟩:=up hd
  refine q_in (t91 NN d _ _) ?_
  unfold b91 m91
  refine q_len<|q_len<|q_p fr<|q_i ?_ ?_
  ·exact q_ret (cv_p rfl) rfl
  ·refine q_lp (A:=fun (s:Bool×Int)=>[.bool s.1,.int .i64 s.2]) (B:=fun s=>[]) 0 rr ?_ ?_ ?_
   ·intro s1
    unfold s91_0 ms91_0
    exact q_len<|q_p fr<|q_i (q_ix rfl fun x1 hx1=>q_p fr<|q_ix rfl fun x2 hx2=>q_p fr<|q_c0t (aF2 (cv_a (cvs_e (l0:=k0) (x:=x1))) (cv_a (cvs_e (l0:=k1) (x:=x2))) fun l0_ l1_=>w132 (by omega) l0_ x1 l1_ x2)<|q_p fr<|q_i (q_lret 0 rr)<|q_p fr<|q_norm 0 rr)<|q_exit 0 rr
   ·exact fun i1 s2=>q_n (q_ret (cv_p rfl) rfl)<|q_none
   ·exact fun s2=>q_ret (cv_p rfl) rfl
def m59 (a0:TRequest) (a1:TRequest):Option (Bool):=bif a0.Client != a1.Client then some false else bif a0.Number != a1.Number then some false else bif a0.Time != a1.Time then some false else (m91 a0.Ops a1.Ops).bind fun y1=>bif !y1 then some false else some true
theorem w59 {d:Nat} (hd:3≤d) (k0:Bool) (a0:TRequest) (k1:Bool) (a1:TRequest):Fit (R NN d 59 [.agg (Enc.cs k0 a0),.agg (Enc.cs k1 a1)] []) (m59 a0 a1) PB:=by
  obtain ⟨d,rfl,g⟩:=up hd
  refine q_in (t59 NN d _ _) ?_
  unfold b59 m59
  exact q_box (n:=4) rfl rfl (by decide) fun b1=>q_box (n:=4) rfl rfl (by decide) fun b2=>q_p fr<|q_ld 1 rfl rfl<|q_p fr<|q_ld 0 rfl rfl<|q_p fr<|q_i (q_ret (cv_p rfl) rfl)<|q_p fr<|q_ld 1 rfl rfl<|q_p fr<|q_ld 0 rfl rfl<|q_p fr<|q_i (q_ret (cv_p rfl) rfl)<|q_p fr<|q_ld 1 rfl rfl<|q_p fr<|q_ld 0 rfl rfl<|q_p fr<|q_i (q_ret (cv_p rfl) rfl)<|q_p fr<|q_ld 1 rfl rfl<|q_p fr<|q_ld 0 rfl rfl<|q_c0 (aF2 cv_r cv_r fun l0_ l1_=>w91 (by omega) l0_ a0.Ops l1_ a1.Ops) fun y1 hy1=>q_p fr<|q_i (q_ret (cv_p rfl) rfl)<|q_ret (cv_p rfl) rfl
def ms31_0 (a0:List TRequest) (a1:List TRequest) (s1:Bool×Int):Option (LO (Bool×Int)):=bif decide (s1.2 < (a0.length:Int)) then (getI a0 s1.2).bind fun x1=>(getI a1 s1.2).bind fun x2=>(m59 x1 x2).bind fun y1=>bif !y1 then some (LO.ret (false,s1.2)) else some (LO.norm (s1.1,wi .i64 (s1.2 + 1))) else some (LO.exit 0 (s1.1,s1.2))
def m31 (a0:List TRequest) (a1:List TRequest):Option (Bool):=bif (a0.length:Int) != (a1.length:Int) then some false else (loopO (ms31_0 a0 a1) NN (false,0)).bind (contO (fun _=>none) (fun i1 s2=>if i1 = 0 then some true else none) (fun s2=>some s2.1))
theorem w31 {d:Nat} (hd:4≤d) (k0:Bool) (a0:List TRequest) (k1:Bool) (a1:List TRequest):Fit (R NN d 31 [.rsl k0 false (a0.map (Enc.cs k0)),.rsl k1 false (a1.map (Enc.cs k1))] []) (m31 a0 a1) PB:=by
  obtain ⟨d,rfl,g⟩:=up hd
  refine q_in (t31 NN d _ _) ?_
  unfold b31 m31
  refine q_len<|q_len<|q_p fr<|q_i ?_ ?_
  ·exact q_ret (cv_p rfl) rfl
  ·refine q_lp (A:=fun (s:Bool×Int)=>[.bool s.1,.int .i64 s.2]) (B:=fun s=>[]) 0 rr ?_ ?_ ?_
   ·intro s1
    unfold s31_0 ms31_0
    exact q_len<|q_p fr<|q_i (q_ix rfl fun x1 hx1=>q_p fr<|q_ix rfl fun x2 hx2=>q_p fr<|q_c0 (aF2 (cv_a (cvs_e (l0:=k0) (x:=x1))) (cv_a (cvs_e (l0:=k1) (x:=x2))) fun l0_ l1_=>w59 (by omega) l0_ x1 l1_ x2) fun y1 hy1=>q_p fr<|q_i (q_lret 0 rr)<|q_p fr<|q_norm 0 rr)<|q_exit 0 rr
   ·exact fun i1 s2=>q_n (q_ret (cv_p rfl) rfl)<|q_none
   ·exact fun s2=>q_ret (cv_p rfl) rfl
def m9 (a0:TCluster) (a1:TCluster):Option (Bool):=bif a0.F != a1.F then some false else (m28 a0.Bad a1.Bad).bind fun y1=>bif !y1 then some false else (m29 a0.Replicas a1.Replicas).bind fun y2=>bif !y2 then some false else (m30 a0.Ledger a1.Ledger).bind fun y3=>bif !y3 then some false else (m31 a0.Requests a1.Requests).bind fun y4=>bif !y4 then some false else some true
theorem w9 {d:Nat} (hd:5≤d) (k0:Bool) (a0:TCluster) (k1:Bool) (a1:TCluster):Fit (R NN d 9 [.agg (Enc.cs k0 a0),.agg (Enc.cs k1 a1)] []) (m9 a0 a1) PB:=by
  obtain ⟨d,rfl,g⟩:=up hd
  refine q_in (t9 NN d _ _) ?_
  unfold b9 m9
  exact q_box (n:=5) rfl rfl (by decide) fun b1=>q_box (n:=5) rfl rfl (by decide) fun b2=>q_p fr<|q_ld 1 rfl rfl<|q_p fr<|q_ld 0 rfl rfl<|q_p fr<|q_i (q_ret (cv_p rfl) rfl)<|q_p fr<|q_ld 1 rfl rfl<|q_p fr<|q_ld 0 rfl rfl<|q_c0 (aF2 cv_r cv_r fun l0_ l1_=>w28 (by omega) l0_ a0.Bad l1_ a1.Bad) fun y1 hy1=>q_p fr<|q_i (q_ret (cv_p rfl) rfl)<|q_p fr<|q_ld 1 rfl rfl<|q_p fr<|q_ld 0 rfl rfl<|q_c0 (aF2 cv_r cv_r fun l0_ l1_=>w29 (by omega) l0_ a0.Replicas l1_ a1.Replicas) fun y2 hy2=>q_p fr<|q_i (q_ret (cv_p rfl) rfl)<|q_p fr<|q_ld 1 rfl rfl<|q_p fr<|q_ld 0 rfl rfl<|q_c0 (aF2 cv_r cv_r fun l0_ l1_=>w30 (by omega) l0_ a0.Ledger l1_ a1.Ledger) fun y3 hy3=>q_p fr<|q_i (q_ret (cv_p rfl) rfl)<|q_p fr<|q_ld 1 rfl rfl<|q_p fr<|q_ld 0 rfl rfl<|q_c0 (aF2 cv_r cv_r fun l0_ l1_=>w31 (by omega) l0_ a0.Requests l1_ a1.Requests) fun y4 hy4=>q_p fr<|q_i (q_ret (cv_p rfl) rfl)<|q_ret (cv_p rfl) rfl
def m8 (a0:TClusterResult) (a1:TClusterResult):Option (Bool):=bif a0.Code != a1.Code then some false else (m9 a0.Cluster a1.Cluster).bind fun y1=>bif !y1 then some false else some true
theorem w8 {d:Nat} (hd:6≤d) (k0:Bool) (a0:TClusterResult) (k1:Bool) (a1:TClusterResult):Fit (R NN d 8 [.agg (Enc.cs k0 a0),.agg (Enc.cs k1 a1)] []) (m8 a0 a1) PB:=by
  obtain ⟨d,rfl,g⟩:=up hd
  refine q_in (t8 NN d _ _) ?_
  unfold b8 m8
  exact q_box (n:=6) rfl rfl (by decide) fun b1=>q_box (n:=6) rfl rfl (by decide) fun b2=>q_p fr<|q_ld 1 rfl rfl<|q_p fr<|q_ld 0 rfl rfl<|q_p fr<|q_i (q_ret (cv_p rfl) rfl)<|q_p fr<|q_lda 1 rfl rfl rfl<|q_p fr<|q_lda 0 rfl rfl rfl<|q_c0 (aF2 (cv_a (cvs_e (l0:=k0) (x:=a0.Cluster))) (cv_a (cvs_e (l0:=k1) (x:=a1.Cluster))) fun l0_ l1_=>w9 (by omega) l0_ a0.Cluster l1_ a1.Cluster) fun y1 hy1=>q_p fr<|q_i (q_ret (cv_p rfl) rfl)<|q_ret (cv_p rfl) rfl
def ms32_0 (s1:Int×Int×(List Int)):Option (LO (Int×Int×(List Int))):=bif decide (s1.2.1 < (s1.2.2.length:Int)) then (getI s1.2.2 s1.2.1).bind fun x1=>letO (s1.2.2.set (Int.toNat s1.2.1) s1.1) fun z1=>some (LO.norm (wi .i64 (s1.1 + 1),wi .i64 (s1.2.1 + 1),z1)) else some (LO.exit 0 (s1.1,s1.2.1,s1.2.2))
def m32 (a0:List Int) (a1:Int):Option (Int×(List Int)):=(loopO (ms32_0) NN (a1,0,a0)).bind (contO (fun _=>none) (fun i1 s2=>if i1 = 0 then some (s2.1,s2.2.2) else none) (fun s2=>some (0,s2.2.2)))
theorem w32 {d:Nat} (hd:1≤d) (L0:List En) (i0_:List Nat) (c0_0:AV) (a0:List Int) (a1:Int):Okh (tr i0_ [c0_0] (a0:List Int)::L0) (fun S=>R NN d 32 [c0_0,.int .i64 a1] S) (m32 a0 a1) (P2 (fun (t:Int×(List Int))=>AV.int .i64 t.1) (fun (t:Int×(List Int))=>tr i0_ [c0_0] t.2::L0)):=by
  obtain ⟨d,rfl,g⟩:=up hd
  refine q_to (t32 NN d _ _) ?_
  unfold b32 m32
  refine q_lp (A:=fun (s:Int×Int×(List Int))=>[.int .i64 s.1,.int .i64 s.2.1]) (B:=fun s=>tr i0_ [c0_0] (s.2.2:List Int)::L0) 0 rr ?_ ?_ ?_
  ·intro s1
   unfold s32_0 ms32_0
   exact q_lent 0 rfl<|q_p fr<|q_i (q_ixt 0 rfl rfl fun x1 hx1=>q_stl0 0 rfl rfl hx1 rfl (up_int (n:=s1.1)) fun z1 hz1=>q_p fr<|q_p fr<|q_norm 0 rr)<|q_exit 0 rr
  ·exact fun i1 s2=>q_n (q_ret2 0 rfl rfl)<|q_none
  ·exact fun s2=>q_ret2 0 rfl rfl
def ms33_0 (s1:Int×Int×(List TReplica)):Option (LO (Int×Int×(List TReplica))):=bif decide (s1.2.1 < (s1.2.2.length:Int)) then (getI s1.2.2 s1.2.1).bind fun x1=>letO (s1.2.2.set (Int.toNat s1.2.1) ({ x1 with Id:=s1.1 })) fun z1=>(getI z1 s1.2.1).bind fun x2=>letO (z1.set (Int.toNat s1.2.1) ({ x2 with View:=wi .i64 (s1.1 + 1) })) fun z2=>(getI z2 s1.2.1).bind fun x3=>letO (z2.set (Int.toNat s1.2.1) ({ x3 with Start:=wi .i64 ((wi .i64 (s1.1 + 1)) + 1) })) fun z3=>(getI z3 s1.2.1).bind fun x4=>letO (z3.set (Int.toNat s1.2.1) ({ x4 with Done:=wi .i64 ((wi .i64 ((wi .i64 (s1.1 + 1)) + 1)) + 1) })) fun z4=>some (LO.norm (wi .i64 ((wi .i64 ((wi .i64 ((wi .i64 (s1.1 + 1)) + 1)) + 1)) + 1),wi .i64 (s1.2.1 + 1),z4)) else some (LO.exit 0 (s1.1,s1.2.1,s1.2.2))
def m33 (a0:List TReplica) (a1:Int):Option (Int×(List TReplica)):=(loopO (ms33_0) NN (a1,0,a0)).bind (contO (fun _=>none) (fun i1 s2=>if i1 = 0 then some (s2.1,s2.2.2) else none) (fun s2=>some (0,s2.2.2)))
theorem w33 {d:Nat} (hd:1≤d) (L0:List En) (i0_:List Nat) (c0_0:AV) (a0:List TReplica) (a1:Int):Okh (tr i0_ [c0_0] (a0:List TReplica)::L0) (fun S=>R NN d 33 [c0_0,.int .i64 a1] S) (m33 a0 a1) (P2 (fun (t:Int×(List TReplica))=>AV.int .i64 t.1) (fun (t:Int×(List TReplica))=>tr i0_ [c0_0] t.2::L0)):=by
  obtain ⟨d,rfl,g⟩:=up hd
  refine q_to (t33 NN d _ _) ?_
  unfold b33 m33
  refine q_lp (A:=fun (s:Int×Int×(List TReplica))=>[.int .i64 s.1,.int .i64 s.2.1]) (B:=fun s=>tr i0_ [c0_0] (s.2.2:List TReplica)::L0) 0 rr ?_ ?_ ?_
  ·intro s1
   unfold s33_0 ms33_0
   exact q_lent 0 rfl<|q_p fr<|q_i (q_ixt 0 rfl rfl fun x1 hx1=>q_flt 0 rfl hx1 (by decide)<|q_stl 0 rfl rfl hx1 rfl (up58_Id s1.1) fun z1 hz1=>q_p fr<|q_ixt 0 rfl rfl fun x2 hx2=>q_flt 0 rfl hx2 (by decide)<|q_stl 0 rfl rfl hx2 rfl (up58_View (wi .i64 (s1.1 + 1))) fun z2 hz2=>q_p fr<|q_ixt 0 rfl rfl fun x3 hx3=>q_flt 0 rfl hx3 (by decide)<|q_stl 0 rfl rfl hx3 rfl (up58_Start (wi .i64 ((wi .i64 (s1.1 + 1)) + 1))) fun z3 hz3=>q_p fr<|q_ixt 0 rfl rfl fun x4 hx4=>q_flt 0 rfl hx4 (by decide)<|q_stl 0 rfl rfl hx4 rfl (up58_Done (wi .i64 ((wi .i64 ((wi .i64 (s1.1 + 1)) + 1)) + 1))) fun z4 hz4=>q_p fr<|q_p fr<|q_norm 0 rr)<|q_exit 0 rr
  ·exact fun i1 s2=>q_n (q_ret2 0 rfl rfl)<|q_none
  ·exact fun s2=>q_ret2 0 rfl rfl
def ms60_0 (s1:Int×Int×(List TCert)):Option (LO (Int×Int×(List TCert))):=bif decide (s1.2.1 < (s1.2.2.length:Int)) then (getI s1.2.2 s1.2.1).bind fun x1=>letO (s1.2.2.set (Int.toNat s1.2.1) ({ x1 with Slot:=s1.1 })) fun z1=>(getI z1 s1.2.1).bind fun x2=>letO (z1.set (Int.toNat s1.2.1) ({ x2 with View:=wi .i64 (s1.1 + 1) })) fun z2=>(getI z2 s1.2.1).bind fun x3=>letO (z2.set (Int.toNat s1.2.1) ({ x3 with Value:=wi .i64 ((wi .i64 (s1.1 + 1)) + 1) })) fun z3=>some (LO.norm (wi .i64 ((wi .i64 ((wi .i64 (s1.1 + 1)) + 1)) + 1),wi .i64 (s1.2.1 + 1),z3)) else some (LO.exit 0 (s1.1,s1.2.1,s1.2.2))
def m60 (a0:List TCert) (a1:Int):Option (Int×(List TCert)):=(loopO (ms60_0) NN (a1,0,a0)).bind (contO (fun _=>none) (fun i1 s2=>if i1 = 0 then some (s2.1,s2.2.2) else none) (fun s2=>some (0,s2.2.2)))
theorem w60 {d:Nat} (hd:1≤d) (L0:List En) (i0_:List Nat) (c0_0:AV) (a0:List TCert) (a1:Int):Okh (tr i0_ [c0_0] (a0:List TCert)::L0) (fun S=>R NN d 60 [c0_0,.int .i64 a1] S) (m60 a0 a1) (P2 (fun (t:Int×(List TCert))=>AV.int .i64 t.1) (fun (t:Int×(List TCert))=>tr i0_ [c0_0] t.2::L0)):=by
  obtain ⟨d,rfl,g⟩:=up hd
  refine q_to (t60 NN d _ _) ?_
  unfold b60 m60
  refine q_lp (A:=fun (s:Int×Int×(List TCert))=>[.int .i64 s.1,.int .i64 s.2.1]) (B:=fun s=>tr i0_ [c0_0] (s.2.2:List TCert)::L0) 0 rr ?_ ?_ ?_
  ·intro s1
   unfold s60_0 ms60_0
   exact q_lent 0 rfl<|q_p fr<|q_i (q_ixt 0 rfl rfl fun x1 hx1=>q_flt 0 rfl hx1 (by decide)<|q_stl 0 rfl rfl hx1 rfl (up124_Slot s1.1) fun z1 hz1=>q_p fr<|q_ixt 0 rfl rfl fun x2 hx2=>q_flt 0 rfl hx2 (by decide)<|q_stl 0 rfl rfl hx2 rfl (up124_View (wi .i64 (s1.1 + 1))) fun z2 hz2=>q_p fr<|q_ixt 0 rfl rfl fun x3 hx3=>q_flt 0 rfl hx3 (by decide)<|q_stl 0 rfl rfl hx3 rfl (up124_Value (wi .i64 ((wi .i64 (s1.1 + 1)) + 1))) fun z3 hz3=>q_p fr<|q_p fr<|q_norm 0 rr)<|q_exit 0 rr
  ·exact fun i1 s2=>q_n (q_ret2 0 rfl rfl)<|q_none
  ·exact fun s2=>q_ret2 0 rfl rfl
def ms34_0 (s1:Int×Int×(List TMsg)):Option (LO (Int×Int×(List TMsg))):=bif decide (s1.2.1 < (s1.2.2.length:Int)) then (getI s1.2.2 s1.2.1).bind fun x1=>letO (s1.2.2.set (Int.toNat s1.2.1) ({ x1 with Kind:=s1.1 })) fun z1=>(getI z1 s1.2.1).bind fun x2=>letO (z1.set (Int.toNat s1.2.1) ({ x2 with View:=wi .i64 (s1.1 + 1) })) fun z2=>(getI z2 s1.2.1).bind fun x3=>letO (z2.set (Int.toNat s1.2.1) ({ x3 with From:=wi .i64 ((wi .i64 (s1.1 + 1)) + 1) })) fun z3=>(getI z3 s1.2.1).bind fun x4=>letO (z3.set (Int.toNat s1.2.1) ({ x4 with Slot:=wi .i64 ((wi .i64 ((wi .i64 (s1.1 + 1)) + 1)) + 1) })) fun z4=>(getI z4 s1.2.1).bind fun x5=>letO (z4.set (Int.toNat s1.2.1) ({ x5 with Value:=wi .i64 ((wi .i64 ((wi .i64 ((wi .i64 (s1.1 + 1)) + 1)) + 1)) + 1) })) fun z5=>(getI z5 s1.2.1).bind fun x6=>(m60 x6.Certs (wi .i64 ((wi .i64 ((wi .i64 ((wi .i64 ((wi .i64 (s1.1 + 1)) + 1)) + 1)) + 1)) + 1))).bind fun y1=>letO (z5.set (Int.toNat s1.2.1) ({ x6 with Certs:=y1.2 })) fun z6=>(getI z6 s1.2.1).bind fun x7=>(m32 x7.Refs y1.1).bind fun y2=>letO (z6.set (Int.toNat s1.2.1) ({ x7 with Refs:=y2.2 })) fun z7=>some (LO.norm (y2.1,wi .i64 (s1.2.1 + 1),z7)) else some (LO.exit 0 (s1.1,s1.2.1,s1.2.2))
def m34 (a0:List TMsg) (a1:Int):Option (Int×(List TMsg)):=(loopO (ms34_0) NN (a1,0,a0)).bind (contO (fun _=>none) (fun i1 s2=>if i1 = 0 then some (s2.1,s2.2.2) else none) (fun s2=>some (0,s2.2.2)))
theorem w34 {d:Nat} (hd:2≤d) (L0:List En) (i0_:List Nat) (c0_0:AV) (a0:List TMsg) (a1:Int):Okh (tr i0_ [c0_0] (a0:List TMsg)::L0) (fun S=>R NN d 34 [c0_0,.int .i64 a1] S) (m34 a0 a1) (P2 (fun (t:Int×(List TMsg))=>AV.int .i64 t.1) (fun (t:Int×(List TMsg))=>tr i0_ [c0_0] t.2::L0)):=by
  obtain ⟨d,rfl,g⟩:=up hd
  refine q_to (t34 NN d _ _) ?_
  unfold b34 m34
  refine q_lp (A:=fun (s:Int×Int×(List TMsg))=>[.int .i64 s.1,.int .i64 s.2.1]) (B:=fun s=>tr i0_ [c0_0] (s.2.2:List TMsg)::L0) 0 rr ?_ ?_ ?_
  ·intro s1
   unfold s34_0 ms34_0
   exact q_lent 0 rfl<|q_p fr<|q_i (q_ixt 0 rfl rfl fun x1 hx1=>q_flt 0 rfl hx1 (by decide)<|q_stl 0 rfl rfl hx1 rfl (up53_Kind s1.1) fun z1 hz1=>q_p fr<|q_ixt 0 rfl rfl fun x2 hx2=>q_flt 0 rfl hx2 (by decide)<|q_stl 0 rfl rfl hx2 rfl (up53_View (wi .i64 (s1.1 + 1))) fun z2 hz2=>q_p fr<|q_ixt 0 rfl rfl fun x3 hx3=>q_flt 0 rfl hx3 (by decide)<|q_stl 0 rfl rfl hx3 rfl (up53_From (wi .i64 ((wi .i64 (s1.1 + 1)) + 1))) fun z3 hz3=>q_p fr<|q_ixt 0 rfl rfl fun x4 hx4=>q_flt 0 rfl hx4 (by decide)<|q_stl 0 rfl rfl hx4 rfl (up53_Slot (wi .i64 ((wi .i64 ((wi .i64 (s1.1 + 1)) + 1)) + 1))) fun z4 hz4=>q_p fr<|q_ixt 0 rfl rfl fun x5 hx5=>q_flt 0 rfl hx5 (by decide)<|q_stl 0 rfl rfl hx5 rfl (up53_Value (wi .i64 ((wi .i64 ((wi .i64 ((wi .i64 (s1.1 + 1)) + 1)) + 1)) + 1))) fun z5 hz5=>q_p fr<|q_ixt 0 rfl rfl fun x6 hx6=>q_flt 0 rfl hx6 (by decide)<|q_ldf rfl rfl hx6 fo53_Certs fun w1 ic1=>q_s (mg:=m60 x6.Certs (wi .i64 ((wi .i64 ((wi .i64 ((wi .i64 ((wi .i64 (s1.1 + 1)) + 1)) + 1)) + 1)) + 1))) (w60 (by omega) _ ic1 w1 x6.Certs (wi .i64 ((wi .i64 ((wi .i64 ((wi .i64 ((wi .i64 (s1.1 + 1)) + 1)) + 1)) + 1)) + 1))) fun y1 hy1=>q_putl fun z6 hz6=>q_ixt 0 rfl rfl fun x7 hx7=>q_flt 0 rfl hx7 (by decide)<|q_ldf rfl rfl hx7 fo53_Refs fun w2 ic2=>q_s (mg:=m32 x7.Refs y1.1) (w32 (by omega) _ ic2 w2 x7.Refs y1.1) fun y2 hy2=>q_putl fun z7 hz7=>q_p fr<|q_norm 0 rr)<|q_exit 0 rr
  ·exact fun i1 s2=>q_n (q_ret2 0 rfl rfl)<|q_none
  ·exact fun s2=>q_ret2 0 rfl rfl
def ms92_0 (s1:Int×Str):Option (LO (Int×Str)):=bif decide (s1.1 > 0) then (catO ([UInt8.ofNat (Int.toNat (wi .u8 (wi .i64 (48 + (Int.tmod s1.1 10)))))]:Str) s1.2).bind fun t1=>some (LO.norm (wi .i64 (Int.tdiv s1.1 10),t1)) else some (LO.exit 0 (s1.1,s1.2))
def m92 (a0:Int):Option (Str):=bif decide (a0≤0) then some ([109,48]:Str) else (loopO (ms92_0) NN (a0,([]:Str))).bind (contO (fun _=>none) (fun i1 s2=>if i1 = 0 then (catO ([109]:Str) s2.2).bind fun t2=>some t2 else none) (fun s2=>some ([]:Str)))
theorem w92 {d:Nat} (hd:1≤d) (a0:Int):Fit (R NN d 92 [.int .i64 a0] []) (m92 a0) (P0 encS):=by
  obtain ⟨d,rfl,g⟩:=up hd
  refine q_in (t92 NN d _) ?_
  unfold b92 m92
  refine q_p fr<|q_i ?_ ?_
  ·exact q_ret (cv_p rfl) rfl
  ·refine q_lp (A:=fun (s:Int×Str)=>[.int .i64 s.1,encS s.2]) (B:=fun s=>[]) 0 rr ?_ ?_ ?_
   ·intro s1
    unfold s92_0 ms92_0
    exact q_p fr<|q_i (q_p fr<|q_p fr<|q_p (fun _=>cvt3_5 _ _)<|q_q (fun _=>qb162)<|q_p (fun _=>cvb162_9 _ _)<|q_cat2 fun t1 ht1=>q_p fr<|q_norm 0 rr)<|q_exit 0 rr
   ·exact fun i1 s2=>q_n (q_cat fun t2 ht2=>q_ret (cv_p rfl) rfl)<|q_none
   ·exact fun s2=>q_ret (cv_p rfl) rfl
def ms61_0 (s1:Int×Int×(List TOp)):Option (LO (Int×Int×(List TOp))):=bif decide (s1.2.1 < (s1.2.2.length:Int)) then (getI s1.2.2 s1.2.1).bind fun x1=>letO (s1.2.2.set (Int.toNat s1.2.1) ({ x1 with Kind:=s1.1 })) fun z1=>(m92 (wi .i64 (s1.1 + 1))).bind fun y1=>(getI z1 s1.2.1).bind fun x2=>letO (z1.set (Int.toNat s1.2.1) ({ x2 with Path:=y1 })) fun z2=>(getI z2 s1.2.1).bind fun x3=>letO (z2.set (Int.toNat s1.2.1) ({ x3 with Data:=wi .i64 ((wi .i64 (s1.1 + 1)) + 1) })) fun z3=>(getI z3 s1.2.1).bind fun x4=>letO (z3.set (Int.toNat s1.2.1) ({ x4 with Version:=wi .i64 ((wi .i64 ((wi .i64 (s1.1 + 1)) + 1)) + 1) })) fun z4=>(getI z4 s1.2.1).bind fun x5=>letO (z4.set (Int.toNat s1.2.1) ({ x5 with Seq:=(Int.tmod (wi .i64 ((wi .i64 ((wi .i64 ((wi .i64 (s1.1 + 1)) + 1)) + 1)) + 1)) 3) == 0 })) fun z5=>(getI z5 s1.2.1).bind fun x6=>letO (z5.set (Int.toNat s1.2.1) ({ x6 with Own:=(Int.tmod (wi .i64 ((wi .i64 ((wi .i64 ((wi .i64 ((wi .i64 (s1.1 + 1)) + 1)) + 1)) + 1)) + 1)) 3) == 0 })) fun z6=>some (LO.norm (wi .i64 ((wi .i64 ((wi .i64 ((wi .i64 ((wi .i64 ((wi .i64 (s1.1 + 1)) + 1)) + 1)) + 1)) + 1)) + 1),wi .i64 (s1.2.1 + 1),z6)) else some (LO.exit 0 (s1.1,s1.2.1,s1.2.2))
def m61 (a0:List TOp) (a1:Int):Option (Int×(List TOp)):=(loopO (ms61_0) NN (a1,0,a0)).bind (contO (fun _=>none) (fun i1 s2=>if i1 = 0 then some (s2.1,s2.2.2) else none) (fun s2=>some (0,s2.2.2)))
theorem w61 {d:Nat} (hd:2≤d) (L0:List En) (i0_:List Nat) (c0_0:AV) (a0:List TOp) (a1:Int):Okh (tr i0_ [c0_0] (a0:List TOp)::L0) (fun S=>R NN d 61 [c0_0,.int .i64 a1] S) (m61 a0 a1) (P2 (fun (t:Int×(List TOp))=>AV.int .i64 t.1) (fun (t:Int×(List TOp))=>tr i0_ [c0_0] t.2::L0)):=by
  obtain ⟨d,rfl,g⟩:=up hd
  refine q_to (t61 NN d _ _) ?_
  unfold b61 m61
  refine q_lp (A:=fun (s:Int×Int×(List TOp))=>[.int .i64 s.1,.int .i64 s.2.1]) (B:=fun s=>tr i0_ [c0_0] (s.2.2:List TOp)::L0) 0 rr ?_ ?_ ?_
  ·intro s1
   unfold s61_0 ms61_0
   exact q_lent 0 rfl<|q_p fr<|q_i (q_ixt 0 rfl rfl fun x1 hx1=>q_flt 0 rfl hx1 (by decide)<|q_stl 0 rfl rfl hx1 rfl (up135_Kind s1.1) fun z1 hz1=>q_p fr<|q_c0 (aF1 (cv_p rfl) fun l0_=>w92 (by omega) (wi .i64 (s1.1 + 1))) fun y1 hy1=>q_ixt 0 rfl rfl fun x2 hx2=>q_flt 0 rfl hx2 (by decide)<|q_stl 0 rfl rfl hx2 rfl (up135_Path y1) fun z2 hz2=>q_p fr<|q_ixt 0 rfl rfl fun x3 hx3=>q_flt 0 rfl hx3 (by decide)<|q_stl 0 rfl rfl hx3 rfl (up135_Data (wi .i64 ((wi .i64 (s1.1 + 1)) + 1))) fun z3 hz3=>q_p fr<|q_ixt 0 rfl rfl fun x4 hx4=>q_flt 0 rfl hx4 (by decide)<|q_stl 0 rfl rfl hx4 rfl (up135_Version (wi .i64 ((wi .i64 ((wi .i64 (s1.1 + 1)) + 1)) + 1))) fun z4 hz4=>q_p fr<|q_p fr<|q_p fr<|q_ixt 0 rfl rfl fun x5 hx5=>q_flt 0 rfl hx5 (by decide)<|q_stl 0 rfl rfl hx5 rfl (up135_Seq ((Int.tmod (wi .i64 ((wi .i64 ((wi .i64 ((wi .i64 (s1.1 + 1)) + 1)) + 1)) + 1)) 3) == 0)) fun z5 hz5=>q_p fr<|q_p fr<|q_p fr<|q_ixt 0 rfl rfl fun x6 hx6=>q_flt 0 rfl hx6 (by decide)<|q_stl 0 rfl rfl hx6 rfl (up135_Own ((Int.tmod (wi .i64 ((wi .i64 ((wi .i64 ((wi .i64 ((wi .i64 (s1.1 + 1)) + 1)) + 1)) + 1)) + 1)) 3) == 0)) fun z6 hz6=>q_p fr<|q_p fr<|q_norm 0 rr)<|q_exit 0 rr
  ·exact fun i1 s2=>q_n (q_ret2 0 rfl rfl)<|q_none
  ·exact fun s2=>q_ret2 0 rfl rfl
def ms35_0 (s1:Int×Int×(List TRequest)):Option (LO (Int×Int×(List TRequest))):=bif decide (s1.2.1 < (s1.2.2.length:Int)) then (getI s1.2.2 s1.2.1).bind fun x1=>letO (s1.2.2.set (Int.toNat s1.2.1) ({ x1 with Client:=s1.1 })) fun z1=>(getI z1 s1.2.1).bind fun x2=>letO (z1.set (Int.toNat s1.2.1) ({ x2 with Number:=wi .i64 (s1.1 + 1) })) fun z2=>(getI z2 s1.2.1).bind fun x3=>letO (z2.set (Int.toNat s1.2.1) ({ x3 with Time:=wi .i64 ((wi .i64 (s1.1 + 1)) + 1) })) fun z3=>(getI z3 s1.2.1).bind fun x4=>(m61 x4.Ops (wi .i64 ((wi .i64 ((wi .i64 (s1.1 + 1)) + 1)) + 1))).bind fun y1=>letO (z3.set (Int.toNat s1.2.1) ({ x4 with Ops:=y1.2 })) fun z4=>some (LO.norm (y1.1,wi .i64 (s1.2.1 + 1),z4)) else some (LO.exit 0 (s1.1,s1.2.1,s1.2.2))
def m35 (a0:List TRequest) (a1:Int):Option (Int×(List TRequest)):=(loopO (ms35_0) NN (a1,0,a0)).bind (contO (fun _=>none) (fun i1 s2=>if i1 = 0 then some (s2.1,s2.2.2) else none) (fun s2=>some (0,s2.2.2)))
theorem w35 {d:Nat} (hd:3≤d) (L0:List En) (i0_:List Nat) (c0_0:AV) (a0:List TRequest) (a1:Int):Okh (tr i0_ [c0_0] (a0:List TRequest)::L0) (fun S=>R NN d 35 [c0_0,.int .i64 a1] S) (m35 a0 a1) (P2 (fun (t:Int×(List TRequest))=>AV.int .i64 t.1) (fun (t:Int×(List TRequest))=>tr i0_ [c0_0] t.2::L0)):=by
  obtain ⟨d,rfl,g⟩:=up hd
  refine q_to (t35 NN d _ _) ?_
  unfold b35 m35
  refine q_lp (A:=fun (s:Int×Int×(List TRequest))=>[.int .i64 s.1,.int .i64 s.2.1]) (B:=fun s=>tr i0_ [c0_0] (s.2.2:List TRequest)::L0) 0 rr ?_ ?_ ?_
  ·intro s1
   unfold s35_0 ms35_0
   exact q_lent 0 rfl<|q_p fr<|q_i (q_ixt 0 rfl rfl fun x1 hx1=>q_flt 0 rfl hx1 (by decide)<|q_stl 0 rfl rfl hx1 rfl (up99_Client s1.1) fun z1 hz1=>q_p fr<|q_ixt 0 rfl rfl fun x2 hx2=>q_flt 0 rfl hx2 (by decide)<|q_stl 0 rfl rfl hx2 rfl (up99_Number (wi .i64 (s1.1 + 1))) fun z2 hz2=>q_p fr<|q_ixt 0 rfl rfl fun x3 hx3=>q_flt 0 rfl hx3 (by decide)<|q_stl 0 rfl rfl hx3 rfl (up99_Time (wi .i64 ((wi .i64 (s1.1 + 1)) + 1))) fun z3 hz3=>q_p fr<|q_ixt 0 rfl rfl fun x4 hx4=>q_flt 0 rfl hx4 (by decide)<|q_ldf rfl rfl hx4 fo99_Ops fun w1 ic1=>q_s (mg:=m61 x4.Ops (wi .i64 ((wi .i64 ((wi .i64 (s1.1 + 1)) + 1)) + 1))) (w61 (by omega) _ ic1 w1 x4.Ops (wi .i64 ((wi .i64 ((wi .i64 (s1.1 + 1)) + 1)) + 1))) fun y1 hy1=>q_putl fun z4 hz4=>q_p fr<|q_norm 0 rr)<|q_exit 0 rr
  ·exact fun i1 s2=>q_n (q_ret2 0 rfl rfl)<|q_none
  ·exact fun s2=>q_ret2 0 rfl rfl
end
end Go.Proofs.YtmjibndicekcaaaGreatDoor
