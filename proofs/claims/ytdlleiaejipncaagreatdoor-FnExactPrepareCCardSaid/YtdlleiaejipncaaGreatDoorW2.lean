/- Plain functions, and that the evaluator computes them. -/
import Derived.Test.YtdlleiaejipncaaGreatDoorW1
namespace Go.Proofs.YtdlleiaejipncaaGreatDoor
open Go Go.Rf
set_option linter.unusedVariables false
set_option linter.unusedSimpArgs false
noncomputable section
def Hy (a2:Int) (s1:Bool×Int×Int×(List Int)) (s3:Int):Option (LO (Int)):=( ( bif decide (s3 < a2) then (Al s1.2.2.2 s3).bind fun x1=>(Al s1.2.2.2 (wi .i64 (s3 - 1))).bind fun x2=>(FO x1 x2).bind fun y1=>some (LO.norm (!y1)) else some (LO.norm false)).bind (Ac (fun s6=>bif s6 then some (LO.norm s6) else some (LO.exit 2 s6)) (fun i1 s6=>some (LO.exit i1 s6)) (fun s6=>some (LO.ret s6)))).bind (Ac (fun s7=>some (LO.norm (wi .i64 (s3 + 1)))) (fun i2 s7=>some (LO.exit i2 s3)) (fun s7=>some (LO.ret s3)))
def OR (s10:Int×(List Int)):Option (LO (Int×(List Int))):=bif decide (s10.1 ≥ 1) then (Al s10.2 s10.1).bind fun x7=>(Al s10.2 (wi .i64 (s10.1 - 1))).bind fun x8=>(FO x7 x8).bind fun y2=>bif !y2 then some (LO.exit 4 (s10.1,s10.2)) else (Al s10.2 (wi .i64 (s10.1 - 1))).bind fun x9=>(Al s10.2 s10.1).bind fun x10=>(Al s10.2 s10.1).bind fun x11=>(Al (s10.2.set (Int.toNat s10.1) x9) (wi .i64 (s10.1 - 1))).bind fun x12=>some (LO.norm (wi .i64 (s10.1 - 1),(s10.2.set (Int.toNat s10.1) x9).set (Int.toNat (wi .i64 (s10.1 - 1))) x10)) else some (LO.exit 4 (s10.1,s10.2))
def OQ (a2:Int) (s13:Int×(List Int)):Option (LO (Int×(List Int))):=bif decide (s13.1 < a2) then (Al s13.2 s13.1).bind fun x13=>(Al s13.2 (wi .i64 (s13.1 - 1))).bind fun x14=>(FO x13 x14).bind fun y3=>bif !y3 then some (LO.exit 6 (s13.1,s13.2)) else (Al s13.2 (wi .i64 (s13.1 - 1))).bind fun x15=>(Al s13.2 s13.1).bind fun x16=>(Al s13.2 s13.1).bind fun x17=>(Al (s13.2.set (Int.toNat s13.1) x15) (wi .i64 (s13.1 - 1))).bind fun x18=>some (LO.norm (wi .i64 (s13.1 + 1),(s13.2.set (Int.toNat s13.1) x15).set (Int.toNat (wi .i64 (s13.1 - 1))) x16)) else some (LO.exit 6 (s13.1,s13.2))
def Jb (a1:Int) (a2:Int) (s1:Bool×Int×Int×(List Int)):Option (LO (Bool×Int×Int×(List Int))):=bif decide (s1.2.2.1 < 5) then ( (Ar (Hy a2 s1) NN s1.2.1).bind (Ac (fun _=>none) (fun i3 s8=>if i3 = 2 then bif s8 == a2 then some (LO.ret (true,s8,s1.2.2.2)) else bif decide ((wi .i64 (a2 - a1)) < 50) then some (LO.ret (false,s8,s1.2.2.2)) else (Al s1.2.2.2 (wi .i64 (s8 - 1))).bind fun x3=>(Al s1.2.2.2 s8).bind fun x4=>(Al s1.2.2.2 s8).bind fun x5=>(Al (s1.2.2.2.set (Int.toNat s8) x3) (wi .i64 (s8 - 1))).bind fun x6=>( bif decide ((wi .i64 (s8 - a1)) ≥ 2) then (Ar (OR) NN (wi .i64 (s8 - 1),(s1.2.2.2.set (Int.toNat s8) x3).set (Int.toNat (wi .i64 (s8 - 1))) x4)).bind (Ac (fun _=>none) (fun i4 s11=>if i4 = 4 then some (LO.norm s11.2) else some (LO.exit i4 s11.2)) (fun s11=>some (LO.ret s11.2))) else some (LO.norm ((s1.2.2.2.set (Int.toNat s8) x3).set (Int.toNat (wi .i64 (s8 - 1))) x4))).bind (Ac (fun s12=>bif decide ((wi .i64 (a2 - s8)) ≥ 2) then (Ar (OQ a2) NN (wi .i64 (s8 + 1),s12)).bind (Ac (fun _=>none) (fun i6 s14=>if i6 = 6 then some (LO.norm (s1.1,s8,s14.2)) else if i6 = 1 then some (LO.norm (s1.1,s8,s14.2)) else some (LO.exit i6 (s1.1,s8,s14.2))) (fun s14=>some (LO.ret (s1.1,s8,s14.2)))) else some (LO.norm (s1.1,s8,s12))) (fun i5 s12=>if i5 = 1 then some (LO.norm (s1.1,s8,s12)) else some (LO.exit i5 (s1.1,s8,s12))) (fun s12=>some (LO.ret (s1.1,s8,s12)))) else if i3 = 1 then some (LO.norm (s1.1,s8,s1.2.2.2)) else some (LO.exit i3 (s1.1,s8,s1.2.2.2))) (fun s8=>some (LO.ret (s1.1,s8,s1.2.2.2))))).bind (Ac (fun s15=>some (LO.norm (s15.1,s15.2.1,wi .i64 (s1.2.2.1 + 1),s15.2.2))) (fun i7 s15=>some (LO.exit i7 (s15.1,s15.2.1,s1.2.2.1,s15.2.2))) (fun s15=>some (LO.ret (s15.1,s15.2.1,s1.2.2.1,s15.2.2)))) else some (LO.exit 0 (s1.1,s1.2.1,s1.2.2.1,s1.2.2.2))
def QB (a0:List Int) (a1:Int) (a2:Int):Option (Bool×(List Int)):=(Ar (Jb a1 a2) NN (false,wi .i64 (a1 + 1),0,a0)).bind (Ac (fun _=>none) (fun i8 s16=>if i8 = 0 then some (false,s16.2.2.2) else none) (fun s16=>some (s16.1,s16.2.2.2)))
theorem w211 {d:Nat} (hd:3≤d) (L0:List En) (v0_:AV) (a0:List Int) (a1:Int) (a2:Int):Okh (sl false v0_ (a0:List Int)::L0) (fun S=>R NN d 211 [v0_,iW a1,iW a2] S) (QB a0 a1 a2) (P2 (fun (t:Bool×(List Int))=>AV.bool t.1) (fun (t:Bool×(List Int))=>sl false v0_ t.2::L0)):=by
  obtain ⟨d,rfl,g⟩:=up hd
  refine Dn (t211 NN d _ _ _) ?_
  unfold k9 QB
  refine q_p fr<|AU (A:=fun (s:Bool×Int×Int×(List Int))=>[.bool s.1,iW s.2.1,iW s.2.2.1]) (B:=fun s=>sl false v0_ (s.2.2.2:List Int)::L0) 0 rr ?_ ?_ ?_
  ·intro s1
   unfold Tc Jb
   refine q_p fr<|q_i ?_ ?_
   ·refine AM (A:=fun (s:Bool×Int×(List Int))=>[.bool s.1,iW s.2.1]) (B:=fun s=>sl false v0_ (s.2.2:List Int)::L0) ?_ ?_ ?_ ?_
    ·refine AU (A:=fun (s:Int)=>[iW s]) (B:=fun s=>sl false v0_ (s1.2.2.2:List Int)::L0) 0 rr ?_ ?_ ?_
     ·intro s3
      unfold Tf Hy
      refine AM (A:=fun (s:Bool)=>[.bool s]) (B:=fun s=>sl false v0_ (s1.2.2.2:List Int)::L0) ?_ ?_ ?_ ?_
      ·refine AM (A:=fun (s:Bool)=>[.bool s]) (B:=fun s=>sl false v0_ (s1.2.2.2:List Int)::L0) ?_ ?_ ?_ ?_
       ·exact q_p fr<|q_k (AC 0 rfl rfl fun x1 hx1=>AT 0 rfl hx1 rfl<|q_p fr<|AC 0 rfl rfl fun x2 hx2=>AT 0 rfl hx2 rfl<|A7 (aF2 (Ab rfl) (Ab rfl) fun l0_ l1_=>He (by omega) x1 x2) fun y1 hy1=>q_p fr<|Aa 0 rr)<|Aa 0 rr
       ·exact fun s6=>q_i (Aa 0 rr)<|Am 0 rr
       ·exact fun i1 s6=>Am 0 rr
       ·exact fun s6=>Aj 0 rr
      ·exact fun s7=>q_p fr<|Aa 0 rr
      ·exact fun i2 s7=>Am 0 rr
      ·exact fun s7=>Aj 0 rr
     ·intro i3 s8
      refine q_n ?_ ?_
      ·refine q_p fr<|q_i ?_ ?_
       ·exact Aj 0 rr
       ·refine q_p fr<|q_p fr<|q_i ?_ ?_
        ·exact Aj 0 rr
        ·refine q_p fr<|q_p fr<|AC 0 rfl rfl fun x3 hx3=>AT 0 rfl hx3 rfl<|AC 0 rfl rfl fun x4 hx4=>AT 0 rfl hx4 rfl<|AC 0 rfl rfl fun x5 hx5=>Bi (y:=x3) 0 rfl rfl hx5 rfl (by decide)<|AC 0 rfl rfl fun x6 hx6=>Bi (y:=x4) 0 rfl rfl hx6 rfl (by decide)<|AM (A:=fun (s:(List Int))=>[]) (B:=fun s=>sl false v0_ (s:List Int)::L0) ?_ ?_ ?_ ?_
         ·refine q_p fr<|q_p fr<|q_i ?_ ?_
          ·refine q_p fr<|AU (A:=fun (s:Int×(List Int))=>[iW s.1]) (B:=fun s=>sl false v0_ (s.2:List Int)::L0) 0 rr ?_ ?_ ?_
           ·intro s10
            unfold Te OR
            exact q_p fr<|q_i (AC 0 rfl rfl fun x7 hx7=>AT 0 rfl hx7 rfl<|q_p fr<|AC 0 rfl rfl fun x8 hx8=>AT 0 rfl hx8 rfl<|A7 (aF2 (Ab rfl) (Ab rfl) fun l0_ l1_=>He (by omega) x7 x8) fun y2 hy2=>q_p fr<|q_i (Am 0 rr)<|q_p fr<|q_p fr<|AC 0 rfl rfl fun x9 hx9=>AT 0 rfl hx9 rfl<|AC 0 rfl rfl fun x10 hx10=>AT 0 rfl hx10 rfl<|AC 0 rfl rfl fun x11 hx11=>Bi (y:=x9) 0 rfl rfl hx11 rfl (by decide)<|AC 0 rfl rfl fun x12 hx12=>Bi (y:=x10) 0 rfl rfl hx12 rfl (by decide)<|q_p fr<|Aa 0 rr)<|Am 0 rr
           ·exact fun i4 s11=>q_n (Aa 0 rr)<|Am 0 rr
           ·exact fun s11=>Aj 0 rr
          ·exact Aa 0 rr
         ·intro s12
          refine q_p fr<|q_p fr<|q_i ?_ ?_
          ·refine q_p fr<|AU (A:=fun (s:Int×(List Int))=>[iW s.1]) (B:=fun s=>sl false v0_ (s.2:List Int)::L0) 0 rr ?_ ?_ ?_
           ·intro s13
            unfold Td OQ
            exact q_p fr<|q_i (AC 0 rfl rfl fun x13 hx13=>AT 0 rfl hx13 rfl<|q_p fr<|AC 0 rfl rfl fun x14 hx14=>AT 0 rfl hx14 rfl<|A7 (aF2 (Ab rfl) (Ab rfl) fun l0_ l1_=>He (by omega) x13 x14) fun y3 hy3=>q_p fr<|q_i (Am 0 rr)<|q_p fr<|q_p fr<|AC 0 rfl rfl fun x15 hx15=>AT 0 rfl hx15 rfl<|AC 0 rfl rfl fun x16 hx16=>AT 0 rfl hx16 rfl<|AC 0 rfl rfl fun x17 hx17=>Bi (y:=x15) 0 rfl rfl hx17 rfl (by decide)<|AC 0 rfl rfl fun x18 hx18=>Bi (y:=x16) 0 rfl rfl hx18 rfl (by decide)<|q_p fr<|Aa 0 rr)<|Am 0 rr
           ·exact fun i6 s14=>q_n (Aa 0 rr)<|q_n (Aa 0 rr)<|Am 0 rr
           ·exact fun s14=>Aj 0 rr
          ·exact Aa 0 rr
         ·exact fun i5 s12=>q_n (Aa 0 rr)<|Am 0 rr
         ·exact fun s12=>Aj 0 rr
      ·exact q_n (Aa 0 rr)<|Am 0 rr
     ·exact fun s8=>Aj 0 rr
    ·exact fun s15=>q_p fr<|Aa 0 rr
    ·exact fun i7 s15=>Am 0 rr
    ·exact fun s15=>Aj 0 rr
   ·exact Am 0 rr
  ·exact fun i8 s16=>q_n (AW 0 rfl rfl)<|Ap
  ·exact fun s16=>AW 0 rfl rfl
def Hx (a1:Int) (s1:Int×Int×(List Int)) (s2:Int):Option (LO (Int)):=( ( bif decide (s2≤s1.2.1) then (Al s1.2.2 a1).bind fun x5=>(Al s1.2.2 s2).bind fun x6=>(FO x5 x6).bind fun y1=>some (LO.norm (!y1)) else some (LO.norm false)).bind (Ac (fun s5=>bif s5 then some (LO.norm s5) else some (LO.exit 2 s5)) (fun i1 s5=>some (LO.exit i1 s5)) (fun s5=>some (LO.ret s5)))).bind (Ac (fun s6=>some (LO.norm (wi .i64 (s2 + 1)))) (fun i2 s6=>some (LO.exit i2 s2)) (fun s6=>some (LO.ret s2)))
def Hw (a1:Int) (s1:Int×Int×(List Int)) (s7:Int) (s8:Int):Option (LO (Int)):=( ( bif decide (s7≤s8) then (Al s1.2.2 a1).bind fun x7=>(Al s1.2.2 s8).bind fun x8=>(FO x7 x8).bind fun y2=>some (LO.norm y2) else some (LO.norm false)).bind (Ac (fun s11=>bif s11 then some (LO.norm s11) else some (LO.exit 4 s11)) (fun i4 s11=>some (LO.exit i4 s11)) (fun s11=>some (LO.ret s11)))).bind (Ac (fun s12=>some (LO.norm (wi .i64 (s8 - 1)))) (fun i5 s12=>some (LO.exit i5 s8)) (fun s12=>some (LO.ret s8)))
def Gn (a1:Int) (s1:Int×Int×(List Int)):Option (LO (Int×Int×(List Int))):=(Ar (Hx a1 s1) NN s1.1).bind (Ac (fun _=>none) (fun i3 s7=>if i3 = 2 then (Ar (Hw a1 s1 s7) NN s1.2.1).bind (Ac (fun _=>none) (fun i6 s13=>if i6 = 4 then bif decide (s7 > s13) then some (LO.exit 0 (s7,s13,s1.2.2)) else (Al s1.2.2 s13).bind fun x9=>(Al s1.2.2 s7).bind fun x10=>(Al s1.2.2 s7).bind fun x11=>(Al (s1.2.2.set (Int.toNat s7) x9) s13).bind fun x12=>some (LO.norm (wi .i64 (s7 + 1),wi .i64 (s13 - 1),(s1.2.2.set (Int.toNat s7) x9).set (Int.toNat s13) x10)) else if i6 = 1 then some (LO.norm (s7,s13,s1.2.2)) else some (LO.exit i6 (s7,s13,s1.2.2))) (fun s13=>some (LO.ret (s7,s13,s1.2.2)))) else if i3 = 1 then some (LO.norm (s7,s1.2.1,s1.2.2)) else some (LO.exit i3 (s7,s1.2.1,s1.2.2))) (fun s7=>some (LO.ret (s7,s1.2.1,s1.2.2))))
def QA (a0:List Int) (a1:Int) (a2:Int) (a3:Int):Option (Int×(List Int)):=(Al a0 a3).bind fun x1=>(Al a0 a1).bind fun x2=>(Al a0 a1).bind fun x3=>(Al (a0.set (Int.toNat a1) x1) a3).bind fun x4=>(Ar (Gn a1) NN (wi .i64 (a1 + 1),wi .i64 (a2 - 1),(a0.set (Int.toNat a1) x1).set (Int.toNat a3) x2)).bind (Ac (fun _=>none) (fun i7 s14=>if i7 = 0 then some (s14.1,s14.2.2) else none) (fun s14=>some (0,s14.2.2)))
theorem w213 {d:Nat} (hd:3≤d) (L0:List En) (v0_:AV) (a0:List Int) (a1:Int) (a2:Int) (a3:Int):Okh (sl false v0_ (a0:List Int)::L0) (fun S=>R NN d 213 [v0_,iW a1,iW a2,iW a3] S) (QA a0 a1 a2 a3) (P2 (fun (t:Int×(List Int))=>AV.int .i64 t.1) (fun (t:Int×(List Int))=>sl false v0_ t.2::L0)):=by
  obtain ⟨d,rfl,g⟩:=up hd
  refine Dn (t213 NN d _ _ _ _) ?_
  unfold kY QA
  refine AC 0 rfl rfl fun x1 hx1=>AT 0 rfl hx1 rfl<|AC 0 rfl rfl fun x2 hx2=>AT 0 rfl hx2 rfl<|AC 0 rfl rfl fun x3 hx3=>Bi (y:=x1) 0 rfl rfl hx3 rfl (by decide)<|AC 0 rfl rfl fun x4 hx4=>Bi (y:=x2) 0 rfl rfl hx4 rfl (by decide)<|q_p fr<|q_p fr<|AU (A:=fun (s:Int×Int×(List Int))=>[iW s.1,iW s.2.1]) (B:=fun s=>sl false v0_ (s.2.2:List Int)::L0) 0 rr ?_ ?_ ?_
  ·intro s1
   unfold SZ Gn
   refine AU (A:=fun (s:Int)=>[iW s]) (B:=fun s=>sl false v0_ (s1.2.2:List Int)::L0) 0 rr ?_ ?_ ?_
   ·intro s2
    unfold Tb Hx
    refine AM (A:=fun (s:Bool)=>[.bool s]) (B:=fun s=>sl false v0_ (s1.2.2:List Int)::L0) ?_ ?_ ?_ ?_
    ·refine AM (A:=fun (s:Bool)=>[.bool s]) (B:=fun s=>sl false v0_ (s1.2.2:List Int)::L0) ?_ ?_ ?_ ?_
     ·exact q_p fr<|q_k (AC 0 rfl rfl fun x5 hx5=>AT 0 rfl hx5 rfl<|AC 0 rfl rfl fun x6 hx6=>AT 0 rfl hx6 rfl<|A7 (aF2 (Ab rfl) (Ab rfl) fun l0_ l1_=>He (by omega) x5 x6) fun y1 hy1=>q_p fr<|Aa 0 rr)<|Aa 0 rr
     ·exact fun s5=>q_i (Aa 0 rr)<|Am 0 rr
     ·exact fun i1 s5=>Am 0 rr
     ·exact fun s5=>Aj 0 rr
    ·exact fun s6=>q_p fr<|Aa 0 rr
    ·exact fun i2 s6=>Am 0 rr
    ·exact fun s6=>Aj 0 rr
   ·intro i3 s7
    refine q_n ?_ ?_
    ·refine AU (A:=fun (s:Int)=>[iW s]) (B:=fun s=>sl false v0_ (s1.2.2:List Int)::L0) 0 rr ?_ ?_ ?_
     ·intro s8
      unfold Ta Hw
      refine AM (A:=fun (s:Bool)=>[.bool s]) (B:=fun s=>sl false v0_ (s1.2.2:List Int)::L0) ?_ ?_ ?_ ?_
      ·refine AM (A:=fun (s:Bool)=>[.bool s]) (B:=fun s=>sl false v0_ (s1.2.2:List Int)::L0) ?_ ?_ ?_ ?_
       ·exact q_p fr<|q_k (AC 0 rfl rfl fun x7 hx7=>AT 0 rfl hx7 rfl<|AC 0 rfl rfl fun x8 hx8=>AT 0 rfl hx8 rfl<|A7 (aF2 (Ab rfl) (Ab rfl) fun l0_ l1_=>He (by omega) x7 x8) fun y2 hy2=>Aa 0 rr)<|Aa 0 rr
       ·exact fun s11=>q_i (Aa 0 rr)<|Am 0 rr
       ·exact fun i4 s11=>Am 0 rr
       ·exact fun s11=>Aj 0 rr
      ·exact fun s12=>q_p fr<|Aa 0 rr
      ·exact fun i5 s12=>Am 0 rr
      ·exact fun s12=>Aj 0 rr
     ·exact fun i6 s13=>q_n (q_p fr<|q_i (Am 0 rr)<|AC 0 rfl rfl fun x9 hx9=>AT 0 rfl hx9 rfl<|AC 0 rfl rfl fun x10 hx10=>AT 0 rfl hx10 rfl<|AC 0 rfl rfl fun x11 hx11=>Bi (y:=x9) 0 rfl rfl hx11 rfl (by decide)<|AC 0 rfl rfl fun x12 hx12=>Bi (y:=x10) 0 rfl rfl hx12 rfl (by decide)<|q_p fr<|q_p fr<|Aa 0 rr)<|q_n (Aa 0 rr)<|Am 0 rr
     ·exact fun s13=>Aj 0 rr
    ·exact q_n (Aa 0 rr)<|Am 0 rr
   ·exact fun s7=>Aj 0 rr
  ·exact fun i7 s14=>q_n (AW 0 rfl rfl)<|Ap
  ·exact fun s14=>AW 0 rfl rfl
def Hv (a0:List Int) (a1:Int) (a2:Int) (a3:Int) (x1:Int) (x2:Int) (s1:Int):Option (LO (Int)):=( ( bif decide (s1≤(wi .i64 (a2 - 1))) then (Al ((a0.set (Int.toNat a1) x1).set (Int.toNat a3) x2) s1).bind fun x5=>(Al ((a0.set (Int.toNat a1) x1).set (Int.toNat a3) x2) a1).bind fun x6=>(FO x5 x6).bind fun y1=>some (LO.norm y1) else some (LO.norm false)).bind (Ac (fun s4=>bif s4 then some (LO.norm s4) else some (LO.exit 0 s4)) (fun i1 s4=>some (LO.exit i1 s4)) (fun s4=>some (LO.ret s4)))).bind (Ac (fun s5=>some (LO.norm (wi .i64 (s1 + 1)))) (fun i2 s5=>some (LO.exit i2 s1)) (fun s5=>some (LO.ret s1)))
def Hu (a0:List Int) (a1:Int) (a3:Int) (s6:Int) (x1:Int) (x2:Int) (s7:Int):Option (LO (Int)):=( ( bif decide (s6≤s7) then (Al ((a0.set (Int.toNat a1) x1).set (Int.toNat a3) x2) s7).bind fun x7=>(Al ((a0.set (Int.toNat a1) x1).set (Int.toNat a3) x2) a1).bind fun x8=>(FO x7 x8).bind fun y2=>some (LO.norm (!y2)) else some (LO.norm false)).bind (Ac (fun s10=>bif s10 then some (LO.norm s10) else some (LO.exit 2 s10)) (fun i4 s10=>some (LO.exit i4 s10)) (fun s10=>some (LO.ret s10)))).bind (Ac (fun s11=>some (LO.norm (wi .i64 (s7 - 1)))) (fun i5 s11=>some (LO.exit i5 s7)) (fun s11=>some (LO.ret s7)))
def Ht (a1:Int) (s13:Int×Int×(List Int)) (s14:Int):Option (LO (Int)):=( ( bif decide (s14≤s13.2.1) then (Al s13.2.2 s14).bind fun x17=>(Al s13.2.2 a1).bind fun x18=>(FO x17 x18).bind fun y3=>some (LO.norm y3) else some (LO.norm false)).bind (Ac (fun s17=>bif s17 then some (LO.norm s17) else some (LO.exit 6 s17)) (fun i7 s17=>some (LO.exit i7 s17)) (fun s17=>some (LO.ret s17)))).bind (Ac (fun s18=>some (LO.norm (wi .i64 (s14 + 1)))) (fun i8 s18=>some (LO.exit i8 s14)) (fun s18=>some (LO.ret s14)))
def Hr (a1:Int) (s13:Int×Int×(List Int)) (s19:Int) (s20:Int):Option (LO (Int)):=( ( bif decide (s19≤s20) then (Al s13.2.2 s20).bind fun x19=>(Al s13.2.2 a1).bind fun x20=>(FO x19 x20).bind fun y4=>some (LO.norm (!y4)) else some (LO.norm false)).bind (Ac (fun s23=>bif s23 then some (LO.norm s23) else some (LO.exit 8 s23)) (fun i10 s23=>some (LO.exit i10 s23)) (fun s23=>some (LO.ret s23)))).bind (Ac (fun s24=>some (LO.norm (wi .i64 (s20 - 1)))) (fun i11 s24=>some (LO.exit i11 s20)) (fun s24=>some (LO.ret s20)))
def Gm (a1:Int) (s13:Int×Int×(List Int)):Option (LO (Int×Int×(List Int))):=(Ar (Ht a1 s13) NN s13.1).bind (Ac (fun _=>none) (fun i9 s19=>if i9 = 6 then (Ar (Hr a1 s13 s19) NN s13.2.1).bind (Ac (fun _=>none) (fun i12 s25=>if i12 = 8 then bif decide (s19 > s25) then some (LO.exit 4 (s19,s25,s13.2.2)) else (Al s13.2.2 s25).bind fun x21=>(Al s13.2.2 s19).bind fun x22=>(Al s13.2.2 s19).bind fun x23=>(Al (s13.2.2.set (Int.toNat s19) x21) s25).bind fun x24=>some (LO.norm (wi .i64 (s19 + 1),wi .i64 (s25 - 1),(s13.2.2.set (Int.toNat s19) x21).set (Int.toNat s25) x22)) else if i12 = 5 then some (LO.norm (s19,s25,s13.2.2)) else some (LO.exit i12 (s19,s25,s13.2.2))) (fun s25=>some (LO.ret (s19,s25,s13.2.2)))) else if i9 = 5 then some (LO.norm (s19,s13.2.1,s13.2.2)) else some (LO.exit i9 (s19,s13.2.1,s13.2.2))) (fun s19=>some (LO.ret (s19,s13.2.1,s13.2.2))))
def Q9 (a0:List Int) (a1:Int) (a2:Int) (a3:Int):Option (Int×Bool×(List Int)):=(Al a0 a3).bind fun x1=>(Al a0 a1).bind fun x2=>(Al a0 a1).bind fun x3=>(Al (a0.set (Int.toNat a1) x1) a3).bind fun x4=>(Ar (Hv a0 a1 a2 a3 x1 x2) NN (wi .i64 (a1 + 1))).bind (Ac (fun _=>none) (fun i3 s6=>if i3 = 0 then (Ar (Hu a0 a1 a3 s6 x1 x2) NN (wi .i64 (a2 - 1))).bind (Ac (fun _=>none) (fun i6 s12=>if i6 = 2 then bif decide (s6 > s12) then (Al ((a0.set (Int.toNat a1) x1).set (Int.toNat a3) x2) a1).bind fun x9=>(Al ((a0.set (Int.toNat a1) x1).set (Int.toNat a3) x2) s12).bind fun x10=>(Al ((a0.set (Int.toNat a1) x1).set (Int.toNat a3) x2) s12).bind fun x11=>(Al (((a0.set (Int.toNat a1) x1).set (Int.toNat a3) x2).set (Int.toNat s12) x9) a1).bind fun x12=>some (s12,true,(((a0.set (Int.toNat a1) x1).set (Int.toNat a3) x2).set (Int.toNat s12) x9).set (Int.toNat a1) x10) else (Al ((a0.set (Int.toNat a1) x1).set (Int.toNat a3) x2) s12).bind fun x13=>(Al ((a0.set (Int.toNat a1) x1).set (Int.toNat a3) x2) s6).bind fun x14=>(Al ((a0.set (Int.toNat a1) x1).set (Int.toNat a3) x2) s6).bind fun x15=>(Al (((a0.set (Int.toNat a1) x1).set (Int.toNat a3) x2).set (Int.toNat s6) x13) s12).bind fun x16=>(Ar (Gm a1) NN (wi .i64 (s6 + 1),wi .i64 (s12 - 1),(((a0.set (Int.toNat a1) x1).set (Int.toNat a3) x2).set (Int.toNat s6) x13).set (Int.toNat s12) x14)).bind (Ac (fun _=>none) (fun i13 s26=>if i13 = 4 then (Al s26.2.2 a1).bind fun x25=>(Al s26.2.2 s26.2.1).bind fun x26=>(Al s26.2.2 s26.2.1).bind fun x27=>(Al (s26.2.2.set (Int.toNat s26.2.1) x25) a1).bind fun x28=>some (s26.2.1,false,(s26.2.2.set (Int.toNat s26.2.1) x25).set (Int.toNat a1) x26) else none) (fun s26=>some (0,false,s26.2.2))) else none) (fun s12=>some (0,false,(a0.set (Int.toNat a1) x1).set (Int.toNat a3) x2))) else none) (fun s6=>some (0,false,(a0.set (Int.toNat a1) x1).set (Int.toNat a3) x2)))
theorem w214 {d:Nat} (hd:3≤d) (L0:List En) (v0_:AV) (a0:List Int) (a1:Int) (a2:Int) (a3:Int):Okh (sl false v0_ (a0:List Int)::L0) (fun S=>R NN d 214 [v0_,iW a1,iW a2,iW a3] S) (Q9 a0 a1 a2 a3) (P2 (fun (t:Int×Bool×(List Int))=>AV.tup [iW t.1,.bool t.2.1]) (fun (t:Int×Bool×(List Int))=>sl false v0_ t.2.2::L0)):=by
  obtain ⟨d,rfl,g⟩:=up hd
  refine Dn (t214 NN d _ _ _ _) ?_
  unfold kX Q9
  refine AC 0 rfl rfl fun x1 hx1=>AT 0 rfl hx1 rfl<|AC 0 rfl rfl fun x2 hx2=>AT 0 rfl hx2 rfl<|AC 0 rfl rfl fun x3 hx3=>Bi (y:=x1) 0 rfl rfl hx3 rfl (by decide)<|AC 0 rfl rfl fun x4 hx4=>Bi (y:=x2) 0 rfl rfl hx4 rfl (by decide)<|q_p fr<|q_p fr<|AU (A:=fun (s:Int)=>[iW s]) (B:=fun s=>sl false v0_ ((a0.set (Int.toNat a1) x1).set (Int.toNat a3) x2:List Int)::L0) 0 rr ?_ ?_ ?_
  ·intro s1
   unfold SY Hv
   refine AM (A:=fun (s:Bool)=>[.bool s]) (B:=fun s=>sl false v0_ ((a0.set (Int.toNat a1) x1).set (Int.toNat a3) x2:List Int)::L0) ?_ ?_ ?_ ?_
   ·refine AM (A:=fun (s:Bool)=>[.bool s]) (B:=fun s=>sl false v0_ ((a0.set (Int.toNat a1) x1).set (Int.toNat a3) x2:List Int)::L0) ?_ ?_ ?_ ?_
    ·exact q_p fr<|q_k (AC 0 rfl rfl fun x5 hx5=>AT 0 rfl hx5 rfl<|AC 0 rfl rfl fun x6 hx6=>AT 0 rfl hx6 rfl<|A7 (aF2 (Ab rfl) (Ab rfl) fun l0_ l1_=>He (by omega) x5 x6) fun y1 hy1=>Aa 0 rr)<|Aa 0 rr
    ·exact fun s4=>q_i (Aa 0 rr)<|Am 0 rr
    ·exact fun i1 s4=>Am 0 rr
    ·exact fun s4=>Aj 0 rr
   ·exact fun s5=>q_p fr<|Aa 0 rr
   ·exact fun i2 s5=>Am 0 rr
   ·exact fun s5=>Aj 0 rr
  ·intro i3 s6
   refine q_n ?_ ?_
   ·refine AU (A:=fun (s:Int)=>[iW s]) (B:=fun s=>sl false v0_ ((a0.set (Int.toNat a1) x1).set (Int.toNat a3) x2:List Int)::L0) 0 rr ?_ ?_ ?_
    ·intro s7
     unfold SX Hu
     refine AM (A:=fun (s:Bool)=>[.bool s]) (B:=fun s=>sl false v0_ ((a0.set (Int.toNat a1) x1).set (Int.toNat a3) x2:List Int)::L0) ?_ ?_ ?_ ?_
     ·refine AM (A:=fun (s:Bool)=>[.bool s]) (B:=fun s=>sl false v0_ ((a0.set (Int.toNat a1) x1).set (Int.toNat a3) x2:List Int)::L0) ?_ ?_ ?_ ?_
      ·exact q_p fr<|q_k (AC 0 rfl rfl fun x7 hx7=>AT 0 rfl hx7 rfl<|AC 0 rfl rfl fun x8 hx8=>AT 0 rfl hx8 rfl<|A7 (aF2 (Ab rfl) (Ab rfl) fun l0_ l1_=>He (by omega) x7 x8) fun y2 hy2=>q_p fr<|Aa 0 rr)<|Aa 0 rr
      ·exact fun s10=>q_i (Aa 0 rr)<|Am 0 rr
      ·exact fun i4 s10=>Am 0 rr
      ·exact fun s10=>Aj 0 rr
     ·exact fun s11=>q_p fr<|Aa 0 rr
     ·exact fun i5 s11=>Am 0 rr
     ·exact fun s11=>Aj 0 rr
    ·intro i6 s12
     refine q_n ?_ ?_
     ·refine q_p fr<|q_i ?_ ?_
      ·exact AC 0 rfl rfl fun x9 hx9=>AT 0 rfl hx9 rfl<|AC 0 rfl rfl fun x10 hx10=>AT 0 rfl hx10 rfl<|AC 0 rfl rfl fun x11 hx11=>Bi (y:=x9) 0 rfl rfl hx11 rfl (by decide)<|AC 0 rfl rfl fun x12 hx12=>Bi (y:=x10) 0 rfl rfl hx12 rfl (by decide)<|AW 0 rfl rfl
      ·refine AC 0 rfl rfl fun x13 hx13=>AT 0 rfl hx13 rfl<|AC 0 rfl rfl fun x14 hx14=>AT 0 rfl hx14 rfl<|AC 0 rfl rfl fun x15 hx15=>Bi (y:=x13) 0 rfl rfl hx15 rfl (by decide)<|AC 0 rfl rfl fun x16 hx16=>Bi (y:=x14) 0 rfl rfl hx16 rfl (by decide)<|q_p fr<|q_p fr<|AU (A:=fun (s:Int×Int×(List Int))=>[iW s.1,iW s.2.1]) (B:=fun s=>sl false v0_ (s.2.2:List Int)::L0) 0 rr ?_ ?_ ?_
       ·intro s13
        unfold SS Gm
        refine AU (A:=fun (s:Int)=>[iW s]) (B:=fun s=>sl false v0_ (s13.2.2:List Int)::L0) 0 rr ?_ ?_ ?_
        ·intro s14
         unfold SV Ht
         refine AM (A:=fun (s:Bool)=>[.bool s]) (B:=fun s=>sl false v0_ (s13.2.2:List Int)::L0) ?_ ?_ ?_ ?_
         ·refine AM (A:=fun (s:Bool)=>[.bool s]) (B:=fun s=>sl false v0_ (s13.2.2:List Int)::L0) ?_ ?_ ?_ ?_
          ·exact q_p fr<|q_k (AC 0 rfl rfl fun x17 hx17=>AT 0 rfl hx17 rfl<|AC 0 rfl rfl fun x18 hx18=>AT 0 rfl hx18 rfl<|A7 (aF2 (Ab rfl) (Ab rfl) fun l0_ l1_=>He (by omega) x17 x18) fun y3 hy3=>Aa 0 rr)<|Aa 0 rr
          ·exact fun s17=>q_i (Aa 0 rr)<|Am 0 rr
          ·exact fun i7 s17=>Am 0 rr
          ·exact fun s17=>Aj 0 rr
         ·exact fun s18=>q_p fr<|Aa 0 rr
         ·exact fun i8 s18=>Am 0 rr
         ·exact fun s18=>Aj 0 rr
        ·intro i9 s19
         refine q_n ?_ ?_
         ·refine AU (A:=fun (s:Int)=>[iW s]) (B:=fun s=>sl false v0_ (s13.2.2:List Int)::L0) 0 rr ?_ ?_ ?_
          ·intro s20
           unfold SU Hr
           refine AM (A:=fun (s:Bool)=>[.bool s]) (B:=fun s=>sl false v0_ (s13.2.2:List Int)::L0) ?_ ?_ ?_ ?_
           ·refine AM (A:=fun (s:Bool)=>[.bool s]) (B:=fun s=>sl false v0_ (s13.2.2:List Int)::L0) ?_ ?_ ?_ ?_
            ·exact q_p fr<|q_k (AC 0 rfl rfl fun x19 hx19=>AT 0 rfl hx19 rfl<|AC 0 rfl rfl fun x20 hx20=>AT 0 rfl hx20 rfl<|A7 (aF2 (Ab rfl) (Ab rfl) fun l0_ l1_=>He (by omega) x19 x20) fun y4 hy4=>q_p fr<|Aa 0 rr)<|Aa 0 rr
            ·exact fun s23=>q_i (Aa 0 rr)<|Am 0 rr
            ·exact fun i10 s23=>Am 0 rr
            ·exact fun s23=>Aj 0 rr
           ·exact fun s24=>q_p fr<|Aa 0 rr
           ·exact fun i11 s24=>Am 0 rr
           ·exact fun s24=>Aj 0 rr
          ·exact fun i12 s25=>q_n (q_p fr<|q_i (Am 0 rr)<|AC 0 rfl rfl fun x21 hx21=>AT 0 rfl hx21 rfl<|AC 0 rfl rfl fun x22 hx22=>AT 0 rfl hx22 rfl<|AC 0 rfl rfl fun x23 hx23=>Bi (y:=x21) 0 rfl rfl hx23 rfl (by decide)<|AC 0 rfl rfl fun x24 hx24=>Bi (y:=x22) 0 rfl rfl hx24 rfl (by decide)<|q_p fr<|q_p fr<|Aa 0 rr)<|q_n (Aa 0 rr)<|Am 0 rr
          ·exact fun s25=>Aj 0 rr
         ·exact q_n (Aa 0 rr)<|Am 0 rr
        ·exact fun s19=>Aj 0 rr
       ·exact fun i13 s26=>q_n (AC 0 rfl rfl fun x25 hx25=>AT 0 rfl hx25 rfl<|AC 0 rfl rfl fun x26 hx26=>AT 0 rfl hx26 rfl<|AC 0 rfl rfl fun x27 hx27=>Bi (y:=x25) 0 rfl rfl hx27 rfl (by decide)<|AC 0 rfl rfl fun x28 hx28=>Bi (y:=x26) 0 rfl rfl hx28 rfl (by decide)<|AW 0 rfl rfl)<|Ap
       ·exact fun s26=>AW 0 rfl rfl
     ·exact Ap
    ·exact fun s12=>AW 0 rfl rfl
   ·exact Ap
  ·exact fun s6=>AW 0 rfl rfl
def H5 (rec_:(List Int)→Int→Int→Int→Option ((List Int))) (s1:Int×Int×Int×Bool×Bool×(List Int)):Option (LO (Int×Int×Int×Bool×Bool×(List Int))):=bif decide ((wi .i64 (s1.2.1 - s1.1))≤12) then (QF s1.2.2.2.2.2 s1.1 s1.2.1).bind fun y1=>some (LO.ret (s1.1,s1.2.1,s1.2.2.1,s1.2.2.2.1,s1.2.2.2.2.1,y1)) else bif s1.2.2.1 == 0 then (QE s1.2.2.2.2.2 s1.1 s1.2.1).bind fun y2=>some (LO.ret (s1.1,s1.2.1,s1.2.2.1,s1.2.2.2.1,s1.2.2.2.2.1,y2)) else ( bif !s1.2.2.2.1 then (QD s1.2.2.2.2.2 s1.1 s1.2.1).bind fun y3=>some (LO.norm (wi .i64 (s1.2.2.1 - 1),y3)) else some (LO.norm (s1.2.2.1,s1.2.2.2.2.2))).bind (Ac (fun s3=>(Vn s3.2 s1.1 s1.2.1).bind fun y4=>( bif y4.2 == 2 then (QC s3.2 s1.1 s1.2.1).bind fun y5=>some (LO.norm (wi .i64 ((wi .i64 (s1.2.1 - 1)) - (wi .i64 (y4.1 - s1.1))),1,y5)) else some (LO.norm (y4.1,y4.2,s3.2))).bind (Ac (fun s5=>( ( bif s1.2.2.2.1 then bif s1.2.2.2.2.1 then some (LO.norm (s5.2.1 == 1)) else some (LO.norm false) else some (LO.norm false)).bind (Ac (fun s8=>bif s8 then (QB s5.2.2 s1.1 s1.2.1).bind fun y6=>bif y6.1 then some (LO.ret y6.2) else some (LO.norm y6.2) else some (LO.norm s5.2.2)) (fun i3 s8=>some (LO.exit i3 s5.2.2)) (fun s8=>some (LO.ret s5.2.2)))).bind (Ac (fun s9=>( bif decide (s1.1 > 0) then (Al s9 (wi .i64 (s1.1 - 1))).bind fun x1=>(Al s9 s5.1).bind fun x2=>(FO x1 x2).bind fun y7=>bif !y7 then (QA s9 s1.1 s1.2.1 s5.1).bind fun y8=>some (LO.exit 1 (y8.1,y8.2)) else some (LO.norm (s1.1,s9)) else some (LO.norm (s1.1,s9))).bind (Ac (fun s11=>(Q9 s11.2 s11.1 s1.2.1 s5.1).bind fun y9=>bif decide ((wi .i64 (y9.1 - s11.1)) < (wi .i64 (s1.2.1 - y9.1))) then (rec_ y9.2.2 s11.1 y9.1 s3.1).bind fun y10=>some (LO.norm (wi .i64 (y9.1 + 1),s1.2.1,s3.1,decide ((wi .i64 (y9.1 - s11.1)) ≥ (wi .i64 (Int.tdiv (wi .i64 (s1.2.1 - s1.1)) 8))),y9.2.1,y10)) else (rec_ y9.2.2 (wi .i64 (y9.1 + 1)) s1.2.1 s3.1).bind fun y11=>some (LO.norm (s11.1,y9.1,s3.1,decide ((wi .i64 (s1.2.1 - y9.1)) ≥ (wi .i64 (Int.tdiv (wi .i64 (s1.2.1 - s1.1)) 8))),y9.2.1,y11))) (fun i5 s11=>if i5 = 1 then some (LO.norm (s11.1,s1.2.1,s3.1,s1.2.2.2.1,s1.2.2.2.2.1,s11.2)) else some (LO.exit i5 (s11.1,s1.2.1,s3.1,s1.2.2.2.1,s1.2.2.2.2.1,s11.2))) (fun s11=>some (LO.ret (s11.1,s1.2.1,s3.1,s1.2.2.2.1,s1.2.2.2.2.1,s11.2))))) (fun i4 s9=>if i4 = 1 then some (LO.norm (s1.1,s1.2.1,s3.1,s1.2.2.2.1,s1.2.2.2.2.1,s9)) else some (LO.exit i4 (s1.1,s1.2.1,s3.1,s1.2.2.2.1,s1.2.2.2.2.1,s9))) (fun s9=>some (LO.ret (s1.1,s1.2.1,s3.1,s1.2.2.2.1,s1.2.2.2.2.1,s9))))) (fun i2 s5=>if i2 = 1 then some (LO.norm (s1.1,s1.2.1,s3.1,s1.2.2.2.1,s1.2.2.2.2.1,s5.2.2)) else some (LO.exit i2 (s1.1,s1.2.1,s3.1,s1.2.2.2.1,s1.2.2.2.2.1,s5.2.2))) (fun s5=>some (LO.ret (s1.1,s1.2.1,s3.1,s1.2.2.2.1,s1.2.2.2.2.1,s5.2.2))))) (fun i1 s3=>if i1 = 1 then some (LO.norm (s1.1,s1.2.1,s3.1,s1.2.2.2.1,s1.2.2.2.2.1,s3.2)) else some (LO.exit i1 (s1.1,s1.2.1,s3.1,s1.2.2.2.1,s1.2.2.2.2.1,s3.2))) (fun s3=>some (LO.ret (s1.1,s1.2.1,s3.1,s1.2.2.2.1,s1.2.2.2.2.1,s3.2))))
def ME (rec_:(List Int)→Int→Int→Int→Option ((List Int))) (a0:List Int) (a1:Int) (a2:Int) (a3:Int):Option ((List Int)):=(Ar (H5 rec_) NN (a1,a2,a3,true,true,a0)).bind (Ac (fun _=>none) (fun i6 s12=>if i6 = 0 then some s12.2.2.2.2.2 else none) (fun s12=>some s12.2.2.2.2.2))
def MF (n:Nat):(List Int)→Int→Int→Int→Option ((List Int)):=Nat.rec (fun _ _ _ _=>none) (fun _ ih=>ME ih) n
theorem eF:∀ (n d:Nat) (hd:n + 71≤d) (L0:List En) (v0_:AV) (a0:List Int) (a1:Int) (a2:Int) (a3:Int),Okh (sl false v0_ (a0:List Int)::L0) (fun S=>R NN d 199 [v0_,iW a1,iW a2,iW a3] S) (MF n a0 a1 a2 a3) (P2 (fun (t:(List Int))=>und) (fun (t:(List Int))=>sl false v0_ t::L0))
  | 0,_,_,L0,v0_,a0,a1,a2,a3=>Ap
  | n + 1,d,hd,L0,v0_,a0,a1,a2,a3=>by
    have ih:=eF n
    obtain ⟨d,rfl,g⟩:=up (n:=n + 71) (d:=d) (by omega)
    refine Dn (t199 NN d _ _ _ _) ?_
    rw [show MF (n + 1) = ME (MF n) from rfl]
    unfold lJ ME
    refine AU (A:=fun (s:Int×Int×Int×Bool×Bool×(List Int))=>[iW s.1,iW s.2.1,iW s.2.2.1,.bool s.2.2.2.1,.bool s.2.2.2.2.1]) (B:=fun s=>sl false v0_ (s.2.2.2.2.2:List Int)::L0) 0 rr ?_ ?_ ?_
    ·intro s1
     unfold Tq H5
     refine q_p fr<|q_p fr<|q_i ?_ ?_
     ·exact q_s (mg:=QF s1.2.2.2.2.2 s1.1 s1.2.1) (w206 (by omega) _ _ s1.2.2.2.2.2 s1.1 s1.2.1) fun y1 hy1=>Aj 0 rr
     ·refine q_p fr<|q_i ?_ ?_
      ·exact q_s (mg:=QE s1.2.2.2.2.2 s1.1 s1.2.1) (w207 (by omega) _ _ s1.2.2.2.2.2 s1.1 s1.2.1) fun y2 hy2=>Aj 0 rr
      ·refine AM (A:=fun (s:Int×(List Int))=>[iW s.1]) (B:=fun s=>sl false v0_ (s.2:List Int)::L0) ?_ ?_ ?_ ?_
       ·refine q_p fr<|q_i ?_ ?_
        ·exact q_s (mg:=QD s1.2.2.2.2.2 s1.1 s1.2.1) (w208 (by omega) _ _ s1.2.2.2.2.2 s1.1 s1.2.1) fun y3 hy3=>q_p fr<|Aa 0 rr
        ·exact Aa 0 rr
       ·intro s3
        refine A7 (aF3 (IT 0 rfl) (Ab rfl) (Ab rfl) fun l0_ l1_ l2_=>w209 (by omega) l0_ s3.2 s1.1 s1.2.1) fun y4 hy4=>q_q fr<|q_q fr<|AM (A:=fun (s:Int×Int×(List Int))=>[iW s.1,iW s.2.1]) (B:=fun s=>sl false v0_ (s.2.2:List Int)::L0) ?_ ?_ ?_ ?_
        ·refine q_p fr<|q_i ?_ ?_
         ·exact q_s (mg:=QC s3.2 s1.1 s1.2.1) (w210 (by omega) _ _ s3.2 s1.1 s1.2.1) fun y5 hy5=>q_p fr<|q_p fr<|q_p fr<|Aa 0 rr
         ·exact Aa 0 rr
        ·intro s5
         refine AM (A:=fun (s:(List Int))=>[]) (B:=fun s=>sl false v0_ (s:List Int)::L0) ?_ ?_ ?_ ?_
         ·refine AM (A:=fun (s:Bool)=>[.bool s]) (B:=fun s=>sl false v0_ (s5.2.2:List Int)::L0) ?_ ?_ ?_ ?_
          ·refine q_k ?_ ?_
           ·refine q_k ?_ ?_
            ·exact q_p fr<|Aa 0 rr
            ·exact Aa 0 rr
           ·exact Aa 0 rr
          ·intro s8
           refine q_i ?_ ?_
           ·refine q_s (mg:=QB s5.2.2 s1.1 s1.2.1) (w211 (by omega) _ _ s5.2.2 s1.1 s1.2.1) fun y6 hy6=>q_i ?_ ?_
            ·exact Aj 0 rr
            ·exact Aa 0 rr
           ·exact Aa 0 rr
          ·intro i3 s8
           exact Am 0 rr
          ·intro s8
           exact Aj 0 rr
         ·intro s9
          refine AM (A:=fun (s:Int×(List Int))=>[iW s.1]) (B:=fun s=>sl false v0_ (s.2:List Int)::L0) ?_ ?_ ?_ ?_
          ·refine q_p fr<|q_k ?_ ?_
           ·refine q_p fr<|AC 0 rfl rfl fun x1 hx1=>AT 0 rfl hx1 rfl<|AC 0 rfl rfl fun x2 hx2=>AT 0 rfl hx2 rfl<|A7 (aF2 (Ab rfl) (Ab rfl) fun l0_ l1_=>He (by omega) x1 x2) fun y7 hy7=>q_p fr<|q_i ?_ ?_
            ·exact q_s (mg:=QA s9 s1.1 s1.2.1 s5.1) (w213 (by omega) _ _ s9 s1.1 s1.2.1 s5.1) fun y8 hy8=>Am 0 rr
            ·exact Aa 0 rr
           ·first | refine DN ?_ | skip
            exact Aa 0 rr
          ·intro s11
           refine q_s (mg:=Q9 s11.2 s11.1 s1.2.1 s5.1) (w214 (by omega) _ _ s11.2 s11.1 s1.2.1 s5.1) fun y9 hy9=>q_q fr<|q_q fr<|q_p fr<|q_p fr<|q_p fr<|q_p fr<|q_i ?_ ?_
           ·exact q_p fr<|q_s (mg:=(MF n) y9.2.2 s11.1 y9.1 s3.1) (ih d (by omega) _ _ y9.2.2 s11.1 y9.1 s3.1) fun y10 hy10=>q_p fr<|Aa 0 rr
           ·exact q_p fr<|q_p fr<|q_s (mg:=(MF n) y9.2.2 (wi .i64 (y9.1 + 1)) s1.2.1 s3.1) (ih d (by omega) _ _ y9.2.2 (wi .i64 (y9.1 + 1)) s1.2.1 s3.1) fun y11 hy11=>Aa 0 rr
          ·intro i5 s11
           refine q_n ?_ ?_
           ·exact Aa 0 rr
           ·exact Am 0 rr
          ·intro s11
           exact Aj 0 rr
         ·intro i4 s9
          refine q_n ?_ ?_
          ·exact Aa 0 rr
          ·exact Am 0 rr
         ·intro s9
          exact Aj 0 rr
        ·intro i2 s5
         refine q_n ?_ ?_
         ·exact Aa 0 rr
         ·exact Am 0 rr
        ·intro s5
         exact Aj 0 rr
       ·intro i1 s3
        refine q_n ?_ ?_
        ·exact Aa 0 rr
        ·exact Am 0 rr
       ·intro s3
        exact Aj 0 rr
    ·intro i6 s12
     refine q_n ?_ ?_
     ·exact AW 0 rfl rfl
     ·exact Ap
    ·intro s12
     exact AW 0 rfl rfl
def MH (a0:List Int):Option ((List Int)):=(Vr (wi .u64 (a0.length:Int))).bind fun y1=>(MF 64 a0 0 (a0.length:Int) y1).bind fun y2=>some y2
theorem eG {d:Nat} (hd:136≤d) (L0:List En) (v0_:AV) (a0:List Int):Okh (sl false v0_ (a0:List Int)::L0) (fun S=>R NN d 183 [v0_] S) (MH a0) (P2 (fun (t:(List Int))=>und) (fun (t:(List Int))=>sl false v0_ t::L0)):=by
  obtain ⟨d,rfl,g⟩:=up hd
  refine Dn (t183 NN d _) ?_
  unfold lY MH
  exact Lo 0 rfl<|q_p (fun _=>Nn _ _)<|A7 (aF1 (Ab rfl) fun l0_=>eE (by omega) (wi .u64 (a0.length:Int))) fun y1 hy1=>q_s (mg:=MF 64 a0 0 (a0.length:Int) y1) (eF 64 _ (by omega) _ _ a0 0 (a0.length:Int) y1) fun y2 hy2=>AW 0 rfl rfl
def H4 (lo n:Int) (s:Int×Int×List Int):Option (LO (Int×Int×List Int)):=bif decide (s.2.1 < n - lo) then ((LC s.2.2 lo n s.2.1).bind fun x1=>(LC s.2.2 lo n (wi .i64 (s.2.1 - 1))).bind fun x2=>bif x1 != x2 then (LC s.2.2 lo n s.2.1).bind fun x3=>(Al s.2.2 s.1).bind fun _=>some (LO.norm (wi .i64 (s.1 + 1),s.2.2.set s.1.toNat x3)) else some (LO.norm (s.1,s.2.2))).bind (Ac (fun s'=>some (LO.norm (s'.1,wi .i64 (s.2.1 + 1),s'.2))) (fun i s'=>some (LO.exit i (s'.1,s.2.1,s'.2))) (fun s'=>some (LO.ret (s'.1,s.2.1,s'.2)))) else some (LO.exit 2 s)
def Jf (xs:List Int) (s:Option (List Int)×Int):Option (LO (Option (List Int)×Int)):=
  match s.1 with
  | some _=>none
  | none=>
    bif decide (s.2 < (xs.length:Int)) then
      (Al xs s.2).bind fun x1=>(Al xs (wi .i64 (s.2 - 1))).bind fun x2=>
      bif x1 == x2 then
        (viO xs.length s.2 xs.length).bind fun _=>(Ar (H4 s.2 xs.length) NN (s.2,1,xs)).bind (Ac (fun _=>none) (fun i t=>if i = 2 then (viO t.2.2.length t.1 t.2.2.length).bind fun _=>(viO (clr t.2.2 t.1).length 0 t.1).bind fun _=>some (LO.ret (some ((clr t.2.2 t.1).take t.1.toNat),t.1)) else none) (fun _=>none))
      else some (LO.norm (none,wi .i64 (s.2 + 1)))
    else some (LO.exit 0 (none,s.2))
def QG (xs:List Int):Option (List Int):=
  bif decide ((xs.length:Int) < 2) then some xs
  else (Ar (Jf xs) NN (none,1)).bind (Ac (fun _=>none) (fun i s=>if i = 0 then (match s.1 with | none=>some xs | some _=>none) else none) (fun s=>s.1))
theorem aQ:Tryz.prog.underlying 22 = some (.slice 2):=by kernel_rfl
theorem aB:Ee Tryz.prog 2 = some (Enc.cs false (0:Int)):=by kernel_rfl
theorem w205 {d:Nat} (hd:1≤d) (L0:List En) (v0_:AV) (a0:List Int):Okh (sl false v0_ a0::L0) (fun S=>R NN d 205 [v0_] S) (QG a0) (P2 (fun (t:List Int)=>cpv v0_ t.length) (fun (t:List Int)=>cl v0_ t::L0)):=by
  obtain ⟨d,rfl,g⟩:=up hd
  rw [show (fun S=>R NN (d + 1) 205 [v0_] S) = fun S=>dB (cfg NN) (R NN d) (v0_) S from funext fun S=>t205 NN d v0_ S]
  have hwhole:Okh (sl false v0_ a0::L0) (fun S=>some (v0_,S)) (some a0) (P2 (fun (t:List Int)=>cpv v0_ t.length) (fun (t:List Int)=>cl v0_ t::L0)):=fun S hS t ht=>by
    injection ht with ht; subst ht
    refine ⟨_,rfl,?_,?_⟩
    · rcases hS.get (k:=0) rfl with ⟨rfl,rfl⟩ | ⟨b,fl,pl,rfl,_,_⟩
      · rfl
      · simp [cpv]
    · have h:=q_cl (L0:=L0) (v:=v0_) (xs:=a0) (k:=fun S=>some S) (m:=some ()) (P:=fun _ S'=>HP S' (cl v0_ a0::L0)) (fun S hS t ht=>⟨S,rfl,hS⟩) S hS () rfl
      obtain ⟨S',h1,h2⟩:=h
      injection h1 with h1; subst h1; exact h2
  unfold dB QG
  refine Lo 0 rfl ?_
  refine q_p (fun _=>rfl) ?_
  refine bG (fun h1=>?_) (fun h1=>?_)
  · exact hwhole
  · refine BU (I:=(fun (s:Option (List Int)×Int) l L=>match s.1 with | none=>l = [.rsl false true [],iW s.2]∧L = sl false v0_ a0::L0 | some ys=>l = [cpv v0_ ys.length,iW s.2]∧L = cl v0_ ys::L0)) 0 rr ?_ ?_ ?_
    · rintro ⟨s1,k⟩ l L' hI
      cases s1 with
      | some ys=>exact Ap
      | none=>
        obtain ⟨rfl,rfl⟩:=hI
        unfold Tn Jf
        refine Lo 0 rfl ?_
        refine q_p (fun _=>rfl) ?_
        refine bG (fun h2=>?_) (fun h2=>?_)
        · refine AC 0 rfl rfl fun x1 hx1=>?_
          refine AT 0 rfl hx1 rfl ?_
          refine q_p (fun _=>rfl) ?_
          refine AC 0 rfl rfl fun x2 hx2=>?_
          refine AT 0 rfl hx2 rfl ?_
          refine q_p (fun _=>rfl) ?_
          refine q_i ?_ ?_
          · refine XC 0 rfl rfl (.inl rfl) (.inr ⟨rfl,rfl⟩) fun g1 g2 g3=>?_
            refine BU (I:=(fun (s:Int×Int×List Int) l L=>l = [iW s.1,iW s.2.1]∧L = sl false v0_ s.2.2::L0∧s.2.2.length = a0.length)) 0 ⟨rfl,rfl,rfl⟩ ?_ ?_ ?_
            · rintro ⟨i,k2,ys⟩ _ _ ⟨rfl,rfl,hl⟩
              unfold To H4
              refine a8 0 rfl g1 g2 (by dsimp only at hl ⊢; omega) ?_
              refine q_p (fun _=>rfl) ?_
              refine q_i ?_ ?_
              · refine FH (I:=(fun (s:Int×List Int) l L=>l = [iW s.1]∧L = sl false v0_ s.2::L0∧s.2.length = a0.length)) ?_ ?_ ?_ ?_
                · refine Uk 0 rfl rfl g1 g2 (by dsimp only at hl ⊢; omega) fun x3 hx3=>?_
                  refine AT 0 rfl hx3 rfl ?_
                  refine q_p (fun _=>rfl) ?_
                  refine Uk 0 rfl rfl g1 g2 (by dsimp only at hl ⊢; omega) fun x4 hx4=>?_
                  refine AT 0 rfl hx4 rfl ?_
                  refine q_p (fun _=>rfl) ?_
                  refine q_i ?_ ?_
                  · refine Uk 0 rfl rfl g1 g2 (by dsimp only at hl ⊢; omega) fun x5 hx5=>?_
                    refine AT 0 rfl hx5 rfl ?_
                    refine AC 0 rfl rfl fun x6 hx6=>?_
                    refine Bi 0 rfl rfl hx6 rfl (by decide) ?_
                    refine q_p (fun _=>rfl) ?_
                    exact Aa 0 ⟨rfl,rfl,by simpa using hl⟩
                  · exact Aa 0 ⟨rfl,rfl,hl⟩
                · rintro ⟨i',ys'⟩ _ _ ⟨rfl,rfl,hl'⟩
                  refine q_p (fun _=>rfl) ?_
                  exact Aa 0 ⟨rfl,rfl,hl'⟩
                · rintro j ⟨i',ys'⟩ _ _ ⟨rfl,rfl,hl'⟩
                  exact Am 0 ⟨rfl,rfl,hl'⟩
                · rintro ⟨i',ys'⟩ _ _ ⟨rfl,rfl,hl'⟩
                  exact Aj 0 ⟨rfl,rfl,hl'⟩
              · exact Am 0 ⟨rfl,rfl,hl⟩
            · rintro j ⟨i,k2,ys⟩ _ _ ⟨rfl,rfl,hl⟩
              refine q_n ?_ ?_
              · refine XC 0 rfl rfl (.inl rfl) (.inr ⟨rfl,rfl⟩) fun g4 g5 g6=>?_
                refine a9 (te:=2) (z:=(0:Int)) 0 rfl aQ aB g4 g5 g6 ?_
                refine XC (xs:=clr ys i) (i:=0) 0 rfl rfl (.inr ⟨rfl,rfl⟩) (.inl rfl) fun g7 g8 g9=>?_
                have e1:((clr ys i).take i.toNat).length = i.toNat:=by rw [List.length_take]; omega
                refine Uw (ys:=(clr ys i).take i.toNat) (by rw [e1]; rfl) ?_
                refine Aj 0 ⟨?_,rfl⟩
                rw [e1]
                show [viA v0_ 0 i.toNat,_] = _
                rw [fC]; rfl
              · exact Ap
            · rintro ⟨i,k2,ys⟩ _ _ ⟨rfl,rfl,hl⟩
              exact Ap
          · refine q_p (fun _=>rfl) ?_
            exact Aa 0 rr
        · exact Am 0 rr
    · rintro i ⟨s1,k⟩ l L' hI
      refine q_n ?_ ?_
      · cases s1 with
        | some ys=>exact Ap
        | none=>obtain ⟨rfl,rfl⟩:=hI; exact hwhole
      · exact Ap
    · rintro ⟨s1,k⟩ l L' hI
      cases s1 with
      | none=>exact Ap
      | some ys=>
        obtain ⟨rfl,rfl⟩:=hI
        exact AW 0 rfl rfl
def H6 (a0:List Ah) (a1:Int) (a2:Int) (a3:Int) (a4:Int) (s1:Int×(List Int)):Option (LO (Int×(List Int))):=bif decide (s1.1 < (a0.length:Int)) then ( (Al a0 s1.1).bind fun x1=>( bif x1.Kind == a1 then bif x1.View == a2 then bif x1.Slot == a3 then some (LO.norm (x1.Value == a4)) else some (LO.norm false) else some (LO.norm false) else some (LO.norm false)).bind (Ac (fun s4=>bif s4 then (Bu 8 s1.2 [x1.From]).bind fun z1=>some (LO.norm z1) else some (LO.norm s1.2)) (fun i1 s4=>if i1 = 1 then some (LO.norm s1.2) else some (LO.exit i1 s1.2)) (fun s4=>some (LO.ret s1.2)))).bind (Ac (fun s5=>some (LO.norm (wi .i64 (s1.1 + 1),s5))) (fun i2 s5=>some (LO.exit i2 (s1.1,s5))) (fun s5=>some (LO.ret (s1.1,s5)))) else some (LO.exit 0 (s1.1,s1.2))
def Vs (a0:List Ah) (a1:Int) (a2:Int) (a3:Int) (a4:Int):Option ((List Int)):=(Ar (H6 a0 a1 a2 a3 a4) NN (0,[])).bind (Ac (fun _=>none) (fun i3 s6=>if i3 = 0 then (MH s6.2).bind fun y1=>(QG y1).bind fun y2=>some y2 else none) (fun s6=>some []))
theorem w198 {d:Nat} (hd:137≤d) (k0:Bool) (a0:List Ah) (a1:Int) (a2:Int) (a3:Int) (a4:Int):Fit (R NN d 198 [.rsl k0 false (a0.map (Enc.cs k0)),iW a1,iW a2,iW a3,iW a4] []) (Vs a0 a1 a2 a3 a4) (P0 (fun (t:List Int)=>AV.rsl false false (t.map (Enc.cs false)))):=by
  obtain ⟨d,rfl,g⟩:=up hd
  refine Ay (t198 NN d _ _ _ _ _) ?_
  unfold lK Vs
  refine q_q (fun _=>Dq)<|As<|Dj (α:=Int) false<|BU (I:=(fun (s:Int×(List Int)) l L=>∃ (v1:AV),l = [v1,iW s.1]∧L = [sl false v1 (s.2:List Int)])) 0 ⟨(.rsl false true []),rfl,rfl⟩ ?_ ?_ ?_
  ·rintro s1 _ _ ⟨v1,rfl,rfl⟩
   unfold Ts H6
   refine q_p fr<|q_i ?_ ?_
   ·refine FH (I:=(fun (s:(List Int)) l L=>∃ (v2:AV),l = [v2]∧L = [sl false v2 (s:List Int)])) ?_ ?_ ?_ ?_
    ·refine A9 rfl fun x1 hx1=>q_p fr<|Bc rfl fun b1=>Bb 0 rfl rfl rfl (by decide) rfl<|AM (A:=fun (s:Bool)=>[.bool s]) (B:=fun s=>[bx b1 [iW x1.Kind,iW x1.View,iW x1.From,iW x1.Slot,iW x1.Value,.rsl k0 false (x1.Certs.map (Enc.cs k0)),.rsl k0 false (x1.Refs.map (Enc.cs k0))],sl false v1 (s1.2:List Int)]) ?_ ?_ ?_ ?_
     ·exact q_p fr<|Ao 0 rfl rfl<|q_p fr<|q_k (q_p fr<|Ao 0 rfl rfl<|q_p fr<|q_k (q_p fr<|Ao 0 rfl rfl<|q_p fr<|q_k (q_p fr<|Ao 0 rfl rfl<|q_p fr<|Aa 0 rr)<|Aa 0 rr)<|Aa 0 rr)<|Aa 0 rr
     ·exact fun s4=>q_i (q_p fr<|Ao 0 rfl rfl<|q_q (fun _=>EF)<|CX (ys:=[x1.From]) 1 rfl rfl (fun _ _=>rfl) fun v2 z1 hz1=>Aa 1 ⟨v2,rfl,rfl⟩)<|Aa 1 ⟨v1,rfl,rfl⟩
     ·exact fun i1 s4=>q_n (Aa 1 ⟨v1,rfl,rfl⟩)<|Am 1 ⟨v1,rfl,rfl⟩
     ·exact fun s4=>Aj 1 ⟨v1,rfl,rfl⟩
    ·rintro s5 _ _ ⟨v3,rfl,rfl⟩
     exact q_p fr<|Aa 0 ⟨v3,rfl,rfl⟩
    ·rintro i2 s5 _ _ ⟨v4,rfl,rfl⟩
     exact Am 0 ⟨v4,rfl,rfl⟩
    ·rintro s5 _ _ ⟨v5,rfl,rfl⟩
     exact Aj 0 ⟨v5,rfl,rfl⟩
   ·exact Am 0 ⟨v1,rfl,rfl⟩
  ·rintro i3 s6 _ _ ⟨v6,rfl,rfl⟩
   exact q_n (q_s (mg:=MH s6.2) (eG (by omega) _ _ s6.2) fun y1 hy1=>q_s (mg:=QG y1) (w205 (by omega) _ _ y1) fun y2 hy2=>Ad (WI 0 rfl) rfl)<|Ap
  ·rintro s6 _ _ ⟨v7,rfl,rfl⟩
   exact Ad (A5 (α:=Int) (l0:=false) (fl:=true) (xs:=[])) rfl
def QJ (a0:Int) (a1:List Ah) (a2:Int) (a3:Int) (a4:Int) (a5:Int):Option (Bool):=(Vs a1 a2 a3 a4 a5).bind fun y1=>some (decide ((y1.length:Int) ≥ (wi .i64 ((wi .i64 (2 * a0)) + 1))))
theorem eH {d:Nat} (hd:138≤d) (a0:Int) (k1:Bool) (a1:List Ah) (a2:Int) (a3:Int) (a4:Int) (a5:Int):Fit (R NN d 182 [iW a0,.rsl k1 false (a1.map (Enc.cs k1)),iW a2,iW a3,iW a4,iW a5] []) (QJ a0 a1 a2 a3 a4 a5) PB:=by
  obtain ⟨d,rfl,g⟩:=up hd
  refine Ay (t182 NN d _ _ _ _ _ _) ?_
  unfold lZ QJ
  exact A7 (fun S hS=>ZV A5 (Ab rfl) (Ab rfl) (Ab rfl) (Ab rfl) hS fun l0_ l1_ l2_ l3_ l4_=>w198 (by omega) l0_ a1 a2 a3 a4 a5) fun y1 hy1=>As<|q_p fr<|q_p fr<|q_p fr<|Ad (Ab rfl) rfl
def Vu (a0:Int) (a1:List Ah) (a2:Ax):Option (Bool):=( bif (QO a2.Slot) then bif (QS a2.View) then bif (QN a2.Value) then (QJ a0 a1 2 a2.View a2.Slot a2.Value).bind fun y1=>some (LO.norm y1) else some (LO.norm false) else some (LO.norm false) else some (LO.norm false)).bind (Ac (fun s2=>some s2) (fun i1 s2=>none) (fun s2=>some s2))
theorem w192 {d:Nat} (hd:139≤d) (a0:Int) (k1:Bool) (a1:List Ah) (k2:Bool) (a2:Ax):Fit (R NN d 192 [iW a0,.rsl k1 false (a1.map (Enc.cs k1)),.agg (Enc.cs k2 a2)] []) (Vu a0 a1 a2) PB:=by
  obtain ⟨d,rfl,g⟩:=up hd
  refine Ay (t192 NN d _ _ _) ?_
  unfold lQ Vu
  refine AL (n:=3) rfl rfl (by decide) fun b1=>AM (A:=fun (s:Bool)=>[.bool s]) (B:=fun s=>[bx b1 [iW a2.Slot,iW a2.View,iW a2.Value]]) ?_ ?_ ?_ ?_
  ·exact q_p fr<|Ao 0 rfl rfl<|AB (aF1 (Ab rfl) fun l0_=>aL (by omega) a2.Slot)<|q_k (q_p fr<|Ao 0 rfl rfl<|AB (aF1 (Ab rfl) fun l0_=>aM (by omega) a2.View)<|q_k (q_p fr<|Ao 0 rfl rfl<|AB (aF1 (Ab rfl) fun l0_=>aK (by omega) a2.Value)<|q_k (q_p fr<|Ao 0 rfl rfl<|q_p fr<|Ao 0 rfl rfl<|q_p fr<|Ao 0 rfl rfl<|A7 (fun S hS=>ZU (Ab rfl) A5 (Ab rfl) (Ab rfl) (Ab rfl) (Ab rfl) hS fun l0_ l1_ l2_ l3_ l4_ l5_=>eH (by omega) a0 l1_ a1 2 a2.View a2.Slot a2.Value) fun y1 hy1=>Aa 0 rr)<|Aa 0 rr)<|Aa 0 rr)<|Aa 0 rr
  ·exact fun s2=>Ad (Ab rfl) rfl
  ·exact fun i1 s2=>Ap
  ·exact fun s2=>Ad (Ab rfl) rfl
def Ob (a0:Ax) (a1:Int) (a2:List Ah):Option (Bool):=(Vu a1 a2 a0).bind fun y1=>some (!y1)
theorem w191 {d:Nat} (hd:140≤d) (k0:Bool) (a0:Ax) (k1:Bool) (a1:Int) (k2:Bool) (a2:List Ah):Fit (R NN d 191 [.agg (Enc.cs k0 a0),.rp k1 (Enc.cs k1 a1),.rp k2 (Enc.cs k2 a2)] []) (Ob a0 a1 a2) PB:=by
  obtain ⟨d,rfl,g⟩:=up hd
  refine Ay (t191 NN d _ _ _) ?_
  unfold lR Ob
  exact AL (n:=3) rfl rfl (by decide) fun b1=>q_p fr<|q_p fr<|AX 0 rfl rfl rfl<|A7 (aF3 (Ab rfl) A5 (AZ (Au (l0:=false) (x:=a0))) fun l0_ l1_ l2_=>w192 (by omega) a1 l1_ a2 l2_ a0) fun y1 hy1=>q_p fr<|Ad (Ab rfl) rfl
def V4 (a0:Int) (a1:List Ah) (a2:Int):Option (Bool):=(MJ a1 a2 4).bind fun y1=>bif y1.2 then (QM y1.1.Certs (fun x0_=>Ob x0_ a0 a1)).bind fun y2=>some (!y2) else some false
theorem w160 {d:Nat} (hd:143≤d) (a0:Int) (k1:Bool) (a1:List Ah) (a2:Int):Fit (R NN d 160 [iW a0,.rsl k1 false (a1.map (Enc.cs k1)),iW a2] []) (V4 a0 a1 a2) PB:=by
  obtain ⟨d,rfl,g⟩:=up hd
  refine Ay (t160 NN d _ _ _) ?_
  unfold mW V4
  exact AL (n:=1) rfl rfl (by decide) fun b1=>AL (n:=1) rfl rfl (by decide) fun b2=>Ao 0 rfl rfl<|bC (mg:=MJ a1 a2 4) (eP (by omega) _ k1 _ a1 a2 4) fun y1 hy1 x1=>q_q fr<|q_q fr<|Bc rfl fun b3=>Bb 0 rfl rfl rfl (by decide) rfl<|q_k (q_p fr<|Ao 0 rfl rfl<|A7 (aF2 A5 (DK (Ag (BI 2 rfl (Au (l0:=false) (x:=a0))) (Ag (BI 1 rfl (Au (l0:=k1) (x:=a1))) Az))) fun l0_ l1_=>eK (Dc:=140) (by omega) l0_ y1.1.Certs (fun l=>.fn 191 [.rp l (Enc.cs l a0),.rp l (Enc.cs l a1)]) (fun l=>DK (Ag (Bs (Au (l0:=l) (x:=a0)) (fun _ _ _ h=>Enc.frz _ a0 _ _ _ h)) (Ag (Bs (Au (l0:=l) (x:=a1)) (fun _ _ _ h=>Enc.frz _ a1 _ _ _ h)) Az))) (fun x0_=>Ob x0_ a0 a1) (fun d hd l q0_ x0_ S t ht=>(Rv _ _ _ _).trans (C9 (E:=(fun (t:Bool)=>AV.bool t)) (mg:=Ob x0_ a0 a1) (ZT (M:=fun a=>Fit (R NN d 191 a []) _ _) (AZ (Au (l0:=q0_) (x:=x0_))) (Bs (Au (l0:=l) (x:=a0)) (fun _ _ _ h=>Enc.frz _ a0 _ _ _ h)) (Bs (Au (l0:=l) (x:=a1)) (fun _ _ _ h=>Enc.frz _ a1 _ _ _ h)) HP.nil fun u0_ v0_ v1_=>w191 hd u0_ x0_ v0_ a0 v1_ a1) ht)) l1_) fun y2 hy2=>q_p fr<|Ad (Ab rfl) rfl)<|Ad (Ab rfl) rfl
def Gu (a0:Int) (a1:List Ah) (y1:Ah×Bool) (s5:Bool×Int×(List Int)):Option (LO (Bool×Int×(List Int))):=bif decide (s5.2.1 < (y1.1.Refs.length:Int)) then ( (Al y1.1.Refs s5.2.1).bind fun x2=>( ( (V4 a0 a1 x2).bind fun y3=>bif !y3 then some (LO.norm true) else (Al a1 x2).bind fun x3=>bif x3.View != y1.1.View then some (LO.norm true) else (Al a1 x2).bind fun x4=>(Lv s5.2.2 x4.From).bind fun y4=>some (LO.norm y4)).bind (Ac (fun s9=>bif s9 then some (LO.ret false) else some (LO.norm s5.1)) (fun i3 s9=>some (LO.exit i3 s5.1)) (fun s9=>some (LO.ret s5.1)))).bind (Ac (fun s10=>(Al a1 x2).bind fun x5=>(Bu 8 s5.2.2 [x5.From]).bind fun z1=>some (LO.norm (s10,z1))) (fun i4 s10=>if i4 = 1 then some (LO.norm (s10,s5.2.2)) else some (LO.exit i4 (s10,s5.2.2))) (fun s10=>some (LO.ret (s10,s5.2.2))))).bind (Ac (fun s11=>some (LO.norm (s11.1,wi .i64 (s5.2.1 + 1),s11.2))) (fun i5 s11=>some (LO.exit i5 (s11.1,s5.2.1,s11.2))) (fun s11=>some (LO.ret (s11.1,s5.2.1,s11.2)))) else some (LO.exit 0 (s5.1,s5.2.1,s5.2.2))
def Rb (a0:Int) (a1:List Ah) (a2:Int):Option (Bool):=(MJ a1 a2 5).bind fun y1=>( ( bif !y1.2 then some (LO.norm true) else (Oh a0 y1.1.View).bind fun y2=>bif y1.1.From != y2 then some (LO.norm true) else some (LO.norm (decide ((y1.1.Refs.length:Int) < (wi .i64 ((wi .i64 (2 * a0)) + 1)))))).bind (Ac (fun s3=>bif s3 then some (LO.ret false) else some (LO.norm false)) (fun i1 s3=>some (LO.exit i1 false)) (fun s3=>some (LO.ret false)))).bind (Ac (fun s4=>(Ar (Gu a0 a1 y1) NN (s4,0,[])).bind (Ac (fun _=>none) (fun i6 s12=>if i6 = 0 then some true else none) (fun s12=>some s12.1))) (fun i2 s4=>none) (fun s4=>some s4))
theorem eX {d:Nat} (hd:144≤d) (a0:Int) (k1:Bool) (a1:List Ah) (a2:Int):Fit (R NN d 122 [iW a0,.rsl k1 false (a1.map (Enc.cs k1)),iW a2] []) (Rb a0 a1 a2) PB:=by
  obtain ⟨d,rfl,g⟩:=up hd
  refine Ay (t122 NN d _ _ _) ?_
  unfold oM Rb
  refine bC (mg:=MJ a1 a2 5) (eP (by omega) _ k1 _ a1 a2 5) fun y1 hy1 x1=>q_q fr<|q_q fr<|Bc rfl fun b1=>Bb 0 rfl rfl rfl (by decide) rfl<|AM (A:=fun (s:Bool)=>[.bool s]) (B:=fun s=>[bx b1 [iW y1.1.Kind,iW y1.1.View,iW y1.1.From,iW y1.1.Slot,iW y1.1.Value,.rsl x1.1 x1.2.1 (y1.1.Certs.map (Enc.cs x1.1)),.rsl x1.2.2.1 x1.2.2.2 (y1.1.Refs.map (Enc.cs x1.2.2.1))]]) ?_ ?_ ?_ ?_
  ·refine AM (A:=fun (s:Bool)=>[.bool s]) (B:=fun s=>[bx b1 [iW y1.1.Kind,iW y1.1.View,iW y1.1.From,iW y1.1.Slot,iW y1.1.Value,.rsl x1.1 x1.2.1 (y1.1.Certs.map (Enc.cs x1.1)),.rsl x1.2.2.1 x1.2.2.2 (y1.1.Refs.map (Enc.cs x1.2.2.1))]]) ?_ ?_ ?_ ?_
   ·exact q_p fr<|q_j (Aa 0 rr)<|q_p fr<|Ao 0 rfl rfl<|q_p fr<|Ao 0 rfl rfl<|A7 (aF2 (Ab rfl) (Ab rfl) fun l0_ l1_=>eY (by omega) a0 y1.1.View) fun y2 hy2=>q_p fr<|q_j (Aa 0 rr)<|q_p fr<|Ao 0 rfl rfl<|As<|q_p fr<|q_p fr<|q_p fr<|Aa 0 rr
   ·exact fun s3=>q_i (Aj 0 rr)<|Aa 0 rr
   ·exact fun i1 s3=>Am 0 rr
   ·exact fun s3=>Aj 0 rr
  ·intro s4
   refine q_q (fun _=>Dq)<|q_p fr<|Ao 0 rfl rfl<|As<|Dj (α:=Int) false<|BU (I:=(fun (s:Bool×Int×(List Int)) l L=>∃ (v1:AV),l = [.bool s.1,v1,iW s.2.1]∧L = [sl false v1 (s.2.2:List Int),bx b1 [iW y1.1.Kind,iW y1.1.View,iW y1.1.From,iW y1.1.Slot,iW y1.1.Value,.rsl x1.1 x1.2.1 (y1.1.Certs.map (Enc.cs x1.1)),.rsl x1.2.2.1 x1.2.2.2 (y1.1.Refs.map (Enc.cs x1.2.2.1))]])) 0 ⟨(.rsl false true []),rfl,rfl⟩ ?_ ?_ ?_
   ·rintro s5 _ _ ⟨v1,rfl,rfl⟩
    unfold TT Gu
    refine q_p fr<|q_i ?_ ?_
    ·refine FH (I:=(fun (s:Bool×(List Int)) l L=>∃ (v2:AV),l = [.bool s.1,v2]∧L = [sl false v2 (s.2:List Int),bx b1 [iW y1.1.Kind,iW y1.1.View,iW y1.1.From,iW y1.1.Slot,iW y1.1.Value,.rsl x1.1 x1.2.1 (y1.1.Certs.map (Enc.cs x1.1)),.rsl x1.2.2.1 x1.2.2.2 (y1.1.Refs.map (Enc.cs x1.2.2.1))]])) ?_ ?_ ?_ ?_
     ·refine A9 rfl fun x2 hx2=>q_p fr<|AM (A:=fun (s:Bool)=>[.bool s]) (B:=fun s=>[sl false v1 (s5.2.2:List Int),bx b1 [iW y1.1.Kind,iW y1.1.View,iW y1.1.From,iW y1.1.Slot,iW y1.1.Value,.rsl x1.1 x1.2.1 (y1.1.Certs.map (Enc.cs x1.1)),.rsl x1.2.2.1 x1.2.2.2 (y1.1.Refs.map (Enc.cs x1.2.2.1))]]) ?_ ?_ ?_ ?_
      ·refine AM (A:=fun (s:Bool)=>[.bool s]) (B:=fun s=>[sl false v1 (s5.2.2:List Int),bx b1 [iW y1.1.Kind,iW y1.1.View,iW y1.1.From,iW y1.1.Slot,iW y1.1.Value,.rsl x1.1 x1.2.1 (y1.1.Certs.map (Enc.cs x1.1)),.rsl x1.2.2.1 x1.2.2.2 (y1.1.Refs.map (Enc.cs x1.2.2.1))]]) ?_ ?_ ?_ ?_
       ·exact A7 (aF3 (Ab rfl) A5 (Ab rfl) fun l0_ l1_ l2_=>w160 (by omega) a0 l1_ a1 x2) fun y3 hy3=>q_p fr<|q_j (Aa 0 rr)<|A9 rfl fun x3 hx3=>q_p fr<|q_p fr<|q_p fr<|Ao 1 rfl rfl<|q_p fr<|q_j (Aa 0 rr)<|A9 rfl fun x4 hx4=>q_p fr<|q_p fr<|A7 (aF2 (IT 0 rfl) (Ab rfl) fun l0_ l1_=>aN (by omega) l0_ s5.2.2 x4.From) fun y4 hy4=>Aa 0 rr
       ·exact fun s9=>q_i (Aj 0 rr)<|Aa 0 rr
       ·exact fun i3 s9=>Am 0 rr
       ·exact fun s9=>Aj 0 rr
      ·exact fun s10=>A9 rfl fun x5 hx5=>q_p fr<|q_p fr<|q_q (fun _=>EF)<|CX (ys:=[x5.From]) 0 rfl rfl (fun _ _=>rfl) fun v2 z1 hz1=>Aa 0 ⟨v2,rfl,rfl⟩
      ·exact fun i4 s10=>q_n (Aa 0 ⟨v1,rfl,rfl⟩)<|Am 0 ⟨v1,rfl,rfl⟩
      ·exact fun s10=>Aj 0 ⟨v1,rfl,rfl⟩
     ·rintro s11 _ _ ⟨v3,rfl,rfl⟩
      exact q_p fr<|Aa 0 ⟨v3,rfl,rfl⟩
     ·rintro i5 s11 _ _ ⟨v4,rfl,rfl⟩
      exact Am 0 ⟨v4,rfl,rfl⟩
     ·rintro s11 _ _ ⟨v5,rfl,rfl⟩
      exact Aj 0 ⟨v5,rfl,rfl⟩
    ·exact Am 0 ⟨v1,rfl,rfl⟩
   ·rintro i6 s12 _ _ ⟨v6,rfl,rfl⟩
    exact q_n (Ad (Ab rfl) rfl)<|Ap
   ·rintro s12 _ _ ⟨v7,rfl,rfl⟩
    exact Ad (Ab rfl) rfl
  ·exact fun i2 s4=>Ap
  ·exact fun s4=>Ad (Ab rfl) rfl
def Yb (a0:List Ah) (a1:List Int):Option (List Int):=K8 a1 (F9 (fun r=>(Al a0 r).map fun x=>x.Certs.map fun c=>(c.Slot,c.View,c.Value)) a1)
theorem w123 {d:Nat} (hd:1≤d) (k0:Bool) (a0:List Ah) (k1:Bool) (a1:List Int):Fit (R NN d 123 [.rsl k0 false (a0.map (Enc.cs k0)),.rsl k1 false (a1.map (Enc.cs k1))] []) (Yb a0 a1) (P0 (fun (t:List Int)=>AV.rsl false false (t.map (Enc.cs false)))):=by
  obtain ⟨d,rfl,g⟩:=up hd
  exact cR (R:=R NN (d + 1)) (fun _ _ _=>t123 _ _ _ _ _) (Enc.cs k0) (fun x=>x.Certs.map fun c=>(c.Slot,c.View,c.Value)) (fun x=>⟨rfl,_,_,_,rfl,JX (f:=WB) (g:=(Enc.cs k0:Ax→List AV)) (k:=fun c=>(c.Slot,c.View,c.Value)) (fun _=>rfl) x.Certs⟩) a0 a1 _ _ _ _
def m83 (a0:Int) (a1:List Ah) (a2:Int) (a3:Int):Option (Bool):=bif !(CE a2 0 (wi .i64 ((a1.length:Int) - 1))) then some false else (Al a1 a2).bind fun x1=>( bif x1.Kind != 1 then some (LO.ret false) else (Oh a0 x1.View).bind fun y1=>bif x1.From != y1 then some (LO.ret false) else some (LO.norm false)).bind (Ac (fun s2=>bif x1.View == 0 then bif a3 == (-1) then some (decide (x1.Value > 0)) else some false else ( (Rb a0 a1 a3).bind fun y2=>bif !y2 then some (LO.ret false) else (Al a1 a3).bind fun x2=>bif x2.View != x1.View then some (LO.ret false) else some (LO.norm s2)).bind (Ac (fun s4=>(Al a1 a3).bind fun x3=>(Yb a1 x3.Refs).bind fun y3=>bif decide (x1.Slot≤(y3.length:Int)) then (Al y3 (wi .i64 (x1.Slot - 1))).bind fun x4=>some (x1.Value == x4) else some (decide (x1.Value > 0))) (fun i2 s4=>none) (fun s4=>some s4))) (fun i1 s2=>none) (fun s2=>some s2))
theorem w83 {d:Nat} (hd:145≤d) (a0:Int) (k1:Bool) (a1:List Ah) (a2:Int) (a3:Int):Fit (R NN d 83 [iW a0,.rsl k1 false (a1.map (Enc.cs k1)),iW a2,iW a3] []) (m83 a0 a1 a2 a3) PB:=by
  obtain ⟨d,rfl,g⟩:=up hd
  refine Ay (t83 NN d _ _ _ _) ?_
  unfold b83 m83
  refine As<|q_p fr<|AB (aF3 (Ab rfl) (Ab rfl) (Ab rfl) fun l0_ l1_ l2_=>EK (by omega) a2 0 (wi .i64 ((a1.length:Int) - 1)))<|q_p fr<|q_i ?_ ?_
  ·exact Ad (Ab rfl) rfl
  ·refine A9 rfl fun x1 hx1=>q_p fr<|Bc rfl fun b1=>Bb 0 rfl rfl rfl (by decide) rfl<|AM (A:=fun (s:Bool)=>[.bool s]) (B:=fun s=>[bx b1 [iW x1.Kind,iW x1.View,iW x1.From,iW x1.Slot,iW x1.Value,.rsl k1 false (x1.Certs.map (Enc.cs k1)),.rsl k1 false (x1.Refs.map (Enc.cs k1))]]) ?_ ?_ ?_ ?_
   ·refine q_p fr<|Ao 0 rfl rfl<|q_p fr<|q_j ?_ ?_
    ·first | refine Ct ?_ | skip
     exact Aj 0 rr
    ·exact q_p fr<|Ao 0 rfl rfl<|q_p fr<|Ao 0 rfl rfl<|A7 (aF2 (Ab rfl) (Ab rfl) fun l0_ l1_=>eY (by omega) a0 x1.View) fun y1 hy1=>q_p fr<|q_i (Aj 0 rr)<|Aa 0 rr
   ·intro s2
    refine q_p fr<|Ao 0 rfl rfl<|q_p fr<|q_i ?_ ?_
    ·exact q_p fr<|q_k (q_p fr<|Ao 0 rfl rfl<|q_p fr<|Ad (Ab rfl) rfl)<|Ad (Ab rfl) rfl
    ·refine AM (A:=fun (s:Bool)=>[.bool s]) (B:=fun s=>[bx b1 [iW x1.Kind,iW x1.View,iW x1.From,iW x1.Slot,iW x1.Value,.rsl k1 false (x1.Certs.map (Enc.cs k1)),.rsl k1 false (x1.Refs.map (Enc.cs k1))]]) ?_ ?_ ?_ ?_
     ·refine A7 (aF3 (Ab rfl) A5 (Ab rfl) fun l0_ l1_ l2_=>eX (by omega) a0 l1_ a1 a3) fun y2 hy2=>q_p fr<|q_j ?_ ?_
      ·first | refine Ct ?_ | skip
       exact Aj 0 rr
      ·exact A9 rfl fun x2 hx2=>q_p fr<|q_p fr<|q_p fr<|Ao 0 rfl rfl<|q_p fr<|q_i (Aj 0 rr)<|Aa 0 rr
     ·exact fun s4=>A9 rfl fun x3 hx3=>q_p fr<|q_p fr<|A7 (aF2 A5 A5 fun l0_ l1_=>w123 (by omega) l0_ a1 l1_ x3.Refs) fun y3 hy3=>q_p fr<|Ao 0 rfl rfl<|As<|q_p fr<|q_i (q_p fr<|Ao 0 rfl rfl<|q_p fr<|Ao 0 rfl rfl<|q_p fr<|A9 rfl fun x4 hx4=>q_p fr<|q_p fr<|Ad (Ab rfl) rfl)<|q_p fr<|Ao 0 rfl rfl<|q_p fr<|Ad (Ab rfl) rfl
     ·exact fun i2 s4=>Ap
     ·exact fun s4=>Ad (Ab rfl) rfl
   ·exact fun i1 s2=>Ap
   ·exact fun s2=>Ad (Ab rfl) rfl
def OZ (a0:List Ah) (a1:Ah→Option (Bool)) (s1:Int×Int):Option (LO (Int×Int)):=bif decide (s1.2 < (a0.length:Int)) then (Al a0 s1.2).bind fun x1=>(a1 x1).bind fun y1=>bif y1 then some (LO.ret (s1.2,s1.2)) else some (LO.norm (s1.1,wi .i64 (s1.2 + 1))) else some (LO.exit 0 (s1.1,s1.2))
def Vy (a0:List Ah) (a1:Ah→Option (Bool)):Option (Int):=(Ar (OZ a0 a1) NN (0,0)).bind (Ac (fun _=>none) (fun i1 s2=>if i1 = 0 then some (-1) else none) (fun s2=>some s2.1))
theorem eI {Dc:Nat} {d:Nat} (hd:Dc + 1≤d) (k0:Bool) (a0:List Ah) (c1:Bool→AV) (hc1:∀ l,CV 8 [] false (c1 l) c1) (a1:Ah→Option (Bool)) (tc1:∀ (d:Nat),Dc≤d→∀ (l:Bool) (q0:Bool) (x0:Ah) (S:St) (t:Bool),a1 x0 = some t→AQ (cfg NN) (R NN d) 178 (c1 l) [.agg (Enc.cs q0 x0)] S = some ((fun (t:Bool)=>AV.bool t) t,S)) (k1:Bool):Fit (R NN d 178 [.rsl k0 false (a0.map (Enc.cs k0)),c1 k1] []) (Vy a0 a1) PI:=by
  obtain ⟨d,rfl,g⟩:=up hd
  refine Ay (t178 NN d _ _) ?_
  unfold mF Vy
  refine As<|AU (A:=fun (s:Int×Int)=>[iW s.1,iW s.2]) (B:=fun s=>[]) 0 rr ?_ ?_ ?_
  ·intro s1
   unfold T8 OZ
   exact q_p fr<|q_i (A9 rfl fun x1 hx1=>q_p fr<|Qs (mg:=a1 x1) (E:=(fun (t:Bool)=>AV.bool t)) (fun S t ht=>tc1 d (by omega) k1 k0 x1 S t ht) fun y1 hy1=>q_i (Aj 0 rr)<|q_p fr<|Aa 0 rr)<|Am 0 rr
  ·exact fun i1 s2=>q_n (Ad (Ab rfl) rfl)<|Ap
  ·exact fun s2=>Ad (Ab rfl) rfl
def XT (a0:List Ah) (a1:Ah→Option (Bool)):Option (Bool):=(Vy a0 a1).bind fun y1=>some (decide (y1 ≥ 0))
theorem w161 {Dc:Nat} {d:Nat} (hd:Dc + 2≤d) (k0:Bool) (a0:List Ah) (c1:Bool→AV) (hc1:∀ l,CV 8 [] false (c1 l) c1) (a1:Ah→Option (Bool)) (tc1:∀ (d:Nat),Dc≤d→∀ (l:Bool) (q0:Bool) (x0:Ah) (S:St) (t:Bool),a1 x0 = some t→AQ (cfg NN) (R NN d) 178 (c1 l) [.agg (Enc.cs q0 x0)] S = some ((fun (t:Bool)=>AV.bool t) t,S)) (k1:Bool):Fit (R NN d 161 [.rsl k0 false (a0.map (Enc.cs k0)),c1 k1] []) (XT a0 a1) PB:=by
  obtain ⟨d,rfl,g⟩:=up hd
  refine Ay (t161 NN d _ _) ?_
  unfold mV XT
  exact A7 (aF2 A5 (CV.any (hc1 k1)) fun l0_ l1_=>eI (by omega) l0_ a0 c1 hc1 a1 tc1 l1_) fun y1 hy1=>q_p fr<|Ad (Ab rfl) rfl
def VE (a0:Ah) (a1:Int):Bool:=a0.Slot == a1
theorem w125 {d:Nat} (hd:1≤d) (k0:Bool) (a0:Ah) (k1:Bool) (a1:Int):Fit (R NN d 125 [.agg (Enc.cs k0 a0),.rp k1 (Enc.cs k1 a1)] []) (some (VE a0 a1)) PB:=by
  obtain ⟨d,rfl,g⟩:=up hd
  refine Ay (t125 NN d _ _) ?_
  unfold oJ VE
  exact AL (n:=7) rfl rfl (by decide) fun b1=>q_p fr<|Ao 0 rfl rfl<|q_p fr<|q_p fr<|Ad (Ab rfl) rfl
def Oe (a0:Ah) (a1:Ak) (a2:Int) (a3_0:Int):Option (Bool):=( bif a0.From == a1.Id then bif a0.Kind == a2 then bif a0.View == a1.View then some (LO.norm (VE a0 a3_0)) else some (LO.norm false) else some (LO.norm false) else some (LO.norm false)).bind (Ac (fun s2=>some s2) (fun i1 s2=>none) (fun s2=>some s2))
theorem w162 {d:Nat} (hd:2≤d) (k0:Bool) (a0:Ah) (k1:Bool) (a1:Ak) (k2:Bool) (a2:Int) (k3:Bool) (k3_0:Bool) (a3_0:Int):Fit (R NN d 162 [.agg (Enc.cs k0 a0),.rp k1 [.rp k1 (Enc.cs k1 a1)],.rp k2 (Enc.cs k2 a2),.rp k3 [.fn 125 [.rp k3_0 (Enc.cs k3_0 a3_0)]]] []) (Oe a0 a1 a2 a3_0) PB:=by
  obtain ⟨d,rfl,g⟩:=up hd
  refine Ay (t162 NN d _ _ _ _) ?_
  unfold mU Oe
  refine AL (n:=7) rfl rfl (by decide) fun b1=>AM (A:=fun (s:Bool)=>[.bool s]) (B:=fun s=>[bx b1 [iW a0.Kind,iW a0.View,iW a0.From,iW a0.Slot,iW a0.Value,.rsl k0 false (a0.Certs.map (Enc.cs k0)),.rsl k0 false (a0.Refs.map (Enc.cs k0))]]) ?_ ?_ ?_ ?_
  ·exact q_p fr<|Ao 0 rfl rfl<|q_p fr<|q_q fr<|q_p fr<|q_p fr<|q_p fr<|q_k (q_p fr<|Ao 0 rfl rfl<|q_p fr<|q_p fr<|q_k (q_p fr<|Ao 0 rfl rfl<|q_p fr<|q_q fr<|q_p fr<|q_p fr<|q_p fr<|q_k (q_p fr<|AX 0 rfl rfl rfl<|fY (y:=VE a0 a3_0) (E:=(fun (t:Bool)=>AV.bool t)) (fun S=>R1 _ _ _ _) (aF2 (AZ (Au (l0:=k0) (x:=a0))) (Bs (Au (l0:=k3_0) (x:=a3_0)) (fun _ _ _ h=>Enc.frz k3_0 a3_0 _ _ _ h)) fun l0_ l1_=>w125 (by omega) l0_ a0 l1_ a3_0)<|Aa 0 rr)<|Aa 0 rr)<|Aa 0 rr)<|Aa 0 rr
  ·exact fun s2=>Ad (Ab rfl) rfl
  ·exact fun i1 s2=>Ap
  ·exact fun s2=>Ad (Ab rfl) rfl
def Ya (a0:Ak) (a1:List Ah) (a2:Int) (a3_0:Int):Option (Bool):=(XT a1 (fun x0_=>Oe x0_ a0 a2 a3_0)).bind fun y1=>some y1
theorem w124 {d:Nat} (hd:5≤d) (k0:Bool) (a0:Ak) (k1:Bool) (a1:List Ah) (a2:Int) (k3_0:Bool) (a3_0:Int):Fit (R NN d 124 [.rp k0 (Enc.cs k0 a0),.rsl k1 false (a1.map (Enc.cs k1)),iW a2,.fn 125 [.rp k3_0 (Enc.cs k3_0 a3_0)]] []) (Ya a0 a1 a2 a3_0) PB:=by
  obtain ⟨d,rfl,g⟩:=up hd
  refine Ay (t124 NN d _ _ _ _) ?_
  unfold oK Ya
  exact AL (n:=1) rfl rfl (by decide) fun b1=>AL (n:=1) rfl rfl (by decide) fun b2=>AL (n:=1) rfl rfl (by decide) fun b3=>A7 (aF2 A5 (DK (Ag (BI 2 rfl (Ag (Bs (Au (l0:=k0) (x:=a0)) (fun _ _ _ h=>Enc.frz k0 a0 _ _ _ h)) Az)) (Ag (BI 1 rfl (Au (l0:=false) (x:=a2))) (Ag (BI 0 rfl (Ag (DK (Ag (Bs (Au (l0:=k3_0) (x:=a3_0)) (fun _ _ _ h=>Enc.frz k3_0 a3_0 _ _ _ h)) Az)) Az)) Az)))) fun l0_ l1_=>w161 (Dc:=2) (by omega) l0_ a1 (fun l=>.fn 162 [.rp l [.rp l (Enc.cs l a0)],.rp l (Enc.cs l a2),.rp l [.fn 125 [.rp l (Enc.cs l a3_0)]]]) (fun l=>DK (Ag (LL (l0:=l) (Ag (Bs (Au (l0:=l) (x:=a0)) (fun _ _ _ h=>Enc.frz _ a0 _ _ _ h)) Az) 1 (fun _ _ _ h=>Wu h)) (Ag (Bs (Au (l0:=l) (x:=a2)) (fun _ _ _ h=>Enc.frz _ a2 _ _ _ h)) (Ag (LL (l0:=l) (Ag (DK (Ag (Bs (Au (l0:=l) (x:=a3_0)) (fun _ _ _ h=>Enc.frz _ a3_0 _ _ _ h)) Az)) Az) 3 (fun _ _ _ h=>Wv h (by simp))) Az)))) (fun x0_=>Oe x0_ a0 a2 a3_0) (fun d hd l q0_ x0_ S t ht=>(Rz _ _ _ _).trans (C9 (E:=(fun (t:Bool)=>AV.bool t)) (mg:=Oe x0_ a0 a2 a3_0) (ZS (M:=fun a=>Fit (R NN d 162 a []) _ _) (AZ (Au (l0:=q0_) (x:=x0_))) (LL (l0:=l) (Ag (Bs (Au (l0:=l) (x:=a0)) (fun _ _ _ h=>Enc.frz _ a0 _ _ _ h)) Az) 1 (fun _ _ _ h=>Wu h)) (Bs (Au (l0:=l) (x:=a2)) (fun _ _ _ h=>Enc.frz _ a2 _ _ _ h)) (LL (l0:=l) (Ag (DK (Ag (Bs (Au (l0:=l) (x:=a3_0)) (fun _ _ _ h=>Enc.frz _ a3_0 _ _ _ h)) Az)) Az) 3 (fun _ _ _ h=>Wv h (by simp))) HP.nil fun u0_ v0_ v1_ v2_=>w162 hd u0_ x0_ v0_ a0 v1_ a2 v2_ v2_ a3_0) ht)) l1_) fun y1 hy1=>Ad (Ab rfl) rfl
def m84 (a0:Ak) (a1:List Ah) (a2:Int) (a3:Int):Option (Bool):=(Ya a0 a1 a2 a3).bind fun y1=>some y1
theorem w84 {d:Nat} (hd:7≤d) (k0:Bool) (a0:Ak) (k1:Bool) (a1:List Ah) (a2:Int) (a3:Int):Fit (R NN d 84 [.rp k0 (Enc.cs k0 a0),.rsl k1 false (a1.map (Enc.cs k1)),iW a2,iW a3] []) (m84 a0 a1 a2 a3) PB:=by
  obtain ⟨d,rfl,g⟩:=up hd
  refine Ay (t84 NN d _ _ _ _) ?_
  unfold b84 m84
  exact AL (n:=1) rfl rfl (by decide) fun b1=>A7 (fun S hS=>EB (Bs (Au (l0:=k0) (x:=a0)) (fun _ _ _ h=>Enc.frz k0 a0 _ _ _ h)) A5 (Ab rfl) (DK (Ag (BI 0 rfl (Au (l0:=false) (x:=a3))) Az)) hS fun l0_ l1_ l2_ l3_=>w124 (by omega) l0_ a0 l1_ a1 a2 l3_ a3) fun y1 hy1=>Ad (Ab rfl) rfl
def m51 (a0:Ak) (a1:Int) (a2:List Ah) (a3:Int):Option (Int):=( (m83 a1 a2 a3 a0.Start).bind fun y1=>bif !y1 then some (LO.ret 1) else (Al a2 a3).bind fun x1=>bif x1.View != a0.View then some (LO.ret 1) else some (LO.norm 0)).bind (Ac (fun s2=>(Al a2 a3).bind fun x2=>(m84 a0 a2 2 x2.Slot).bind fun y2=>bif y2 then some 6 else some 0) (fun i1 s2=>none) (fun s2=>some s2))
theorem w51 {d:Nat} (hd:146≤d) (k0:Bool) (a0:Ak) (a1:Int) (k2:Bool) (a2:List Ah) (a3:Int):Fit (R NN d 51 [.rp k0 (Enc.cs k0 a0),iW a1,.rsl k2 false (a2.map (Enc.cs k2)),iW a3] []) (m51 a0 a1 a2 a3) PI:=by
  obtain ⟨d,rfl,g⟩:=up hd
  refine Ay (t51 NN d _ _ _ _) ?_
  unfold b51 m51
  refine AM (A:=fun (s:Int)=>[iW s]) (B:=fun s=>[]) ?_ ?_ ?_ ?_
  ·refine q_q fr<|q_p fr<|q_p fr<|A7 (fun S hS=>EB (Ab rfl) A5 (Ab rfl) (Ab rfl) hS fun l0_ l1_ l2_ l3_=>w83 (by omega) a1 l1_ a2 a3 a0.Start) fun y1 hy1=>q_p fr<|q_j ?_ ?_
   ·first | refine Ct ?_ | skip
    exact Aj 0 rr
   ·exact A9 rfl fun x1 hx1=>q_p fr<|q_p fr<|q_q fr<|q_p fr<|q_p fr<|q_p fr<|q_i (Aj 0 rr)<|Aa 0 rr
  ·exact fun s2=>A9 rfl fun x2 hx2=>q_p fr<|q_p fr<|A7 (fun S hS=>EB (Bs (Au (l0:=k0) (x:=a0)) (fun _ _ _ h=>Enc.frz k0 a0 _ _ _ h)) A5 (Ab rfl) (Ab rfl) hS fun l0_ l1_ l2_ l3_=>w84 (by omega) l0_ a0 l1_ a2 2 x2.Slot) fun y2 hy2=>q_i (Ad (Ab rfl) rfl)<|Ad (Ab rfl) rfl
  ·exact fun i1 s2=>Ap
  ·exact fun s2=>Ad (Ab rfl) rfl
def m52 (a0:Ae) (a1:Int):Bool:=decide (a1≤(a0.Requests.length:Int))
theorem w52 {d:Nat} (hd:1≤d) (k0:Bool) (a0:Ae) (a1:Int):Fit (R NN d 52 [.rp k0 (Enc.cs k0 a0),iW a1] []) (some (m52 a0 a1)) PB:=by
  obtain ⟨d,rfl,g⟩:=up hd
  refine Ay (t52 NN d _ _) ?_
  unfold b52 m52
  exact q_q fr<|q_p fr<|q_p fr<|As<|q_p fr<|Ad (Ab rfl) rfl
def OU (a0:List Int) (a1:Int→Option (Bool)) (s1:Int×Int):Option (LO (Int×Int)):=bif decide (s1.2 < (a0.length:Int)) then (Al a0 s1.2).bind fun x1=>(a1 x1).bind fun y1=>bif y1 then some (LO.ret (s1.2,s1.2)) else some (LO.norm (s1.1,wi .i64 (s1.2 + 1))) else some (LO.exit 0 (s1.1,s1.2))
def b0 (a0:List Int) (a1:Int→Option (Bool)):Option (Int):=(Ar (OU a0 a1) NN (0,0)).bind (Ac (fun _=>none) (fun i1 s2=>if i1 = 0 then some (-1) else none) (fun s2=>some s2.1))
theorem w196 {Dc:Nat} {d:Nat} (hd:Dc + 1≤d) (k0:Bool) (a0:List Int) (c1:Bool→AV) (hc1:∀ l,CV 8 [] false (c1 l) c1) (a1:Int→Option (Bool)) (tc1:∀ (d:Nat),Dc≤d→∀ (l:Bool) (x0:Int) (S:St) (t:Bool),a1 x0 = some t→AQ (cfg NN) (R NN d) 196 (c1 l) [iW x0] S = some ((fun (t:Bool)=>AV.bool t) t,S)) (k1:Bool):Fit (R NN d 196 [.rsl k0 false (a0.map (Enc.cs k0)),c1 k1] []) (b0 a0 a1) PI:=by
  obtain ⟨d,rfl,g⟩:=up hd
  refine Ay (t196 NN d _ _) ?_
  unfold lM b0
  refine As<|AU (A:=fun (s:Int×Int)=>[iW s.1,iW s.2]) (B:=fun s=>[]) 0 rr ?_ ?_ ?_
  ·intro s1
   unfold Tu OU
   exact q_p fr<|q_i (A9 rfl fun x1 hx1=>q_p fr<|Qs (mg:=a1 x1) (E:=(fun (t:Bool)=>AV.bool t)) (fun S t ht=>tc1 d (by omega) k1 x1 S t ht) fun y1 hy1=>q_i (Aj 0 rr)<|q_p fr<|Aa 0 rr)<|Am 0 rr
  ·exact fun i1 s2=>q_n (Ad (Ab rfl) rfl)<|Ap
  ·exact fun s2=>Ad (Ab rfl) rfl
def QL (a0:List Int) (a1:Int→Option (Bool)):Option (Bool):=(b0 a0 a1).bind fun y1=>some (decide (y1 ≥ 0))
theorem eJ {Dc:Nat} {d:Nat} (hd:Dc + 2≤d) (k0:Bool) (a0:List Int) (c1:Bool→AV) (hc1:∀ l,CV 8 [] false (c1 l) c1) (a1:Int→Option (Bool)) (tc1:∀ (d:Nat),Dc≤d→∀ (l:Bool) (x0:Int) (S:St) (t:Bool),a1 x0 = some t→AQ (cfg NN) (R NN d) 196 (c1 l) [iW x0] S = some ((fun (t:Bool)=>AV.bool t) t,S)) (k1:Bool):Fit (R NN d 175 [.rsl k0 false (a0.map (Enc.cs k0)),c1 k1] []) (QL a0 a1) PB:=by
  obtain ⟨d,rfl,g⟩:=up hd
  refine Ay (t175 NN d _ _) ?_
  unfold mI QL
  exact A7 (aF2 A5 (CV.any (hc1 k1)) fun l0_ l1_=>w196 (by omega) l0_ a0 c1 hc1 a1 tc1 l1_) fun y1 hy1=>q_p fr<|Ad (Ab rfl) rfl
def QK (a0:Int) (a1:Int):Bool:=decide (a0 ≥ a1)
theorem w177 {d:Nat} (hd:1≤d) (a0:Int) (k1:Bool) (a1:Int):Fit (R NN d 177 [iW a0,.rp k1 (Enc.cs k1 a1)] []) (some (QK a0 a1)) PB:=by
  obtain ⟨d,rfl,g⟩:=up hd
  refine Ay (t177 NN d _ _) ?_
  unfold mG QK
  exact q_p fr<|q_p fr<|Ad (Ab rfl) rfl
def QV (a0:Ah) (a1:Int):Option (Bool):=(QL a0.Refs (fun x0_=>some (QK x0_ a1))).bind fun y1=>some (!y1)
theorem eT {d:Nat} (hd:4≤d) (k0:Bool) (a0:Ah) (a1:Int):Fit (R NN d 143 [.agg (Enc.cs k0 a0),iW a1] []) (QV a0 a1) PB:=by
  obtain ⟨d,rfl,g⟩:=up hd
  refine Ay (t143 NN d _ _) ?_
  unfold nN QV
  exact AL (n:=7) rfl rfl (by decide) fun b1=>AL (n:=1) rfl rfl (by decide) fun b2=>q_p fr<|Ao 1 rfl rfl<|A7 (aF2 A5 (DK (Ag (BI 0 rfl (Au (l0:=false) (x:=a1))) Az)) fun l0_ l1_=>eJ (Dc:=1) (by omega) l0_ a0.Refs (fun l=>.fn 177 [.rp l (Enc.cs l a1)]) (fun l=>DK (Ag (Bs (Au (l0:=l) (x:=a1)) (fun _ _ _ h=>Enc.frz _ a1 _ _ _ h)) Az)) (fun x0_=>some (QK x0_ a1)) (fun d hd l x0_ S t ht=>(Rt _ _ _ _).trans (C9 (E:=(fun (t:Bool)=>AV.bool t)) (mg:=some (QK x0_ a1)) (KW (M:=fun a=>Fit (R NN d 177 a []) _ _) (Ab rfl) (Bs (Au (l0:=l) (x:=a1)) (fun _ _ _ h=>Enc.frz _ a1 _ _ _ h)) HP.nil fun u0_ v0_=>w177 hd x0_ v0_ a1) ht)) l1_) fun y1 hy1=>q_p fr<|Ad (Ab rfl) rfl
def Pe (a0:List Int) (a1:List Int) (s1:Bool×Int):Option (LO (Bool×Int)):=bif decide (s1.2 < (a0.length:Int)) then (Al a0 s1.2).bind fun x1=>(Al a1 s1.2).bind fun x2=>bif x1 != x2 then some (LO.ret (false,s1.2)) else some (LO.norm (s1.1,wi .i64 (s1.2 + 1))) else some (LO.exit 0 (s1.1,s1.2))
def VL (a0:List Int) (a1:List Int):Option (Bool):=bif (a0.length:Int) != (a1.length:Int) then some false else (Ar (Pe a0 a1) NN (false,0)).bind (Ac (fun _=>none) (fun i1 s2=>if i1 = 0 then some true else none) (fun s2=>some s2.1))
theorem fB {d:Nat} (hd:1≤d) (k0:Bool) (a0:List Int) (k1:Bool) (a1:List Int):Fit (R NN d 108 [.rsl k0 false (a0.map (Enc.cs k0)),.rsl k1 false (a1.map (Enc.cs k1))] []) (VL a0 a1) PB:=by
  obtain ⟨d,rfl,g⟩:=up hd
  refine Ay (t108 NN d _ _) ?_
  unfold o0 VL
  refine As<|As<|q_p fr<|q_i ?_ ?_
  ·exact Ad (Ab rfl) rfl
  ·refine As<|AU (A:=fun (s:Bool×Int)=>[.bool s.1,iW s.2]) (B:=fun s=>[]) 0 rr ?_ ?_ ?_
   ·intro s1
    unfold TZ Pe
    exact q_p fr<|q_i (A9 rfl fun x1 hx1=>q_p fr<|A9 rfl fun x2 hx2=>q_p fr<|q_p fr<|q_i (Aj 0 rr)<|q_p fr<|Aa 0 rr)<|Am 0 rr
   ·exact fun i1 s2=>q_n (Ad (Ab rfl) rfl)<|Ap
   ·exact fun s2=>Ad (Ab rfl) rfl
def OT (a0:List Ax) (a1:List Ax) (s1:Bool×Int):Option (LO (Bool×Int)):=bif decide (s1.2 < (a0.length:Int)) then (Al a0 s1.2).bind fun x1=>(Al a1 s1.2).bind fun x2=>bif !(((x1.Slot == x2.Slot) && ((x1.View == x2.View) && ((x1.Value == x2.Value) && true)))) then some (LO.ret (false,s1.2)) else some (LO.norm (s1.1,wi .i64 (s1.2 + 1))) else some (LO.exit 0 (s1.1,s1.2))
def XS (a0:List Ax) (a1:List Ax):Option (Bool):=bif (a0.length:Int) != (a1.length:Int) then some false else (Ar (OT a0 a1) NN (false,0)).bind (Ac (fun _=>none) (fun i1 s2=>if i1 = 0 then some true else none) (fun s2=>some s2.1))
theorem w197 {d:Nat} (hd:1≤d) (k0:Bool) (a0:List Ax) (k1:Bool) (a1:List Ax):Fit (R NN d 197 [.rsl k0 false (a0.map (Enc.cs k0)),.rsl k1 false (a1.map (Enc.cs k1))] []) (XS a0 a1) PB:=by
  obtain ⟨d,rfl,g⟩:=up hd
  refine Ay (t197 NN d _ _) ?_
  unfold lL XS
  refine As<|As<|q_p fr<|q_i ?_ ?_
  ·exact Ad (Ab rfl) rfl
  ·refine As<|AU (A:=fun (s:Bool×Int)=>[.bool s.1,iW s.2]) (B:=fun s=>[]) 0 rr ?_ ?_ ?_
   ·intro s1
    unfold Tt OT
    exact q_p fr<|q_i (A9 rfl fun x1 hx1=>q_p fr<|A9 rfl fun x2 hx2=>q_p fr<|q_p (fun _=>Mg _ _ _ _ _ _)<|q_i (Aj 0 rr)<|q_p fr<|Aa 0 rr)<|Am 0 rr
   ·exact fun i1 s2=>q_n (Ad (Ab rfl) rfl)<|Ap
   ·exact fun s2=>Ad (Ab rfl) rfl
def Vx (a0:Ah) (a1:Ah):Option (Bool):=( bif a0.Kind == a1.Kind then bif a0.View == a1.View then bif a0.From == a1.From then bif a0.Slot == a1.Slot then bif a0.Value == a1.Value then (XS a0.Certs a1.Certs).bind fun y1=>bif y1 then (VL a0.Refs a1.Refs).bind fun y2=>some (LO.norm y2) else some (LO.norm false) else some (LO.norm false) else some (LO.norm false) else some (LO.norm false) else some (LO.norm false) else some (LO.norm false)).bind (Ac (fun s2=>some s2) (fun i1 s2=>none) (fun s2=>some s2))
theorem w180 {d:Nat} (hd:2≤d) (k0:Bool) (a0:Ah) (k1:Bool) (a1:Ah):Fit (R NN d 180 [.agg (Enc.cs k0 a0),.agg (Enc.cs k1 a1)] []) (Vx a0 a1) PB:=by
  obtain ⟨d,rfl,g⟩:=up hd
  refine Ay (t180 NN d _ _) ?_
  unfold mD Vx
  refine AL (n:=7) rfl rfl (by decide) fun b1=>AL (n:=7) rfl rfl (by decide) fun b2=>AM (A:=fun (s:Bool)=>[.bool s]) (B:=fun s=>[bx b2 [iW a1.Kind,iW a1.View,iW a1.From,iW a1.Slot,iW a1.Value,.rsl k1 false (a1.Certs.map (Enc.cs k1)),.rsl k1 false (a1.Refs.map (Enc.cs k1))],bx b1 [iW a0.Kind,iW a0.View,iW a0.From,iW a0.Slot,iW a0.Value,.rsl k0 false (a0.Certs.map (Enc.cs k0)),.rsl k0 false (a0.Refs.map (Enc.cs k0))]]) ?_ ?_ ?_ ?_
  ·exact q_p fr<|Ao 1 rfl rfl<|q_p fr<|Ao 0 rfl rfl<|q_p fr<|q_k (q_p fr<|Ao 1 rfl rfl<|q_p fr<|Ao 0 rfl rfl<|q_p fr<|q_k (q_p fr<|Ao 1 rfl rfl<|q_p fr<|Ao 0 rfl rfl<|q_p fr<|q_k (q_p fr<|Ao 1 rfl rfl<|q_p fr<|Ao 0 rfl rfl<|q_p fr<|q_k (q_p fr<|Ao 1 rfl rfl<|q_p fr<|Ao 0 rfl rfl<|q_p fr<|q_k (q_p fr<|Ao 1 rfl rfl<|q_p fr<|Ao 0 rfl rfl<|A7 (aF2 A5 A5 fun l0_ l1_=>w197 (by omega) l0_ a0.Certs l1_ a1.Certs) fun y1 hy1=>q_k (q_p fr<|Ao 1 rfl rfl<|q_p fr<|Ao 0 rfl rfl<|A7 (aF2 A5 A5 fun l0_ l1_=>fB (by omega) l0_ a0.Refs l1_ a1.Refs) fun y2 hy2=>Aa 0 rr)<|Aa 0 rr)<|Aa 0 rr)<|Aa 0 rr)<|Aa 0 rr)<|Aa 0 rr)<|Aa 0 rr
  ·exact fun s2=>Ad (Ab rfl) rfl
  ·exact fun i1 s2=>Ap
  ·exact fun s2=>Ad (Ab rfl) rfl
def Oc (a0:Ah) (a1:Ah):Option (Bool):=(Vx a0 a1).bind fun y1=>some y1
theorem w179 {d:Nat} (hd:3≤d) (k0:Bool) (a0:Ah) (k1:Bool) (a1:Ah):Fit (R NN d 179 [.agg (Enc.cs k0 a0),.rp k1 (Enc.cs k1 a1)] []) (Oc a0 a1) PB:=by
  obtain ⟨d,rfl,g⟩:=up hd
  refine Ay (t179 NN d _ _) ?_
  unfold mE Oc
  exact AL (n:=7) rfl rfl (by decide) fun b1=>AX 0 rfl rfl rfl<|q_p fr<|A7 (aF2 (AZ (Au (l0:=k0) (x:=a0))) (AZ (Au (l0:=k1) (x:=a1))) fun l0_ l1_=>w180 (by omega) l0_ a0 l1_ a1) fun y1 hy1=>Ad (Ab rfl) rfl
def QU (a0:List Ah) (a1:Ah):Option (Int):=(Vy a0 (fun x0_=>Oc x0_ a1)).bind fun y1=>some y1
theorem eS {d:Nat} (hd:5≤d) (k0:Bool) (a0:List Ah) (k1:Bool) (a1:Ah):Fit (R NN d 144 [.rsl k0 false (a0.map (Enc.cs k0)),.agg (Enc.cs k1 a1)] []) (QU a0 a1) PI:=by
  obtain ⟨d,rfl,g⟩:=up hd
  refine Ay (t144 NN d _ _) ?_
  unfold nM QU
  exact AL (n:=7) rfl rfl (by decide) fun b1=>A7 (aF2 A5 (DK (Ag (BI 0 rfl (Au (l0:=k1) (x:=a1))) Az)) fun l0_ l1_=>eI (Dc:=3) (by omega) l0_ a0 (fun l=>.fn 179 [.rp l (Enc.cs l a1)]) (fun l=>DK (Ag (Bs (Au (l0:=l) (x:=a1)) (fun _ _ _ h=>Enc.frz _ a1 _ _ _ h)) Az)) (fun x0_=>Oc x0_ a1) (fun d hd l q0_ x0_ S t ht=>(Ry _ _ _ _).trans (C9 (E:=(fun (t:Bool)=>AV.bool t)) (mg:=Oc x0_ a1) (KW (M:=fun a=>Fit (R NN d 179 a []) _ _) (AZ (Au (l0:=q0_) (x:=x0_))) (Bs (Au (l0:=l) (x:=a1)) (fun _ _ _ h=>Enc.frz _ a1 _ _ _ h)) HP.nil fun u0_ v0_=>w179 hd u0_ x0_ v0_ a1) ht)) l1_) fun y1 hy1=>Ad (Ab rfl) rfl
def MN (a0:List Int):Option (List Int):=Bu 8 [] a0
theorem eZ {d:Nat} (hd:1≤d) (k0:Bool) (a0:List Int):Fit (R NN d 114 [.rsl k0 false (a0.map (Enc.cs k0))] []) (MN a0) (P1 (T:=List Int) GG):=by
  obtain ⟨d,rfl,g⟩:=up hd
  rw [t114]
  refine (?_:Okh [] (fun S=>dF (cfg NN) (R NN d) (.rsl k0 false (a0.map (Enc.cs k0))) S) _ _) [] HP.nil
  unfold dF MN
  refine Ln (e:=2) fH (fun h S=>?_) ?_
  · subst h
    refine Eq.symm (show pq (AH (Av _ _ _ _ S) S) _ = _ from ?_)
    rw [Dq]; rfl
  refine q_q (fun _=>Dq) ?_
  refine Dj (α:=Int) false ?_
  rw [show Bu 8 ([]:List Int) a0 = (Bu 8 [] a0).bind some from by cases Bu 8 ([]:List Int) a0 <;> rfl]
  refine CX (ys:=a0) 0 rfl rfl (fun _ _=>rfl) fun v1 z1 hz1=>?_
  exact D1 (EM 0 rfl XH) rfl
def Vv (a0:List Ax):Option (List Ax):=Bu 24 [] a0
theorem w190 {d:Nat} (hd:1≤d) (k0:Bool) (a0:List Ax):Fit (R NN d 190 [.rsl k0 false (a0.map (Enc.cs k0))] []) (Vv a0) (P1 (T:=List Ax) GG):=by
  obtain ⟨d,rfl,g⟩:=up hd
  rw [t190]
  refine (?_:Okh [] (fun S=>dC (cfg NN) (R NN d) (.rsl k0 false (a0.map (Enc.cs k0))) S) _ _) [] HP.nil
  unfold dC Vv
  refine Ln (e:=129) fE (fun h S=>?_) ?_
  · subst h
    refine Eq.symm (show pq (AH (Av _ _ _ _ S) S) _ = _ from ?_)
    rw [NQ]; rfl
  refine q_q (fun _=>NQ) ?_
  refine Dj (α:=Ax) false ?_
  rw [show Bu 24 ([]:List Ax) a0 = (Bu 24 [] a0).bind some from by cases Bu 24 ([]:List Ax) a0 <;> rfl]
  refine CX (ys:=a0) 0 rfl rfl (fun _ _=>rfl) fun v1 z1 hz1=>?_
  exact D1 (EM 0 rfl NU) rfl
def ML (a0:Ah):Option (Ah):=(Vv a0.Certs).bind fun y1=>(MN a0.Refs).bind fun y2=>some (⟨a0.Kind,a0.View,a0.From,a0.Slot,a0.Value,y1,y2⟩:Ah)
theorem eR {d:Nat} (hd:2≤d) (k0:Bool) (a0:Ah):Fit (R NN d 157 [.agg (Enc.cs k0 a0)] []) (ML a0) (P1 (T:=Ah) AV.agg):=by
  obtain ⟨d,rfl,g⟩:=up hd
  refine Ay (t157 NN d _) ?_
  unfold mY ML
  exact AL (n:=7) rfl rfl (by decide) fun b1=>Bc rfl fun b2=>q_p fr<|Ao 1 rfl rfl<|Ev (mg:=Vv a0.Certs) (aF1 A5 fun l0_=>w190 (by omega) l0_ a0.Certs) fun y1 hy1 i1 v1=>q_p fr<|CM 2 rfl (fun S hS=>(HP.cell1t hS 0 rfl)) rfl<|q_p fr<|Ao 2 rfl rfl<|Ev (mg:=MN a0.Refs) (aF1 A5 fun l0_=>eZ (by omega) l0_ a0.Refs) fun y2 hy2 i2 v2=>q_p fr<|CM 3 rfl (fun S hS=>(HP.cell1t hS 0 rfl)) rfl<|AX 3 rfl rfl rfl<|Bb 2 rfl rfl rfl (by decide) rfl<|DL (fun S hS=>hS.lda 2 rfl rfl) (DW (α:=Ah) (β:=Int×Int×Int×Int×Int×(List Ax)×(List Int)) (f:=fun x=>(x.Kind,x.View,x.From,x.Slot,x.Value,x.Certs,x.Refs)) (x:=(⟨a0.Kind,a0.View,a0.From,a0.Slot,a0.Value,y1,y2⟩:Ah)) rfl (AA (Bm (n:=a0.Kind)) (AA (Bm (n:=a0.View)) (AA (Bm (n:=a0.From)) (AA (Bm (n:=a0.Slot)) (AA (Bm (n:=a0.Value)) (AA (Di 1 rfl) (Di 0 rfl)))))))) rfl
theorem eQ {d:Nat} (hd:2≤d) (k0:Bool) (a0:Ah):Fit (R NN d 157 [.agg (Enc.cs k0 a0)] []) (ML a0) (P0 (fun (t:Ah)=>AV.agg (Enc.cs false t))):=UE (eR hd k0 a0)
def cF (a0:List Ah):Option (List Ah):=Bu 88 [] a0
theorem eN {d:Nat} (hd:1≤d) (v:AV) (S:St):R NN d 163 [v] S = pk (DU Tryz.prog 30 v) S fun r1=>ifA r1 (some (AV.rsl false true [],S)) (pq (AH (Av Tryz.prog 30 0 [] S) S) fun r2=>pe (Bz 7 88 r2 v S) fun r3 S3=>some (r3,S3)):=by
  obtain ⟨d,rfl,g⟩:=up hd
  exact t163 NN d v S
def Ra (a0:List Ah) (a1:Ah):Option ((List Ah)×Int):=(QV a1 (a0.length:Int)).bind fun y1=>bif !y1 then some ([],4) else (QU a0 a1).bind fun y2=>bif decide (y2 ≥ 0) then some (a0,0) else bif (a0.length:Int) == 240 then some ([],2) else (cF a0).bind fun z1=>(ML a1).bind fun y3=>(Bu 88 z1 [y3]).bind fun z2=>some (z2,0)
theorem w126 {d:Nat} (hd:6≤d) (L0:List En) (i0_:List Nat) (v0_:AV) (a0:List Ah) (c1_0 c1_1 c1_2 c1_3 c1_4 c1_5 c1_6:AV) (a1:Ah) (hc1:CVs 7 [] false [c1_0,c1_1,c1_2,c1_3,c1_4,c1_5,c1_6] (fun l=>Enc.cs l a1)):Okh (wls i0_ v0_ (a0:List Ah)::L0) (fun S=>R NN d 126 [v0_,.agg [c1_0,c1_1,c1_2,c1_3,c1_4,c1_5,c1_6]] S) (Ra a0 a1) (P8 i0_ v0_ a0 L0):=by
  obtain ⟨d,rfl,g⟩:=up hd
  refine Dn (t126 NN d _ _) ?_
  unfold oI Ra
  exact AL (n:=7) rfl rfl (by decide) fun b1=>AX 0 rfl rfl rfl<|Us 1 rfl<|A7 (aF2 (AZ (CVs.any hc1)) (Ab rfl) fun l0_ l1_=>eT (by omega) l0_ a1 (a0.length:Int)) fun y1 hy1=>q_p fr<|q_i (ZA 1 (by decide) rfl rfl)<|AX 0 rfl rfl rfl<|A7 (aF2 (LK (α:=Ah) 1 rfl) (AZ (CVs.any hc1)) fun l0_ l1_=>eS (by omega) l0_ a0 l1_ a1) fun y2 hy2=>q_p fr<|q_i (Ds 2 [1,0] (by decide) (by decide)<|Ds 2 [1,0] (by decide) (by decide)<|Z9 1 (by decide) rfl rfl)<|Us 1 rfl<|q_p fr<|q_i (ZA 1 (by decide) rfl rfl)<|AX 0 rfl rfl rfl<|Ds 2 [1,0] (by decide) (by decide)<|gJ (mg:=cF a0) (fun S=>eN (by omega) _ S) fF NR rfl rfl fun z1 hz1 i1 v1=>A7 (aF1 (AZ (CVs.any hc1)) fun l0_=>eQ (by omega) l0_ a1) fun y3 hy3=>q_e (fun _=>c7 rfl)<|gK (y:=y3) (l:=false) (fl':=true) rfl fun z2 hz2 v2 i2=>fX<|Ds 2 [1,0] (by decide) (by decide)<|Z9 1 (by decide) rfl rfl
def m85 (a0:Ae) (a1:Ah):Option (Int×Ae):=(Ra a0.Ledger a1).bind fun y1=>bif y1.2 == 0 then some (y1.2,(⟨a0.F,a0.Bad,a0.Replicas,y1.1,a0.Requests⟩:Ae)) else some (y1.2,a0)
theorem w85 {d:Nat} (hd:7≤d) (L0:List En) (b0_:Nat) (i0_1 i0_2 i0_3 i0_4:List Nat) (v0_1 v0_2 v0_3 v0_4:AV) (a0:Ae) (c1_0 c1_1 c1_2 c1_3 c1_4 c1_5 c1_6:AV) (a1:Ah) (hc1:CVs 7 [] false [c1_0,c1_1,c1_2,c1_3,c1_4,c1_5,c1_6] (fun l=>Enc.cs l a1)):Okh (bx b0_ [iW a0.F,v0_1,v0_2,v0_3,v0_4]::tr i0_1 [v0_1] (a0.Bad:List Int)::tr i0_2 [v0_2] (a0.Replicas:List Ak)::wls i0_3 v0_3 (a0.Ledger:List Ah)::wla i0_4 v0_4 (a0.Requests:List Af)::L0) (fun S=>R NN d 85 [.bp b0_ 0 0 5 1,.agg [c1_0,c1_1,c1_2,c1_3,c1_4,c1_5,c1_6]] S) (m85 a0 a1) (P5 (fun (x:List Nat×List Nat×AV×AV) (t:Int×Ae)=>AV.int .i64 t.1) (fun (x:List Nat×List Nat×AV×AV) (t:Int×Ae)=>bx b0_ [iW t.2.F,v0_1,v0_2,x.2.2.1,x.2.2.2]::tr i0_1 [v0_1] (t.2.Bad:List Int)::tr i0_2 [v0_2] (t.2.Replicas:List Ak)::wls x.1 x.2.2.1 (t.2.Ledger:List Ah)::wla x.2.1 x.2.2.2 (t.2.Requests:List Af)::L0)):=by
  obtain ⟨d,rfl,g⟩:=up hd
  refine Dn (t85 NN d _ _) ?_
  unfold b85 m85
  exact AL (n:=7) rfl rfl (by decide) fun b1=>q_q fr<|q_p fr<|Ao 1 rfl rfl<|AX 0 rfl rfl rfl<|Ds 6 [4,0,1,2,3,5] (by decide) (by decide)<|q_s8 (mg:=Ra a0.Ledger a1) (w126 (by omega) _ i0_3 v0_3 a0.Ledger c1_0 c1_1 c1_2 c1_3 c1_4 c1_5 c1_6 a1 hc1) (fun y1 hy1 hky1 i1 w1=>q_q fr<|q_q fr<|q_p fr<|bE hky1<|q_q fr<|q_p fr<|CM 2 rfl (fun S hS=>(HP.cells_ hS 0 rfl)) rfl<|Ds 6 [1,2,3,4,0,5] (by decide) (by decide)<|Fl (i1,i0_4,w1,v0_4) 1 rfl rfl) fun y1 hy1 hky1=>q_q fr<|q_q fr<|q_p fr<|bF hky1<|Ds 6 [1,2,3,4,0,5] (by decide) (by decide)<|Fl (i0_3,i0_4,v0_3,v0_4) 1 rfl rfl
def m53 (a0:Ae) (a1:Int) (a2:Int) (a3:Int) (a4:Int):Option (Int×Ae):=(Al a0.Replicas a1).bind fun x1=>(Al a0.Replicas a1).bind fun x2=>(Al a0.Replicas a1).bind fun x3=>(Al a0.Replicas a1).bind fun x4=>(Al a0.Replicas a1).bind fun x5=>(Al a0.Replicas a1).bind fun x6=>(m85 a0 (⟨a2,x3.View,x6.Id,a3,a4,[],[]⟩:Ah)).bind fun y1=>some (y1.1,y1.2)
theorem w53 {d:Nat} (hd:8≤d) (L0:List En) (b0_:Nat) (i0_1 i0_2 i0_3 i0_4:List Nat) (v0_1 v0_2 v0_3 v0_4:AV) (a0:Ae) (a1:Int) (a2:Int) (a3:Int) (a4:Int):Okh (bx b0_ [iW a0.F,v0_1,v0_2,v0_3,v0_4]::tr i0_1 [v0_1] (a0.Bad:List Int)::tr i0_2 [v0_2] (a0.Replicas:List Ak)::wls i0_3 v0_3 (a0.Ledger:List Ah)::wla i0_4 v0_4 (a0.Requests:List Af)::L0) (fun S=>R NN d 53 [.bp b0_ 0 0 5 1,elP 4 v0_2 (Int.toNat a1),iW a2,iW a3,iW a4] S) (m53 a0 a1 a2 a3 a4) (P5 (fun (x:List Nat×List Nat×AV×AV) (t:Int×Ae)=>AV.int .i64 t.1) (fun (x:List Nat×List Nat×AV×AV) (t:Int×Ae)=>bx b0_ [iW t.2.F,v0_1,v0_2,x.2.2.1,x.2.2.2]::tr i0_1 [v0_1] (t.2.Bad:List Int)::tr i0_2 [v0_2] (t.2.Replicas:List Ak)::wls x.1 x.2.2.1 (t.2.Ledger:List Ah)::wla x.2.1 x.2.2.2 (t.2.Requests:List Af)::L0)):=by
  obtain ⟨d,rfl,g⟩:=up hd
  refine Dn (t53 NN d _ _ _ _ _) ?_
  unfold b53 m53
  exact Ms fun x1 hx1=>Uq 2 rfl hx1<|Ms fun x2 hx2=>Ci 2 rfl hx2 (by decide)<|Ms fun x3 hx3=>ZC 2 rfl rfl hx3 Qr<|Ms fun x4 hx4=>Uq 2 rfl hx4<|Ms fun x5 hx5=>Ci 2 rfl hx5 (by decide)<|Ms fun x6 hx6=>ZC 2 rfl rfl hx6 XB<|q_p (fun _=>Ep rfl)<|Ul (mg:=m85 a0 (⟨a2,x3.View,x6.Id,a3,a4,[],[]⟩:Ah)) (fun S=>rfl) (w85 (by omega) _ b0_ i0_1 i0_2 i0_3 i0_4 v0_1 v0_2 v0_3 v0_4 a0 (AV.int .i64 a2) (AV.int .i64 x3.View) (AV.int .i64 x6.Id) (AV.int .i64 a3) (AV.int .i64 a4) (AV.rsl false true []) (AV.rsl false true []) (⟨a2,x3.View,x6.Id,a3,a4,[],[]⟩:Ah) (Ag (Ab rfl) (Ag (Ab rfl) (Ag (Ab rfl) (Ag (Ab rfl) (Ag (Ab rfl) (Ag (A5 (α:=Ax) (l0:=false) (fl:=true) (xs:=[])) (Ag (A5 (α:=Int) (l0:=false) (fl:=true) (xs:=[])) Az)))))))) fun y1 hy1 ⟨i1,i2,v1,v2⟩=>Fl (i1,i2,v1,v2) 0 rfl rfl
def m50 (a0:Ae) (a1:Int) (a2:Int):Option (Int×Ae):=(Al a0.Replicas a1).bind fun x1=>(m51 x1 a0.F a0.Ledger a2).bind fun y1=>bif y1 != 0 then some (y1,a0) else (Al a0.Ledger a2).bind fun x2=>bif !(m52 a0 x2.Value) then some (4,a0) else (m53 a0 a1 2 x2.Slot x2.Value).bind fun y2=>some (y2.1,y2.2)
theorem w50 {d:Nat} (hd:147≤d) (L0:List En) (b0_:Nat) (i0_1 i0_2 i0_3 i0_4:List Nat) (v0_1 v0_2 v0_3 v0_4:AV) (a0:Ae) (a1:Int) (k2:Bool) (a2:Int):Okh (bx b0_ [iW a0.F,v0_1,v0_2,v0_3,v0_4]::tr i0_1 [v0_1] (a0.Bad:List Int)::tr i0_2 [v0_2] (a0.Replicas:List Ak)::wls i0_3 v0_3 (a0.Ledger:List Ah)::wla i0_4 v0_4 (a0.Requests:List Af)::L0) (fun S=>R NN d 50 [.bp b0_ 0 0 5 1,elP 4 v0_2 (Int.toNat a1),.rp k2 (Enc.cs k2 a2)] S) (m50 a0 a1 a2) (P5 (fun (x:List Nat×List Nat×AV×AV) (t:Int×Ae)=>AV.int .i64 t.1) (fun (x:List Nat×List Nat×AV×AV) (t:Int×Ae)=>bx b0_ [iW t.2.F,v0_1,v0_2,x.2.2.1,x.2.2.2]::tr i0_1 [v0_1] (t.2.Bad:List Int)::tr i0_2 [v0_2] (t.2.Replicas:List Ak)::wls x.1 x.2.2.1 (t.2.Ledger:List Ah)::wla x.2.1 x.2.2.2 (t.2.Requests:List Af)::L0)):=by
  obtain ⟨d,rfl,g⟩:=up hd
  refine Dn (t50 NN d _ _ _) ?_
  unfold b50 m50
  refine q_q fr<|q_p fr<|Ao 0 rfl rfl<|q_q fr<|q_p fr<|Ao 0 rfl rfl<|q_p fr<|Ms fun x1 hx1=>A7 (fun S hS=>EB (kB 2 rfl rfl hx1) (Ab rfl) (LK (α:=Ah) 3 rfl) (Ab rfl) hS fun l0_ l1_ l2_ l3_=>w51 (by omega) l0_ x1 a0.F l2_ a0.Ledger a2) fun y1 hy1=>q_p fr<|q_i ?_ ?_
  ·exact Fl (i0_3,i0_4,v0_3,v0_4) 0 rfl rfl
  ·refine Bc rfl fun b1=>q_q fr<|q_p fr<|Ao 1 rfl rfl<|q_p fr<|gG 4 rfl rfl fun x2 hx2=>bD 4 rfl rfl hx2 fun cs1 hcs_ hcs2_=>?_
   obtain ⟨v1,v2,rfl⟩:=gY hcs_ hcs2_
   exact Bb 0 rfl rfl rfl (by decide) rfl<|q_p fr<|Ao 0 rfl rfl<|AB (aF2 (BI 1 rfl (Ag (Ab rfl) (Ag (IG 2 rfl) (Ag (IG 3 rfl) (Ag (LK (α:=Ah) 4 rfl) (Ag (WH (α:=Af) 5 rfl) Az)))))) (Ab rfl) fun l0_ l1_=>w52 (by omega) l0_ a0 x2.Value)<|q_p fr<|q_i (Fl (i0_3,i0_4,v0_3,v0_4) 1 rfl rfl)<|q_p fr<|Ao 0 rfl rfl<|q_p fr<|Ao 0 rfl rfl<|Ds 6 [1,2,3,4,5,0] (by decide) (by decide)<|Ul (mg:=m53 a0 a1 2 x2.Slot x2.Value) (fun S=>rfl) (w53 (by omega) _ b0_ i0_1 i0_2 i0_3 i0_4 v0_1 v0_2 v0_3 v0_4 a0 a1 2 x2.Slot x2.Value) fun y2 hy2 ⟨i1,i2,v3,v4⟩=>Ds 6 [5,0,1,2,3,4] (by decide) (by decide)<|Fl (i1,i2,v3,v4) 1 rfl rfl
def Pd (a0:List Ak) (a1:Ak→Option (Bool)) (s1:Int×Int):Option (LO (Int×Int)):=bif decide (s1.2 < (a0.length:Int)) then (Al a0 s1.2).bind fun x1=>(a1 x1).bind fun y1=>bif y1 then some (LO.ret (s1.2,s1.2)) else some (LO.norm (s1.1,wi .i64 (s1.2 + 1))) else some (LO.exit 0 (s1.1,s1.2))
def VF (a0:List Ak) (a1:Ak→Option (Bool)):Option (Int):=(Ar (Pd a0 a1) NN (0,0)).bind (Ac (fun _=>none) (fun i1 s2=>if i1 = 0 then some (-1) else none) (fun s2=>some s2.1))
theorem w118 {Dc:Nat} {d:Nat} (hd:Dc + 1≤d) (k0:Bool) (a0:List Ak) (c1:Bool→AV) (hc1:∀ l,CV 8 [] false (c1 l) c1) (a1:Ak→Option (Bool)) (tc1:∀ (d:Nat),Dc≤d→∀ (l:Bool) (q0:Bool) (x0:Ak) (S:St) (t:Bool),a1 x0 = some t→AQ (cfg NN) (R NN d) 118 (c1 l) [.agg (Enc.cs q0 x0)] S = some ((fun (t:Bool)=>AV.bool t) t,S)) (k1:Bool):Fit (R NN d 118 [.rsl k0 false (a0.map (Enc.cs k0)),c1 k1] []) (VF a0 a1) PI:=by
  obtain ⟨d,rfl,g⟩:=up hd
  refine Ay (t118 NN d _ _) ?_
  unfold oQ VF
  refine As<|AU (A:=fun (s:Int×Int)=>[iW s.1,iW s.2]) (B:=fun s=>[]) 0 rr ?_ ?_ ?_
  ·intro s1
   unfold TU Pd
   exact q_p fr<|q_i (A9 rfl fun x1 hx1=>q_p fr<|Qs (mg:=a1 x1) (E:=(fun (t:Bool)=>AV.bool t)) (fun S t ht=>tc1 d (by omega) k1 k0 x1 S t ht) fun y1 hy1=>q_i (Aj 0 rr)<|q_p fr<|Aa 0 rr)<|Am 0 rr
  ·exact fun i1 s2=>q_n (Ad (Ab rfl) rfl)<|Ap
  ·exact fun s2=>Ad (Ab rfl) rfl
def Oi (a0:Ak) (a1:Int):Bool:=a0.Id == a1
theorem w119 {d:Nat} (hd:1≤d) (k0:Bool) (a0:Ak) (k1:Bool) (a1:Int):Fit (R NN d 119 [.agg (Enc.cs k0 a0),.rp k1 (Enc.cs k1 a1)] []) (some (Oi a0 a1)) PB:=by
  obtain ⟨d,rfl,g⟩:=up hd
  refine Ay (t119 NN d _ _) ?_
  unfold oP Oi
  exact AL (n:=4) rfl rfl (by decide) fun b1=>q_p fr<|Ao 0 rfl rfl<|q_p fr<|q_p fr<|Ad (Ab rfl) rfl
def m82 (a0:Ae) (a1:Int):Option ((Option Ak)):=(VF a0.Replicas (fun x0_=>some (Oi x0_ a1))).bind fun y1=>bif decide (y1 < 0) then some none else (Al a0.Replicas y1).bind fun x1=>some (some x1)
def Oa (a0:Ae) (a1:Int):Option (Option Int):=(VF a0.Replicas (fun x0_=>some (Oi x0_ a1))).bind fun y1=>bif decide (y1 < 0) then some none else (Al a0.Replicas y1).bind fun x1=>some (some y1)
theorem w82c {d:Nat} (hd:3≤d) (L0:List En) (b0_:Nat) (i0_1 i0_2 i0_3 i0_4:List Nat) (v0_1 v0_2 v0_3 v0_4:AV) (a0:Ae) (a1:Int):Okh (bx b0_ [iW a0.F,v0_1,v0_2,v0_3,v0_4]::tr i0_1 [v0_1] (a0.Bad:List Int)::tr i0_2 [v0_2] (a0.Replicas:List Ak)::wls i0_3 v0_3 (a0.Ledger:List Ah)::wla i0_4 v0_4 (a0.Requests:List Af)::L0) (fun S=>R NN d 82 [.bp b0_ 0 0 5 1,iW a1] S) (Oa a0 a1) (P3 (fun (x:Bool) (t:Option Int)=>t.elim AV.nilp fun r=>elP 4 v0_2 (Int.toNat r)) (fun (_:Option Int)=>bx b0_ [iW a0.F,v0_1,v0_2,v0_3,v0_4]::tr i0_1 [v0_1] (a0.Bad:List Int)::tr i0_2 [v0_2] (a0.Replicas:List Ak)::wls i0_3 v0_3 (a0.Ledger:List Ah)::wla i0_4 v0_4 (a0.Requests:List Af)::L0)):=by
  obtain ⟨d,rfl,g⟩:=up hd
  refine Dn (t82 NN d _ _) ?_
  unfold b82 Oa
  exact AL (n:=1) rfl rfl (by decide) fun b1=>q_q fr<|q_p fr<|Ao 1 rfl rfl<|A7 (aF2 (IG 3 rfl) (DK (Ag (BI 0 rfl (Au (l0:=false) (x:=a1))) Az)) fun l0_ l1_=>w118 (Dc:=1) (by omega) l0_ a0.Replicas (fun l=>.fn 119 [.rp l (Enc.cs l a1)]) (fun l=>DK (Ag (Bs (Au (l0:=l) (x:=a1)) (fun _ _ _ h=>Enc.frz _ a1 _ _ _ h)) Az)) (fun x0_=>some (Oi x0_ a1)) (fun d hd l q0_ x0_ S t ht=>(R7 _ _ _ _).trans (C9 (E:=(fun (t:Bool)=>AV.bool t)) (mg:=some (Oi x0_ a1)) (KW (M:=fun a=>Fit (R NN d 119 a []) _ _) (AZ (Au (l0:=q0_) (x:=x0_))) (Bs (Au (l0:=l) (x:=a1)) (fun _ _ _ h=>Enc.frz _ a1 _ _ _ h)) HP.nil fun u0_ v0_=>w119 hd u0_ x0_ v0_ a1) ht)) l1_) fun y1 hy1=>q_p fr<|q_i (Um false 1 rfl rfl)<|q_q fr<|q_p fr<|Ao 1 rfl rfl<|BZ 3 rfl rfl fun x1 hx1=>Um false 1 rfl rfl
def m49 (a0:Ae) (a1:Int) (a2_0:Int):Option (Int×Ae):=(Oa a0 a1).bind fun y1=>bO y1 ( some (4,a0)) fun r1=>(Al a0.Replicas r1).bind fun x2=>(m50 a0 r1 a2_0).bind fun y2=>some (y2.1,y2.2)
theorem w49 {d:Nat} (hd:148≤d) (L0:List En) (b0_:Nat) (i0_1 i0_2 i0_3 i0_4:List Nat) (v0_1 v0_2 v0_3 v0_4:AV) (a0:Ae) (a1:Int) (k2_0:Bool) (a2_0:Int):Okh (bx b0_ [iW a0.F,v0_1,v0_2,v0_3,v0_4]::tr i0_1 [v0_1] (a0.Bad:List Int)::tr i0_2 [v0_2] (a0.Replicas:List Ak)::wls i0_3 v0_3 (a0.Ledger:List Ah)::wla i0_4 v0_4 (a0.Requests:List Af)::L0) (fun S=>R NN d 49 [.bp b0_ 0 0 5 1,iW a1,.fn 50 [.rp k2_0 (Enc.cs k2_0 a2_0)]] S) (m49 a0 a1 a2_0) (P5 (fun (x:List Nat×List Nat×AV×AV) (t:Int×Ae)=>AV.int .i64 t.1) (fun (x:List Nat×List Nat×AV×AV) (t:Int×Ae)=>bx b0_ [iW t.2.F,v0_1,v0_2,x.2.2.1,x.2.2.2]::tr i0_1 [v0_1] (t.2.Bad:List Int)::tr i0_2 [v0_2] (t.2.Replicas:List Ak)::wls x.1 x.2.2.1 (t.2.Ledger:List Ah)::wla x.2.1 x.2.2.2 (t.2.Requests:List Af)::L0)):=by
  obtain ⟨d,rfl,g⟩:=up hd
  refine Dn (t49 NN d _ _ _) ?_
  unfold b49 m49
  refine f9 (mg:=Oa a0 a1) (v0:=fun _=>AV.nilp) (v1:=fun x r=>elP 4 v0_2 (Int.toNat r)) (fun _=>rfl) (fun _ _=>rfl) (w82c (by omega) _ b0_ i0_1 i0_2 i0_3 i0_4 v0_1 v0_2 v0_3 v0_4 a0 a1) (fun x1=>?_) (fun r1 x1 hy1=>?_)
  ·refine q_p (fun _=>XK) ?_
   first | refine Ct ?_ | skip
   exact Fl (i0_3,i0_4,v0_3,v0_4) 0 rfl rfl
  ·refine Ms fun x2 hx2=>q_pe (f:=fun a=>Do Tryz.prog .eql 51 a .nilp) 2 rfl hx2 (fun _ _ _ _ _=>XL _ _ _ _ _) ?_
   first | refine DN ?_ | skip
   exact Ul (mg:=m50 a0 r1 a2_0) (fun S=>Yv _ _ _ _) (w50 (by omega) _ b0_ i0_1 i0_2 i0_3 i0_4 v0_1 v0_2 v0_3 v0_4 a0 r1 k2_0 a2_0) fun y2 hy2 ⟨i1,i2,v1,v2⟩=>Fl (i1,i2,v1,v2) 0 rfl rfl
def m48 (a0:Ae) (a1:Int) (a2_0:Int):Option (Int×Ae):=(m49 a0 a1 a2_0).bind fun y1=>some (y1.1,y1.2)
theorem w48 {d:Nat} (hd:149≤d) (L0:List En) (b0_:Nat) (i0_1 i0_2 i0_3 i0_4:List Nat) (v0_1 v0_2 v0_3 v0_4:AV) (a0:Ae) (k1:Bool) (a1:Int) (k2:Bool) (k2_0:Bool) (a2_0:Int):Okh (bx b0_ [iW a0.F,v0_1,v0_2,v0_3,v0_4]::tr i0_1 [v0_1] (a0.Bad:List Int)::tr i0_2 [v0_2] (a0.Replicas:List Ak)::wls i0_3 v0_3 (a0.Ledger:List Ah)::wla i0_4 v0_4 (a0.Requests:List Af)::L0) (fun S=>R NN d 48 [.bp b0_ 0 0 5 1,.rp k1 (Enc.cs k1 a1),.rp k2 [.fn 50 [.rp k2_0 (Enc.cs k2_0 a2_0)]]] S) (m48 a0 a1 a2_0) (P5 (fun (x:List Nat×List Nat×AV×AV) (t:Int×Ae)=>AV.int .i64 t.1) (fun (x:List Nat×List Nat×AV×AV) (t:Int×Ae)=>bx b0_ [iW t.2.F,v0_1,v0_2,x.2.2.1,x.2.2.2]::tr i0_1 [v0_1] (t.2.Bad:List Int)::tr i0_2 [v0_2] (t.2.Replicas:List Ak)::wls x.1 x.2.2.1 (t.2.Ledger:List Ah)::wla x.2.1 x.2.2.2 (t.2.Requests:List Af)::L0)):=by
  obtain ⟨d,rfl,g⟩:=up hd
  refine Dn (t48 NN d _ _ _) ?_
  unfold b48 m48
  exact q_p fr<|q_p fr<|Ul (mg:=m49 a0 a1 a2_0) (fun S=>rfl) (w49 (by omega) _ b0_ i0_1 i0_2 i0_3 i0_4 v0_1 v0_2 v0_3 v0_4 a0 a1 k2_0 a2_0) fun y1 hy1 ⟨i1,i2,v1,v2⟩=>Fl (i1,i2,v1,v2) 0 rfl rfl
def XY (a0:Int):Bool:=(CE a0 1 2)
theorem w141 {d:Nat} (hd:2≤d) (a0:Int):Fit (R NN d 141 [iW a0] []) (some (XY a0)) PB:=by
  obtain ⟨d,rfl,g⟩:=up hd
  refine Ay (t141 NN d _) ?_
  unfold nQ XY
  exact AB (aF3 (Ab rfl) (Ab rfl) (Ab rfl) fun l0_ l1_ l2_=>EK (by omega) a0 1 2)<|Ad (Ab rfl) rfl
def QT (a0:Int) (a1:Int):Bool:=(CE a1 1 (IQ a0))
theorem aO {d:Nat} (hd:2≤d) (a0:Int) (a1:Int):Fit (R NN d 145 [iW a0,iW a1] []) (some (QT a0 a1)) PB:=by
  obtain ⟨d,rfl,g⟩:=up hd
  refine Ay (t145 NN d _ _) ?_
  unfold nL QT
  exact AB (aF1 (Ab rfl) fun l0_=>Xv (by omega) a0)<|AB (aF3 (Ab rfl) (Ab rfl) (Ab rfl) fun l0_ l1_ l2_=>EK (by omega) a1 1 (IQ a0))<|Ad (Ab rfl) rfl
def QP (a0:Int):Bool:=(CE a0 1 3)
theorem w170 {d:Nat} (hd:2≤d) (a0:Int):Fit (R NN d 170 [iW a0] []) (some (QP a0)) PB:=by
  obtain ⟨d,rfl,g⟩:=up hd
  refine Ay (t170 NN d _) ?_
  unfold mN QP
  exact AB (aF3 (Ab rfl) (Ab rfl) (Ab rfl) fun l0_ l1_ l2_=>EK (by omega) a0 1 3)<|Ad (Ab rfl) rfl
def MI (a0:Ax) (a1:Ah):Option (Bool):=( bif !(QO a0.Slot) then some (LO.norm true) else bif !(CE a0.View 0 (wi .i64 (a1.View - 1))) then some (LO.norm true) else some (LO.norm (!(QN a0.Value)))).bind (Ac (fun s2=>some s2) (fun i1 s2=>none) (fun s2=>some s2))
theorem w174 {d:Nat} (hd:3≤d) (k0:Bool) (a0:Ax) (k1:Bool) (a1:Ah):Fit (R NN d 174 [.agg (Enc.cs k0 a0),.rp k1 (Enc.cs k1 a1)] []) (MI a0 a1) PB:=by
  obtain ⟨d,rfl,g⟩:=up hd
  refine Ay (t174 NN d _ _) ?_
  unfold mJ MI
  refine AL (n:=3) rfl rfl (by decide) fun b1=>AM (A:=fun (s:Bool)=>[.bool s]) (B:=fun s=>[bx b1 [iW a0.Slot,iW a0.View,iW a0.Value]]) ?_ ?_ ?_ ?_
  ·exact q_p fr<|Ao 0 rfl rfl<|AB (aF1 (Ab rfl) fun l0_=>aL (by omega) a0.Slot)<|q_p fr<|q_j (Aa 0 rr)<|q_p fr<|Ao 0 rfl rfl<|q_p fr<|q_p fr<|q_p fr<|AB (aF3 (Ab rfl) (Ab rfl) (Ab rfl) fun l0_ l1_ l2_=>EK (by omega) a0.View 0 (wi .i64 (a1.View - 1)))<|q_p fr<|q_j (Aa 0 rr)<|q_p fr<|Ao 0 rfl rfl<|AB (aF1 (Ab rfl) fun l0_=>aK (by omega) a0.Value)<|q_p fr<|Aa 0 rr
  ·exact fun s2=>Ad (Ab rfl) rfl
  ·exact fun i1 s2=>Ap
  ·exact fun s2=>Ad (Ab rfl) rfl
def Od (a0:Int):Bool:=!(CE a0 0 239)
theorem w176 {d:Nat} (hd:2≤d) (a0:Int):Fit (R NN d 176 [iW a0] []) (some (Od a0)) PB:=by
  obtain ⟨d,rfl,g⟩:=up hd
  refine Ay (t176 NN d _) ?_
  unfold mH Od
  exact AB (aF3 (Ab rfl) (Ab rfl) (Ab rfl) fun l0_ l1_ l2_=>EK (by omega) a0 0 239)<|q_p fr<|Ad (Ab rfl) rfl
def F5 (a1:Ah) (s7:Int×Int):Option (LO (Int×Int)):=bif decide (s7.2 < (a1.Certs.length:Int)) then ( (Al a1.Certs s7.2).bind fun x1=>bif decide (s7.2 > 0) then (Al a1.Certs (wi .i64 (s7.2 - 1))).bind fun x2=>bif decide (x1.Slot≤x2.Slot) then some (LO.ret 1) else some (LO.norm s7.1) else some (LO.norm s7.1)).bind (Ac (fun s9=>some (LO.norm (s9,wi .i64 (s7.2 + 1)))) (fun i4 s9=>some (LO.exit i4 (s9,s7.2))) (fun s9=>some (LO.ret (s9,s7.2)))) else some (LO.exit 1 (s7.1,s7.2))
def F4 (a1:Ah) (s11:Int×Int):Option (LO (Int×Int)):=bif decide (s11.2 < (a1.Refs.length:Int)) then ( (Al a1.Refs s11.2).bind fun x3=>bif decide (s11.2 > 0) then (Al a1.Refs (wi .i64 (s11.2 - 1))).bind fun x4=>bif decide (x3≤x4) then some (LO.ret 1) else some (LO.norm s11.1) else some (LO.norm s11.1)).bind (Ac (fun s13=>some (LO.norm (s13,wi .i64 (s11.2 + 1)))) (fun i6 s13=>some (LO.exit i6 (s13,s11.2))) (fun s13=>some (LO.ret (s13,s11.2)))) else some (LO.exit 3 (s11.1,s11.2))
def V7 (a0:Int) (a1:Ah):Option (Int):=( ( bif !(CE a1.Kind 1 5) then some (LO.norm true) else bif !(QP a1.Kind) then bif a1.Slot != 0 then some (LO.norm true) else bif a1.Value != 0 then some (LO.norm true) else bif a1.Kind != 4 then bif decide ((a1.Certs.length:Int) > 0) then some (LO.norm true) else bif a1.Kind != 5 then some (LO.norm (decide ((a1.Refs.length:Int) > 0))) else some (LO.norm false) else bif a1.Kind != 5 then some (LO.norm (decide ((a1.Refs.length:Int) > 0))) else some (LO.norm false) else bif a1.Kind != 4 then bif decide ((a1.Certs.length:Int) > 0) then some (LO.norm true) else bif a1.Kind != 5 then some (LO.norm (decide ((a1.Refs.length:Int) > 0))) else some (LO.norm false) else bif a1.Kind != 5 then some (LO.norm (decide ((a1.Refs.length:Int) > 0))) else some (LO.norm false)).bind (Ac (fun s3=>bif s3 then some (LO.ret 1) else ( bif !(QS a1.View) then some (LO.norm true) else bif !(QT a0 a1.From) then some (LO.norm true) else bif (QP a1.Kind) then bif !(QO a1.Slot) then some (LO.norm true) else some (LO.norm (!(QN a1.Value))) else some (LO.norm false)).bind (Ac (fun s5=>bif s5 then some (LO.ret 3) else bif decide ((a1.Certs.length:Int) > 30) then some (LO.ret 2) else bif decide ((a1.Refs.length:Int) > (IQ a0)) then some (LO.ret 2) else some (LO.norm 0)) (fun i2 s5=>if i2 = 0 then some (LO.norm 0) else some (LO.exit i2 0)) (fun s5=>some (LO.ret 0)))) (fun i1 s3=>if i1 = 0 then some (LO.norm 0) else some (LO.exit i1 0)) (fun s3=>some (LO.ret 0)))).bind (Ac (fun s6=>(Ar (F5 a1) NN (s6,0)).bind (Ac (fun _=>none) (fun i5 s10=>if i5 = 1 then (Ar (F4 a1) NN (s10.1,0)).bind (Ac (fun _=>none) (fun i7 s14=>if i7 = 3 then (QM a1.Certs (fun x0_=>MI x0_ a1)).bind fun y1=>bif y1 then some 3 else (QL a1.Refs (fun x0_=>some (Od x0_))).bind fun y2=>bif y2 then some 3 else some 0 else none) (fun s14=>some s14.1)) else none) (fun s10=>some s10.1))) (fun i3 s6=>none) (fun s6=>some s6))
theorem w142 {d:Nat} (hd:6≤d) (a0:Int) (k1:Bool) (a1:Ah):Fit (R NN d 142 [iW a0,.agg (Enc.cs k1 a1)] []) (V7 a0 a1) PI:=by
  obtain ⟨d,rfl,g⟩:=up hd
  refine Ay (t142 NN d _ _) ?_
  unfold nP V7
  refine AL (n:=7) rfl rfl (by decide) fun b1=>q_p fr<|Ao 0 rfl rfl<|AB (aF1 (Ab rfl) fun l0_=>w170 (by omega) a1.Kind)<|AM (A:=fun (s:Int)=>[iW s]) (B:=fun s=>[bx b1 [iW a1.Kind,iW a1.View,iW a1.From,iW a1.Slot,iW a1.Value,.rsl k1 false (a1.Certs.map (Enc.cs k1)),.rsl k1 false (a1.Refs.map (Enc.cs k1))]]) ?_ ?_ ?_ ?_
  ·refine AM (A:=fun (s:Bool)=>[.bool s]) (B:=fun s=>[bx b1 [iW a1.Kind,iW a1.View,iW a1.From,iW a1.Slot,iW a1.Value,.rsl k1 false (a1.Certs.map (Enc.cs k1)),.rsl k1 false (a1.Refs.map (Enc.cs k1))]]) ?_ ?_ ?_ ?_
   ·exact q_p fr<|Ao 0 rfl rfl<|AB (aF3 (Ab rfl) (Ab rfl) (Ab rfl) fun l0_ l1_ l2_=>EK (by omega) a1.Kind 1 5)<|q_p fr<|q_j (Aa 0 rr)<|q_p fr<|q_k (q_p fr<|Ao 0 rfl rfl<|q_p fr<|q_j (Aa 0 rr)<|q_p fr<|Ao 0 rfl rfl<|q_p fr<|q_j (Aa 0 rr)<|q_p fr<|Ao 0 rfl rfl<|q_p fr<|q_k (q_p fr<|Ao 0 rfl rfl<|As<|q_p fr<|q_j (Aa 0 rr)<|q_p fr<|Ao 0 rfl rfl<|q_p fr<|q_k (q_p fr<|Ao 0 rfl rfl<|As<|q_p fr<|Aa 0 rr)<|Aa 0 rr)<|q_p fr<|Ao 0 rfl rfl<|q_p fr<|q_k (q_p fr<|Ao 0 rfl rfl<|As<|q_p fr<|Aa 0 rr)<|Aa 0 rr)<|q_p fr<|Ao 0 rfl rfl<|q_p fr<|q_k (q_p fr<|Ao 0 rfl rfl<|As<|q_p fr<|q_j (Aa 0 rr)<|q_p fr<|Ao 0 rfl rfl<|q_p fr<|q_k (q_p fr<|Ao 0 rfl rfl<|As<|q_p fr<|Aa 0 rr)<|Aa 0 rr)<|q_p fr<|Ao 0 rfl rfl<|q_p fr<|q_k (q_p fr<|Ao 0 rfl rfl<|As<|q_p fr<|Aa 0 rr)<|Aa 0 rr
   ·intro s3
    refine q_i ?_ ?_
    ·exact Aj 0 rr
    ·refine AM (A:=fun (s:Bool)=>[.bool s]) (B:=fun s=>[bx b1 [iW a1.Kind,iW a1.View,iW a1.From,iW a1.Slot,iW a1.Value,.rsl k1 false (a1.Certs.map (Enc.cs k1)),.rsl k1 false (a1.Refs.map (Enc.cs k1))]]) ?_ ?_ ?_ ?_
     ·exact q_p fr<|Ao 0 rfl rfl<|AB (aF1 (Ab rfl) fun l0_=>aM (by omega) a1.View)<|q_p fr<|q_j (Aa 0 rr)<|q_p fr<|Ao 0 rfl rfl<|AB (aF2 (Ab rfl) (Ab rfl) fun l0_ l1_=>aO (by omega) a0 a1.From)<|q_p fr<|q_j (Aa 0 rr)<|q_k (q_p fr<|Ao 0 rfl rfl<|AB (aF1 (Ab rfl) fun l0_=>aL (by omega) a1.Slot)<|q_p fr<|q_j (Aa 0 rr)<|q_p fr<|Ao 0 rfl rfl<|AB (aF1 (Ab rfl) fun l0_=>aK (by omega) a1.Value)<|q_p fr<|Aa 0 rr)<|Aa 0 rr
     ·intro s5
      refine q_i ?_ ?_
      ·exact Aj 0 rr
      ·refine q_p fr<|Ao 0 rfl rfl<|As<|q_p fr<|q_j ?_ ?_
       ·first | refine Ct ?_ | skip
        exact Aj 0 rr
       ·exact q_p fr<|Ao 0 rfl rfl<|As<|AB (aF1 (Ab rfl) fun l0_=>Xv (by omega) a0)<|q_p fr<|q_i (Aj 0 rr)<|Aa 0 rr
     ·exact fun i2 s5=>q_n (Aa 0 rr)<|Am 0 rr
     ·exact fun s5=>Aj 0 rr
   ·exact fun i1 s3=>q_n (Aa 0 rr)<|Am 0 rr
   ·exact fun s3=>Aj 0 rr
  ·intro s6
   refine q_p fr<|Ao 0 rfl rfl<|As<|AU (A:=fun (s:Int×Int)=>[iW s.1,iW s.2]) (B:=fun s=>[bx b1 [iW a1.Kind,iW a1.View,iW a1.From,iW a1.Slot,iW a1.Value,.rsl k1 false (a1.Certs.map (Enc.cs k1)),.rsl k1 false (a1.Refs.map (Enc.cs k1))]]) 0 rr ?_ ?_ ?_
   ·intro s7
    unfold TM F5
    refine q_p fr<|q_i ?_ ?_
    ·refine AM (A:=fun (s:Int)=>[iW s]) (B:=fun s=>[bx b1 [iW a1.Kind,iW a1.View,iW a1.From,iW a1.Slot,iW a1.Value,.rsl k1 false (a1.Certs.map (Enc.cs k1)),.rsl k1 false (a1.Refs.map (Enc.cs k1))]]) ?_ ?_ ?_ ?_
     ·refine A9 rfl fun x1 hx1=>q_p fr<|Bc rfl fun b2=>Bb 0 rfl rfl rfl (by decide) rfl<|q_p fr<|q_k ?_ ?_
      ·exact q_p fr<|Ao 0 rfl rfl<|q_p fr<|Ao 1 rfl rfl<|q_p fr<|A9 rfl fun x2 hx2=>q_p fr<|q_p fr<|q_p fr<|q_i (Aj 1 rr)<|Aa 1 rr
      ·first | refine DN ?_ | skip
       exact Aa 1 rr
     ·exact fun s9=>q_p fr<|Aa 0 rr
     ·exact fun i4 s9=>Am 0 rr
     ·exact fun s9=>Aj 0 rr
    ·exact Am 0 rr
   ·intro i5 s10
    refine q_n ?_ ?_
    ·refine q_p fr<|Ao 0 rfl rfl<|As<|AU (A:=fun (s:Int×Int)=>[iW s.1,iW s.2]) (B:=fun s=>[bx b1 [iW a1.Kind,iW a1.View,iW a1.From,iW a1.Slot,iW a1.Value,.rsl k1 false (a1.Certs.map (Enc.cs k1)),.rsl k1 false (a1.Refs.map (Enc.cs k1))]]) 0 rr ?_ ?_ ?_
     ·intro s11
      unfold TL F4
      refine q_p fr<|q_i ?_ ?_
      ·refine AM (A:=fun (s:Int)=>[iW s]) (B:=fun s=>[bx b1 [iW a1.Kind,iW a1.View,iW a1.From,iW a1.Slot,iW a1.Value,.rsl k1 false (a1.Certs.map (Enc.cs k1)),.rsl k1 false (a1.Refs.map (Enc.cs k1))]]) ?_ ?_ ?_ ?_
       ·refine A9 rfl fun x3 hx3=>q_p fr<|q_p fr<|q_k ?_ ?_
        ·exact q_p fr<|Ao 0 rfl rfl<|q_p fr<|A9 rfl fun x4 hx4=>q_p fr<|q_p fr<|q_i (Aj 0 rr)<|Aa 0 rr
        ·first | refine DN ?_ | skip
         exact Aa 0 rr
       ·exact fun s13=>q_p fr<|Aa 0 rr
       ·exact fun i6 s13=>Am 0 rr
       ·exact fun s13=>Aj 0 rr
      ·exact Am 0 rr
     ·exact fun i7 s14=>q_n (q_p fr<|Ao 0 rfl rfl<|A7 (aF2 A5 (DK (Ag (BI 0 rfl (Au (l0:=k1) (x:=a1))) Az)) fun l0_ l1_=>eK (Dc:=3) (by omega) l0_ a1.Certs (fun l=>.fn 174 [.rp l (Enc.cs l a1)]) (fun l=>DK (Ag (Bs (Au (l0:=l) (x:=a1)) (fun _ _ _ h=>Enc.frz _ a1 _ _ _ h)) Az)) (fun x0_=>MI x0_ a1) (fun d hd l q0_ x0_ S t ht=>(Rw _ _ _ _).trans (C9 (E:=(fun (t:Bool)=>AV.bool t)) (mg:=MI x0_ a1) (KW (M:=fun a=>Fit (R NN d 174 a []) _ _) (AZ (Au (l0:=q0_) (x:=x0_))) (Bs (Au (l0:=l) (x:=a1)) (fun _ _ _ h=>Enc.frz _ a1 _ _ _ h)) HP.nil fun u0_ v0_=>w174 hd u0_ x0_ v0_ a1) ht)) l1_) fun y1 hy1=>q_i (Ad (Ab rfl) rfl)<|q_p fr<|Ao 0 rfl rfl<|A7 (aF2 A5 (DK Az) fun l0_ l1_=>eJ (Dc:=2) (by omega) l0_ a1.Refs (fun l=>.fn 176 []) (fun l=>DK Az) (fun x0_=>some (Od x0_)) (fun d hd l x0_ S t ht=>(Ru _ _ _ _).trans (C9 (E:=(fun (t:Bool)=>AV.bool t)) (mg:=some (Od x0_)) (WZ (M:=fun a=>Fit (R NN d 176 a []) _ _) (Ab rfl) HP.nil fun u0_=>w176 hd x0_) ht)) l1_) fun y2 hy2=>q_i (Ad (Ab rfl) rfl)<|Ad (Ab rfl) rfl)<|Ap
     ·exact fun s14=>Ad (Ab rfl) rfl
    ·exact Ap
   ·exact fun s10=>Ad (Ab rfl) rfl
  ·exact fun i3 s6=>Ap
  ·exact fun s6=>Ad (Ab rfl) rfl
def Gv (a0:Int) (a1:List Ah) (s1:Int×Int):Option (LO (Int×Int)):=bif decide (s1.2 < (a1.length:Int)) then (Al a1 s1.2).bind fun x1=>(V7 a0 x1).bind fun y1=>bif y1 != 0 then some (LO.ret (y1,s1.2)) else (QV x1 s1.2).bind fun y2=>bif !y2 then some (LO.ret (4,s1.2)) else (CU a1 0 s1.2).bind fun ys1=>(QU ys1 x1).bind fun y3=>bif decide (y3 ≥ 0) then some (LO.ret (6,s1.2)) else some (LO.norm (s1.1,wi .i64 (s1.2 + 1))) else some (LO.exit 1 (s1.1,s1.2))
def VN (a0:Int) (a1:List Ah):Option (Int):=bif !(XY a0) then some 3 else bif decide ((a1.length:Int) > 240) then some 2 else (Ar (Gv a0 a1) NN (0,0)).bind (Ac (fun _=>none) (fun i1 s2=>if i1 = 1 then some 0 else none) (fun s2=>some s2.1))
theorem w106 {d:Nat} (hd:7≤d) (a0:Int) (k1:Bool) (a1:List Ah):Fit (R NN d 106 [iW a0,.rsl k1 false (a1.map (Enc.cs k1))] []) (VN a0 a1) PI:=by
  obtain ⟨d,rfl,g⟩:=up hd
  refine Ay (t106 NN d _ _) ?_
  unfold o8 VN
  refine AB (aF1 (Ab rfl) fun l0_=>w141 (by omega) a0)<|q_p fr<|q_i ?_ ?_
  ·exact Ad (Ab rfl) rfl
  ·refine As<|q_p fr<|q_i ?_ ?_
   ·exact Ad (Ab rfl) rfl
   ·refine As<|AU (A:=fun (s:Int×Int)=>[iW s.1,iW s.2]) (B:=fun s=>[]) 0 rr ?_ ?_ ?_
    ·intro s1
     unfold Ub Gv
     exact q_p fr<|q_i (A9 rfl fun x1 hx1=>q_p fr<|Bc rfl fun b1=>Bb 0 rfl rfl rfl (by decide) rfl<|AX 0 rfl rfl rfl<|A7 (aF2 (Ab rfl) (AZ (Au (l0:=k1) (x:=x1))) fun l0_ l1_=>w142 (by omega) a0 l1_ x1) fun y1 hy1=>q_p fr<|q_i (Aj 1 rr)<|AX 0 rfl rfl rfl<|A7 (aF2 (AZ (Au (l0:=k1) (x:=x1))) (Ab rfl) fun l0_ l1_=>eT (by omega) l0_ x1 s1.2) fun y2 hy2=>q_p fr<|q_i (Aj 1 rr)<|Mq rfl (.inr ⟨rfl,rfl⟩) (.inl rfl) fun fl1 ys1 hys1=>AX 0 rfl rfl rfl<|A7 (aF2 A5 (AZ (Au (l0:=k1) (x:=x1))) fun l0_ l1_=>eS (by omega) l0_ ys1 l1_ x1) fun y3 hy3=>q_p fr<|q_i (Aj 1 rr)<|q_p fr<|Aa 1 rr)<|Am 0 rr
    ·exact fun i1 s2=>q_n (Ad (Ab rfl) rfl)<|Ap
    ·exact fun s2=>Ad (Ab rfl) rfl
def E0 (a0:Int) (a1:List Int) (s1:Int×Int):Option (LO (Int×Int)):=bif decide (s1.2 < (a1.length:Int)) then ( (Al a1 s1.2).bind fun x1=>bif !(QT a0 x1) then some (LO.ret 3) else bif decide (s1.2 > 0) then (Al a1 (wi .i64 (s1.2 - 1))).bind fun x2=>bif decide (x1≤x2) then some (LO.ret 1) else some (LO.norm s1.1) else some (LO.norm s1.1)).bind (Ac (fun s3=>some (LO.norm (s3,wi .i64 (s1.2 + 1)))) (fun i1 s3=>some (LO.exit i1 (s3,s1.2))) (fun s3=>some (LO.ret (s3,s1.2)))) else some (LO.exit 0 (s1.1,s1.2))
def VM (a0:Int) (a1:List Int):Option (Int):=(Ar (E0 a0 a1) NN (0,0)).bind (Ac (fun _=>none) (fun i2 s4=>if i2 = 0 then some 0 else none) (fun s4=>some s4.1))
theorem w107 {d:Nat} (hd:3≤d) (a0:Int) (k1:Bool) (a1:List Int):Fit (R NN d 107 [iW a0,.rsl k1 false (a1.map (Enc.cs k1))] []) (VM a0 a1) PI:=by
  obtain ⟨d,rfl,g⟩:=up hd
  refine Ay (t107 NN d _ _) ?_
  unfold o7 VM
  refine As<|AU (A:=fun (s:Int×Int)=>[iW s.1,iW s.2]) (B:=fun s=>[]) 0 rr ?_ ?_ ?_
  ·intro s1
   unfold Ua E0
   refine q_p fr<|q_i ?_ ?_
   ·refine AM (A:=fun (s:Int)=>[iW s]) (B:=fun s=>[]) ?_ ?_ ?_ ?_
    ·refine A9 rfl fun x1 hx1=>q_p fr<|AB (aF2 (Ab rfl) (Ab rfl) fun l0_ l1_=>aO (by omega) a0 x1)<|q_p fr<|q_i ?_ ?_
     ·exact Aj 0 rr
     ·refine q_p fr<|q_k ?_ ?_
      ·exact q_p fr<|A9 rfl fun x2 hx2=>q_p fr<|q_p fr<|q_i (Aj 0 rr)<|Aa 0 rr
      ·first | refine DN ?_ | skip
       exact Aa 0 rr
    ·exact fun s3=>q_p fr<|Aa 0 rr
    ·exact fun i1 s3=>Am 0 rr
    ·exact fun s3=>Aj 0 rr
   ·exact Am 0 rr
  ·exact fun i2 s4=>q_n (Ad (Ab rfl) rfl)<|Ap
  ·exact fun s4=>Ad (Ab rfl) rfl
def HF (a0:Int) (a1:List Int) (s1:Int×(List Int)):Option (LO (Int×(List Int))):=bif decide (s1.1≤(IQ a0)) then ( (Lv a1 s1.1).bind fun y1=>bif !y1 then (Bu 8 s1.2 [s1.1]).bind fun z1=>some (LO.norm z1) else some (LO.norm s1.2)).bind (Ac (fun s3=>some (LO.norm (wi .i64 (s1.1 + 1),s3))) (fun i1 s3=>some (LO.exit i1 (s1.1,s3))) (fun s3=>some (LO.ret (s1.1,s3)))) else some (LO.exit 0 (s1.1,s1.2))
def VK (a0:Int) (a1:List Int):Option ((List Int)):=(Ar (HF a0 a1) NN (1,[])).bind (Ac (fun _=>none) (fun i2 s4=>if i2 = 0 then some s4.2 else none) (fun s4=>some []))
theorem w109 {d:Nat} (hd:3≤d) (a0:Int) (k1:Bool) (a1:List Int):Fit (R NN d 109 [iW a0,.rsl k1 false (a1.map (Enc.cs k1))] []) (VK a0 a1) (P0 (fun (t:List Int)=>AV.rsl false false (t.map (Enc.cs false)))):=by
  obtain ⟨d,rfl,g⟩:=up hd
  refine Ay (t109 NN d _ _) ?_
  unfold oZ VK
  refine q_q (fun _=>Dq)<|Dj (α:=Int) false<|BU (I:=(fun (s:Int×(List Int)) l L=>∃ (v1:AV),l = [v1,iW s.1]∧L = [sl false v1 (s.2:List Int)])) 0 ⟨(.rsl false true []),rfl,rfl⟩ ?_ ?_ ?_
  ·rintro s1 _ _ ⟨v1,rfl,rfl⟩
   unfold TY HF
   refine AB (aF1 (Ab rfl) fun l0_=>Xv (by omega) a0)<|q_p fr<|q_i ?_ ?_
   ·refine FH (I:=(fun (s:(List Int)) l L=>∃ (v2:AV),l = [v2]∧L = [sl false v2 (s:List Int)])) ?_ ?_ ?_ ?_
    ·exact A7 (aF2 A5 (Ab rfl) fun l0_ l1_=>aN (by omega) l0_ a1 s1.1) fun y1 hy1=>q_p fr<|q_i (q_q (fun _=>EF)<|CX (ys:=[s1.1]) 0 rfl rfl (fun _ _=>rfl) fun v2 z1 hz1=>Aa 0 ⟨v2,rfl,rfl⟩)<|Aa 0 ⟨v1,rfl,rfl⟩
    ·rintro s3 _ _ ⟨v3,rfl,rfl⟩
     exact q_p fr<|Aa 0 ⟨v3,rfl,rfl⟩
    ·rintro i1 s3 _ _ ⟨v4,rfl,rfl⟩
     exact Am 0 ⟨v4,rfl,rfl⟩
    ·rintro s3 _ _ ⟨v5,rfl,rfl⟩
     exact Aj 0 ⟨v5,rfl,rfl⟩
   ·exact Am 0 ⟨v1,rfl,rfl⟩
  ·rintro i2 s4 _ _ ⟨v6,rfl,rfl⟩
   exact q_n (Ad (IT 0 rfl) rfl)<|Ap
  ·rintro s4 _ _ ⟨v7,rfl,rfl⟩
   exact Ad (A5 (α:=Int) (l0:=false) (fl:=true) (xs:=[])) rfl
def HB (a0:Int) (a1:List Ah) (a2:Int) (s1:Int×(List Int)):Option (LO (Int×(List Int))):=bif decide (s1.1 < (a1.length:Int)) then ( (Al a1 s1.1).bind fun x1=>( bif x1.Kind == 3 then bif x1.Slot == a2 then (Lv s1.2 x1.Value).bind fun y1=>bif !y1 then (QJ a0 a1 3 x1.View a2 x1.Value).bind fun y2=>some (LO.norm y2) else some (LO.norm false) else some (LO.norm false) else some (LO.norm false)).bind (Ac (fun s4=>bif s4 then (Bu 8 s1.2 [x1.Value]).bind fun z1=>some (LO.norm z1) else some (LO.norm s1.2)) (fun i1 s4=>if i1 = 1 then some (LO.norm s1.2) else some (LO.exit i1 s1.2)) (fun s4=>some (LO.ret s1.2)))).bind (Ac (fun s5=>some (LO.norm (wi .i64 (s1.1 + 1),s5))) (fun i2 s5=>some (LO.exit i2 (s1.1,s5))) (fun s5=>some (LO.ret (s1.1,s5)))) else some (LO.exit 0 (s1.1,s1.2))
def V6 (a0:Int) (a1:List Ah) (a2:Int):Option ((List Int)):=(Ar (HB a0 a1 a2) NN (0,[])).bind (Ac (fun _=>none) (fun i3 s6=>if i3 = 0 then (MH s6.2).bind fun y3=>some y3 else none) (fun s6=>some []))
theorem w148 {d:Nat} (hd:139≤d) (a0:Int) (k1:Bool) (a1:List Ah) (a2:Int):Fit (R NN d 148 [iW a0,.rsl k1 false (a1.map (Enc.cs k1)),iW a2] []) (V6 a0 a1 a2) (P0 (fun (t:List Int)=>AV.rsl false false (t.map (Enc.cs false)))):=by
  obtain ⟨d,rfl,g⟩:=up hd
  refine Ay (t148 NN d _ _ _) ?_
  unfold nI V6
  refine q_q (fun _=>Dq)<|As<|Dj (α:=Int) false<|BU (I:=(fun (s:Int×(List Int)) l L=>∃ (v1:AV),l = [v1,iW s.1]∧L = [sl false v1 (s.2:List Int)])) 0 ⟨(.rsl false true []),rfl,rfl⟩ ?_ ?_ ?_
  ·rintro s1 _ _ ⟨v1,rfl,rfl⟩
   unfold TK HB
   refine q_p fr<|q_i ?_ ?_
   ·refine FH (I:=(fun (s:(List Int)) l L=>∃ (v2:AV),l = [v2]∧L = [sl false v2 (s:List Int)])) ?_ ?_ ?_ ?_
    ·refine A9 rfl fun x1 hx1=>q_p fr<|Bc rfl fun b1=>Bb 0 rfl rfl rfl (by decide) rfl<|AM (A:=fun (s:Bool)=>[.bool s]) (B:=fun s=>[bx b1 [iW x1.Kind,iW x1.View,iW x1.From,iW x1.Slot,iW x1.Value,.rsl k1 false (x1.Certs.map (Enc.cs k1)),.rsl k1 false (x1.Refs.map (Enc.cs k1))],sl false v1 (s1.2:List Int)]) ?_ ?_ ?_ ?_
     ·exact q_p fr<|Ao 0 rfl rfl<|q_p fr<|q_k (q_p fr<|Ao 0 rfl rfl<|q_p fr<|q_k (q_p fr<|Ao 0 rfl rfl<|A7 (aF2 (IT 1 rfl) (Ab rfl) fun l0_ l1_=>aN (by omega) l0_ s1.2 x1.Value) fun y1 hy1=>q_p fr<|q_k (q_p fr<|Ao 0 rfl rfl<|q_p fr<|Ao 0 rfl rfl<|A7 (fun S hS=>ZU (Ab rfl) A5 (Ab rfl) (Ab rfl) (Ab rfl) (Ab rfl) hS fun l0_ l1_ l2_ l3_ l4_ l5_=>eH (by omega) a0 l1_ a1 3 x1.View a2 x1.Value) fun y2 hy2=>Aa 0 rr)<|Aa 0 rr)<|Aa 0 rr)<|Aa 0 rr
     ·exact fun s4=>q_i (q_p fr<|Ao 0 rfl rfl<|q_q (fun _=>EF)<|CX (ys:=[x1.Value]) 1 rfl rfl (fun _ _=>rfl) fun v2 z1 hz1=>Aa 1 ⟨v2,rfl,rfl⟩)<|Aa 1 ⟨v1,rfl,rfl⟩
     ·exact fun i1 s4=>q_n (Aa 1 ⟨v1,rfl,rfl⟩)<|Am 1 ⟨v1,rfl,rfl⟩
     ·exact fun s4=>Aj 1 ⟨v1,rfl,rfl⟩
    ·rintro s5 _ _ ⟨v3,rfl,rfl⟩
     exact q_p fr<|Aa 0 ⟨v3,rfl,rfl⟩
    ·rintro i2 s5 _ _ ⟨v4,rfl,rfl⟩
     exact Am 0 ⟨v4,rfl,rfl⟩
    ·rintro s5 _ _ ⟨v5,rfl,rfl⟩
     exact Aj 0 ⟨v5,rfl,rfl⟩
   ·exact Am 0 ⟨v1,rfl,rfl⟩
  ·rintro i3 s6 _ _ ⟨v6,rfl,rfl⟩
   exact q_n (q_s (mg:=MH s6.2) (eG (by omega) _ _ s6.2) fun y3 hy3=>Ad (IT 0 rfl) rfl)<|Ap
  ·rintro s6 _ _ ⟨v7,rfl,rfl⟩
   exact Ad (A5 (α:=Int) (l0:=false) (fl:=true) (xs:=[])) rfl
def HE (a0:Int) (a1:List Ah) (s1:Int×(List Int)):Option (LO (Int×(List Int))):=bif decide (s1.1≤30) then (V6 a0 a1 s1.1).bind fun y1=>bif (y1.length:Int) == 0 then some (LO.exit 0 (s1.1,s1.2)) else (Al y1 0).bind fun x1=>(Bu 8 s1.2 [x1]).bind fun z1=>some (LO.norm (wi .i64 (s1.1 + 1),z1)) else some (LO.exit 0 (s1.1,s1.2))
def VJ (a0:Int) (a1:List Ah):Option ((List Int)):=(Ar (HE a0 a1) NN (1,[])).bind (Ac (fun _=>none) (fun i1 s2=>if i1 = 0 then some s2.2 else none) (fun s2=>some []))
theorem w110 {d:Nat} (hd:140≤d) (a0:Int) (k1:Bool) (a1:List Ah):Fit (R NN d 110 [iW a0,.rsl k1 false (a1.map (Enc.cs k1))] []) (VJ a0 a1) (P0 (fun (t:List Int)=>AV.rsl false false (t.map (Enc.cs false)))):=by
  obtain ⟨d,rfl,g⟩:=up hd
  refine Ay (t110 NN d _ _) ?_
  unfold oY VJ
  refine q_q (fun _=>Dq)<|Dj (α:=Int) false<|BU (I:=(fun (s:Int×(List Int)) l L=>∃ (v1:AV),l = [v1,iW s.1]∧L = [sl false v1 (s.2:List Int)])) 0 ⟨(.rsl false true []),rfl,rfl⟩ ?_ ?_ ?_
  ·rintro s1 _ _ ⟨v1,rfl,rfl⟩
   unfold TX HE
   exact q_p fr<|q_i (A7 (aF3 (Ab rfl) A5 (Ab rfl) fun l0_ l1_ l2_=>w148 (by omega) a0 l1_ a1 s1.1) fun y1 hy1=>As<|q_p fr<|q_i (Am 0 ⟨v1,rfl,rfl⟩)<|A9 rfl fun x1 hx1=>q_p fr<|q_q (fun _=>EF)<|CX (ys:=[x1]) 0 rfl rfl (fun _ _=>rfl) fun v2 z1 hz1=>q_p fr<|Aa 0 ⟨v2,rfl,rfl⟩)<|Am 0 ⟨v1,rfl,rfl⟩
  ·rintro i1 s2 _ _ ⟨v3,rfl,rfl⟩
   exact q_n (Ad (IT 0 rfl) rfl)<|Ap
  ·rintro s2 _ _ ⟨v4,rfl,rfl⟩
   exact Ad (A5 (α:=Int) (l0:=false) (fl:=true) (xs:=[])) rfl
def VI (a0:Int) (a1:List Ah) (a2:Ak) (a3:Int):Option (Int):=( ( bif !(QT a0 a2.Id) then some (LO.norm true) else bif !(QS a2.View) then some (LO.norm true) else some (LO.norm (!(CE a2.Done 0 30)))).bind (Ac (fun s3=>bif s3 then some (LO.ret 3) else ( bif a2.Start != (-1) then bif a2.View == 0 then some (LO.norm true) else (Rb a0 a1 a2.Start).bind fun y1=>bif !y1 then some (LO.norm true) else (Al a1 a2.Start).bind fun x1=>some (LO.norm (x1.View != a2.View)) else some (LO.norm false)).bind (Ac (fun s5=>bif s5 then some (LO.ret 1) else bif decide (a2.Done > a3) then some (LO.ret 8) else some (LO.norm 0)) (fun i2 s5=>if i2 = 0 then some (LO.norm 0) else some (LO.exit i2 0)) (fun s5=>some (LO.ret 0)))) (fun i1 s3=>if i1 = 0 then some (LO.norm 0) else some (LO.exit i1 0)) (fun s3=>some (LO.ret 0)))).bind (Ac (fun s6=>some 0) (fun i3 s6=>none) (fun s6=>some s6))
theorem w111 {d:Nat} (hd:145≤d) (a0:Int) (k1:Bool) (a1:List Ah) (k2:Bool) (a2:Ak) (a3:Int):Fit (R NN d 111 [iW a0,.rsl k1 false (a1.map (Enc.cs k1)),.agg (Enc.cs k2 a2),iW a3] []) (VI a0 a1 a2 a3) PI:=by
  obtain ⟨d,rfl,g⟩:=up hd
  refine Ay (t111 NN d _ _ _ _) ?_
  unfold oW VI
  refine AL (n:=4) rfl rfl (by decide) fun b1=>AM (A:=fun (s:Int)=>[iW s]) (B:=fun s=>[bx b1 [iW a2.Id,iW a2.View,iW a2.Start,iW a2.Done]]) ?_ ?_ ?_ ?_
  ·refine AM (A:=fun (s:Bool)=>[.bool s]) (B:=fun s=>[bx b1 [iW a2.Id,iW a2.View,iW a2.Start,iW a2.Done]]) ?_ ?_ ?_ ?_
   ·exact q_p fr<|Ao 0 rfl rfl<|AB (aF2 (Ab rfl) (Ab rfl) fun l0_ l1_=>aO (by omega) a0 a2.Id)<|q_p fr<|q_j (Aa 0 rr)<|q_p fr<|Ao 0 rfl rfl<|AB (aF1 (Ab rfl) fun l0_=>aM (by omega) a2.View)<|q_p fr<|q_j (Aa 0 rr)<|q_p fr<|Ao 0 rfl rfl<|AB (aF3 (Ab rfl) (Ab rfl) (Ab rfl) fun l0_ l1_ l2_=>EK (by omega) a2.Done 0 30)<|q_p fr<|Aa 0 rr
   ·intro s3
    refine q_i ?_ ?_
    ·exact Aj 0 rr
    ·refine AM (A:=fun (s:Bool)=>[.bool s]) (B:=fun s=>[bx b1 [iW a2.Id,iW a2.View,iW a2.Start,iW a2.Done]]) ?_ ?_ ?_ ?_
     ·exact q_p fr<|Ao 0 rfl rfl<|q_p fr<|q_k (q_p fr<|Ao 0 rfl rfl<|q_p fr<|q_j (Aa 0 rr)<|q_p fr<|Ao 0 rfl rfl<|A7 (aF3 (Ab rfl) A5 (Ab rfl) fun l0_ l1_ l2_=>eX (by omega) a0 l1_ a1 a2.Start) fun y1 hy1=>q_p fr<|q_j (Aa 0 rr)<|q_p fr<|Ao 0 rfl rfl<|A9 rfl fun x1 hx1=>q_p fr<|q_p fr<|q_p fr<|Ao 0 rfl rfl<|q_p fr<|Aa 0 rr)<|Aa 0 rr
     ·exact fun s5=>q_i (Aj 0 rr)<|q_p fr<|Ao 0 rfl rfl<|q_p fr<|q_i (Aj 0 rr)<|Aa 0 rr
     ·exact fun i2 s5=>q_n (Aa 0 rr)<|Am 0 rr
     ·exact fun s5=>Aj 0 rr
   ·exact fun i1 s3=>q_n (Aa 0 rr)<|Am 0 rr
   ·exact fun s3=>Aj 0 rr
  ·exact fun s6=>Ad (Ab rfl) rfl
  ·exact fun i3 s6=>Ap
  ·exact fun s6=>Ad (Ab rfl) rfl
def XX (a0:Int):Bool:=(CE a0 1 9)
theorem w150 {d:Nat} (hd:2≤d) (a0:Int):Fit (R NN d 150 [iW a0] []) (some (XX a0)) PB:=by
  obtain ⟨d,rfl,g⟩:=up hd
  refine Ay (t150 NN d _) ?_
  unfold nG XX
  exact AB (aF3 (Ab rfl) (Ab rfl) (Ab rfl) fun l0_ l1_ l2_=>EK (by omega) a0 1 9)<|Ad (Ab rfl) rfl
def XW (a0:Int):Bool:=(CE a0 0 9000)
theorem w151 {d:Nat} (hd:2≤d) (a0:Int):Fit (R NN d 151 [iW a0] []) (some (XW a0)) PB:=by
  obtain ⟨d,rfl,g⟩:=up hd
  refine Ay (t151 NN d _) ?_
  unfold nF XW
  exact AB (aF3 (Ab rfl) (Ab rfl) (Ab rfl) fun l0_ l1_ l2_=>EK (by omega) a0 0 9000)<|Ad (Ab rfl) rfl
def A4 (a0:Int):Str×Str:=bif a0 == 1 then (([111,112,101,110]:Str),([]:Str)) else bif a0 == 2 then (([99,108,111,115,101]:Str),([]:Str)) else bif a0 == 3 then (([99,114,101,97,116,101]:Str),([112,100,115,111]:Str)) else bif a0 == 4 then (([100,101,108,101,116,101]:Str),([112,118]:Str)) else bif a0 == 5 then (([115,101,116]:Str),([112,100,118]:Str)) else bif a0 == 6 then (([103,101,116]:Str),([112]:Str)) else bif a0 == 7 then (([107,105,100,115]:Str),([112]:Str)) else bif a0 == 8 then (([99,104,101,99,107]:Str),([112,118]:Str)) else (([]:Str),([]:Str))
theorem w184 {d:Nat} (hd:1≤d) (a0:Int):Fit (R NN d 184 [iW a0] []) (some (A4 a0)) (P0 (fun (t:Str×Str)=>AV.tup [Bo t.1,Bo t.2])):=by
  obtain ⟨d,rfl,g⟩:=up hd
  refine Ay (t184 NN d _) ?_
  unfold lX A4
  exact q_p fr<|Ce (fun h8=>Ad (DR (Ag (Ab rfl) (Ag (Ab rfl) Az))) rfl) fun h8=>q_p fr<|Ce (fun h7=>Ad (DR (Ag (Ab rfl) (Ag (Ab rfl) Az))) rfl) fun h7=>q_p fr<|Ce (fun h6=>Ad (DR (Ag (Ab rfl) (Ag (Ab rfl) Az))) rfl) fun h6=>q_p fr<|Ce (fun h5=>Ad (DR (Ag (Ab rfl) (Ag (Ab rfl) Az))) rfl) fun h5=>q_p fr<|Ce (fun h4=>Ad (DR (Ag (Ab rfl) (Ag (Ab rfl) Az))) rfl) fun h4=>q_p fr<|Ce (fun h3=>Ad (DR (Ag (Ab rfl) (Ag (Ab rfl) Az))) rfl) fun h3=>q_p fr<|Ce (fun h2=>Ad (DR (Ag (Ab rfl) (Ag (Ab rfl) Az))) rfl) fun h2=>q_p fr<|Ce (fun h1=>Ad (DR (Ag (Ab rfl) (Ag (Ab rfl) Az))) rfl) fun h1=>Ad (DR (Ag (Ab rfl) (Ag (Ab rfl) Az))) rfl
def Vq (a0 a1:Str):Option Int:=match a1 with
  | [c]=>some (Lib.indexByte a0 c:Int)
  | _=>none
theorem eD {d:Nat} (hd:1≤d) (a0 a1:Str):Fit (R NN d 201 [Bo a0,Bo a1] []) (Vq a0 a1) PI:=by
  obtain ⟨d,rfl,g⟩:=up hd
  rw [t201]
  intro t ht
  unfold Vq at ht
  split at ht
  · injection ht with ht
    subst ht
    exact ⟨_,rfl,rfl⟩
  · cases ht
def cD (a0:Str) (a1:Str):Option (Bool):=(Vq a0 a1).bind fun y1=>some (decide (y1 ≥ 0))
theorem w186 {d:Nat} (hd:2≤d) (a0:Str) (a1:Str):Fit (R NN d 186 [Bo a0,Bo a1] []) (cD a0 a1) PB:=by
  obtain ⟨d,rfl,g⟩:=up hd
  refine Ay (t186 NN d _ _) ?_
  unfold lV cD
  exact A7 (aF2 (Ab rfl) (Ab rfl) fun l0_ l1_=>eD (by omega) a0 a1) fun y1 hy1=>q_p fr<|Ad (Ab rfl) rfl
def AN (a0:Str) (a1:Str):Option (Bool):=(cD a1 a0).bind fun y1=>some (!y1)
theorem CO {d:Nat} (hd:3≤d) (a0:Str) (k1:Bool) (a1:Str):Fit (R NN d 185 [Bo a0,.rp k1 (Enc.cs k1 a1)] []) (AN a0 a1) PB:=by
  obtain ⟨d,rfl,g⟩:=up hd
  refine Ay (t185 NN d _ _) ?_
  unfold lW AN
  exact q_p fr<|A7 (aF2 (Ab rfl) (Ab rfl) fun l0_ l1_=>w186 (by omega) a1 a0) fun y1 hy1=>q_p fr<|Ad (Ab rfl) rfl
def QH (a0 a1:Str):Option Int:=match a1 with
  | [c]=>some (Lib.countByte a0 c:Int)
  | _=>none
theorem eC {d:Nat} (hd:1≤d) (a0 a1:Str):Fit (R NN d 202 [Bo a0,Bo a1] []) (QH a0 a1) PI:=by
  obtain ⟨d,rfl,g⟩:=up hd
  rw [t202]
  intro t ht
  unfold QH at ht
  split at ht
  · injection ht with ht
    subst ht
    exact ⟨_,rfl,rfl⟩
  · cases ht
def Ja (a0:Str) (a1:Str) (a2:Int) (s2:Int) (s3:Str×Int×(List Str)):Option (LO (Str×Int×(List Str))):=bif decide (s3.2.1 < (wi .i64 ((Q8 s2 (wi .i64 ((a0.length:Int) + 1))) - 1))) then (Vq s3.1 a1).bind fun y2=>bif decide (y2 < 0) then some (LO.exit 0 (s3.1,s3.2.1,s3.2.2)) else (CU s3.1 0 (wi .i64 (y2 + a2))).bind fun t1=>(Al s3.2.2 s3.2.1).bind fun x1=>(CU s3.1 (wi .i64 (y2 + (a1.length:Int))) (s3.1.length:Int)).bind fun t2=>some (LO.norm (t2,wi .i64 (s3.2.1 + 1),s3.2.2.set (Int.toNat s3.2.1) t1)) else some (LO.exit 0 (s3.1,s3.2.1,s3.2.2))
def XR (a0:Str) (a1:Str) (a2:Int) (a3:Int):Option ((List Str)):=bif a3 == 0 then some [] else bif a1 == ([]:Str) then none else ( bif decide (a3 < 0) then (QH a0 a1).bind fun y1=>some (LO.norm (wi .i64 (y1 + 1))) else some (LO.norm a3)).bind (Ac (fun s2=>(mkO 16 (Q8 s2 (wi .i64 ((a0.length:Int) + 1))) []).bind fun z1=>(Ar (Ja a0 a1 a2 s2) NN (a0,0,z1)).bind (Ac (fun _=>none) (fun i2 s4=>if i2 = 0 then (Al s4.2.2 s4.2.1).bind fun x2=>(CU (s4.2.2.set (Int.toNat s4.2.1) s4.1) 0 (wi .i64 (s4.2.1 + 1))).bind fun ys1=>some ys1 else none) (fun s4=>some []))) (fun i1 s2=>none) (fun s2=>some []))
theorem w220 {d:Nat} (hd:2≤d) (a0:Str) (a1:Str) (a2:Int) (a3:Int):Fit (R NN d 220 [Bo a0,Bo a1,iW a2,iW a3] []) (XR a0 a1 a2 a3) (P0 (fun (t:List Str)=>AV.rsl false false (t.map (Enc.cs false)))):=by
  obtain ⟨d,rfl,g⟩:=up hd
  refine Ay (t220 NN d _ _ _ _) ?_
  unfold kV XR
  refine q_p fr<|q_i ?_ ?_
  ·exact Ad (A5 (α:=Str) (l0:=false) (fl:=true) (xs:=[])) rfl
  ·refine q_p (fun _=>Lh)<|q_i ?_ ?_
   ·exact Ap
   ·refine AM (A:=fun (s:Int)=>[iW s]) (B:=fun s=>[]) ?_ ?_ ?_ ?_
    ·exact q_p fr<|q_i (A7 (aF2 (Ab rfl) (Ab rfl) fun l0_ l1_=>eC (by omega) a0 a1) fun y1 hy1=>q_p fr<|Aa 0 rr)<|Aa 0 rr
    ·intro s2
     refine Eg<|q_p fr<|q_p (fun _=>pN)<|Ur (z:=[]) gW fun v1 z1 hz1=>q_p fr<|AU (A:=fun (s:Str×Int×(List Str))=>[Bo s.1,iW s.2.1]) (B:=fun s=>[sl false v1 (s.2.2:List Str)]) 0 rr ?_ ?_ ?_
     ·intro s3
      unfold SR Ja
      exact q_p fr<|q_i (A7 (aF2 (Ab rfl) (Ab rfl) fun l0_ l1_=>eD (by omega) s3.1 a1) fun y2 hy2=>q_p fr<|q_i (Am 0 rr)<|q_p fr<|Ll (.inr ⟨rfl,rfl⟩) (.inl rfl) fun t1 ht1=>AC 0 rfl rfl fun x1 hx1=>Bi (y:=t1) 0 rfl rfl hx1 rfl (by decide)<|Eg<|q_p fr<|Ll (.inl rfl) (.inr ⟨rfl,rfl⟩) fun t2 ht2=>q_p fr<|Aa 0 rr)<|Am 0 rr
     ·exact fun i2 s4=>q_n (AC 0 rfl rfl fun x2 hx2=>Bi (y:=s4.1) 0 rfl rfl hx2 rfl (by decide)<|q_p fr<|Uv rfl (.inr ⟨rfl,rfl⟩) (.inl rfl) fun ys1 hys1=>Ad (WI 0 rfl) rfl)<|Ap
     ·exact fun s4=>Ad (A5 (α:=Str) (l0:=false) (fl:=true) (xs:=[])) rfl
    ·exact fun i1 s2=>Ap
    ·exact fun s2=>Ad (A5 (α:=Str) (l0:=false) (fl:=true) (xs:=[])) rfl
def Vp (a0:Str) (a1:Str):Option ((List Str)):=(XR a0 a1 0 (-1)).bind fun y1=>some y1
theorem w203 {d:Nat} (hd:3≤d) (a0:Str) (a1:Str):Fit (R NN d 203 [Bo a0,Bo a1] []) (Vp a0 a1) (P0 (fun (t:List Str)=>AV.rsl false false (t.map (Enc.cs false)))):=by
  obtain ⟨d,rfl,g⟩:=up hd
  refine Ay (t203 NN d _ _) ?_
  unfold lH Vp
  exact A7 (fun S hS=>EB (Ab rfl) (Ab rfl) (Ab rfl) (Ab rfl) hS fun l0_ l1_ l2_ l3_=>w220 (by omega) a0 a1 0 (-1)) fun y1 hy1=>Ad A5 rfl
def OS (a0:Str) (s1:Bool×Int):Option (LO (Bool×Int)):=bif decide (s1.2 < (a0.length:Int)) then ( ( (Al a0 s1.2).bind fun c1=>bif decide ((c1.toNat:Int) < 97) then (Al a0 s1.2).bind fun c5=>bif decide ((c5.toNat:Int) < 48) then some (LO.norm true) else (Al a0 s1.2).bind fun c6=>some (LO.norm (decide ((c6.toNat:Int) > 57))) else (Al a0 s1.2).bind fun c2=>bif decide ((c2.toNat:Int) > 122) then (Al a0 s1.2).bind fun c3=>bif decide ((c3.toNat:Int) < 48) then some (LO.norm true) else (Al a0 s1.2).bind fun c4=>some (LO.norm (decide ((c4.toNat:Int) > 57))) else some (LO.norm false)).bind (Ac (fun s4=>bif s4 then some (LO.ret false) else some (LO.norm s1.1)) (fun i1 s4=>if i1 = 1 then some (LO.norm s1.1) else some (LO.exit i1 s1.1)) (fun s4=>some (LO.ret s1.1)))).bind (Ac (fun s5=>some (LO.norm (s5,wi .i64 (s1.2 + 1)))) (fun i2 s5=>some (LO.exit i2 (s5,s1.2))) (fun s5=>some (LO.ret (s5,s1.2)))) else some (LO.exit 0 (s1.1,s1.2))
def Vo (a0:Str):Option (Bool):=(Ar (OS a0) NN (false,0)).bind (Ac (fun _=>none) (fun i3 s6=>if i3 = 0 then some (CE (a0.length:Int) 1 8) else none) (fun s6=>some s6.1))
theorem w204 {d:Nat} (hd:2≤d) (a0:Str):Fit (R NN d 204 [Bo a0] []) (Vo a0) PB:=by
  obtain ⟨d,rfl,g⟩:=up hd
  refine Ay (t204 NN d _) ?_
  unfold lG Vo
  refine Eg<|AU (A:=fun (s:Bool×Int)=>[.bool s.1,iW s.2]) (B:=fun s=>[]) 0 rr ?_ ?_ ?_
  ·intro s1
   unfold Tp OS
   refine q_p fr<|q_i ?_ ?_
   ·refine AM (A:=fun (s:Bool)=>[.bool s]) (B:=fun s=>[]) ?_ ?_ ?_ ?_
    ·refine AM (A:=fun (s:Bool)=>[.bool s]) (B:=fun s=>[]) ?_ ?_ ?_ ?_
     ·exact Hj fun c1 hc1=>q_p fr<|q_j (Hj fun c5 hc5=>q_p fr<|q_j (Aa 0 rr)<|Hj fun c6 hc6=>q_p fr<|Aa 0 rr)<|Hj fun c2 hc2=>q_p fr<|q_k (Hj fun c3 hc3=>q_p fr<|q_j (Aa 0 rr)<|Hj fun c4 hc4=>q_p fr<|Aa 0 rr)<|Aa 0 rr
     ·exact fun s4=>q_i (Aj 0 rr)<|Aa 0 rr
     ·exact fun i1 s4=>q_n (Aa 0 rr)<|Am 0 rr
     ·exact fun s4=>Aj 0 rr
    ·exact fun s5=>q_p fr<|Aa 0 rr
    ·exact fun i2 s5=>Am 0 rr
    ·exact fun s5=>Aj 0 rr
   ·exact Am 0 rr
  ·exact fun i3 s6=>q_n (Eg<|AB (aF3 (Ab rfl) (Ab rfl) (Ab rfl) fun l0_ l1_ l2_=>EK (by omega) (a0.length:Int) 1 8)<|Ad (Ab rfl) rfl)<|Ap
  ·exact fun s6=>Ad (Ab rfl) rfl
def Gp (ys1:List Str) (s5:Int×Int):Option (LO (Int×Int)):=bif decide (s5.2 < (ys1.length:Int)) then (Al ys1 s5.2).bind fun x2=>(Vo x2).bind fun y3=>bif !y3 then some (LO.ret (5,s5.2)) else some (LO.norm (s5.1,wi .i64 (s5.2 + 1))) else some (LO.exit 0 (s5.1,s5.2))
def QI (a0:Str):Option (Int):=( bif decide ((a0.length:Int) > 24) then some (LO.ret 2) else (QH a0 ([47]:Str)).bind fun y1=>bif decide (y1 > 4) then some (LO.ret 2) else some (LO.norm 0)).bind (Ac (fun s2=>bif a0 == ([47]:Str) then some 0 else (Vp a0 ([47]:Str)).bind fun y2=>( bif decide ((y2.length:Int) < 2) then some (LO.ret 5) else (Al y2 0).bind fun x1=>bif !(x1 == ([]:Str)) then some (LO.ret 5) else some (LO.norm s2)).bind (Ac (fun s4=>(CU y2 1 (y2.length:Int)).bind fun ys1=>(Ar (Gp ys1) NN (s4,0)).bind (Ac (fun _=>none) (fun i3 s6=>if i3 = 0 then some 0 else none) (fun s6=>some s6.1))) (fun i2 s4=>none) (fun s4=>some s4))) (fun i1 s2=>none) (fun s2=>some s2))
theorem w187 {d:Nat} (hd:4≤d) (a0:Str):Fit (R NN d 187 [Bo a0] []) (QI a0) PI:=by
  obtain ⟨d,rfl,g⟩:=up hd
  refine Ay (t187 NN d _) ?_
  unfold lU QI
  refine AM (A:=fun (s:Int)=>[iW s]) (B:=fun s=>[]) ?_ ?_ ?_ ?_
  ·refine Eg<|q_p fr<|q_j ?_ ?_
   ·first | refine Ct ?_ | skip
    exact Aj 0 rr
   ·exact A7 (aF2 (Ab rfl) (Ab rfl) fun l0_ l1_=>eC (by omega) a0 ([47]:Str)) fun y1 hy1=>q_p fr<|q_i (Aj 0 rr)<|Aa 0 rr
  ·intro s2
   refine q_p (fun _=>Lh)<|q_i ?_ ?_
   ·exact Ad (Ab rfl) rfl
   ·refine A7 (aF2 (Ab rfl) (Ab rfl) fun l0_ l1_=>w203 (by omega) a0 ([47]:Str)) fun y2 hy2=>AM (A:=fun (s:Int)=>[iW s]) (B:=fun s=>[]) ?_ ?_ ?_ ?_
    ·refine As<|q_p fr<|q_j ?_ ?_
     ·first | refine Ct ?_ | skip
      exact Aj 0 rr
     ·exact A9 rfl fun x1 hx1=>q_p fr<|q_p (fun _=>Gi)<|q_i (Aj 0 rr)<|Aa 0 rr
    ·intro s4
     refine Mq rfl (.inl rfl) (.inr ⟨rfl,rfl⟩) fun fl1 ys1 hys1=>As<|AU (A:=fun (s:Int×Int)=>[iW s.1,iW s.2]) (B:=fun s=>[]) 0 rr ?_ ?_ ?_
     ·intro s5
      unfold Tz Gp
      exact q_p fr<|q_i (A9 rfl fun x2 hx2=>q_p fr<|A7 (aF1 (Ab rfl) fun l0_=>w204 (by omega) x2) fun y3 hy3=>q_p fr<|q_i (Aj 0 rr)<|q_p fr<|Aa 0 rr)<|Am 0 rr
     ·exact fun i3 s6=>q_n (Ad (Ab rfl) rfl)<|Ap
     ·exact fun s6=>Ad (Ab rfl) rfl
    ·exact fun i2 s4=>Ap
    ·exact fun s4=>Ad (Ab rfl) rfl
  ·exact fun i1 s2=>Ap
  ·exact fun s2=>Ad (Ab rfl) rfl
def Vw (a0:Int):Bool:=(CE a0 0 9999)
theorem w188 {d:Nat} (hd:2≤d) (a0:Int):Fit (R NN d 188 [iW a0] []) (some (Vw a0)) PB:=by
  obtain ⟨d,rfl,g⟩:=up hd
  refine Ay (t188 NN d _) ?_
  unfold lT Vw
  exact AB (aF3 (Ab rfl) (Ab rfl) (Ab rfl) fun l0_ l1_ l2_=>EK (by omega) a0 0 9999)<|Ad (Ab rfl) rfl
def MM (a0:TOp):Option (Int):=( ( bif !(CE a0.Kind 1 8) then some (LO.norm true) else (AN ([112]:Str) ((A4 a0.Kind).2)).bind fun y1=>bif y1 then bif !(a0.Path == ([]:Str)) then some (LO.norm true) else (AN ([100]:Str) ((A4 a0.Kind).2)).bind fun y2=>bif y2 then bif a0.Data != 0 then some (LO.norm true) else (AN ([118]:Str) ((A4 a0.Kind).2)).bind fun y3=>bif y3 then bif a0.Version != 0 then some (LO.norm true) else (AN ([115]:Str) ((A4 a0.Kind).2)).bind fun y4=>bif y4 then bif a0.Seq then some (LO.norm true) else (AN ([111]:Str) ((A4 a0.Kind).2)).bind fun y5=>bif y5 then some (LO.norm a0.Own) else some (LO.norm false) else (AN ([111]:Str) ((A4 a0.Kind).2)).bind fun y6=>bif y6 then some (LO.norm a0.Own) else some (LO.norm false) else (AN ([115]:Str) ((A4 a0.Kind).2)).bind fun y7=>bif y7 then bif a0.Seq then some (LO.norm true) else (AN ([111]:Str) ((A4 a0.Kind).2)).bind fun y8=>bif y8 then some (LO.norm a0.Own) else some (LO.norm false) else (AN ([111]:Str) ((A4 a0.Kind).2)).bind fun y9=>bif y9 then some (LO.norm a0.Own) else some (LO.norm false) else (AN ([118]:Str) ((A4 a0.Kind).2)).bind fun y10=>bif y10 then bif a0.Version != 0 then some (LO.norm true) else (AN ([115]:Str) ((A4 a0.Kind).2)).bind fun y11=>bif y11 then bif a0.Seq then some (LO.norm true) else (AN ([111]:Str) ((A4 a0.Kind).2)).bind fun y12=>bif y12 then some (LO.norm a0.Own) else some (LO.norm false) else (AN ([111]:Str) ((A4 a0.Kind).2)).bind fun y13=>bif y13 then some (LO.norm a0.Own) else some (LO.norm false) else (AN ([115]:Str) ((A4 a0.Kind).2)).bind fun y14=>bif y14 then bif a0.Seq then some (LO.norm true) else (AN ([111]:Str) ((A4 a0.Kind).2)).bind fun y15=>bif y15 then some (LO.norm a0.Own) else some (LO.norm false) else (AN ([111]:Str) ((A4 a0.Kind).2)).bind fun y16=>bif y16 then some (LO.norm a0.Own) else some (LO.norm false) else (AN ([100]:Str) ((A4 a0.Kind).2)).bind fun y17=>bif y17 then bif a0.Data != 0 then some (LO.norm true) else (AN ([118]:Str) ((A4 a0.Kind).2)).bind fun y18=>bif y18 then bif a0.Version != 0 then some (LO.norm true) else (AN ([115]:Str) ((A4 a0.Kind).2)).bind fun y19=>bif y19 then bif a0.Seq then some (LO.norm true) else (AN ([111]:Str) ((A4 a0.Kind).2)).bind fun y20=>bif y20 then some (LO.norm a0.Own) else some (LO.norm false) else (AN ([111]:Str) ((A4 a0.Kind).2)).bind fun y21=>bif y21 then some (LO.norm a0.Own) else some (LO.norm false) else (AN ([115]:Str) ((A4 a0.Kind).2)).bind fun y22=>bif y22 then bif a0.Seq then some (LO.norm true) else (AN ([111]:Str) ((A4 a0.Kind).2)).bind fun y23=>bif y23 then some (LO.norm a0.Own) else some (LO.norm false) else (AN ([111]:Str) ((A4 a0.Kind).2)).bind fun y24=>bif y24 then some (LO.norm a0.Own) else some (LO.norm false) else (AN ([118]:Str) ((A4 a0.Kind).2)).bind fun y25=>bif y25 then bif a0.Version != 0 then some (LO.norm true) else (AN ([115]:Str) ((A4 a0.Kind).2)).bind fun y26=>bif y26 then bif a0.Seq then some (LO.norm true) else (AN ([111]:Str) ((A4 a0.Kind).2)).bind fun y27=>bif y27 then some (LO.norm a0.Own) else some (LO.norm false) else (AN ([111]:Str) ((A4 a0.Kind).2)).bind fun y28=>bif y28 then some (LO.norm a0.Own) else some (LO.norm false) else (AN ([115]:Str) ((A4 a0.Kind).2)).bind fun y29=>bif y29 then bif a0.Seq then some (LO.norm true) else (AN ([111]:Str) ((A4 a0.Kind).2)).bind fun y30=>bif y30 then some (LO.norm a0.Own) else some (LO.norm false) else (AN ([111]:Str) ((A4 a0.Kind).2)).bind fun y31=>bif y31 then some (LO.norm a0.Own) else some (LO.norm false)).bind (Ac (fun s3=>bif s3 then some (LO.ret 1) else (AN ([112]:Str) ((A4 a0.Kind).2)).bind fun y32=>bif y32 then some (LO.ret 0) else some (LO.norm 0)) (fun i1 s3=>if i1 = 0 then some (LO.norm 0) else some (LO.exit i1 0)) (fun s3=>some (LO.ret 0)))).bind (Ac (fun s4=>(QI a0.Path).bind fun y33=>bif y33 != 0 then some y33 else ( bif !(Vw a0.Data) then some (LO.ret 3) else bif !(CE a0.Version (-1) 999) then some (LO.ret 3) else some (LO.norm s4)).bind (Ac (fun s6=>some 0) (fun i3 s6=>none) (fun s6=>some s6))) (fun i2 s4=>none) (fun s4=>some s4))
theorem w152 {d:Nat} (hd:5≤d) (k0:Bool) (a0:TOp):Fit (R NN d 152 [.agg (Enc.cs k0 a0)] []) (MM a0) PI:=by
  obtain ⟨d,rfl,g⟩:=up hd
  refine Ay (t152 NN d _) ?_
  unfold nE MM
  refine AL (n:=6) rfl rfl (by decide) fun b1=>q_p fr<|Ao 0 rfl rfl<|AB (aF1 (Ab rfl) fun l0_=>w184 (by omega) a0.Kind)<|q_q fr<|q_q fr<|Bc rfl fun b2=>Bb 0 rfl rfl rfl (by decide) rfl<|AM (A:=fun (s:Int)=>[iW s]) (B:=fun s=>[bx b2 [Bo ((A4 a0.Kind).2)],bx b1 [iW a0.Kind,Bo a0.Path,iW a0.Data,iW a0.Version,.bool a0.Seq,.bool a0.Own]]) ?_ ?_ ?_ ?_
  ·refine AM (A:=fun (s:Bool)=>[.bool s]) (B:=fun s=>[bx b2 [Bo ((A4 a0.Kind).2)],bx b1 [iW a0.Kind,Bo a0.Path,iW a0.Data,iW a0.Version,.bool a0.Seq,.bool a0.Own]]) ?_ ?_ ?_ ?_
   ·exact q_p fr<|Ao 1 rfl rfl<|AB (aF3 (Ab rfl) (Ab rfl) (Ab rfl) fun l0_ l1_ l2_=>EK (by omega) a0.Kind 1 8)<|q_p fr<|q_j (Aa 0 rr)<|CW (mg:=AN ([112]:Str) ((A4 a0.Kind).2)) (E:=(fun (t:Bool)=>AV.bool t)) (fun S=>AI _ _ _ _) (aF2 (Ab rfl) (BI 0 rfl (Au (l0:=false) (x:=(A4 a0.Kind).2))) fun l0_ l1_=>CO (by omega) ([112]:Str) l1_ ((A4 a0.Kind).2)) fun y1 hy1=>q_k (q_p fr<|Ao 1 rfl rfl<|q_p (fun _=>Gi)<|q_j (Aa 0 rr)<|CW (mg:=AN ([100]:Str) ((A4 a0.Kind).2)) (E:=(fun (t:Bool)=>AV.bool t)) (fun S=>AI _ _ _ _) (aF2 (Ab rfl) (BI 0 rfl (Au (l0:=false) (x:=(A4 a0.Kind).2))) fun l0_ l1_=>CO (by omega) ([100]:Str) l1_ ((A4 a0.Kind).2)) fun y2 hy2=>q_k (q_p fr<|Ao 1 rfl rfl<|q_p fr<|q_j (Aa 0 rr)<|CW (mg:=AN ([118]:Str) ((A4 a0.Kind).2)) (E:=(fun (t:Bool)=>AV.bool t)) (fun S=>AI _ _ _ _) (aF2 (Ab rfl) (BI 0 rfl (Au (l0:=false) (x:=(A4 a0.Kind).2))) fun l0_ l1_=>CO (by omega) ([118]:Str) l1_ ((A4 a0.Kind).2)) fun y3 hy3=>q_k (q_p fr<|Ao 1 rfl rfl<|q_p fr<|q_j (Aa 0 rr)<|CW (mg:=AN ([115]:Str) ((A4 a0.Kind).2)) (E:=(fun (t:Bool)=>AV.bool t)) (fun S=>AI _ _ _ _) (aF2 (Ab rfl) (BI 0 rfl (Au (l0:=false) (x:=(A4 a0.Kind).2))) fun l0_ l1_=>CO (by omega) ([115]:Str) l1_ ((A4 a0.Kind).2)) fun y4 hy4=>q_k (q_p fr<|Ao 1 rfl rfl<|q_j (Aa 0 rr)<|CW (mg:=AN ([111]:Str) ((A4 a0.Kind).2)) (E:=(fun (t:Bool)=>AV.bool t)) (fun S=>AI _ _ _ _) (aF2 (Ab rfl) (BI 0 rfl (Au (l0:=false) (x:=(A4 a0.Kind).2))) fun l0_ l1_=>CO (by omega) ([111]:Str) l1_ ((A4 a0.Kind).2)) fun y5 hy5=>q_k (q_p fr<|Ao 1 rfl rfl<|Aa 0 rr)<|Aa 0 rr)<|CW (mg:=AN ([111]:Str) ((A4 a0.Kind).2)) (E:=(fun (t:Bool)=>AV.bool t)) (fun S=>AI _ _ _ _) (aF2 (Ab rfl) (BI 0 rfl (Au (l0:=false) (x:=(A4 a0.Kind).2))) fun l0_ l1_=>CO (by omega) ([111]:Str) l1_ ((A4 a0.Kind).2)) fun y6 hy6=>q_k (q_p fr<|Ao 1 rfl rfl<|Aa 0 rr)<|Aa 0 rr)<|CW (mg:=AN ([115]:Str) ((A4 a0.Kind).2)) (E:=(fun (t:Bool)=>AV.bool t)) (fun S=>AI _ _ _ _) (aF2 (Ab rfl) (BI 0 rfl (Au (l0:=false) (x:=(A4 a0.Kind).2))) fun l0_ l1_=>CO (by omega) ([115]:Str) l1_ ((A4 a0.Kind).2)) fun y7 hy7=>q_k (q_p fr<|Ao 1 rfl rfl<|q_j (Aa 0 rr)<|CW (mg:=AN ([111]:Str) ((A4 a0.Kind).2)) (E:=(fun (t:Bool)=>AV.bool t)) (fun S=>AI _ _ _ _) (aF2 (Ab rfl) (BI 0 rfl (Au (l0:=false) (x:=(A4 a0.Kind).2))) fun l0_ l1_=>CO (by omega) ([111]:Str) l1_ ((A4 a0.Kind).2)) fun y8 hy8=>q_k (q_p fr<|Ao 1 rfl rfl<|Aa 0 rr)<|Aa 0 rr)<|CW (mg:=AN ([111]:Str) ((A4 a0.Kind).2)) (E:=(fun (t:Bool)=>AV.bool t)) (fun S=>AI _ _ _ _) (aF2 (Ab rfl) (BI 0 rfl (Au (l0:=false) (x:=(A4 a0.Kind).2))) fun l0_ l1_=>CO (by omega) ([111]:Str) l1_ ((A4 a0.Kind).2)) fun y9 hy9=>q_k (q_p fr<|Ao 1 rfl rfl<|Aa 0 rr)<|Aa 0 rr)<|CW (mg:=AN ([118]:Str) ((A4 a0.Kind).2)) (E:=(fun (t:Bool)=>AV.bool t)) (fun S=>AI _ _ _ _) (aF2 (Ab rfl) (BI 0 rfl (Au (l0:=false) (x:=(A4 a0.Kind).2))) fun l0_ l1_=>CO (by omega) ([118]:Str) l1_ ((A4 a0.Kind).2)) fun y10 hy10=>q_k (q_p fr<|Ao 1 rfl rfl<|q_p fr<|q_j (Aa 0 rr)<|CW (mg:=AN ([115]:Str) ((A4 a0.Kind).2)) (E:=(fun (t:Bool)=>AV.bool t)) (fun S=>AI _ _ _ _) (aF2 (Ab rfl) (BI 0 rfl (Au (l0:=false) (x:=(A4 a0.Kind).2))) fun l0_ l1_=>CO (by omega) ([115]:Str) l1_ ((A4 a0.Kind).2)) fun y11 hy11=>q_k (q_p fr<|Ao 1 rfl rfl<|q_j (Aa 0 rr)<|CW (mg:=AN ([111]:Str) ((A4 a0.Kind).2)) (E:=(fun (t:Bool)=>AV.bool t)) (fun S=>AI _ _ _ _) (aF2 (Ab rfl) (BI 0 rfl (Au (l0:=false) (x:=(A4 a0.Kind).2))) fun l0_ l1_=>CO (by omega) ([111]:Str) l1_ ((A4 a0.Kind).2)) fun y12 hy12=>q_k (q_p fr<|Ao 1 rfl rfl<|Aa 0 rr)<|Aa 0 rr)<|CW (mg:=AN ([111]:Str) ((A4 a0.Kind).2)) (E:=(fun (t:Bool)=>AV.bool t)) (fun S=>AI _ _ _ _) (aF2 (Ab rfl) (BI 0 rfl (Au (l0:=false) (x:=(A4 a0.Kind).2))) fun l0_ l1_=>CO (by omega) ([111]:Str) l1_ ((A4 a0.Kind).2)) fun y13 hy13=>q_k (q_p fr<|Ao 1 rfl rfl<|Aa 0 rr)<|Aa 0 rr)<|CW (mg:=AN ([115]:Str) ((A4 a0.Kind).2)) (E:=(fun (t:Bool)=>AV.bool t)) (fun S=>AI _ _ _ _) (aF2 (Ab rfl) (BI 0 rfl (Au (l0:=false) (x:=(A4 a0.Kind).2))) fun l0_ l1_=>CO (by omega) ([115]:Str) l1_ ((A4 a0.Kind).2)) fun y14 hy14=>q_k (q_p fr<|Ao 1 rfl rfl<|q_j (Aa 0 rr)<|CW (mg:=AN ([111]:Str) ((A4 a0.Kind).2)) (E:=(fun (t:Bool)=>AV.bool t)) (fun S=>AI _ _ _ _) (aF2 (Ab rfl) (BI 0 rfl (Au (l0:=false) (x:=(A4 a0.Kind).2))) fun l0_ l1_=>CO (by omega) ([111]:Str) l1_ ((A4 a0.Kind).2)) fun y15 hy15=>q_k (q_p fr<|Ao 1 rfl rfl<|Aa 0 rr)<|Aa 0 rr)<|CW (mg:=AN ([111]:Str) ((A4 a0.Kind).2)) (E:=(fun (t:Bool)=>AV.bool t)) (fun S=>AI _ _ _ _) (aF2 (Ab rfl) (BI 0 rfl (Au (l0:=false) (x:=(A4 a0.Kind).2))) fun l0_ l1_=>CO (by omega) ([111]:Str) l1_ ((A4 a0.Kind).2)) fun y16 hy16=>q_k (q_p fr<|Ao 1 rfl rfl<|Aa 0 rr)<|Aa 0 rr)<|CW (mg:=AN ([100]:Str) ((A4 a0.Kind).2)) (E:=(fun (t:Bool)=>AV.bool t)) (fun S=>AI _ _ _ _) (aF2 (Ab rfl) (BI 0 rfl (Au (l0:=false) (x:=(A4 a0.Kind).2))) fun l0_ l1_=>CO (by omega) ([100]:Str) l1_ ((A4 a0.Kind).2)) fun y17 hy17=>q_k (q_p fr<|Ao 1 rfl rfl<|q_p fr<|q_j (Aa 0 rr)<|CW (mg:=AN ([118]:Str) ((A4 a0.Kind).2)) (E:=(fun (t:Bool)=>AV.bool t)) (fun S=>AI _ _ _ _) (aF2 (Ab rfl) (BI 0 rfl (Au (l0:=false) (x:=(A4 a0.Kind).2))) fun l0_ l1_=>CO (by omega) ([118]:Str) l1_ ((A4 a0.Kind).2)) fun y18 hy18=>q_k (q_p fr<|Ao 1 rfl rfl<|q_p fr<|q_j (Aa 0 rr)<|CW (mg:=AN ([115]:Str) ((A4 a0.Kind).2)) (E:=(fun (t:Bool)=>AV.bool t)) (fun S=>AI _ _ _ _) (aF2 (Ab rfl) (BI 0 rfl (Au (l0:=false) (x:=(A4 a0.Kind).2))) fun l0_ l1_=>CO (by omega) ([115]:Str) l1_ ((A4 a0.Kind).2)) fun y19 hy19=>q_k (q_p fr<|Ao 1 rfl rfl<|q_j (Aa 0 rr)<|CW (mg:=AN ([111]:Str) ((A4 a0.Kind).2)) (E:=(fun (t:Bool)=>AV.bool t)) (fun S=>AI _ _ _ _) (aF2 (Ab rfl) (BI 0 rfl (Au (l0:=false) (x:=(A4 a0.Kind).2))) fun l0_ l1_=>CO (by omega) ([111]:Str) l1_ ((A4 a0.Kind).2)) fun y20 hy20=>q_k (q_p fr<|Ao 1 rfl rfl<|Aa 0 rr)<|Aa 0 rr)<|CW (mg:=AN ([111]:Str) ((A4 a0.Kind).2)) (E:=(fun (t:Bool)=>AV.bool t)) (fun S=>AI _ _ _ _) (aF2 (Ab rfl) (BI 0 rfl (Au (l0:=false) (x:=(A4 a0.Kind).2))) fun l0_ l1_=>CO (by omega) ([111]:Str) l1_ ((A4 a0.Kind).2)) fun y21 hy21=>q_k (q_p fr<|Ao 1 rfl rfl<|Aa 0 rr)<|Aa 0 rr)<|CW (mg:=AN ([115]:Str) ((A4 a0.Kind).2)) (E:=(fun (t:Bool)=>AV.bool t)) (fun S=>AI _ _ _ _) (aF2 (Ab rfl) (BI 0 rfl (Au (l0:=false) (x:=(A4 a0.Kind).2))) fun l0_ l1_=>CO (by omega) ([115]:Str) l1_ ((A4 a0.Kind).2)) fun y22 hy22=>q_k (q_p fr<|Ao 1 rfl rfl<|q_j (Aa 0 rr)<|CW (mg:=AN ([111]:Str) ((A4 a0.Kind).2)) (E:=(fun (t:Bool)=>AV.bool t)) (fun S=>AI _ _ _ _) (aF2 (Ab rfl) (BI 0 rfl (Au (l0:=false) (x:=(A4 a0.Kind).2))) fun l0_ l1_=>CO (by omega) ([111]:Str) l1_ ((A4 a0.Kind).2)) fun y23 hy23=>q_k (q_p fr<|Ao 1 rfl rfl<|Aa 0 rr)<|Aa 0 rr)<|CW (mg:=AN ([111]:Str) ((A4 a0.Kind).2)) (E:=(fun (t:Bool)=>AV.bool t)) (fun S=>AI _ _ _ _) (aF2 (Ab rfl) (BI 0 rfl (Au (l0:=false) (x:=(A4 a0.Kind).2))) fun l0_ l1_=>CO (by omega) ([111]:Str) l1_ ((A4 a0.Kind).2)) fun y24 hy24=>q_k (q_p fr<|Ao 1 rfl rfl<|Aa 0 rr)<|Aa 0 rr)<|CW (mg:=AN ([118]:Str) ((A4 a0.Kind).2)) (E:=(fun (t:Bool)=>AV.bool t)) (fun S=>AI _ _ _ _) (aF2 (Ab rfl) (BI 0 rfl (Au (l0:=false) (x:=(A4 a0.Kind).2))) fun l0_ l1_=>CO (by omega) ([118]:Str) l1_ ((A4 a0.Kind).2)) fun y25 hy25=>q_k (q_p fr<|Ao 1 rfl rfl<|q_p fr<|q_j (Aa 0 rr)<|CW (mg:=AN ([115]:Str) ((A4 a0.Kind).2)) (E:=(fun (t:Bool)=>AV.bool t)) (fun S=>AI _ _ _ _) (aF2 (Ab rfl) (BI 0 rfl (Au (l0:=false) (x:=(A4 a0.Kind).2))) fun l0_ l1_=>CO (by omega) ([115]:Str) l1_ ((A4 a0.Kind).2)) fun y26 hy26=>q_k (q_p fr<|Ao 1 rfl rfl<|q_j (Aa 0 rr)<|CW (mg:=AN ([111]:Str) ((A4 a0.Kind).2)) (E:=(fun (t:Bool)=>AV.bool t)) (fun S=>AI _ _ _ _) (aF2 (Ab rfl) (BI 0 rfl (Au (l0:=false) (x:=(A4 a0.Kind).2))) fun l0_ l1_=>CO (by omega) ([111]:Str) l1_ ((A4 a0.Kind).2)) fun y27 hy27=>q_k (q_p fr<|Ao 1 rfl rfl<|Aa 0 rr)<|Aa 0 rr)<|CW (mg:=AN ([111]:Str) ((A4 a0.Kind).2)) (E:=(fun (t:Bool)=>AV.bool t)) (fun S=>AI _ _ _ _) (aF2 (Ab rfl) (BI 0 rfl (Au (l0:=false) (x:=(A4 a0.Kind).2))) fun l0_ l1_=>CO (by omega) ([111]:Str) l1_ ((A4 a0.Kind).2)) fun y28 hy28=>q_k (q_p fr<|Ao 1 rfl rfl<|Aa 0 rr)<|Aa 0 rr)<|CW (mg:=AN ([115]:Str) ((A4 a0.Kind).2)) (E:=(fun (t:Bool)=>AV.bool t)) (fun S=>AI _ _ _ _) (aF2 (Ab rfl) (BI 0 rfl (Au (l0:=false) (x:=(A4 a0.Kind).2))) fun l0_ l1_=>CO (by omega) ([115]:Str) l1_ ((A4 a0.Kind).2)) fun y29 hy29=>q_k (q_p fr<|Ao 1 rfl rfl<|q_j (Aa 0 rr)<|CW (mg:=AN ([111]:Str) ((A4 a0.Kind).2)) (E:=(fun (t:Bool)=>AV.bool t)) (fun S=>AI _ _ _ _) (aF2 (Ab rfl) (BI 0 rfl (Au (l0:=false) (x:=(A4 a0.Kind).2))) fun l0_ l1_=>CO (by omega) ([111]:Str) l1_ ((A4 a0.Kind).2)) fun y30 hy30=>q_k (q_p fr<|Ao 1 rfl rfl<|Aa 0 rr)<|Aa 0 rr)<|CW (mg:=AN ([111]:Str) ((A4 a0.Kind).2)) (E:=(fun (t:Bool)=>AV.bool t)) (fun S=>AI _ _ _ _) (aF2 (Ab rfl) (BI 0 rfl (Au (l0:=false) (x:=(A4 a0.Kind).2))) fun l0_ l1_=>CO (by omega) ([111]:Str) l1_ ((A4 a0.Kind).2)) fun y31 hy31=>q_k (q_p fr<|Ao 1 rfl rfl<|Aa 0 rr)<|Aa 0 rr
   ·exact fun s3=>q_i (Aj 0 rr)<|CW (mg:=AN ([112]:Str) ((A4 a0.Kind).2)) (E:=(fun (t:Bool)=>AV.bool t)) (fun S=>AI _ _ _ _) (aF2 (Ab rfl) (BI 0 rfl (Au (l0:=false) (x:=(A4 a0.Kind).2))) fun l0_ l1_=>CO (by omega) ([112]:Str) l1_ ((A4 a0.Kind).2)) fun y32 hy32=>q_i (Aj 0 rr)<|Aa 0 rr
   ·exact fun i1 s3=>q_n (Aa 0 rr)<|Am 0 rr
   ·exact fun s3=>Aj 0 rr
  ·intro s4
   refine q_p fr<|Ao 1 rfl rfl<|A7 (aF1 (Ab rfl) fun l0_=>w187 (by omega) a0.Path) fun y33 hy33=>q_p fr<|q_i ?_ ?_
   ·exact Ad (Ab rfl) rfl
   ·refine AM (A:=fun (s:Int)=>[iW s]) (B:=fun s=>[bx b2 [Bo ((A4 a0.Kind).2)],bx b1 [iW a0.Kind,Bo a0.Path,iW a0.Data,iW a0.Version,.bool a0.Seq,.bool a0.Own]]) ?_ ?_ ?_ ?_
    ·refine q_p fr<|Ao 1 rfl rfl<|AB (aF1 (Ab rfl) fun l0_=>w188 (by omega) a0.Data)<|q_p fr<|q_j ?_ ?_
     ·first | refine Ct ?_ | skip
      exact Aj 0 rr
     ·exact q_p fr<|Ao 1 rfl rfl<|AB (aF3 (Ab rfl) (Ab rfl) (Ab rfl) fun l0_ l1_ l2_=>EK (by omega) a0.Version (-1) 999)<|q_p fr<|q_i (Aj 0 rr)<|Aa 0 rr
    ·exact fun s6=>Ad (Ab rfl) rfl
    ·exact fun i3 s6=>Ap
    ·exact fun s6=>Ad (Ab rfl) rfl
  ·exact fun i2 s4=>Ap
  ·exact fun s4=>Ad (Ab rfl) rfl
def OX (a0:List TOp) (a1:TOp→Option (Bool)) (s1:Int×Int):Option (LO (Int×Int)):=bif decide (s1.2 < (a0.length:Int)) then (Al a0 s1.2).bind fun x1=>(a1 x1).bind fun y1=>bif y1 then some (LO.ret (s1.2,s1.2)) else some (LO.norm (s1.1,wi .i64 (s1.2 + 1))) else some (LO.exit 0 (s1.1,s1.2))
def cC (a0:List TOp) (a1:TOp→Option (Bool)):Option (Int):=(Ar (OX a0 a1) NN (0,0)).bind (Ac (fun _=>none) (fun i1 s2=>if i1 = 0 then some (-1) else none) (fun s2=>some s2.1))
theorem w189 {Dc:Nat} {d:Nat} (hd:Dc + 1≤d) (k0:Bool) (a0:List TOp) (c1:Bool→AV) (hc1:∀ l,CV 8 [] false (c1 l) c1) (a1:TOp→Option (Bool)) (tc1:∀ (d:Nat),Dc≤d→∀ (l:Bool) (q0:Bool) (x0:TOp) (S:St) (t:Bool),a1 x0 = some t→AQ (cfg NN) (R NN d) 189 (c1 l) [.agg (Enc.cs q0 x0)] S = some ((fun (t:Bool)=>AV.bool t) t,S)) (k1:Bool):Fit (R NN d 189 [.rsl k0 false (a0.map (Enc.cs k0)),c1 k1] []) (cC a0 a1) PI:=by
  obtain ⟨d,rfl,g⟩:=up hd
  refine Ay (t189 NN d _ _) ?_
  unfold lS cC
  refine As<|AU (A:=fun (s:Int×Int)=>[iW s.1,iW s.2]) (B:=fun s=>[]) 0 rr ?_ ?_ ?_
  ·intro s1
   unfold Ty OX
   exact q_p fr<|q_i (A9 rfl fun x1 hx1=>q_p fr<|Qs (mg:=a1 x1) (E:=(fun (t:Bool)=>AV.bool t)) (fun S t ht=>tc1 d (by omega) k1 k0 x1 S t ht) fun y1 hy1=>q_i (Aj 0 rr)<|q_p fr<|Aa 0 rr)<|Am 0 rr
  ·exact fun i1 s2=>q_n (Ad (Ab rfl) rfl)<|Ap
  ·exact fun s2=>Ad (Ab rfl) rfl
def XV (a0:List TOp) (a1:TOp→Option (Bool)):Option (Bool):=(cC a0 a1).bind fun y1=>some (decide (y1 ≥ 0))
theorem w153 {Dc:Nat} {d:Nat} (hd:Dc + 2≤d) (k0:Bool) (a0:List TOp) (c1:Bool→AV) (hc1:∀ l,CV 8 [] false (c1 l) c1) (a1:TOp→Option (Bool)) (tc1:∀ (d:Nat),Dc≤d→∀ (l:Bool) (q0:Bool) (x0:TOp) (S:St) (t:Bool),a1 x0 = some t→AQ (cfg NN) (R NN d) 189 (c1 l) [.agg (Enc.cs q0 x0)] S = some ((fun (t:Bool)=>AV.bool t) t,S)) (k1:Bool):Fit (R NN d 153 [.rsl k0 false (a0.map (Enc.cs k0)),c1 k1] []) (XV a0 a1) PB:=by
  obtain ⟨d,rfl,g⟩:=up hd
  refine Ay (t153 NN d _ _) ?_
  unfold nD XV
  exact A7 (aF2 A5 (CV.any (hc1 k1)) fun l0_ l1_=>w189 (by omega) l0_ a0 c1 hc1 a1 tc1 l1_) fun y1 hy1=>q_p fr<|Ad (Ab rfl) rfl
def Og (a0:TOp):Bool:=bif a0.Kind == 1 then true else a0.Kind == 2
theorem w154 {d:Nat} (hd:1≤d) (k0:Bool) (a0:TOp):Fit (R NN d 154 [.agg (Enc.cs k0 a0)] []) (some (Og a0)) PB:=by
  obtain ⟨d,rfl,g⟩:=up hd
  refine Ay (t154 NN d _) ?_
  unfold nC Og
  exact AL (n:=6) rfl rfl (by decide) fun b1=>q_p fr<|Ao 0 rfl rfl<|q_p fr<|ZD (fun h1=>Ad (Ab rfl) rfl) fun h1=>q_p fr<|Ao 0 rfl rfl<|q_p fr<|Ad (Ab rfl) rfl
def Ez (a0:Af) (s5:Int×Int):Option (LO (Int×Int)):=bif decide (s5.2 < (a0.Ops.length:Int)) then (Al a0.Ops s5.2).bind fun x1=>(MM x1).bind fun y1=>bif y1 != 0 then some (LO.ret (y1,s5.2)) else some (LO.norm (s5.1,wi .i64 (s5.2 + 1))) else some (LO.exit 1 (s5.1,s5.2))
def Rh (a0:Af):Option (Int):=( ( bif !(XX a0.Client) then some (LO.norm true) else bif !(CE a0.Number 1 99) then some (LO.norm true) else some (LO.norm (!(XW a0.Time)))).bind (Ac (fun s3=>bif s3 then some (LO.ret 3) else bif !(CE (a0.Ops.length:Int) 1 3) then some (LO.ret 2) else some (LO.norm 0)) (fun i1 s3=>if i1 = 0 then some (LO.norm 0) else some (LO.exit i1 0)) (fun s3=>some (LO.ret 0)))).bind (Ac (fun s4=>(Ar (Ez a0) NN (s4,0)).bind (Ac (fun _=>none) (fun i3 s6=>if i3 = 1 then ( bif decide ((a0.Ops.length:Int) > 1) then (XV a0.Ops (fun x0_=>some (Og x0_))).bind fun y2=>bif y2 then some (LO.ret 1) else some (LO.norm s6.1) else some (LO.norm s6.1)).bind (Ac (fun s8=>some 0) (fun i4 s8=>none) (fun s8=>some s8)) else none) (fun s6=>some s6.1))) (fun i2 s4=>none) (fun s4=>some s4))
theorem w112 {d:Nat} (hd:8≤d) (k0:Bool) (a0:Af):Fit (R NN d 112 [.agg (Enc.cs k0 a0)] []) (Rh a0) PI:=by
  obtain ⟨d,rfl,g⟩:=up hd
  refine Ay (t112 NN d _) ?_
  unfold oV Rh
  refine AL (n:=4) rfl rfl (by decide) fun b1=>AM (A:=fun (s:Int)=>[iW s]) (B:=fun s=>[bx b1 [iW a0.Client,iW a0.Number,iW a0.Time,.rsl k0 false (a0.Ops.map (Enc.cs k0))]]) ?_ ?_ ?_ ?_
  ·refine AM (A:=fun (s:Bool)=>[.bool s]) (B:=fun s=>[bx b1 [iW a0.Client,iW a0.Number,iW a0.Time,.rsl k0 false (a0.Ops.map (Enc.cs k0))]]) ?_ ?_ ?_ ?_
   ·exact q_p fr<|Ao 0 rfl rfl<|AB (aF1 (Ab rfl) fun l0_=>w150 (by omega) a0.Client)<|q_p fr<|q_j (Aa 0 rr)<|q_p fr<|Ao 0 rfl rfl<|AB (aF3 (Ab rfl) (Ab rfl) (Ab rfl) fun l0_ l1_ l2_=>EK (by omega) a0.Number 1 99)<|q_p fr<|q_j (Aa 0 rr)<|q_p fr<|Ao 0 rfl rfl<|AB (aF1 (Ab rfl) fun l0_=>w151 (by omega) a0.Time)<|q_p fr<|Aa 0 rr
   ·exact fun s3=>q_i (Aj 0 rr)<|q_p fr<|Ao 0 rfl rfl<|As<|AB (aF3 (Ab rfl) (Ab rfl) (Ab rfl) fun l0_ l1_ l2_=>EK (by omega) (a0.Ops.length:Int) 1 3)<|q_p fr<|q_i (Aj 0 rr)<|Aa 0 rr
   ·exact fun i1 s3=>q_n (Aa 0 rr)<|Am 0 rr
   ·exact fun s3=>Aj 0 rr
  ·intro s4
   refine q_p fr<|Ao 0 rfl rfl<|As<|AU (A:=fun (s:Int×Int)=>[iW s.1,iW s.2]) (B:=fun s=>[bx b1 [iW a0.Client,iW a0.Number,iW a0.Time,.rsl k0 false (a0.Ops.map (Enc.cs k0))]]) 0 rr ?_ ?_ ?_
   ·intro s5
    unfold TW Ez
    exact q_p fr<|q_i (A9 rfl fun x1 hx1=>q_p fr<|Bc rfl fun b2=>Bb 0 rfl rfl rfl (by decide) rfl<|AX 0 rfl rfl rfl<|A7 (aF1 (AZ (Au (l0:=false) (x:=x1))) fun l0_=>w152 (by omega) l0_ x1) fun y1 hy1=>q_p fr<|q_i (Aj 1 rr)<|q_p fr<|Aa 1 rr)<|Am 0 rr
   ·intro i3 s6
    refine q_n ?_ ?_
    ·refine AM (A:=fun (s:Int)=>[iW s]) (B:=fun s=>[bx b1 [iW a0.Client,iW a0.Number,iW a0.Time,.rsl k0 false (a0.Ops.map (Enc.cs k0))]]) ?_ ?_ ?_ ?_
     ·refine q_p fr<|Ao 0 rfl rfl<|As<|q_p fr<|q_k ?_ ?_
      ·exact q_p fr<|Ao 0 rfl rfl<|A7 (aF2 A5 (DK Az) fun l0_ l1_=>w153 (Dc:=1) (by omega) l0_ a0.Ops (fun l=>.fn 154 []) (fun l=>DK Az) (fun x0_=>some (Og x0_)) (fun d hd l q0_ x0_ S t ht=>(Rx _ _ _ _).trans (C9 (E:=(fun (t:Bool)=>AV.bool t)) (mg:=some (Og x0_)) (WZ (M:=fun a=>Fit (R NN d 154 a []) _ _) (AZ (Au (l0:=q0_) (x:=x0_))) HP.nil fun u0_=>w154 hd u0_ x0_) ht)) l1_) fun y2 hy2=>q_i (Aj 0 rr)<|Aa 0 rr
      ·first | refine DN ?_ | skip
       exact Aa 0 rr
     ·exact fun s8=>Ad (Ab rfl) rfl
     ·exact fun i4 s8=>Ap
     ·exact fun s8=>Ad (Ab rfl) rfl
    ·exact Ap
   ·exact fun s6=>Ad (Ab rfl) rfl
  ·exact fun i2 s4=>Ap
  ·exact fun s4=>Ad (Ab rfl) rfl
def Pa (a0:List Af) (a1:Af→Option (Bool)) (s1:Int×Int):Option (LO (Int×Int)):=bif decide (s1.2 < (a0.length:Int)) then (Al a0 s1.2).bind fun x1=>(a1 x1).bind fun y1=>bif y1 then some (LO.ret (s1.2,s1.2)) else some (LO.norm (s1.1,wi .i64 (s1.2 + 1))) else some (LO.exit 0 (s1.1,s1.2))
def XU (a0:List Af) (a1:Af→Option (Bool)):Option (Int):=(Ar (Pa a0 a1) NN (0,0)).bind (Ac (fun _=>none) (fun i1 s2=>if i1 = 0 then some (-1) else none) (fun s2=>some s2.1))
theorem w155 {Dc:Nat} {d:Nat} (hd:Dc + 1≤d) (k0:Bool) (a0:List Af) (c1:Bool→AV) (hc1:∀ l,CV 8 [] false (c1 l) c1) (a1:Af→Option (Bool)) (tc1:∀ (d:Nat),Dc≤d→∀ (l:Bool) (q0:Bool) (x0:Af) (S:St) (t:Bool),a1 x0 = some t→AQ (cfg NN) (R NN d) 155 (c1 l) [.agg (Enc.cs q0 x0)] S = some ((fun (t:Bool)=>AV.bool t) t,S)) (k1:Bool):Fit (R NN d 155 [.rsl k0 false (a0.map (Enc.cs k0)),c1 k1] []) (XU a0 a1) PI:=by
  obtain ⟨d,rfl,g⟩:=up hd
  refine Ay (t155 NN d _ _) ?_
  unfold nB XU
  refine As<|AU (A:=fun (s:Int×Int)=>[iW s.1,iW s.2]) (B:=fun s=>[]) 0 rr ?_ ?_ ?_
  ·intro s1
   unfold TJ Pa
   exact q_p fr<|q_i (A9 rfl fun x1 hx1=>q_p fr<|Qs (mg:=a1 x1) (E:=(fun (t:Bool)=>AV.bool t)) (fun S t ht=>tc1 d (by omega) k1 k0 x1 S t ht) fun y1 hy1=>q_i (Aj 0 rr)<|q_p fr<|Aa 0 rr)<|Am 0 rr
  ·exact fun i1 s2=>q_n (Ad (Ab rfl) rfl)<|Ap
  ·exact fun s2=>Ad (Ab rfl) rfl
def Of (a0:Af) (a1:Af):Bool:=bif a0.Client == a1.Client then a0.Number == a1.Number else false
theorem w156 {d:Nat} (hd:1≤d) (k0:Bool) (a0:Af) (k1:Bool) (a1:Af):Fit (R NN d 156 [.agg (Enc.cs k0 a0),.rp k1 (Enc.cs k1 a1)] []) (some (Of a0 a1)) PB:=by
  obtain ⟨d,rfl,g⟩:=up hd
  refine Ay (t156 NN d _ _) ?_
  unfold mZ Of
  exact AL (n:=4) rfl rfl (by decide) fun b1=>q_p fr<|Ao 0 rfl rfl<|q_p fr<|q_p fr<|q_p fr<|Uu (fun h1=>q_p fr<|Ao 0 rfl rfl<|q_p fr<|q_p fr<|q_p fr<|Ad (Ab rfl) rfl) fun h1=>Ad (Ab rfl) rfl
def VH (a0:List Af) (a1:Af):Option (Int):=(XU a0 (fun x0_=>some (Of x0_ a1))).bind fun y1=>some y1
theorem w113 {d:Nat} (hd:3≤d) (k0:Bool) (a0:List Af) (k1:Bool) (a1:Af):Fit (R NN d 113 [.rsl k0 false (a0.map (Enc.cs k0)),.agg (Enc.cs k1 a1)] []) (VH a0 a1) PI:=by
  obtain ⟨d,rfl,g⟩:=up hd
  refine Ay (t113 NN d _ _) ?_
  unfold oU VH
  exact AL (n:=4) rfl rfl (by decide) fun b1=>A7 (aF2 A5 (DK (Ag (BI 0 rfl (Au (l0:=k1) (x:=a1))) Az)) fun l0_ l1_=>w155 (Dc:=1) (by omega) l0_ a0 (fun l=>.fn 156 [.rp l (Enc.cs l a1)]) (fun l=>DK (Ag (Bs (Au (l0:=l) (x:=a1)) (fun _ _ _ h=>Enc.frz _ a1 _ _ _ h)) Az)) (fun x0_=>some (Of x0_ a1)) (fun d hd l q0_ x0_ S t ht=>(R2 _ _ _ _).trans (C9 (E:=(fun (t:Bool)=>AV.bool t)) (mg:=some (Of x0_ a1)) (KW (M:=fun a=>Fit (R NN d 156 a []) _ _) (AZ (Au (l0:=q0_) (x:=x0_))) (Bs (Au (l0:=l) (x:=a1)) (fun _ _ _ h=>Enc.frz _ a1 _ _ _ h)) HP.nil fun u0_ v0_=>w156 hd u0_ x0_ v0_ a1) ht)) l1_) fun y1 hy1=>Ad (Ab rfl) rfl
def Is (a0:Ae) (s3:Int×(List Int)):Option (LO (Int×(List Int))):=bif decide (s3.1 < (a0.Replicas.length:Int)) then (Al a0.Replicas s3.1).bind fun x1=>(Bu 8 s3.2 [x1.Id]).bind fun z1=>some (LO.norm (wi .i64 (s3.1 + 1),z1)) else some (LO.exit 0 (s3.1,s3.2))
def GL (a0:Ae) (y5:(List Int)) (s5:Int×Int):Option (LO (Int×Int)):=bif decide (s5.2 < (a0.Replicas.length:Int)) then (Al a0.Replicas s5.2).bind fun x2=>(VI a0.F a0.Ledger x2 (y5.length:Int)).bind fun y6=>bif y6 != 0 then some (LO.ret (y6,s5.2)) else some (LO.norm (s5.1,wi .i64 (s5.2 + 1))) else some (LO.exit 2 (s5.1,s5.2))
def GK (a0:Ae) (s7:Int×Int):Option (LO (Int×Int)):=bif decide (s7.2 < (a0.Requests.length:Int)) then (Al a0.Requests s7.2).bind fun x3=>(Rh x3).bind fun y7=>bif y7 != 0 then some (LO.ret (y7,s7.2)) else (CU a0.Requests 0 s7.2).bind fun ys1=>(VH ys1 x3).bind fun y8=>bif decide (y8 ≥ 0) then some (LO.ret (6,s7.2)) else some (LO.norm (s7.1,wi .i64 (s7.2 + 1))) else some (LO.exit 4 (s7.1,s7.2))
def m80 (a0:Ae):Option (Int):=(VN a0.F a0.Ledger).bind fun y1=>bif y1 != 0 then some y1 else ( bif decide ((a0.Bad.length:Int) > a0.F) then some (LO.ret 2) else bif decide ((a0.Requests.length:Int) > 12) then some (LO.ret 2) else some (LO.norm 0)).bind (Ac (fun s2=>(VM a0.F a0.Bad).bind fun y2=>bif y2 != 0 then some y2 else (Ar (Is a0) NN (0,[])).bind (Ac (fun _=>none) (fun i2 s4=>if i2 = 0 then (VK a0.F a0.Bad).bind fun y3=>(VL s4.2 y3).bind fun y4=>bif !y4 then some 1 else (VJ a0.F a0.Ledger).bind fun y5=>(Ar (GL a0 y5) NN (s2,0)).bind (Ac (fun _=>none) (fun i3 s6=>if i3 = 2 then (Ar (GK a0) NN (s6.1,0)).bind (Ac (fun _=>none) (fun i4 s8=>if i4 = 4 then some 0 else none) (fun s8=>some s8.1)) else none) (fun s6=>some s6.1)) else none) (fun s4=>some s2))) (fun i1 s2=>none) (fun s2=>some s2))
theorem w80 {d:Nat} (hd:146≤d) (k0:Bool) (a0:Ae):Fit (R NN d 80 [.agg (Enc.cs k0 a0)] []) (m80 a0) PI:=by
  obtain ⟨d,rfl,g⟩:=up hd
  refine Ay (t80 NN d _) ?_
  unfold b80 m80
  refine AL (n:=5) rfl rfl (by decide) fun b1=>q_p fr<|Ao 0 rfl rfl<|q_p fr<|Ao 0 rfl rfl<|A7 (aF2 (Ab rfl) A5 fun l0_ l1_=>w106 (by omega) a0.F l1_ a0.Ledger) fun y1 hy1=>q_p fr<|q_i ?_ ?_
  ·exact Ad (Ab rfl) rfl
  ·refine AM (A:=fun (s:Int)=>[iW s]) (B:=fun s=>[bx b1 [iW a0.F,.rsl k0 false (a0.Bad.map (Enc.cs k0)),.rsl k0 false (a0.Replicas.map (Enc.cs k0)),.rsl k0 false (a0.Ledger.map (Enc.cs k0)),.rsl k0 false (a0.Requests.map (Enc.cs k0))]]) ?_ ?_ ?_ ?_
   ·refine q_p fr<|Ao 0 rfl rfl<|As<|q_p fr<|Ao 0 rfl rfl<|q_p fr<|q_j ?_ ?_
    ·first | refine Ct ?_ | skip
     exact Aj 0 rr
    ·exact q_p fr<|Ao 0 rfl rfl<|As<|q_p fr<|q_i (Aj 0 rr)<|Aa 0 rr
   ·intro s2
    refine q_p fr<|Ao 0 rfl rfl<|q_p fr<|Ao 0 rfl rfl<|A7 (aF2 (Ab rfl) A5 fun l0_ l1_=>w107 (by omega) a0.F l1_ a0.Bad) fun y2 hy2=>q_p fr<|q_i ?_ ?_
    ·exact Ad (Ab rfl) rfl
    ·refine q_q (fun _=>Dq)<|q_p fr<|Ao 0 rfl rfl<|As<|Dj (α:=Int) false<|BU (I:=(fun (s:Int×(List Int)) l L=>∃ (v1:AV),l = [v1,iW s.1]∧L = [sl false v1 (s.2:List Int),bx b1 [iW a0.F,.rsl k0 false (a0.Bad.map (Enc.cs k0)),.rsl k0 false (a0.Replicas.map (Enc.cs k0)),.rsl k0 false (a0.Ledger.map (Enc.cs k0)),.rsl k0 false (a0.Requests.map (Enc.cs k0))]])) 0 ⟨(.rsl false true []),rfl,rfl⟩ ?_ ?_ ?_
     ·rintro s3 _ _ ⟨v1,rfl,rfl⟩
      unfold YV Is
      exact q_p fr<|q_i (A9 rfl fun x1 hx1=>q_p fr<|Bc rfl fun b2=>Bb 0 rfl rfl rfl (by decide) rfl<|q_p fr<|Ao 0 rfl rfl<|q_q (fun _=>EF)<|CX (ys:=[x1.Id]) 1 rfl rfl (fun _ _=>rfl) fun v2 z1 hz1=>q_p fr<|Aa 1 ⟨v2,rfl,rfl⟩)<|Am 0 ⟨v1,rfl,rfl⟩
     ·rintro i2 s4 _ _ ⟨v3,rfl,rfl⟩
      refine q_n ?_ ?_
      ·refine q_p fr<|Ao 1 rfl rfl<|q_p fr<|Ao 1 rfl rfl<|A7 (aF2 (Ab rfl) A5 fun l0_ l1_=>w109 (by omega) a0.F l1_ a0.Bad) fun y3 hy3=>A7 (aF2 (IT 0 rfl) A5 fun l0_ l1_=>fB (by omega) l0_ s4.2 l1_ y3) fun y4 hy4=>q_p fr<|q_i ?_ ?_
       ·exact Ad (Ab rfl) rfl
       ·refine q_p fr<|Ao 1 rfl rfl<|q_p fr<|Ao 1 rfl rfl<|A7 (aF2 (Ab rfl) A5 fun l0_ l1_=>w110 (by omega) a0.F l1_ a0.Ledger) fun y5 hy5=>As<|q_p fr<|Ao 1 rfl rfl<|As<|AU (A:=fun (s:Int×Int)=>[iW s.1,iW s.2]) (B:=fun s=>[sl false v3 (s4.2:List Int),bx b1 [iW a0.F,.rsl k0 false (a0.Bad.map (Enc.cs k0)),.rsl k0 false (a0.Replicas.map (Enc.cs k0)),.rsl k0 false (a0.Ledger.map (Enc.cs k0)),.rsl k0 false (a0.Requests.map (Enc.cs k0))]]) 0 rr ?_ ?_ ?_
        ·intro s5
         unfold YU GL
         exact q_p fr<|q_i (A9 rfl fun x2 hx2=>q_p fr<|Bc rfl fun b3=>Bb 0 rfl rfl rfl (by decide) rfl<|q_p fr<|Ao 2 rfl rfl<|q_p fr<|Ao 2 rfl rfl<|AX 0 rfl rfl rfl<|A7 (fun S hS=>EB (Ab rfl) A5 (AZ (Au (l0:=false) (x:=x2))) (Ab rfl) hS fun l0_ l1_ l2_ l3_=>w111 (by omega) a0.F l1_ a0.Ledger l2_ x2 (y5.length:Int)) fun y6 hy6=>q_p fr<|q_i (Aj 1 rr)<|q_p fr<|Aa 1 rr)<|Am 0 rr
        ·intro i3 s6
         refine q_n ?_ ?_
         ·refine q_p fr<|Ao 1 rfl rfl<|As<|AU (A:=fun (s:Int×Int)=>[iW s.1,iW s.2]) (B:=fun s=>[sl false v3 (s4.2:List Int),bx b1 [iW a0.F,.rsl k0 false (a0.Bad.map (Enc.cs k0)),.rsl k0 false (a0.Replicas.map (Enc.cs k0)),.rsl k0 false (a0.Ledger.map (Enc.cs k0)),.rsl k0 false (a0.Requests.map (Enc.cs k0))]]) 0 rr ?_ ?_ ?_
          ·intro s7
           unfold YT GK
           exact q_p fr<|q_i (A9 rfl fun x3 hx3=>q_p fr<|Bc rfl fun b4=>Bb 0 rfl rfl rfl (by decide) rfl<|AX 0 rfl rfl rfl<|A7 (aF1 (AZ (Au (l0:=k0) (x:=x3))) fun l0_=>w112 (by omega) l0_ x3) fun y7 hy7=>q_p fr<|q_i (Aj 1 rr)<|q_p fr<|Ao 2 rfl rfl<|Mq rfl (.inr ⟨rfl,rfl⟩) (.inl rfl) fun fl1 ys1 hys1=>AX 0 rfl rfl rfl<|A7 (aF2 A5 (AZ (Au (l0:=k0) (x:=x3))) fun l0_ l1_=>w113 (by omega) l0_ ys1 l1_ x3) fun y8 hy8=>q_p fr<|q_i (Aj 1 rr)<|q_p fr<|Aa 1 rr)<|Am 0 rr
          ·exact fun i4 s8=>q_n (Ad (Ab rfl) rfl)<|Ap
          ·exact fun s8=>Ad (Ab rfl) rfl
         ·exact Ap
        ·exact fun s6=>Ad (Ab rfl) rfl
      ·exact Ap
     ·rintro s4 _ _ ⟨v4,rfl,rfl⟩
      exact Ad (Ab rfl) rfl
   ·exact fun i1 s2=>Ap
   ·exact fun s2=>Ad (Ab rfl) rfl
def VG (a0:List Ak):Option (List Ak):=Bu 32 [] a0
theorem w115 {d:Nat} (hd:1≤d) (k0:Bool) (a0:List Ak):Fit (R NN d 115 [.rsl k0 false (a0.map (Enc.cs k0))] []) (VG a0) (P1 (T:=List Ak) GG):=by
  obtain ⟨d,rfl,g⟩:=up hd
  rw [t115]
  refine (?_:Okh [] (fun S=>dE (cfg NN) (R NN d) (.rsl k0 false (a0.map (Enc.cs k0))) S) _ _) [] HP.nil
  unfold dE VG
  refine Ln (e:=53) fG (fun h S=>?_) ?_
  · subst h
    refine Eq.symm (show pq (AH (Av _ _ _ _ S) S) _ = _ from ?_)
    rw [NS]; rfl
  refine q_q (fun _=>NS) ?_
  refine Dj (α:=Ak) false ?_
  rw [show Bu 32 ([]:List Ak) a0 = (Bu 32 [] a0).bind some from by cases Bu 32 ([]:List Ak) a0 <;> rfl]
  refine CX (ys:=a0) 0 rfl rfl (fun _ _=>rfl) fun v1 z1 hz1=>?_
  exact D1 (EM 0 rfl U4) rfl
def Jh (a0:List Ah) (s1:Int×(List Ah)):Option (LO (Int×(List Ah))):=bif decide (s1.1 < (a0.length:Int)) then (Al a0 s1.1).bind fun x1=>(ML x1).bind fun y1=>(Bu 88 s1.2 [y1]).bind fun z1=>some (LO.norm (wi .i64 (s1.1 + 1),z1)) else some (LO.exit 0 (s1.1,s1.2))
def Re (a0:List Ah):Option ((List Ah)):=(Ar (Jh a0) NN (0,[])).bind (Ac (fun _=>none) (fun i4 s2=>if i4 = 0 then some s2.2 else none) (fun s2=>some []))
theorem w116 {d:Nat} (hd:3≤d) (k0:Bool) (a0:List Ah):Fit (R NN d 116 [.rsl k0 false (a0.map (Enc.cs k0))] []) (Re a0) (P1 (T:=List Ah) GG):=by
  obtain ⟨d,rfl,g⟩:=up hd
  refine Ay (t116 NN d _) ?_
  unfold oS Re
  refine q_q (fun _=>NR)<|As<|J2 (α:=Ah)<|BU (I:=(fun (s:Int×(List Ah)) l L=>∃ (i1:List Nat) (v1:AV),l = [v1,iW s.1]∧L = [tra i1 v1 (s.2:List Ah)])) 0 ⟨[],(.rsl false true []),rfl,rfl⟩ ?_ ?_ ?_
  ·rintro s1 _ _ ⟨i1,v1,rfl,rfl⟩
   unfold TV Jh
   refine q_p fr<|q_i ?_ ?_
   ·refine A9 rfl fun x1 hx1=>q_p fr<|Bc rfl fun b1=>Bb 0 rfl rfl rfl (by decide) rfl<|AX 0 rfl rfl rfl<|G6 (W:=AV.agg) (mg:=ML x1) CL (aF1 (AZ (Au (l0:=k0) (x:=x1))) fun l0_=>eR (by omega) l0_ x1) fun y1 hy1 i2 cs1=>FV (fun S hS=>O8 (hS.get (k:=0) rfl)) fun hcs_=>?_
    obtain ⟨v2,v3,rfl⟩:=hcs_
    exact Ds 3 [0,2,1] (by decide) (by decide)<|Mv rfl (fun _=>cZ) rfl fun z1 hz1 v4 i3=>q_p fr<|Ds 2 [1,0] (by decide) (by decide)<|Aa 1 ⟨i3,v4,rfl,rfl⟩
   ·exact Am 0 ⟨i1,v1,rfl,rfl⟩
  ·rintro i4 s2 _ _ ⟨i5,v5,rfl,rfl⟩
   exact q_n (q_wk<|D1 (Di 0 rfl) rfl)<|Ap
  ·rintro s2 _ _ ⟨i6,v6,rfl,rfl⟩
   exact D1 (BL (α:=Ah) (fl:=true)) rfl
def V5 (a0:List TOp):Option (List TOp):=Bu 48 [] a0
theorem w158 {d:Nat} (hd:1≤d) (k0:Bool) (a0:List TOp):Fit (R NN d 158 [.rsl k0 false (a0.map (Enc.cs k0))] []) (V5 a0) (P1 (T:=List TOp) GG):=by
  obtain ⟨d,rfl,g⟩:=up hd
  rw [t158]
  refine (?_:Okh [] (fun S=>dD (cfg NN) (R NN d) (.rsl k0 false (a0.map (Enc.cs k0))) S) _ _) [] HP.nil
  unfold dD V5
  refine Ln (e:=131) fD (fun h S=>?_) ?_
  · subst h
    refine Eq.symm (show pq (AH (Av _ _ _ _ S) S) _ = _ from ?_)
    rw [NP]; rfl
  refine q_q (fun _=>NP) ?_
  refine Dj (α:=TOp) false ?_
  rw [show Bu 48 ([]:List TOp) a0 = (Bu 48 [] a0).bind some from by cases Bu 48 ([]:List TOp) a0 <;> rfl]
  refine CX (ys:=a0) 0 rfl rfl (fun _ _=>rfl) fun v1 z1 hz1=>?_
  exact D1 (EM 0 rfl NT) rfl
def Rc (a0:Af):Option (Af):=(V5 a0.Ops).bind fun y1=>some (⟨a0.Client,a0.Number,a0.Time,y1⟩:Af)
theorem w117 {d:Nat} (hd:2≤d) (k0:Bool) (a0:Af):Fit (R NN d 117 [.agg (Enc.cs k0 a0)] []) (Rc a0) (P1 (T:=Af) AV.agg):=by
  obtain ⟨d,rfl,g⟩:=up hd
  refine Ay (t117 NN d _) ?_
  unfold oR Rc
  exact AL (n:=4) rfl rfl (by decide) fun b1=>Bc rfl fun b2=>q_p fr<|Ao 1 rfl rfl<|Ev (mg:=V5 a0.Ops) (aF1 A5 fun l0_=>w158 (by omega) l0_ a0.Ops) fun y1 hy1 i1 v1=>q_p fr<|CM 2 rfl (fun S hS=>(HP.cell1t hS 0 rfl)) rfl<|AX 2 rfl rfl rfl<|Bb 1 rfl rfl rfl (by decide) rfl<|DL (fun S hS=>hS.lda 1 rfl rfl) (DW (α:=Af) (β:=Int×Int×Int×(List TOp)) (f:=fun x=>(x.Client,x.Number,x.Time,x.Ops)) (x:=(⟨a0.Client,a0.Number,a0.Time,y1⟩:Af)) rfl (AA (Bm (n:=a0.Client)) (AA (Bm (n:=a0.Number)) (AA (Bm (n:=a0.Time)) (Di 0 rfl))))) rfl
def Lr (a0:Ae) (s1:Int×(List Af)):Option (LO (Int×(List Af))):=bif decide (s1.1 < (a0.Requests.length:Int)) then (Al a0.Requests s1.1).bind fun x1=>(Rc x1).bind fun y4=>(Bu 48 s1.2 [y4]).bind fun z1=>some (LO.norm (wi .i64 (s1.1 + 1),z1)) else some (LO.exit 0 (s1.1,s1.2))
def m81 (a0:Ae):Option (Ae):=(MN a0.Bad).bind fun y1=>(VG a0.Replicas).bind fun y2=>(Re a0.Ledger).bind fun y3=>(Ar (Lr a0) NN (0,[])).bind (Ac (fun _=>none) (fun i7 s2=>if i7 = 0 then some (⟨a0.F,y1,y2,y3,s2.2⟩:Ae) else none) (fun s2=>some (⟨0,[],[],[],[]⟩:Ae)))
theorem w81 {d:Nat} (hd:4≤d) (k0:Bool) (a0:Ae):Fit (R NN d 81 [.agg (Enc.cs k0 a0)] []) (m81 a0) (P1q (T:=Ae) AV.agg):=by
  obtain ⟨d,rfl,g⟩:=up hd
  refine Ay (t81 NN d _) ?_
  unfold b81 m81
  refine AL (n:=5) rfl rfl (by decide) fun b1=>Bc rfl fun b2=>Bc rfl fun b3=>q_p fr<|Ao 2 rfl rfl<|q_p fr<|Ao 2 rfl rfl<|q_p fr<|Ao 2 rfl rfl<|q_p fr<|Ao 2 rfl rfl<|Ev (mg:=MN a0.Bad) (aF1 A5 fun l0_=>eZ (by omega) l0_ a0.Bad) fun y1 hy1 i1 v1=>Ev (mg:=VG a0.Replicas) (aF1 A5 fun l0_=>w115 (by omega) l0_ a0.Replicas) fun y2 hy2 i2 v2=>?_
  refine Ev (mg:=Re a0.Ledger) (aF1 A5 fun l0_=>w116 (by omega) l0_ a0.Ledger) fun y3 hy3 i3 v3=>Km (fun S hS=>HZ (by simp only [EX,plc,gd,List.getD_cons_zero,List.getD_cons_succ,List.getElem?_cons_zero,List.getElem?_cons_succ,hS.cell1t 2 rfl,hS.cell1t 1 rfl,hS.cell1t 0 rfl]; rfl)) ?_
  refine Bb 3 rfl rfl rfl (by decide) rfl<|q_p fr<|Ao 5 rfl rfl<|As<|J2 (α:=Af)<|BU (I:=(fun (s:Int×(List Af)) l L=>∃ (i4:List Nat) (v4:AV),l = [iW s.1]∧L = [tra i4 v4 (s.2:List Af),tr i3 [v3] (y3:List Ah),tr i2 [v2] (y2:List Ak),tr i1 [v1] (y1:List Int),bx b3 [iW a0.F,v1,v2,v3,v4],bx b2 [iW 0,.rsl false true [],.rsl false true [],.rsl false true [],.rsl false true []],bx b1 [iW a0.F,.rsl k0 false (a0.Bad.map (Enc.cs k0)),.rsl k0 false (a0.Replicas.map (Enc.cs k0)),.rsl k0 false (a0.Ledger.map (Enc.cs k0)),.rsl k0 false (a0.Requests.map (Enc.cs k0))]])) 0 ⟨[],(.rsl false true []),rfl,rfl⟩ ?_ ?_ ?_
  ·rintro s1 _ _ ⟨i4,v4,rfl,rfl⟩
   unfold YS Lr
   refine q_p fr<|q_i ?_ ?_
   ·refine A9 rfl fun x1 hx1=>q_p fr<|Bc rfl fun b4=>Bb 0 rfl rfl rfl (by decide) rfl<|q_p fr<|Ao 5 rfl rfl<|AX 0 rfl rfl rfl<|G6 (W:=AV.agg) (mg:=Rc x1) CL (aF1 (AZ (Au (l0:=k0) (x:=x1))) fun l0_=>w117 (by omega) l0_ x1) fun y4 hy4 i5 cs4=>FV (fun S hS=>Sc (hS.get (k:=0) rfl)) fun hcs_=>?_
    obtain ⟨v5,rfl⟩:=hcs_
    exact Ds 9 [0,2,1,3,4,5,6,7,8] (by decide) (by decide)<|Mv rfl (fun _=>kM) rfl fun z1 hz1 v6 i6=>q_p fr<|CM 5 rfl (fun S hS=>(HP.cella hS 0 rfl)) rfl<|q_p fr<|Ds 8 [1,0,2,3,4,5,6,7] (by decide) (by decide)<|Aa 1 ⟨i6,v6,rfl,rfl⟩
   ·exact Am 0 ⟨i4,v4,rfl,rfl⟩
  ·rintro i7 s2 _ _ ⟨i8,v7,rfl,rfl⟩
   exact q_n (AX 4 rfl rfl rfl<|Bb 5 rfl rfl rfl (by decide) rfl<|IY (fun S hS=>Ux 0 rfl S hS) (fun S hS=>hS.lda 5 rfl rfl) (DW (α:=Ae) (β:=Int×(List Int)×(List Ak)×(List Ah)×(List Af)) (f:=fun x=>(x.F,x.Bad,x.Replicas,x.Ledger,x.Requests)) (x:=(⟨a0.F,y1,y2,y3,s2.2⟩:Ae)) rfl (AA (Bm (n:=a0.F)) (AA (Di (cs:=[v1]) 3 rfl) (AA (Di (cs:=[v2]) 2 rfl) (AA (Di (cs:=[v3]) 1 rfl) (Ss 0 rfl)))))) rfl)<|Ap
  ·rintro s2 _ _ ⟨i9,v8,rfl,rfl⟩
   exact IY (fun _ _=>Uy) (fun S hS=>hS.lda 5 rfl rfl) (DW (α:=Ae) (β:=Int×(List Int)×(List Ak)×(List Ah)×(List Af)) (f:=fun x=>(x.F,x.Bad,x.Replicas,x.Ledger,x.Requests)) (x:=(⟨0,[],[],[],[]⟩:Ae)) rfl (AA (Bm (n:=0)) (AA (BL (α:=Int) (fl:=true)) (AA (BL (α:=Ak) (fl:=true)) (AA (BL (α:=Ah) (fl:=true)) (BL (α:=Af) (fl:=true))))))) rfl
theorem w81g {d:Nat} (hd:4≤d) (k0:Bool) (a0:Ae):Fit (R NN d 81 [.agg (Enc.cs k0 a0)] []) (m81 a0) (P1 AV.agg):=p1q (w81 hd k0 a0)
def m47 (a0:Ae) (a1_0:Int) (a1_1_0:Int):Option (Aq):=(m80 a0).bind fun y1=>bif y1 != 0 then some (⟨y1,(⟨0,[],[],[],[]⟩:Ae)⟩:Aq) else (m81 a0).bind fun y2=>(m48 y2 a1_0 a1_1_0).bind fun y3=>bif y3.1 != 0 then some (⟨y3.1,(⟨0,[],[],[],[]⟩:Ae)⟩:Aq) else (m81 y3.2).bind fun y4=>some (⟨0,y4⟩:Aq)
theorem w47 {d:Nat} (hd:150≤d) (k0:Bool) (a0:Ae) (k1_0:Bool) (a1_0:Int) (k1_1:Bool) (k1_1_0:Bool) (a1_1_0:Int):Fit (R NN d 47 [.agg (Enc.cs k0 a0),.fn 48 [.rp k1_0 (Enc.cs k1_0 a1_0),.rp k1_1 [.fn 50 [.rp k1_1_0 (Enc.cs k1_1_0 a1_1_0)]]]] []) (m47 a0 a1_0 a1_1_0) (P1 (T:=Aq) AV.agg):=by
  obtain ⟨d,rfl,g⟩:=up hd
  refine Ay (t47 NN d _ _) ?_
  unfold b47 m47
  refine AL (n:=5) rfl rfl (by decide) fun b1=>Bc rfl fun b2=>AX 1 rfl rfl rfl<|A7 (aF1 (AZ (Au (l0:=k0) (x:=a0))) fun l0_=>w80 (by omega) l0_ a0) fun y1 hy1=>q_p fr<|q_i ?_ ?_
  ·exact q_p (fun _=>O2 rfl)<|Bb 0 rfl rfl rfl (by decide) rfl<|DL (fun S hS=>hS.lda 0 rfl rfl) (DW (α:=Aq) (β:=Int×Ae) (f:=fun x=>(x.Code,x.Cluster)) (x:=(⟨y1,(⟨0,[],[],[],[]⟩:Ae)⟩:Aq)) rfl (AA (Bm (n:=y1)) (DW (α:=Ae) (β:=Int×(List Int)×(List Ak)×(List Ah)×(List Af)) (f:=fun x=>(x.F,x.Bad,x.Replicas,x.Ledger,x.Requests)) (x:=(⟨0,[],[],[],[]⟩:Ae)) rfl (AA (Bm (n:=0)) (AA (BL (α:=Int) (fl:=true)) (AA (BL (α:=Ak) (fl:=true)) (AA (BL (α:=Ah) (fl:=true)) (BL (α:=Af) (fl:=true))))))))) rfl
  ·refine AX 1 rfl rfl rfl<|ZF (mg:=m81 a0) (aF1 (AZ (Au (l0:=k0) (x:=a0))) fun l0_=>w81 (by omega) l0_ a0) fun y2 hy2 i1 cs1 hq_=>FV (fun S hS=>Ku (hS.get (k:=0) rfl)) fun hcs_=>?_
   obtain ⟨v1,v2,v3,v4,rfl⟩:=hcs_
   refine fW (x:=(y2.F,y2.Bad,y2.Replicas,y2.Ledger,y2.Requests)) hq_ rfl (fun _ h=>h) fun i2 i3 i4 i5=>Bc rfl fun b3=>Bb 0 rfl rfl rfl (by decide) rfl<|Ul (mg:=m48 y2 a1_0 a1_1_0) (fun S=>Yw _ _ _ _) (w48 (by omega) _ b3 i2 i3 i4 i5 v1 v2 v3 v4 y2 k1_0 a1_0 k1_1 k1_1_0 a1_1_0) fun y3 hy3 ⟨i6,i7,v5,v6⟩=>q_p fr<|q_i ?_ ?_
   ·exact q_p (fun _=>O2 rfl)<|Bb 5 rfl rfl rfl (by decide) rfl<|DL (fun S hS=>hS.lda 5 rfl rfl) (DW (α:=Aq) (β:=Int×Ae) (f:=fun x=>(x.Code,x.Cluster)) (x:=(⟨y3.1,(⟨0,[],[],[],[]⟩:Ae)⟩:Aq)) rfl (AA (Bm (n:=y3.1)) (DW (α:=Ae) (β:=Int×(List Int)×(List Ak)×(List Ah)×(List Af)) (f:=fun x=>(x.F,x.Bad,x.Replicas,x.Ledger,x.Requests)) (x:=(⟨0,[],[],[],[]⟩:Ae)) rfl (AA (Bm (n:=0)) (AA (BL (α:=Int) (fl:=true)) (AA (BL (α:=Ak) (fl:=true)) (AA (BL (α:=Ah) (fl:=true)) (BL (α:=Af) (fl:=true))))))))) rfl
   ·refine AX 0 rfl rfl rfl<|G6 (W:=AV.agg) (mg:=m81 y3.2) CL (aF1 (AZ (Ag (Ab rfl) (Ag (IG 1 rfl) (Ag (IG 2 rfl) (Ag (LK (α:=Ah) 3 rfl) (Ag (WH (α:=Af) 4 rfl) Az)))))) fun l0_=>w81g (by omega) l0_ y3.2) fun y4 hy4 i8 cs2=>FV (fun S hS=>Ku (hS.get (k:=0) rfl)) fun hcs_=>?_
    obtain ⟨v7,v8,v9,v10,rfl⟩:=hcs_
    exact q_p (fun _=>WW rfl)<|Bb 6 rfl rfl rfl (by decide) rfl<|DL (fun S hS=>hS.lda 6 rfl rfl) (DW (α:=Aq) (β:=Int×Ae) (f:=fun x=>(x.Code,x.Cluster)) (x:=(⟨0,y4⟩:Aq)) rfl (AA (Bm (n:=0)) (Di 0 rfl))) rfl
def m25 (a0:Ae) (a1:Int) (a2_0:Int):Option (Aq):=(m47 a0 a1 a2_0).bind fun y1=>some y1
theorem w25 {d:Nat} (hd:300≤d) (k0:Bool) (a0:Ae) (a1:Int) (k2_0:Bool) (a2_0:Int):Fit (R NN d 25 [.agg (Enc.cs k0 a0),iW a1,.fn 50 [.rp k2_0 (Enc.cs k2_0 a2_0)]] []) (m25 a0 a1 a2_0) (P1 (T:=Aq) AV.agg):=by
  obtain ⟨d,rfl,g⟩:=up hd
  refine Ay (t25 NN d _ _ _) ?_
  unfold b25 m25
  refine AL (n:=5) rfl rfl (by decide) fun b1=>AL (n:=1) rfl rfl (by decide) fun b2=>AL (n:=1) rfl rfl (by decide) fun b3=>Bc rfl fun b4=>AX 3 rfl rfl rfl<|G6 (W:=AV.agg) (mg:=m47 a0 a1 a2_0) CL (aF2 (AZ (Au (l0:=k0) (x:=a0))) (DK (Ag (BI 2 rfl (Au (l0:=false) (x:=a1))) (Ag (BI 1 rfl (Ag (DK (Ag (Bs (Au (l0:=k2_0) (x:=a2_0)) (fun _ _ _ h=>Enc.frz k2_0 a2_0 _ _ _ h)) Az)) Az)) Az))) fun l0_ l1_=>w47 (by omega) l0_ a0 l1_ a1 l1_ l1_ a2_0) fun y1 hy1 i1 cs1=>FV (fun S hS=>O9 (hS.get (k:=0) rfl)) fun hcs_=>?_
  obtain ⟨v1,v2,v3,v4,rfl⟩:=hcs_
  exact Bb 1 rfl rfl rfl (by decide) rfl<|DL (fun S hS=>hS.lda 1 rfl rfl) (Di 0 rfl) rfl
def m26 (a0:Int):Int:=a0
theorem w26 {d:Nat} (hd:148≤d) (a0:Int):Fit (R NN d 26 [iW a0] []) (some (m26 a0)) (P0 (fun (t:Int)=>AV.fn 50 [.rp false (Enc.cs false t)])):=by
  obtain ⟨d,rfl,g⟩:=up hd
  refine Ay (t26 NN d _) ?_
  unfold b26 m26
  exact AL (n:=1) rfl rfl (by decide) fun b1=>Ad (DK (Ag (kC 0 rfl rfl) Az)) rfl
def m7 (a0:Ae) (a1:Int) (a2:Int):Option (Aq):=(m25 a0 a1 (m26 a2)).bind fun y1=>some y1
theorem w7 {d:Nat} (hd:449≤d) (k0:Bool) (a0:Ae) (a1:Int) (a2:Int):Fit (R NN d 7 [.agg (Enc.cs k0 a0),iW a1,iW a2] []) (m7 a0 a1 a2) (P1 (T:=Aq) AV.agg):=by
  obtain ⟨d,rfl,g⟩:=up hd
  refine Ay (t7 NN d _ _ _) ?_
  unfold b7 m7
  refine AL (n:=5) rfl rfl (by decide) fun b1=>Bc rfl fun b2=>AX 1 rfl rfl rfl<|AB (aF1 (Ab rfl) fun l0_=>w26 (by omega) a2)<|G6 (W:=AV.agg) (mg:=m25 a0 a1 (m26 a2)) CL (aF3 (AZ (Au (l0:=k0) (x:=a0))) (Ab rfl) (DK (Ag (Bs (Au (l0:=false) (x:=(m26 a2))) (fun _ _ _ h=>Enc.frz false (m26 a2) _ _ _ h)) Az)) fun l0_ l1_ l2_=>w25 (by omega) l0_ a0 a1 l2_ (m26 a2)) fun y1 hy1 i1 cs1=>FV (fun S hS=>O9 (hS.get (k:=0) rfl)) fun hcs_=>?_
  obtain ⟨v1,v2,v3,v4,rfl⟩:=hcs_
  exact Bb 1 rfl rfl rfl (by decide) rfl<|DL (fun S hS=>hS.lda 1 rfl rfl) (Di 0 rfl) rfl
def UZ (a0:List Int) (a1:List Int) (s1:Bool×Int):Option (LO (Bool×Int)):=bif decide (s1.2 < (a0.length:Int)) then (Al a0 s1.2).bind fun x1=>(Al a1 s1.2).bind fun x2=>bif x1 != x2 then some (LO.ret (false,s1.2)) else some (LO.norm (s1.1,wi .i64 (s1.2 + 1))) else some (LO.exit 0 (s1.1,s1.2))
def m27 (a0:List Int) (a1:List Int):Option (Bool):=bif (a0.length:Int) != (a1.length:Int) then some false else (Ar (UZ a0 a1) NN (false,0)).bind (Ac (fun _=>none) (fun i1 s2=>if i1 = 0 then some true else none) (fun s2=>some s2.1))
theorem w27 {d:Nat} (hd:1≤d) (k0:Bool) (a0:List Int) (k1:Bool) (a1:List Int):Fit (R NN d 27 [.rsl k0 false (a0.map (Enc.cs k0)),.rsl k1 false (a1.map (Enc.cs k1))] []) (m27 a0 a1) PB:=by
  obtain ⟨d,rfl,g⟩:=up hd
  refine Ay (t27 NN d _ _) ?_
  unfold b27 m27
  refine As<|As<|q_p fr<|q_i ?_ ?_
  ·exact Ad (Ab rfl) rfl
  ·refine AU (A:=fun (s:Bool×Int)=>[.bool s.1,iW s.2]) (B:=fun s=>[]) 0 rr ?_ ?_ ?_
   ·intro s1
    unfold Zy UZ
    exact As<|q_p fr<|q_i (A9 rfl fun x1 hx1=>q_p fr<|A9 rfl fun x2 hx2=>q_p fr<|q_p fr<|q_i (Aj 0 rr)<|q_p fr<|Aa 0 rr)<|Am 0 rr
   ·exact fun i1 s2=>q_n (Ad (Ab rfl) rfl)<|Ap
   ·exact fun s2=>Ad (Ab rfl) rfl
def m54 (a0:Ak) (a1:Ak):Bool:=bif a0.Id != a1.Id then false else bif a0.View != a1.View then false else bif a0.Start != a1.Start then false else bif a0.Done != a1.Done then false else true
theorem w54 {d:Nat} (hd:1≤d) (k0:Bool) (a0:Ak) (k1:Bool) (a1:Ak):Fit (R NN d 54 [.agg (Enc.cs k0 a0),.agg (Enc.cs k1 a1)] []) (some (m54 a0 a1)) PB:=by
  obtain ⟨d,rfl,g⟩:=up hd
  refine Ay (t54 NN d _ _) ?_
  unfold b54 m54
  exact AL (n:=4) rfl rfl (by decide) fun b1=>AL (n:=4) rfl rfl (by decide) fun b2=>q_p fr<|Ao 1 rfl rfl<|q_p fr<|Ao 0 rfl rfl<|q_p fr<|Ce (fun h4=>Ad (Ab rfl) rfl) fun h4=>q_p fr<|Ao 1 rfl rfl<|q_p fr<|Ao 0 rfl rfl<|q_p fr<|Ce (fun h3=>Ad (Ab rfl) rfl) fun h3=>q_p fr<|Ao 1 rfl rfl<|q_p fr<|Ao 0 rfl rfl<|q_p fr<|Ce (fun h2=>Ad (Ab rfl) rfl) fun h2=>q_p fr<|Ao 1 rfl rfl<|q_p fr<|Ao 0 rfl rfl<|q_p fr<|Ce (fun h1=>Ad (Ab rfl) rfl) fun h1=>Ad (Ab rfl) rfl
def UY (a0:List Ak) (a1:List Ak) (s1:Bool×Int):Option (LO (Bool×Int)):=bif decide (s1.2 < (a0.length:Int)) then (Al a0 s1.2).bind fun x1=>(Al a1 s1.2).bind fun x2=>bif !(m54 x1 x2) then some (LO.ret (false,s1.2)) else some (LO.norm (s1.1,wi .i64 (s1.2 + 1))) else some (LO.exit 0 (s1.1,s1.2))
def m28 (a0:List Ak) (a1:List Ak):Option (Bool):=bif (a0.length:Int) != (a1.length:Int) then some false else (Ar (UY a0 a1) NN (false,0)).bind (Ac (fun _=>none) (fun i1 s2=>if i1 = 0 then some true else none) (fun s2=>some s2.1))
theorem w28 {d:Nat} (hd:2≤d) (k0:Bool) (a0:List Ak) (k1:Bool) (a1:List Ak):Fit (R NN d 28 [.rsl k0 false (a0.map (Enc.cs k0)),.rsl k1 false (a1.map (Enc.cs k1))] []) (m28 a0 a1) PB:=by
  obtain ⟨d,rfl,g⟩:=up hd
  refine Ay (t28 NN d _ _) ?_
  unfold b28 m28
  refine As<|As<|q_p fr<|q_i ?_ ?_
  ·exact Ad (Ab rfl) rfl
  ·refine AU (A:=fun (s:Bool×Int)=>[.bool s.1,iW s.2]) (B:=fun s=>[]) 0 rr ?_ ?_ ?_
   ·intro s1
    unfold Zx UY
    exact As<|q_p fr<|q_i (A9 rfl fun x1 hx1=>q_p fr<|A9 rfl fun x2 hx2=>q_p fr<|AB (aF2 (AZ (Au (l0:=k0) (x:=x1))) (AZ (Au (l0:=k1) (x:=x2))) fun l0_ l1_=>w54 (by omega) l0_ x1 l1_ x2)<|q_p fr<|q_i (Aj 0 rr)<|q_p fr<|Aa 0 rr)<|Am 0 rr
   ·exact fun i1 s2=>q_n (Ad (Ab rfl) rfl)<|Ap
   ·exact fun s2=>Ad (Ab rfl) rfl
def VD (a0:Ax) (a1:Ax):Bool:=bif a0.Slot != a1.Slot then false else bif a0.View != a1.View then false else bif a0.Value != a1.Value then false else true
theorem w127 {d:Nat} (hd:1≤d) (k0:Bool) (a0:Ax) (k1:Bool) (a1:Ax):Fit (R NN d 127 [.agg (Enc.cs k0 a0),.agg (Enc.cs k1 a1)] []) (some (VD a0 a1)) PB:=by
  obtain ⟨d,rfl,g⟩:=up hd
  refine Ay (t127 NN d _ _) ?_
  unfold oH VD
  exact AL (n:=3) rfl rfl (by decide) fun b1=>AL (n:=3) rfl rfl (by decide) fun b2=>q_p fr<|Ao 1 rfl rfl<|q_p fr<|Ao 0 rfl rfl<|q_p fr<|Ce (fun h3=>Ad (Ab rfl) rfl) fun h3=>q_p fr<|Ao 1 rfl rfl<|q_p fr<|Ao 0 rfl rfl<|q_p fr<|Ce (fun h2=>Ad (Ab rfl) rfl) fun h2=>q_p fr<|Ao 1 rfl rfl<|q_p fr<|Ao 0 rfl rfl<|q_p fr<|Ce (fun h1=>Ad (Ab rfl) rfl) fun h1=>Ad (Ab rfl) rfl
def UQ (a0:List Ax) (a1:List Ax) (s1:Bool×Int):Option (LO (Bool×Int)):=bif decide (s1.2 < (a0.length:Int)) then (Al a0 s1.2).bind fun x1=>(Al a1 s1.2).bind fun x2=>bif !(VD x1 x2) then some (LO.ret (false,s1.2)) else some (LO.norm (s1.1,wi .i64 (s1.2 + 1))) else some (LO.exit 0 (s1.1,s1.2))
def m86 (a0:List Ax) (a1:List Ax):Option (Bool):=bif (a0.length:Int) != (a1.length:Int) then some false else (Ar (UQ a0 a1) NN (false,0)).bind (Ac (fun _=>none) (fun i1 s2=>if i1 = 0 then some true else none) (fun s2=>some s2.1))
theorem w86 {d:Nat} (hd:2≤d) (k0:Bool) (a0:List Ax) (k1:Bool) (a1:List Ax):Fit (R NN d 86 [.rsl k0 false (a0.map (Enc.cs k0)),.rsl k1 false (a1.map (Enc.cs k1))] []) (m86 a0 a1) PB:=by
  obtain ⟨d,rfl,g⟩:=up hd
  refine Ay (t86 NN d _ _) ?_
  unfold b86 m86
  refine As<|As<|q_p fr<|q_i ?_ ?_
  ·exact Ad (Ab rfl) rfl
  ·refine AU (A:=fun (s:Bool×Int)=>[.bool s.1,iW s.2]) (B:=fun s=>[]) 0 rr ?_ ?_ ?_
   ·intro s1
    unfold YR UQ
    exact As<|q_p fr<|q_i (A9 rfl fun x1 hx1=>q_p fr<|A9 rfl fun x2 hx2=>q_p fr<|AB (aF2 (AZ (Au (l0:=k0) (x:=x1))) (AZ (Au (l0:=k1) (x:=x2))) fun l0_ l1_=>w127 (by omega) l0_ x1 l1_ x2)<|q_p fr<|q_i (Aj 0 rr)<|q_p fr<|Aa 0 rr)<|Am 0 rr
   ·exact fun i1 s2=>q_n (Ad (Ab rfl) rfl)<|Ap
   ·exact fun s2=>Ad (Ab rfl) rfl
def m55 (a0:Ah) (a1:Ah):Option (Bool):=bif a0.Kind != a1.Kind then some false else bif a0.View != a1.View then some false else bif a0.From != a1.From then some false else bif a0.Slot != a1.Slot then some false else bif a0.Value != a1.Value then some false else (m86 a0.Certs a1.Certs).bind fun y1=>bif !y1 then some false else (m27 a0.Refs a1.Refs).bind fun y2=>bif !y2 then some false else some true
theorem w55 {d:Nat} (hd:3≤d) (k0:Bool) (a0:Ah) (k1:Bool) (a1:Ah):Fit (R NN d 55 [.agg (Enc.cs k0 a0),.agg (Enc.cs k1 a1)] []) (m55 a0 a1) PB:=by
  obtain ⟨d,rfl,g⟩:=up hd
  refine Ay (t55 NN d _ _) ?_
  unfold b55 m55
  exact AL (n:=7) rfl rfl (by decide) fun b1=>AL (n:=7) rfl rfl (by decide) fun b2=>q_p fr<|Ao 1 rfl rfl<|q_p fr<|Ao 0 rfl rfl<|q_p fr<|q_i (Ad (Ab rfl) rfl)<|q_p fr<|Ao 1 rfl rfl<|q_p fr<|Ao 0 rfl rfl<|q_p fr<|q_i (Ad (Ab rfl) rfl)<|q_p fr<|Ao 1 rfl rfl<|q_p fr<|Ao 0 rfl rfl<|q_p fr<|q_i (Ad (Ab rfl) rfl)<|q_p fr<|Ao 1 rfl rfl<|q_p fr<|Ao 0 rfl rfl<|q_p fr<|q_i (Ad (Ab rfl) rfl)<|q_p fr<|Ao 1 rfl rfl<|q_p fr<|Ao 0 rfl rfl<|q_p fr<|q_i (Ad (Ab rfl) rfl)<|q_p fr<|Ao 1 rfl rfl<|q_p fr<|Ao 0 rfl rfl<|A7 (aF2 A5 A5 fun l0_ l1_=>w86 (by omega) l0_ a0.Certs l1_ a1.Certs) fun y1 hy1=>q_p fr<|q_i (Ad (Ab rfl) rfl)<|q_p fr<|Ao 1 rfl rfl<|q_p fr<|Ao 0 rfl rfl<|A7 (aF2 A5 A5 fun l0_ l1_=>w27 (by omega) l0_ a0.Refs l1_ a1.Refs) fun y2 hy2=>q_p fr<|q_i (Ad (Ab rfl) rfl)<|Ad (Ab rfl) rfl
def UX (a0:List Ah) (a1:List Ah) (s1:Bool×Int):Option (LO (Bool×Int)):=bif decide (s1.2 < (a0.length:Int)) then (Al a0 s1.2).bind fun x1=>(Al a1 s1.2).bind fun x2=>(m55 x1 x2).bind fun y1=>bif !y1 then some (LO.ret (false,s1.2)) else some (LO.norm (s1.1,wi .i64 (s1.2 + 1))) else some (LO.exit 0 (s1.1,s1.2))
def m29 (a0:List Ah) (a1:List Ah):Option (Bool):=bif (a0.length:Int) != (a1.length:Int) then some false else (Ar (UX a0 a1) NN (false,0)).bind (Ac (fun _=>none) (fun i1 s2=>if i1 = 0 then some true else none) (fun s2=>some s2.1))
theorem w29 {d:Nat} (hd:4≤d) (k0:Bool) (a0:List Ah) (k1:Bool) (a1:List Ah):Fit (R NN d 29 [.rsl k0 false (a0.map (Enc.cs k0)),.rsl k1 false (a1.map (Enc.cs k1))] []) (m29 a0 a1) PB:=by
  obtain ⟨d,rfl,g⟩:=up hd
  refine Ay (t29 NN d _ _) ?_
  unfold b29 m29
  refine As<|As<|q_p fr<|q_i ?_ ?_
  ·exact Ad (Ab rfl) rfl
  ·refine AU (A:=fun (s:Bool×Int)=>[.bool s.1,iW s.2]) (B:=fun s=>[]) 0 rr ?_ ?_ ?_
   ·intro s1
    unfold Zw UX
    exact As<|q_p fr<|q_i (A9 rfl fun x1 hx1=>q_p fr<|A9 rfl fun x2 hx2=>q_p fr<|A7 (aF2 (AZ (Au (l0:=k0) (x:=x1))) (AZ (Au (l0:=k1) (x:=x2))) fun l0_ l1_=>w55 (by omega) l0_ x1 l1_ x2) fun y1 hy1=>q_p fr<|q_i (Aj 0 rr)<|q_p fr<|Aa 0 rr)<|Am 0 rr
   ·exact fun i1 s2=>q_n (Ad (Ab rfl) rfl)<|Ap
   ·exact fun s2=>Ad (Ab rfl) rfl
def VC (a0:TOp) (a1:TOp):Bool:=bif a0.Kind != a1.Kind then false else bif !(a0.Path == a1.Path) then false else bif a0.Data != a1.Data then false else bif a0.Version != a1.Version then false else bif a0.Seq != a1.Seq then false else bif a0.Own != a1.Own then false else true
theorem w128 {d:Nat} (hd:1≤d) (k0:Bool) (a0:TOp) (k1:Bool) (a1:TOp):Fit (R NN d 128 [.agg (Enc.cs k0 a0),.agg (Enc.cs k1 a1)] []) (some (VC a0 a1)) PB:=by
  obtain ⟨d,rfl,g⟩:=up hd
  refine Ay (t128 NN d _ _) ?_
  unfold oG VC
  exact AL (n:=6) rfl rfl (by decide) fun b1=>AL (n:=6) rfl rfl (by decide) fun b2=>q_p fr<|Ao 1 rfl rfl<|q_p fr<|Ao 0 rfl rfl<|q_p fr<|Ce (fun h6=>Ad (Ab rfl) rfl) fun h6=>q_p fr<|Ao 1 rfl rfl<|q_p fr<|Ao 0 rfl rfl<|q_p (fun _=>Mk)<|Ce (fun h5=>Ad (Ab rfl) rfl) fun h5=>q_p fr<|Ao 1 rfl rfl<|q_p fr<|Ao 0 rfl rfl<|q_p fr<|Ce (fun h4=>Ad (Ab rfl) rfl) fun h4=>q_p fr<|Ao 1 rfl rfl<|q_p fr<|Ao 0 rfl rfl<|q_p fr<|Ce (fun h3=>Ad (Ab rfl) rfl) fun h3=>q_p fr<|Ao 1 rfl rfl<|q_p fr<|Ao 0 rfl rfl<|q_p (fun _=>LR _ _)<|Ce (fun h2=>Ad (Ab rfl) rfl) fun h2=>q_p fr<|Ao 1 rfl rfl<|q_p fr<|Ao 0 rfl rfl<|q_p (fun _=>LR _ _)<|Ce (fun h1=>Ad (Ab rfl) rfl) fun h1=>Ad (Ab rfl) rfl
def UP (a0:List TOp) (a1:List TOp) (s1:Bool×Int):Option (LO (Bool×Int)):=bif decide (s1.2 < (a0.length:Int)) then (Al a0 s1.2).bind fun x1=>(Al a1 s1.2).bind fun x2=>bif !(VC x1 x2) then some (LO.ret (false,s1.2)) else some (LO.norm (s1.1,wi .i64 (s1.2 + 1))) else some (LO.exit 0 (s1.1,s1.2))
def m87 (a0:List TOp) (a1:List TOp):Option (Bool):=bif (a0.length:Int) != (a1.length:Int) then some false else (Ar (UP a0 a1) NN (false,0)).bind (Ac (fun _=>none) (fun i1 s2=>if i1 = 0 then some true else none) (fun s2=>some s2.1))
theorem w87 {d:Nat} (hd:2≤d) (k0:Bool) (a0:List TOp) (k1:Bool) (a1:List TOp):Fit (R NN d 87 [.rsl k0 false (a0.map (Enc.cs k0)),.rsl k1 false (a1.map (Enc.cs k1))] []) (m87 a0 a1) PB:=by
  obtain ⟨d,rfl,g⟩:=up hd
  refine Ay (t87 NN d _ _) ?_
  unfold b87 m87
  refine As<|As<|q_p fr<|q_i ?_ ?_
  ·exact Ad (Ab rfl) rfl
  ·refine AU (A:=fun (s:Bool×Int)=>[.bool s.1,iW s.2]) (B:=fun s=>[]) 0 rr ?_ ?_ ?_
   ·intro s1
    unfold YQ UP
    exact As<|q_p fr<|q_i (A9 rfl fun x1 hx1=>q_p fr<|A9 rfl fun x2 hx2=>q_p fr<|AB (aF2 (AZ (Au (l0:=k0) (x:=x1))) (AZ (Au (l0:=k1) (x:=x2))) fun l0_ l1_=>w128 (by omega) l0_ x1 l1_ x2)<|q_p fr<|q_i (Aj 0 rr)<|q_p fr<|Aa 0 rr)<|Am 0 rr
   ·exact fun i1 s2=>q_n (Ad (Ab rfl) rfl)<|Ap
   ·exact fun s2=>Ad (Ab rfl) rfl
def m56 (a0:Af) (a1:Af):Option (Bool):=bif a0.Client != a1.Client then some false else bif a0.Number != a1.Number then some false else bif a0.Time != a1.Time then some false else (m87 a0.Ops a1.Ops).bind fun y1=>bif !y1 then some false else some true
theorem w56 {d:Nat} (hd:3≤d) (k0:Bool) (a0:Af) (k1:Bool) (a1:Af):Fit (R NN d 56 [.agg (Enc.cs k0 a0),.agg (Enc.cs k1 a1)] []) (m56 a0 a1) PB:=by
  obtain ⟨d,rfl,g⟩:=up hd
  refine Ay (t56 NN d _ _) ?_
  unfold b56 m56
  exact AL (n:=4) rfl rfl (by decide) fun b1=>AL (n:=4) rfl rfl (by decide) fun b2=>q_p fr<|Ao 1 rfl rfl<|q_p fr<|Ao 0 rfl rfl<|q_p fr<|q_i (Ad (Ab rfl) rfl)<|q_p fr<|Ao 1 rfl rfl<|q_p fr<|Ao 0 rfl rfl<|q_p fr<|q_i (Ad (Ab rfl) rfl)<|q_p fr<|Ao 1 rfl rfl<|q_p fr<|Ao 0 rfl rfl<|q_p fr<|q_i (Ad (Ab rfl) rfl)<|q_p fr<|Ao 1 rfl rfl<|q_p fr<|Ao 0 rfl rfl<|A7 (aF2 A5 A5 fun l0_ l1_=>w87 (by omega) l0_ a0.Ops l1_ a1.Ops) fun y1 hy1=>q_p fr<|q_i (Ad (Ab rfl) rfl)<|Ad (Ab rfl) rfl
def UW (a0:List Af) (a1:List Af) (s1:Bool×Int):Option (LO (Bool×Int)):=bif decide (s1.2 < (a0.length:Int)) then (Al a0 s1.2).bind fun x1=>(Al a1 s1.2).bind fun x2=>(m56 x1 x2).bind fun y1=>bif !y1 then some (LO.ret (false,s1.2)) else some (LO.norm (s1.1,wi .i64 (s1.2 + 1))) else some (LO.exit 0 (s1.1,s1.2))
def m30 (a0:List Af) (a1:List Af):Option (Bool):=bif (a0.length:Int) != (a1.length:Int) then some false else (Ar (UW a0 a1) NN (false,0)).bind (Ac (fun _=>none) (fun i1 s2=>if i1 = 0 then some true else none) (fun s2=>some s2.1))
theorem w30 {d:Nat} (hd:4≤d) (k0:Bool) (a0:List Af) (k1:Bool) (a1:List Af):Fit (R NN d 30 [.rsl k0 false (a0.map (Enc.cs k0)),.rsl k1 false (a1.map (Enc.cs k1))] []) (m30 a0 a1) PB:=by
  obtain ⟨d,rfl,g⟩:=up hd
  refine Ay (t30 NN d _ _) ?_
  unfold b30 m30
  refine As<|As<|q_p fr<|q_i ?_ ?_
  ·exact Ad (Ab rfl) rfl
  ·refine AU (A:=fun (s:Bool×Int)=>[.bool s.1,iW s.2]) (B:=fun s=>[]) 0 rr ?_ ?_ ?_
   ·intro s1
    unfold Zv UW
    exact As<|q_p fr<|q_i (A9 rfl fun x1 hx1=>q_p fr<|A9 rfl fun x2 hx2=>q_p fr<|A7 (aF2 (AZ (Au (l0:=k0) (x:=x1))) (AZ (Au (l0:=k1) (x:=x2))) fun l0_ l1_=>w56 (by omega) l0_ x1 l1_ x2) fun y1 hy1=>q_p fr<|q_i (Aj 0 rr)<|q_p fr<|Aa 0 rr)<|Am 0 rr
   ·exact fun i1 s2=>q_n (Ad (Ab rfl) rfl)<|Ap
   ·exact fun s2=>Ad (Ab rfl) rfl
end
end Go.Proofs.YtdlleiaejipncaaGreatDoor
