/- Plain functions, and that the evaluator computes them. -/
import Derived.Test.YtdlleiaejipncaaGreatDoorW2
namespace Go.Proofs.YtdlleiaejipncaaGreatDoor
open Go Go.Rf
set_option linter.unusedVariables false
set_option linter.unusedSimpArgs false
noncomputable section
def m9 (a0:Ae) (a1:Ae):Option (Bool):=bif a0.F != a1.F then some false else (m27 a0.Bad a1.Bad).bind fun y1=>bif !y1 then some false else (m28 a0.Replicas a1.Replicas).bind fun y2=>bif !y2 then some false else (m29 a0.Ledger a1.Ledger).bind fun y3=>bif !y3 then some false else (m30 a0.Requests a1.Requests).bind fun y4=>bif !y4 then some false else some true
theorem w9 {d:Nat} (hd:5≤d) (k0:Bool) (a0:Ae) (k1:Bool) (a1:Ae):Fit (R NN d 9 [.agg (Enc.cs k0 a0),.agg (Enc.cs k1 a1)] []) (m9 a0 a1) PB:=by
  obtain ⟨d,rfl,g⟩:=up hd
  refine Ay (t9 NN d _ _) ?_
  unfold b9 m9
  exact AL (n:=5) rfl rfl (by decide) fun b1=>AL (n:=5) rfl rfl (by decide) fun b2=>q_p fr<|Ao 1 rfl rfl<|q_p fr<|Ao 0 rfl rfl<|q_p fr<|q_i (Ad (Ab rfl) rfl)<|q_p fr<|Ao 1 rfl rfl<|q_p fr<|Ao 0 rfl rfl<|A7 (aF2 A5 A5 fun l0_ l1_=>w27 (by omega) l0_ a0.Bad l1_ a1.Bad) fun y1 hy1=>q_p fr<|q_i (Ad (Ab rfl) rfl)<|q_p fr<|Ao 1 rfl rfl<|q_p fr<|Ao 0 rfl rfl<|A7 (aF2 A5 A5 fun l0_ l1_=>w28 (by omega) l0_ a0.Replicas l1_ a1.Replicas) fun y2 hy2=>q_p fr<|q_i (Ad (Ab rfl) rfl)<|q_p fr<|Ao 1 rfl rfl<|q_p fr<|Ao 0 rfl rfl<|A7 (aF2 A5 A5 fun l0_ l1_=>w29 (by omega) l0_ a0.Ledger l1_ a1.Ledger) fun y3 hy3=>q_p fr<|q_i (Ad (Ab rfl) rfl)<|q_p fr<|Ao 1 rfl rfl<|q_p fr<|Ao 0 rfl rfl<|A7 (aF2 A5 A5 fun l0_ l1_=>w30 (by omega) l0_ a0.Requests l1_ a1.Requests) fun y4 hy4=>q_p fr<|q_i (Ad (Ab rfl) rfl)<|Ad (Ab rfl) rfl
def m8 (a0:Aq) (a1:Aq):Option (Bool):=bif a0.Code != a1.Code then some false else (m9 a0.Cluster a1.Cluster).bind fun y1=>bif !y1 then some false else some true
theorem w8 {d:Nat} (hd:6≤d) (k0:Bool) (a0:Aq) (k1:Bool) (a1:Aq):Fit (R NN d 8 [.agg (Enc.cs k0 a0),.agg (Enc.cs k1 a1)] []) (m8 a0 a1) PB:=by
  obtain ⟨d,rfl,g⟩:=up hd
  refine Ay (t8 NN d _ _) ?_
  unfold b8 m8
  exact AL (n:=6) rfl rfl (by decide) fun b1=>AL (n:=6) rfl rfl (by decide) fun b2=>q_p fr<|Ao 1 rfl rfl<|q_p fr<|Ao 0 rfl rfl<|q_p fr<|q_i (Ad (Ab rfl) rfl)<|q_p fr<|AX 1 rfl rfl rfl<|q_p fr<|AX 0 rfl rfl rfl<|A7 (aF2 (AZ (Au (l0:=k0) (x:=a0.Cluster))) (AZ (Au (l0:=k1) (x:=a1.Cluster))) fun l0_ l1_=>w9 (by omega) l0_ a0.Cluster l1_ a1.Cluster) fun y1 hy1=>q_p fr<|q_i (Ad (Ab rfl) rfl)<|Ad (Ab rfl) rfl
def JJ (s1:Int×Int×(List Int)):Option (LO (Int×Int×(List Int))):=bif decide (s1.2.1 < (s1.2.2.length:Int)) then (Al s1.2.2 s1.2.1).bind fun x1=>CG (s1.2.2.set (Int.toNat s1.2.1) s1.1) fun z1=>some (LO.norm (wi .i64 (s1.1 + 1),wi .i64 (s1.2.1 + 1),z1)) else some (LO.exit 0 (s1.1,s1.2.1,s1.2.2))
def m31 (a0:List Int) (a1:Int):Option (Int×(List Int)):=(Ar (JJ) NN (a1,0,a0)).bind (Ac (fun _=>none) (fun i1 s2=>if i1 = 0 then some (s2.1,s2.2.2) else none) (fun s2=>some (0,s2.2.2)))
theorem w31 {d:Nat} (hd:1≤d) (L0:List En) (i0_:List Nat) (c0_0:AV) (a0:List Int) (a1:Int):Okh (tr i0_ [c0_0] (a0:List Int)::L0) (fun S=>R NN d 31 [c0_0,iW a1] S) (m31 a0 a1) (P2 (fun (t:Int×(List Int))=>AV.int .i64 t.1) (fun (t:Int×(List Int))=>tr i0_ [c0_0] t.2::L0)):=by
  obtain ⟨d,rfl,g⟩:=up hd
  refine Dn (t31 NN d _ _) ?_
  unfold b31 m31
  refine AU (A:=fun (s:Int×Int×(List Int))=>[iW s.1,iW s.2.1]) (B:=fun s=>tr i0_ [c0_0] (s.2.2:List Int)::L0) 0 rr ?_ ?_ ?_
  ·intro s1
   unfold Zu JJ
   exact Ik 0 rfl<|q_p fr<|q_i (BZ 0 rfl rfl fun x1 hx1=>bB 0 rfl rfl hx1 rfl (Cj (n:=s1.1)) fun z1 hz1=>q_p fr<|q_p fr<|Aa 0 rr)<|Am 0 rr
  ·exact fun i1 s2=>q_n (AW 0 rfl rfl)<|Ap
  ·exact fun s2=>AW 0 rfl rfl
def JI (s1:Int×Int×(List Ak)):Option (LO (Int×Int×(List Ak))):=bif decide (s1.2.1 < (s1.2.2.length:Int)) then (Al s1.2.2 s1.2.1).bind fun x1=>CG (s1.2.2.set (Int.toNat s1.2.1) ({ x1 with Id:=s1.1 })) fun z1=>(Al z1 s1.2.1).bind fun x2=>CG (z1.set (Int.toNat s1.2.1) ({ x2 with View:=wi .i64 (s1.1 + 1) })) fun z2=>(Al z2 s1.2.1).bind fun x3=>CG (z2.set (Int.toNat s1.2.1) ({ x3 with Start:=wi .i64 ((wi .i64 (s1.1 + 1)) + 1) })) fun z3=>(Al z3 s1.2.1).bind fun x4=>CG (z3.set (Int.toNat s1.2.1) ({ x4 with Done:=wi .i64 ((wi .i64 ((wi .i64 (s1.1 + 1)) + 1)) + 1) })) fun z4=>some (LO.norm (wi .i64 ((wi .i64 ((wi .i64 ((wi .i64 (s1.1 + 1)) + 1)) + 1)) + 1),wi .i64 (s1.2.1 + 1),z4)) else some (LO.exit 0 (s1.1,s1.2.1,s1.2.2))
def m32 (a0:List Ak) (a1:Int):Option (Int×(List Ak)):=(Ar (JI) NN (a1,0,a0)).bind (Ac (fun _=>none) (fun i1 s2=>if i1 = 0 then some (s2.1,s2.2.2) else none) (fun s2=>some (0,s2.2.2)))
theorem w32 {d:Nat} (hd:1≤d) (L0:List En) (i0_:List Nat) (c0_0:AV) (a0:List Ak) (a1:Int):Okh (tr i0_ [c0_0] (a0:List Ak)::L0) (fun S=>R NN d 32 [c0_0,iW a1] S) (m32 a0 a1) (P2 (fun (t:Int×(List Ak))=>AV.int .i64 t.1) (fun (t:Int×(List Ak))=>tr i0_ [c0_0] t.2::L0)):=by
  obtain ⟨d,rfl,g⟩:=up hd
  refine Dn (t32 NN d _ _) ?_
  unfold b32 m32
  refine AU (A:=fun (s:Int×Int×(List Ak))=>[iW s.1,iW s.2.1]) (B:=fun s=>tr i0_ [c0_0] (s.2.2:List Ak)::L0) 0 rr ?_ ?_ ?_
  ·intro s1
   unfold Zt JI
   exact Ik 0 rfl<|q_p fr<|q_i (BZ 0 rfl rfl fun x1 hx1=>Ci 0 rfl hx1 (by decide)<|CH 0 rfl rfl hx1 rfl (Xz s1.1) fun z1 hz1=>q_p fr<|BZ 0 rfl rfl fun x2 hx2=>Ci 0 rfl hx2 (by decide)<|CH 0 rfl rfl hx2 rfl (PU (wi .i64 (s1.1 + 1))) fun z2 hz2=>q_p fr<|BZ 0 rfl rfl fun x3 hx3=>Ci 0 rfl hx3 (by decide)<|CH 0 rfl rfl hx3 rfl (N7 (wi .i64 ((wi .i64 (s1.1 + 1)) + 1))) fun z3 hz3=>q_p fr<|BZ 0 rfl rfl fun x4 hx4=>Ci 0 rfl hx4 (by decide)<|CH 0 rfl rfl hx4 rfl (PV (wi .i64 ((wi .i64 ((wi .i64 (s1.1 + 1)) + 1)) + 1))) fun z4 hz4=>q_p fr<|q_p fr<|Aa 0 rr)<|Am 0 rr
  ·exact fun i1 s2=>q_n (AW 0 rfl rfl)<|Ap
  ·exact fun s2=>AW 0 rfl rfl
def JF (s1:Int×Int×(List Ax)):Option (LO (Int×Int×(List Ax))):=bif decide (s1.2.1 < (s1.2.2.length:Int)) then (Al s1.2.2 s1.2.1).bind fun x1=>CG (s1.2.2.set (Int.toNat s1.2.1) ({ x1 with Slot:=s1.1 })) fun z1=>(Al z1 s1.2.1).bind fun x2=>CG (z1.set (Int.toNat s1.2.1) ({ x2 with View:=wi .i64 (s1.1 + 1) })) fun z2=>(Al z2 s1.2.1).bind fun x3=>CG (z2.set (Int.toNat s1.2.1) ({ x3 with Value:=wi .i64 ((wi .i64 (s1.1 + 1)) + 1) })) fun z3=>some (LO.norm (wi .i64 ((wi .i64 ((wi .i64 (s1.1 + 1)) + 1)) + 1),wi .i64 (s1.2.1 + 1),z3)) else some (LO.exit 0 (s1.1,s1.2.1,s1.2.2))
def m57 (a0:List Ax) (a1:Int):Option (Int×(List Ax)):=(Ar (JF) NN (a1,0,a0)).bind (Ac (fun _=>none) (fun i1 s2=>if i1 = 0 then some (s2.1,s2.2.2) else none) (fun s2=>some (0,s2.2.2)))
theorem w57 {d:Nat} (hd:1≤d) (L0:List En) (i0_:List Nat) (c0_0:AV) (a0:List Ax) (a1:Int):Okh (tr i0_ [c0_0] (a0:List Ax)::L0) (fun S=>R NN d 57 [c0_0,iW a1] S) (m57 a0 a1) (P2 (fun (t:Int×(List Ax))=>AV.int .i64 t.1) (fun (t:Int×(List Ax))=>tr i0_ [c0_0] t.2::L0)):=by
  obtain ⟨d,rfl,g⟩:=up hd
  refine Dn (t57 NN d _ _) ?_
  unfold b57 m57
  refine AU (A:=fun (s:Int×Int×(List Ax))=>[iW s.1,iW s.2.1]) (B:=fun s=>tr i0_ [c0_0] (s.2.2:List Ax)::L0) 0 rr ?_ ?_ ?_
  ·intro s1
   unfold Zm JF
   exact Ik 0 rfl<|q_p fr<|q_i (BZ 0 rfl rfl fun x1 hx1=>Ci 0 rfl hx1 (by decide)<|CH 0 rfl rfl hx1 rfl (NC s1.1) fun z1 hz1=>q_p fr<|BZ 0 rfl rfl fun x2 hx2=>Ci 0 rfl hx2 (by decide)<|CH 0 rfl rfl hx2 rfl (NB (wi .i64 (s1.1 + 1))) fun z2 hz2=>q_p fr<|BZ 0 rfl rfl fun x3 hx3=>Ci 0 rfl hx3 (by decide)<|CH 0 rfl rfl hx3 rfl (Me (wi .i64 ((wi .i64 (s1.1 + 1)) + 1))) fun z3 hz3=>q_p fr<|q_p fr<|Aa 0 rr)<|Am 0 rr
  ·exact fun i1 s2=>q_n (AW 0 rfl rfl)<|Ap
  ·exact fun s2=>AW 0 rfl rfl
def JH (s1:Int×Int×(List Ah)):Option (LO (Int×Int×(List Ah))):=bif decide (s1.2.1 < (s1.2.2.length:Int)) then (Al s1.2.2 s1.2.1).bind fun x1=>CG (s1.2.2.set (Int.toNat s1.2.1) ({ x1 with Kind:=s1.1 })) fun z1=>(Al z1 s1.2.1).bind fun x2=>CG (z1.set (Int.toNat s1.2.1) ({ x2 with View:=wi .i64 (s1.1 + 1) })) fun z2=>(Al z2 s1.2.1).bind fun x3=>CG (z2.set (Int.toNat s1.2.1) ({ x3 with From:=wi .i64 ((wi .i64 (s1.1 + 1)) + 1) })) fun z3=>(Al z3 s1.2.1).bind fun x4=>CG (z3.set (Int.toNat s1.2.1) ({ x4 with Slot:=wi .i64 ((wi .i64 ((wi .i64 (s1.1 + 1)) + 1)) + 1) })) fun z4=>(Al z4 s1.2.1).bind fun x5=>CG (z4.set (Int.toNat s1.2.1) ({ x5 with Value:=wi .i64 ((wi .i64 ((wi .i64 ((wi .i64 (s1.1 + 1)) + 1)) + 1)) + 1) })) fun z5=>(Al z5 s1.2.1).bind fun x6=>(m57 x6.Certs (wi .i64 ((wi .i64 ((wi .i64 ((wi .i64 ((wi .i64 (s1.1 + 1)) + 1)) + 1)) + 1)) + 1))).bind fun y1=>CG (z5.set (Int.toNat s1.2.1) ({ x6 with Certs:=y1.2 })) fun z6=>(Al z6 s1.2.1).bind fun x7=>(m31 x7.Refs y1.1).bind fun y2=>CG (z6.set (Int.toNat s1.2.1) ({ x7 with Refs:=y2.2 })) fun z7=>some (LO.norm (y2.1,wi .i64 (s1.2.1 + 1),z7)) else some (LO.exit 0 (s1.1,s1.2.1,s1.2.2))
def m33 (a0:List Ah) (a1:Int):Option (Int×(List Ah)):=(Ar (JH) NN (a1,0,a0)).bind (Ac (fun _=>none) (fun i1 s2=>if i1 = 0 then some (s2.1,s2.2.2) else none) (fun s2=>some (0,s2.2.2)))
theorem w33 {d:Nat} (hd:2≤d) (L0:List En) (i0_:List Nat) (c0_0:AV) (a0:List Ah) (a1:Int):Okh (tr i0_ [c0_0] (a0:List Ah)::L0) (fun S=>R NN d 33 [c0_0,iW a1] S) (m33 a0 a1) (P2 (fun (t:Int×(List Ah))=>AV.int .i64 t.1) (fun (t:Int×(List Ah))=>tr i0_ [c0_0] t.2::L0)):=by
  obtain ⟨d,rfl,g⟩:=up hd
  refine Dn (t33 NN d _ _) ?_
  unfold b33 m33
  refine AU (A:=fun (s:Int×Int×(List Ah))=>[iW s.1,iW s.2.1]) (B:=fun s=>tr i0_ [c0_0] (s.2.2:List Ah)::L0) 0 rr ?_ ?_ ?_
  ·intro s1
   unfold Zs JH
   exact Ik 0 rfl<|q_p fr<|q_i (BZ 0 rfl rfl fun x1 hx1=>Ci 0 rfl hx1 (by decide)<|CH 0 rfl rfl hx1 rfl (PR s1.1) fun z1 hz1=>q_p fr<|BZ 0 rfl rfl fun x2 hx2=>Ci 0 rfl hx2 (by decide)<|CH 0 rfl rfl hx2 rfl (PO (wi .i64 (s1.1 + 1))) fun z2 hz2=>q_p fr<|BZ 0 rfl rfl fun x3 hx3=>Ci 0 rfl hx3 (by decide)<|CH 0 rfl rfl hx3 rfl (PT (wi .i64 ((wi .i64 (s1.1 + 1)) + 1))) fun z3 hz3=>q_p fr<|BZ 0 rfl rfl fun x4 hx4=>Ci 0 rfl hx4 (by decide)<|CH 0 rfl rfl hx4 rfl (PQ (wi .i64 ((wi .i64 ((wi .i64 (s1.1 + 1)) + 1)) + 1))) fun z4 hz4=>q_p fr<|BZ 0 rfl rfl fun x5 hx5=>Ci 0 rfl hx5 (by decide)<|CH 0 rfl rfl hx5 rfl (N6 (wi .i64 ((wi .i64 ((wi .i64 ((wi .i64 (s1.1 + 1)) + 1)) + 1)) + 1))) fun z5 hz5=>q_p fr<|BZ 0 rfl rfl fun x6 hx6=>Ci 0 rfl hx6 (by decide)<|Ut rfl rfl hx6 Oq fun w1 ic1=>q_s (mg:=m57 x6.Certs (wi .i64 ((wi .i64 ((wi .i64 ((wi .i64 ((wi .i64 (s1.1 + 1)) + 1)) + 1)) + 1)) + 1))) (w57 (by omega) _ ic1 w1 x6.Certs (wi .i64 ((wi .i64 ((wi .i64 ((wi .i64 ((wi .i64 (s1.1 + 1)) + 1)) + 1)) + 1)) + 1))) fun y1 hy1=>FU fun z6 hz6=>BZ 0 rfl rfl fun x7 hx7=>Ci 0 rfl hx7 (by decide)<|Ut rfl rfl hx7 Rn fun w2 ic2=>q_s (mg:=m31 x7.Refs y1.1) (w31 (by omega) _ ic2 w2 x7.Refs y1.1) fun y2 hy2=>FU fun z7 hz7=>q_p fr<|Aa 0 rr)<|Am 0 rr
  ·exact fun i1 s2=>q_n (AW 0 rfl rfl)<|Ap
  ·exact fun s2=>AW 0 rfl rfl
def GI (s1:Int×Str):Option (LO (Int×Str)):=bif decide (s1.1 > 0) then (LP ([UInt8.ofNat (Int.toNat (wi .u8 (wi .i64 (48 + (Int.tmod s1.1 10)))))]:Str) s1.2).bind fun t1=>some (LO.norm (wi .i64 (Int.tdiv s1.1 10),t1)) else some (LO.exit 0 (s1.1,s1.2))
def m88 (a0:Int):Option (Str):=bif decide (a0≤0) then some ([109,48]:Str) else (Ar (GI) NN (a0,([]:Str))).bind (Ac (fun _=>none) (fun i1 s2=>if i1 = 0 then (LP ([109]:Str) s2.2).bind fun t2=>some t2 else none) (fun s2=>some ([]:Str)))
theorem w88 {d:Nat} (hd:1≤d) (a0:Int):Fit (R NN d 88 [iW a0] []) (m88 a0) (P0 Bo):=by
  obtain ⟨d,rfl,g⟩:=up hd
  refine Ay (t88 NN d _) ?_
  unfold b88 m88
  refine q_p fr<|q_i ?_ ?_
  ·exact Ad (Ab rfl) rfl
  ·refine AU (A:=fun (s:Int×Str)=>[iW s.1,Bo s.2]) (B:=fun s=>[]) 0 rr ?_ ?_ ?_
   ·intro s1
    unfold YP GI
    exact q_p fr<|q_i (q_p fr<|q_p fr<|q_p (fun _=>cU _ _)<|q_q (fun _=>fU)<|q_p (fun _=>WG _ _)<|bI fun t1 ht1=>q_p fr<|Aa 0 rr)<|Am 0 rr
   ·exact fun i1 s2=>q_n (ZE fun t2 ht2=>Ad (Ab rfl) rfl)<|Ap
   ·exact fun s2=>Ad (Ab rfl) rfl
def JE (s1:Int×Int×(List TOp)):Option (LO (Int×Int×(List TOp))):=bif decide (s1.2.1 < (s1.2.2.length:Int)) then (Al s1.2.2 s1.2.1).bind fun x1=>CG (s1.2.2.set (Int.toNat s1.2.1) ({ x1 with Kind:=s1.1 })) fun z1=>(m88 (wi .i64 (s1.1 + 1))).bind fun y1=>(Al z1 s1.2.1).bind fun x2=>CG (z1.set (Int.toNat s1.2.1) ({ x2 with Path:=y1 })) fun z2=>(Al z2 s1.2.1).bind fun x3=>CG (z2.set (Int.toNat s1.2.1) ({ x3 with Data:=wi .i64 ((wi .i64 (s1.1 + 1)) + 1) })) fun z3=>(Al z3 s1.2.1).bind fun x4=>CG (z3.set (Int.toNat s1.2.1) ({ x4 with Version:=wi .i64 ((wi .i64 ((wi .i64 (s1.1 + 1)) + 1)) + 1) })) fun z4=>(Al z4 s1.2.1).bind fun x5=>CG (z4.set (Int.toNat s1.2.1) ({ x5 with Seq:=(Int.tmod (wi .i64 ((wi .i64 ((wi .i64 ((wi .i64 (s1.1 + 1)) + 1)) + 1)) + 1)) 3) == 0 })) fun z5=>(Al z5 s1.2.1).bind fun x6=>CG (z5.set (Int.toNat s1.2.1) ({ x6 with Own:=(Int.tmod (wi .i64 ((wi .i64 ((wi .i64 ((wi .i64 ((wi .i64 (s1.1 + 1)) + 1)) + 1)) + 1)) + 1)) 3) == 0 })) fun z6=>some (LO.norm (wi .i64 ((wi .i64 ((wi .i64 ((wi .i64 ((wi .i64 ((wi .i64 (s1.1 + 1)) + 1)) + 1)) + 1)) + 1)) + 1),wi .i64 (s1.2.1 + 1),z6)) else some (LO.exit 0 (s1.1,s1.2.1,s1.2.2))
def m58 (a0:List TOp) (a1:Int):Option (Int×(List TOp)):=(Ar (JE) NN (a1,0,a0)).bind (Ac (fun _=>none) (fun i1 s2=>if i1 = 0 then some (s2.1,s2.2.2) else none) (fun s2=>some (0,s2.2.2)))
theorem w58 {d:Nat} (hd:2≤d) (L0:List En) (i0_:List Nat) (c0_0:AV) (a0:List TOp) (a1:Int):Okh (tr i0_ [c0_0] (a0:List TOp)::L0) (fun S=>R NN d 58 [c0_0,iW a1] S) (m58 a0 a1) (P2 (fun (t:Int×(List TOp))=>AV.int .i64 t.1) (fun (t:Int×(List TOp))=>tr i0_ [c0_0] t.2::L0)):=by
  obtain ⟨d,rfl,g⟩:=up hd
  refine Dn (t58 NN d _ _) ?_
  unfold b58 m58
  refine AU (A:=fun (s:Int×Int×(List TOp))=>[iW s.1,iW s.2.1]) (B:=fun s=>tr i0_ [c0_0] (s.2.2:List TOp)::L0) 0 rr ?_ ?_ ?_
  ·intro s1
   unfold Zl JE
   exact Ik 0 rfl<|q_p fr<|q_i (BZ 0 rfl rfl fun x1 hx1=>Ci 0 rfl hx1 (by decide)<|CH 0 rfl rfl hx1 rfl (N9 s1.1) fun z1 hz1=>q_p fr<|A7 (aF1 (Ab rfl) fun l0_=>w88 (by omega) (wi .i64 (s1.1 + 1))) fun y1 hy1=>BZ 0 rfl rfl fun x2 hx2=>Ci 0 rfl hx2 (by decide)<|CH 0 rfl rfl hx2 rfl (N8 y1) fun z2 hz2=>q_p fr<|BZ 0 rfl rfl fun x3 hx3=>Ci 0 rfl hx3 (by decide)<|CH 0 rfl rfl hx3 rfl (NA (wi .i64 ((wi .i64 (s1.1 + 1)) + 1))) fun z3 hz3=>q_p fr<|BZ 0 rfl rfl fun x4 hx4=>Ci 0 rfl hx4 (by decide)<|CH 0 rfl rfl hx4 rfl (Kk (wi .i64 ((wi .i64 ((wi .i64 (s1.1 + 1)) + 1)) + 1))) fun z4 hz4=>q_p fr<|q_p fr<|q_p fr<|BZ 0 rfl rfl fun x5 hx5=>Ci 0 rfl hx5 (by decide)<|CH 0 rfl rfl hx5 rfl (PW ((Int.tmod (wi .i64 ((wi .i64 ((wi .i64 ((wi .i64 (s1.1 + 1)) + 1)) + 1)) + 1)) 3) == 0)) fun z5 hz5=>q_p fr<|q_p fr<|q_p fr<|BZ 0 rfl rfl fun x6 hx6=>Ci 0 rfl hx6 (by decide)<|CH 0 rfl rfl hx6 rfl (PX ((Int.tmod (wi .i64 ((wi .i64 ((wi .i64 ((wi .i64 ((wi .i64 (s1.1 + 1)) + 1)) + 1)) + 1)) + 1)) 3) == 0)) fun z6 hz6=>q_p fr<|q_p fr<|Aa 0 rr)<|Am 0 rr
  ·exact fun i1 s2=>q_n (AW 0 rfl rfl)<|Ap
  ·exact fun s2=>AW 0 rfl rfl
def JG (s1:Int×Int×(List Af)):Option (LO (Int×Int×(List Af))):=bif decide (s1.2.1 < (s1.2.2.length:Int)) then (Al s1.2.2 s1.2.1).bind fun x1=>CG (s1.2.2.set (Int.toNat s1.2.1) ({ x1 with Client:=s1.1 })) fun z1=>(Al z1 s1.2.1).bind fun x2=>CG (z1.set (Int.toNat s1.2.1) ({ x2 with Number:=wi .i64 (s1.1 + 1) })) fun z2=>(Al z2 s1.2.1).bind fun x3=>CG (z2.set (Int.toNat s1.2.1) ({ x3 with Time:=wi .i64 ((wi .i64 (s1.1 + 1)) + 1) })) fun z3=>(Al z3 s1.2.1).bind fun x4=>(m58 x4.Ops (wi .i64 ((wi .i64 ((wi .i64 (s1.1 + 1)) + 1)) + 1))).bind fun y1=>CG (z3.set (Int.toNat s1.2.1) ({ x4 with Ops:=y1.2 })) fun z4=>some (LO.norm (y1.1,wi .i64 (s1.2.1 + 1),z4)) else some (LO.exit 0 (s1.1,s1.2.1,s1.2.2))
def m34 (a0:List Af) (a1:Int):Option (Int×(List Af)):=(Ar (JG) NN (a1,0,a0)).bind (Ac (fun _=>none) (fun i1 s2=>if i1 = 0 then some (s2.1,s2.2.2) else none) (fun s2=>some (0,s2.2.2)))
theorem w34 {d:Nat} (hd:3≤d) (L0:List En) (i0_:List Nat) (c0_0:AV) (a0:List Af) (a1:Int):Okh (tr i0_ [c0_0] (a0:List Af)::L0) (fun S=>R NN d 34 [c0_0,iW a1] S) (m34 a0 a1) (P2 (fun (t:Int×(List Af))=>AV.int .i64 t.1) (fun (t:Int×(List Af))=>tr i0_ [c0_0] t.2::L0)):=by
  obtain ⟨d,rfl,g⟩:=up hd
  refine Dn (t34 NN d _ _) ?_
  unfold b34 m34
  refine AU (A:=fun (s:Int×Int×(List Af))=>[iW s.1,iW s.2.1]) (B:=fun s=>tr i0_ [c0_0] (s.2.2:List Af)::L0) 0 rr ?_ ?_ ?_
  ·intro s1
   unfold Zr JG
   exact Ik 0 rfl<|q_p fr<|q_i (BZ 0 rfl rfl fun x1 hx1=>Ci 0 rfl hx1 (by decide)<|CH 0 rfl rfl hx1 rfl (Md s1.1) fun z1 hz1=>q_p fr<|BZ 0 rfl rfl fun x2 hx2=>Ci 0 rfl hx2 (by decide)<|CH 0 rfl rfl hx2 rfl (Mc (wi .i64 (s1.1 + 1))) fun z2 hz2=>q_p fr<|BZ 0 rfl rfl fun x3 hx3=>Ci 0 rfl hx3 (by decide)<|CH 0 rfl rfl hx3 rfl (PN (wi .i64 ((wi .i64 (s1.1 + 1)) + 1))) fun z3 hz3=>q_p fr<|BZ 0 rfl rfl fun x4 hx4=>Ci 0 rfl hx4 (by decide)<|Ut rfl rfl hx4 W0 fun w1 ic1=>q_s (mg:=m58 x4.Ops (wi .i64 ((wi .i64 ((wi .i64 (s1.1 + 1)) + 1)) + 1))) (w58 (by omega) _ ic1 w1 x4.Ops (wi .i64 ((wi .i64 ((wi .i64 (s1.1 + 1)) + 1)) + 1))) fun y1 hy1=>FU fun z4 hz4=>q_p fr<|Aa 0 rr)<|Am 0 rr
  ·exact fun i1 s2=>q_n (AW 0 rfl rfl)<|Ap
  ·exact fun s2=>AW 0 rfl rfl
def m10 (a0:Ae) (a1:Int):Option (Int×Ae):=(m31 a0.Bad a1).bind fun y1=>CG ({ a0 with Bad:=y1.2 }) fun z1=>(m32 z1.Replicas y1.1).bind fun y2=>CG ({ z1 with Replicas:=y2.2 }) fun z2=>(m33 z2.Ledger y2.1).bind fun y3=>CG ({ z2 with Ledger:=y3.2 }) fun z3=>(m34 z3.Requests y3.1).bind fun y4=>CG ({ z3 with Requests:=y4.2 }) fun z4=>some (y4.1,z4)
theorem w10 {d:Nat} (hd:4≤d) (L0:List En) (i0_:List Nat) (c0_0 c0_1 c0_2 c0_3 c0_4:AV) (a0:Ae) (a1:Int):Okh (tr i0_ [c0_0,c0_1,c0_2,c0_3,c0_4] (a0:Ae)::L0) (fun S=>R NN d 10 [.agg [c0_0,c0_1,c0_2,c0_3,c0_4],iW a1] S) (m10 a0 a1) (P2 (fun (t:Int×Ae)=>AV.int .i64 t.1) (fun (t:Int×Ae)=>tr i0_ [c0_0,c0_1,c0_2,c0_3,c0_4] t.2::L0)):=by
  obtain ⟨d,rfl,g⟩:=up hd
  refine Dn (t10 NN d _ _) ?_
  unfold b10 m10
  exact AL (n:=5) rfl rfl (by decide) fun b1=>q_p fr<|Ao 0 rfl rfl<|Ds 2 [1,0] (by decide) (by decide)<|Mr W1 rfl fun ic1=>q_s (mg:=m31 a0.Bad a1) (w31 (by omega) _ ic1 c0_1 a0.Bad a1) fun y1 hy1=>FU fun z1 hz1=>q_p fr<|Ao 1 rfl rfl<|Mr Kr rfl fun ic2=>q_s (mg:=m32 z1.Replicas y1.1) (w32 (by omega) _ ic2 c0_2 z1.Replicas y1.1) fun y2 hy2=>FU fun z2 hz2=>q_p fr<|Ao 1 rfl rfl<|Mr Nb rfl fun ic3=>q_s (mg:=m33 z2.Ledger y2.1) (w33 (by omega) _ ic3 c0_3 z2.Ledger y2.1) fun y3 hy3=>FU fun z3 hz3=>q_p fr<|Ao 1 rfl rfl<|Mr Kq rfl fun ic4=>q_s (mg:=m34 z3.Requests y3.1) (w34 (by omega) _ ic4 c0_4 z3.Requests y3.1) fun y4 hy4=>FU fun z4 hz4=>Ds 2 [1,0] (by decide) (by decide)<|AW 1 rfl rfl
def m11 (a0:Aq) (a1:Int):Option (Int×Aq):=(m10 a0.Cluster a1).bind fun y1=>CG ({ a0 with Cluster:=y1.2 }) fun z1=>some (y1.1,z1)
theorem w11 {d:Nat} (hd:5≤d) (L0:List En) (i0_:List Nat) (c0_0 c0_1 c0_2 c0_3 c0_4 c0_5:AV) (a0:Aq) (a1:Int):Okh (tr i0_ [c0_0,c0_1,c0_2,c0_3,c0_4,c0_5] (a0:Aq)::L0) (fun S=>R NN d 11 [.agg [c0_0,c0_1,c0_2,c0_3,c0_4,c0_5],iW a1] S) (m11 a0 a1) (P2 (fun (t:Int×Aq)=>AV.int .i64 t.1) (fun (t:Int×Aq)=>tr i0_ [c0_0,c0_1,c0_2,c0_3,c0_4,c0_5] t.2::L0)):=by
  obtain ⟨d,rfl,g⟩:=up hd
  refine Dn (t11 NN d _ _) ?_
  unfold b11 m11
  exact AL (n:=6) rfl rfl (by decide) fun b1=>q_p fr<|AX 0 rfl rfl rfl<|Ds 2 [1,0] (by decide) (by decide)<|Mr LH rfl fun ic1=>q_s (mg:=m10 a0.Cluster a1) (w10 (by omega) _ ic1 c0_1 c0_2 c0_3 c0_4 c0_5 a0.Cluster a1) fun y1 hy1=>FU fun z1 hz1=>Ds 2 [1,0] (by decide) (by decide)<|AW 1 rfl rfl
def JD (a0:List Int) (s1:Int×Int×Int):Option (LO (Int×Int×Int)):=bif decide (s1.2.2 < (a0.length:Int)) then (Al a0 s1.2.2).bind fun x1=>bif x1 != s1.1 then some (LO.ret (s1.1,(-1),s1.2.2)) else some (LO.norm (wi .i64 (s1.1 + 1),s1.2.1,wi .i64 (s1.2.2 + 1))) else some (LO.exit 0 (s1.1,s1.2.1,s1.2.2))
def m59 (a0:List Int) (a1:Int):Option (Int):=(Ar (JD a0) NN (a1,0,0)).bind (Ac (fun _=>none) (fun i1 s2=>if i1 = 0 then some s2.1 else none) (fun s2=>some s2.2.1))
theorem w59 {d:Nat} (hd:1≤d) (k0:Bool) (a0:List Int) (a1:Int):Fit (R NN d 59 [.rsl k0 false (a0.map (Enc.cs k0)),iW a1] []) (m59 a0 a1) PI:=by
  obtain ⟨d,rfl,g⟩:=up hd
  refine Ay (t59 NN d _ _) ?_
  unfold b59 m59
  refine AU (A:=fun (s:Int×Int×Int)=>[iW s.1,iW s.2.1,iW s.2.2]) (B:=fun s=>[]) 0 rr ?_ ?_ ?_
  ·intro s1
   unfold Zk JD
   exact As<|q_p fr<|q_i (A9 rfl fun x1 hx1=>q_p fr<|q_p fr<|q_i (Aj 0 rr)<|q_p fr<|q_p fr<|Aa 0 rr)<|Am 0 rr
  ·exact fun i1 s2=>q_n (Ad (Ab rfl) rfl)<|Ap
  ·exact fun s2=>Ad (Ab rfl) rfl
def JC (a0:List Ak) (s1:Int×Int×Int):Option (LO (Int×Int×Int)):=bif decide (s1.2.2 < (a0.length:Int)) then (Al a0 s1.2.2).bind fun x1=>bif x1.Id != s1.1 then some (LO.ret (s1.1,(-1),s1.2.2)) else (Al a0 s1.2.2).bind fun x2=>bif x2.View != (wi .i64 (s1.1 + 1)) then some (LO.ret (wi .i64 (s1.1 + 1),(-1),s1.2.2)) else (Al a0 s1.2.2).bind fun x3=>bif x3.Start != (wi .i64 ((wi .i64 (s1.1 + 1)) + 1)) then some (LO.ret (wi .i64 ((wi .i64 (s1.1 + 1)) + 1),(-1),s1.2.2)) else (Al a0 s1.2.2).bind fun x4=>bif x4.Done != (wi .i64 ((wi .i64 ((wi .i64 (s1.1 + 1)) + 1)) + 1)) then some (LO.ret (wi .i64 ((wi .i64 ((wi .i64 (s1.1 + 1)) + 1)) + 1),(-1),s1.2.2)) else some (LO.norm (wi .i64 ((wi .i64 ((wi .i64 ((wi .i64 (s1.1 + 1)) + 1)) + 1)) + 1),s1.2.1,wi .i64 (s1.2.2 + 1))) else some (LO.exit 0 (s1.1,s1.2.1,s1.2.2))
def m60 (a0:List Ak) (a1:Int):Option (Int):=(Ar (JC a0) NN (a1,0,0)).bind (Ac (fun _=>none) (fun i1 s2=>if i1 = 0 then some s2.1 else none) (fun s2=>some s2.2.1))
theorem w60 {d:Nat} (hd:1≤d) (k0:Bool) (a0:List Ak) (a1:Int):Fit (R NN d 60 [.rsl k0 false (a0.map (Enc.cs k0)),iW a1] []) (m60 a0 a1) PI:=by
  obtain ⟨d,rfl,g⟩:=up hd
  refine Ay (t60 NN d _ _) ?_
  unfold b60 m60
  refine AU (A:=fun (s:Int×Int×Int)=>[iW s.1,iW s.2.1,iW s.2.2]) (B:=fun s=>[]) 0 rr ?_ ?_ ?_
  ·intro s1
   unfold Zj JC
   exact As<|q_p fr<|q_i (A9 rfl fun x1 hx1=>q_p fr<|q_p fr<|q_p fr<|q_i (Aj 0 rr)<|q_p fr<|A9 rfl fun x2 hx2=>q_p fr<|q_p fr<|q_p fr<|q_i (Aj 0 rr)<|q_p fr<|A9 rfl fun x3 hx3=>q_p fr<|q_p fr<|q_p fr<|q_i (Aj 0 rr)<|q_p fr<|A9 rfl fun x4 hx4=>q_p fr<|q_p fr<|q_p fr<|q_i (Aj 0 rr)<|q_p fr<|q_p fr<|Aa 0 rr)<|Am 0 rr
  ·exact fun i1 s2=>q_n (Ad (Ab rfl) rfl)<|Ap
  ·exact fun s2=>Ad (Ab rfl) rfl
def J9 (a0:List Ax) (s1:Int×Int×Int):Option (LO (Int×Int×Int)):=bif decide (s1.2.2 < (a0.length:Int)) then (Al a0 s1.2.2).bind fun x1=>bif x1.Slot != s1.1 then some (LO.ret (s1.1,(-1),s1.2.2)) else (Al a0 s1.2.2).bind fun x2=>bif x2.View != (wi .i64 (s1.1 + 1)) then some (LO.ret (wi .i64 (s1.1 + 1),(-1),s1.2.2)) else (Al a0 s1.2.2).bind fun x3=>bif x3.Value != (wi .i64 ((wi .i64 (s1.1 + 1)) + 1)) then some (LO.ret (wi .i64 ((wi .i64 (s1.1 + 1)) + 1),(-1),s1.2.2)) else some (LO.norm (wi .i64 ((wi .i64 ((wi .i64 (s1.1 + 1)) + 1)) + 1),s1.2.1,wi .i64 (s1.2.2 + 1))) else some (LO.exit 0 (s1.1,s1.2.1,s1.2.2))
def m89 (a0:List Ax) (a1:Int):Option (Int):=(Ar (J9 a0) NN (a1,0,0)).bind (Ac (fun _=>none) (fun i1 s2=>if i1 = 0 then some s2.1 else none) (fun s2=>some s2.2.1))
theorem w89 {d:Nat} (hd:1≤d) (k0:Bool) (a0:List Ax) (a1:Int):Fit (R NN d 89 [.rsl k0 false (a0.map (Enc.cs k0)),iW a1] []) (m89 a0 a1) PI:=by
  obtain ⟨d,rfl,g⟩:=up hd
  refine Ay (t89 NN d _ _) ?_
  unfold b89 m89
  refine AU (A:=fun (s:Int×Int×Int)=>[iW s.1,iW s.2.1,iW s.2.2]) (B:=fun s=>[]) 0 rr ?_ ?_ ?_
  ·intro s1
   unfold YO J9
   exact As<|q_p fr<|q_i (A9 rfl fun x1 hx1=>q_p fr<|q_p fr<|q_p fr<|q_i (Aj 0 rr)<|q_p fr<|A9 rfl fun x2 hx2=>q_p fr<|q_p fr<|q_p fr<|q_i (Aj 0 rr)<|q_p fr<|A9 rfl fun x3 hx3=>q_p fr<|q_p fr<|q_p fr<|q_i (Aj 0 rr)<|q_p fr<|q_p fr<|Aa 0 rr)<|Am 0 rr
  ·exact fun i1 s2=>q_n (Ad (Ab rfl) rfl)<|Ap
  ·exact fun s2=>Ad (Ab rfl) rfl
def JB (a0:List Ah) (s1:Int×Int×Int):Option (LO (Int×Int×Int)):=bif decide (s1.2.2 < (a0.length:Int)) then (Al a0 s1.2.2).bind fun x1=>bif x1.Kind != s1.1 then some (LO.ret (s1.1,(-1),s1.2.2)) else (Al a0 s1.2.2).bind fun x2=>bif x2.View != (wi .i64 (s1.1 + 1)) then some (LO.ret (wi .i64 (s1.1 + 1),(-1),s1.2.2)) else (Al a0 s1.2.2).bind fun x3=>bif x3.From != (wi .i64 ((wi .i64 (s1.1 + 1)) + 1)) then some (LO.ret (wi .i64 ((wi .i64 (s1.1 + 1)) + 1),(-1),s1.2.2)) else (Al a0 s1.2.2).bind fun x4=>bif x4.Slot != (wi .i64 ((wi .i64 ((wi .i64 (s1.1 + 1)) + 1)) + 1)) then some (LO.ret (wi .i64 ((wi .i64 ((wi .i64 (s1.1 + 1)) + 1)) + 1),(-1),s1.2.2)) else (Al a0 s1.2.2).bind fun x5=>bif x5.Value != (wi .i64 ((wi .i64 ((wi .i64 ((wi .i64 (s1.1 + 1)) + 1)) + 1)) + 1)) then some (LO.ret (wi .i64 ((wi .i64 ((wi .i64 ((wi .i64 (s1.1 + 1)) + 1)) + 1)) + 1),(-1),s1.2.2)) else (Al a0 s1.2.2).bind fun x6=>(m89 x6.Certs (wi .i64 ((wi .i64 ((wi .i64 ((wi .i64 ((wi .i64 (s1.1 + 1)) + 1)) + 1)) + 1)) + 1))).bind fun y1=>bif decide (y1 < 0) then some (LO.ret (y1,(-1),s1.2.2)) else (Al a0 s1.2.2).bind fun x7=>(m59 x7.Refs y1).bind fun y2=>bif decide (y2 < 0) then some (LO.ret (y2,(-1),s1.2.2)) else some (LO.norm (y2,s1.2.1,wi .i64 (s1.2.2 + 1))) else some (LO.exit 0 (s1.1,s1.2.1,s1.2.2))
def m61 (a0:List Ah) (a1:Int):Option (Int):=(Ar (JB a0) NN (a1,0,0)).bind (Ac (fun _=>none) (fun i1 s2=>if i1 = 0 then some s2.1 else none) (fun s2=>some s2.2.1))
theorem w61 {d:Nat} (hd:2≤d) (k0:Bool) (a0:List Ah) (a1:Int):Fit (R NN d 61 [.rsl k0 false (a0.map (Enc.cs k0)),iW a1] []) (m61 a0 a1) PI:=by
  obtain ⟨d,rfl,g⟩:=up hd
  refine Ay (t61 NN d _ _) ?_
  unfold b61 m61
  refine AU (A:=fun (s:Int×Int×Int)=>[iW s.1,iW s.2.1,iW s.2.2]) (B:=fun s=>[]) 0 rr ?_ ?_ ?_
  ·intro s1
   unfold Zi JB
   exact As<|q_p fr<|q_i (A9 rfl fun x1 hx1=>q_p fr<|q_p fr<|q_p fr<|q_i (Aj 0 rr)<|q_p fr<|A9 rfl fun x2 hx2=>q_p fr<|q_p fr<|q_p fr<|q_i (Aj 0 rr)<|q_p fr<|A9 rfl fun x3 hx3=>q_p fr<|q_p fr<|q_p fr<|q_i (Aj 0 rr)<|q_p fr<|A9 rfl fun x4 hx4=>q_p fr<|q_p fr<|q_p fr<|q_i (Aj 0 rr)<|q_p fr<|A9 rfl fun x5 hx5=>q_p fr<|q_p fr<|q_p fr<|q_i (Aj 0 rr)<|q_p fr<|A9 rfl fun x6 hx6=>q_p fr<|q_p fr<|A7 (aF2 A5 (Ab rfl) fun l0_ l1_=>w89 (by omega) l0_ x6.Certs (wi .i64 ((wi .i64 ((wi .i64 ((wi .i64 ((wi .i64 (s1.1 + 1)) + 1)) + 1)) + 1)) + 1))) fun y1 hy1=>q_p fr<|q_i (Aj 0 rr)<|A9 rfl fun x7 hx7=>q_p fr<|q_p fr<|A7 (aF2 A5 (Ab rfl) fun l0_ l1_=>w59 (by omega) l0_ x7.Refs y1) fun y2 hy2=>q_p fr<|q_i (Aj 0 rr)<|q_p fr<|Aa 0 rr)<|Am 0 rr
  ·exact fun i1 s2=>q_n (Ad (Ab rfl) rfl)<|Ap
  ·exact fun s2=>Ad (Ab rfl) rfl
def J8 (a0:List TOp) (s1:Int×Int×Int):Option (LO (Int×Int×Int)):=bif decide (s1.2.2 < (a0.length:Int)) then (Al a0 s1.2.2).bind fun x1=>bif x1.Kind != s1.1 then some (LO.ret (s1.1,(-1),s1.2.2)) else (Al a0 s1.2.2).bind fun x2=>(m88 (wi .i64 (s1.1 + 1))).bind fun y1=>bif !(x2.Path == y1) then some (LO.ret (wi .i64 (s1.1 + 1),(-1),s1.2.2)) else (Al a0 s1.2.2).bind fun x3=>bif x3.Data != (wi .i64 ((wi .i64 (s1.1 + 1)) + 1)) then some (LO.ret (wi .i64 ((wi .i64 (s1.1 + 1)) + 1),(-1),s1.2.2)) else (Al a0 s1.2.2).bind fun x4=>bif x4.Version != (wi .i64 ((wi .i64 ((wi .i64 (s1.1 + 1)) + 1)) + 1)) then some (LO.ret (wi .i64 ((wi .i64 ((wi .i64 (s1.1 + 1)) + 1)) + 1),(-1),s1.2.2)) else (Al a0 s1.2.2).bind fun x5=>bif x5.Seq != ((Int.tmod (wi .i64 ((wi .i64 ((wi .i64 ((wi .i64 (s1.1 + 1)) + 1)) + 1)) + 1)) 3) == 0) then some (LO.ret (wi .i64 ((wi .i64 ((wi .i64 ((wi .i64 (s1.1 + 1)) + 1)) + 1)) + 1),(-1),s1.2.2)) else (Al a0 s1.2.2).bind fun x6=>bif x6.Own != ((Int.tmod (wi .i64 ((wi .i64 ((wi .i64 ((wi .i64 ((wi .i64 (s1.1 + 1)) + 1)) + 1)) + 1)) + 1)) 3) == 0) then some (LO.ret (wi .i64 ((wi .i64 ((wi .i64 ((wi .i64 ((wi .i64 (s1.1 + 1)) + 1)) + 1)) + 1)) + 1),(-1),s1.2.2)) else some (LO.norm (wi .i64 ((wi .i64 ((wi .i64 ((wi .i64 ((wi .i64 ((wi .i64 (s1.1 + 1)) + 1)) + 1)) + 1)) + 1)) + 1),s1.2.1,wi .i64 (s1.2.2 + 1))) else some (LO.exit 0 (s1.1,s1.2.1,s1.2.2))
def m90 (a0:List TOp) (a1:Int):Option (Int):=(Ar (J8 a0) NN (a1,0,0)).bind (Ac (fun _=>none) (fun i1 s2=>if i1 = 0 then some s2.1 else none) (fun s2=>some s2.2.1))
theorem w90 {d:Nat} (hd:2≤d) (k0:Bool) (a0:List TOp) (a1:Int):Fit (R NN d 90 [.rsl k0 false (a0.map (Enc.cs k0)),iW a1] []) (m90 a0 a1) PI:=by
  obtain ⟨d,rfl,g⟩:=up hd
  refine Ay (t90 NN d _ _) ?_
  unfold b90 m90
  refine AU (A:=fun (s:Int×Int×Int)=>[iW s.1,iW s.2.1,iW s.2.2]) (B:=fun s=>[]) 0 rr ?_ ?_ ?_
  ·intro s1
   unfold YN J8
   exact As<|q_p fr<|q_i (A9 rfl fun x1 hx1=>q_p fr<|q_p fr<|q_p fr<|q_i (Aj 0 rr)<|q_p fr<|A9 rfl fun x2 hx2=>q_p fr<|q_p fr<|A7 (aF1 (Ab rfl) fun l0_=>w88 (by omega) (wi .i64 (s1.1 + 1))) fun y1 hy1=>q_p (fun _=>Mk)<|q_i (Aj 0 rr)<|q_p fr<|A9 rfl fun x3 hx3=>q_p fr<|q_p fr<|q_p fr<|q_i (Aj 0 rr)<|q_p fr<|A9 rfl fun x4 hx4=>q_p fr<|q_p fr<|q_p fr<|q_i (Aj 0 rr)<|q_p fr<|A9 rfl fun x5 hx5=>q_p fr<|q_p fr<|q_p fr<|q_p fr<|q_p (fun _=>LR _ _)<|q_i (Aj 0 rr)<|q_p fr<|A9 rfl fun x6 hx6=>q_p fr<|q_p fr<|q_p fr<|q_p fr<|q_p (fun _=>LR _ _)<|q_i (Aj 0 rr)<|q_p fr<|q_p fr<|Aa 0 rr)<|Am 0 rr
  ·exact fun i1 s2=>q_n (Ad (Ab rfl) rfl)<|Ap
  ·exact fun s2=>Ad (Ab rfl) rfl
def JA (a0:List Af) (s1:Int×Int×Int):Option (LO (Int×Int×Int)):=bif decide (s1.2.2 < (a0.length:Int)) then (Al a0 s1.2.2).bind fun x1=>bif x1.Client != s1.1 then some (LO.ret (s1.1,(-1),s1.2.2)) else (Al a0 s1.2.2).bind fun x2=>bif x2.Number != (wi .i64 (s1.1 + 1)) then some (LO.ret (wi .i64 (s1.1 + 1),(-1),s1.2.2)) else (Al a0 s1.2.2).bind fun x3=>bif x3.Time != (wi .i64 ((wi .i64 (s1.1 + 1)) + 1)) then some (LO.ret (wi .i64 ((wi .i64 (s1.1 + 1)) + 1),(-1),s1.2.2)) else (Al a0 s1.2.2).bind fun x4=>(m90 x4.Ops (wi .i64 ((wi .i64 ((wi .i64 (s1.1 + 1)) + 1)) + 1))).bind fun y1=>bif decide (y1 < 0) then some (LO.ret (y1,(-1),s1.2.2)) else some (LO.norm (y1,s1.2.1,wi .i64 (s1.2.2 + 1))) else some (LO.exit 0 (s1.1,s1.2.1,s1.2.2))
def m62 (a0:List Af) (a1:Int):Option (Int):=(Ar (JA a0) NN (a1,0,0)).bind (Ac (fun _=>none) (fun i1 s2=>if i1 = 0 then some s2.1 else none) (fun s2=>some s2.2.1))
theorem w62 {d:Nat} (hd:3≤d) (k0:Bool) (a0:List Af) (a1:Int):Fit (R NN d 62 [.rsl k0 false (a0.map (Enc.cs k0)),iW a1] []) (m62 a0 a1) PI:=by
  obtain ⟨d,rfl,g⟩:=up hd
  refine Ay (t62 NN d _ _) ?_
  unfold b62 m62
  refine AU (A:=fun (s:Int×Int×Int)=>[iW s.1,iW s.2.1,iW s.2.2]) (B:=fun s=>[]) 0 rr ?_ ?_ ?_
  ·intro s1
   unfold Zh JA
   exact As<|q_p fr<|q_i (A9 rfl fun x1 hx1=>q_p fr<|q_p fr<|q_p fr<|q_i (Aj 0 rr)<|q_p fr<|A9 rfl fun x2 hx2=>q_p fr<|q_p fr<|q_p fr<|q_i (Aj 0 rr)<|q_p fr<|A9 rfl fun x3 hx3=>q_p fr<|q_p fr<|q_p fr<|q_i (Aj 0 rr)<|q_p fr<|A9 rfl fun x4 hx4=>q_p fr<|q_p fr<|A7 (aF2 A5 (Ab rfl) fun l0_ l1_=>w90 (by omega) l0_ x4.Ops (wi .i64 ((wi .i64 ((wi .i64 (s1.1 + 1)) + 1)) + 1))) fun y1 hy1=>q_p fr<|q_i (Aj 0 rr)<|q_p fr<|Aa 0 rr)<|Am 0 rr
  ·exact fun i1 s2=>q_n (Ad (Ab rfl) rfl)<|Ap
  ·exact fun s2=>Ad (Ab rfl) rfl
def m35 (a0:Ae) (a1:Int):Option (Int):=(m59 a0.Bad a1).bind fun y1=>bif decide (y1 < 0) then some (-1) else (m60 a0.Replicas y1).bind fun y2=>bif decide (y2 < 0) then some (-1) else (m61 a0.Ledger y2).bind fun y3=>bif decide (y3 < 0) then some (-1) else (m62 a0.Requests y3).bind fun y4=>bif decide (y4 < 0) then some (-1) else some y4
theorem w35 {d:Nat} (hd:4≤d) (k0:Bool) (a0:Ae) (a1:Int):Fit (R NN d 35 [.agg (Enc.cs k0 a0),iW a1] []) (m35 a0 a1) PI:=by
  obtain ⟨d,rfl,g⟩:=up hd
  refine Ay (t35 NN d _ _) ?_
  unfold b35 m35
  exact AL (n:=5) rfl rfl (by decide) fun b1=>q_p fr<|Ao 0 rfl rfl<|A7 (aF2 A5 (Ab rfl) fun l0_ l1_=>w59 (by omega) l0_ a0.Bad a1) fun y1 hy1=>q_p fr<|q_i (Ad (Ab rfl) rfl)<|q_p fr<|Ao 0 rfl rfl<|A7 (aF2 A5 (Ab rfl) fun l0_ l1_=>w60 (by omega) l0_ a0.Replicas y1) fun y2 hy2=>q_p fr<|q_i (Ad (Ab rfl) rfl)<|q_p fr<|Ao 0 rfl rfl<|A7 (aF2 A5 (Ab rfl) fun l0_ l1_=>w61 (by omega) l0_ a0.Ledger y2) fun y3 hy3=>q_p fr<|q_i (Ad (Ab rfl) rfl)<|q_p fr<|Ao 0 rfl rfl<|A7 (aF2 A5 (Ab rfl) fun l0_ l1_=>w62 (by omega) l0_ a0.Requests y3) fun y4 hy4=>q_p fr<|q_i (Ad (Ab rfl) rfl)<|Ad (Ab rfl) rfl
def m12 (a0:Aq) (a1:Int):Option (Int):=(m35 a0.Cluster a1).bind fun y1=>bif decide (y1 < 0) then some (-1) else some y1
theorem w12 {d:Nat} (hd:5≤d) (k0:Bool) (a0:Aq) (a1:Int):Fit (R NN d 12 [.agg (Enc.cs k0 a0),iW a1] []) (m12 a0 a1) PI:=by
  obtain ⟨d,rfl,g⟩:=up hd
  refine Ay (t12 NN d _ _) ?_
  unfold b12 m12
  exact AL (n:=6) rfl rfl (by decide) fun b1=>q_p fr<|AX 0 rfl rfl rfl<|A7 (aF2 (AZ (Au (l0:=k0) (x:=a0.Cluster))) (Ab rfl) fun l0_ l1_=>w35 (by omega) l0_ a0.Cluster a1) fun y1 hy1=>q_p fr<|q_i (Ad (Ab rfl) rfl)<|Ad (Ab rfl) rfl
def m3 (a0:Ae) (a1:Int) (a2:Int):Option (Bool):=(m4 a0 1048576).bind fun y1=>bif decide (y1 < 0) then some true else (m6 a0).bind fun y2=>(m5 y2 a1 a2).bind fun y3=>(m6 a0).bind fun y4=>(m7 y4 a1 a2).bind fun y5=>(m8 y5 y3).bind fun y6=>bif !y6 then some false else (m6 a0).bind fun y7=>(m9 y4 y7).bind fun y8=>bif !y8 then some false else (m10 y4 1).bind fun y9=>( bif decide (y9.1 < 0) then some (LO.ret false) else (m8 y5 y3).bind fun y10=>bif !y10 then some (LO.ret false) else some (LO.norm false)).bind (Ac (fun s2=>(m11 y5 1).bind fun y11=>(m12 y11.2 1).bind fun y12=>bif decide (y12 < 0) then some false else bif y12 != y11.1 then some false else (m6 a0).bind fun y13=>(m7 y13 a1 a2).bind fun y14=>(m8 y14 y3).bind fun y15=>bif !y15 then some false else (m12 y11.2 1).bind fun y16=>bif decide (y16 < 0) then some false else bif y16 != y11.1 then some false else some true) (fun i4 s2=>none) (fun s2=>some s2))
theorem w3 {d:Nat} (hd:450≤d) (k0:Bool) (a0:Ae) (a1:Int) (a2:Int):Fit (R NN d 3 [.agg (Enc.cs k0 a0),iW a1,iW a2] []) (m3 a0 a1 a2) PB:=by
  obtain ⟨d,rfl,g⟩:=up hd
  refine Ay (t3 NN d _ _ _) ?_
  unfold b3 m3
  refine AL (n:=5) rfl rfl (by decide) fun b1=>AX 0 rfl rfl rfl<|A7 (aF2 (AZ (Au (l0:=k0) (x:=a0))) (Ab rfl) fun l0_ l1_=>w4 (by omega) l0_ a0 1048576) fun y1 hy1=>q_p fr<|q_i ?_ ?_
  ·exact Ad (Ab rfl) rfl
  ·refine AX 0 rfl rfl rfl<|G6 (W:=AV.agg) (mg:=m6 a0) CL (aF1 (AZ (Au (l0:=k0) (x:=a0))) fun l0_=>w6 (by omega) l0_ a0) fun y2 hy2 i1 cs1=>FV (fun S hS=>Ku (hS.get (k:=0) rfl)) fun hcs_=>?_
   obtain ⟨v1,v2,v3,v4,rfl⟩:=hcs_
   refine A7 (aF3 (AZ (Em 0 rfl)) (Ab rfl) (Ab rfl) fun l0_ l1_ l2_=>w5 (by omega) l0_ y2 a1 a2) fun y3 hy3=>Bc rfl fun b2=>Bb 0 rfl rfl rfl (by decide) rfl<|AX 2 rfl rfl rfl<|G6 (W:=AV.agg) (mg:=m6 a0) CL (aF1 (AZ (Au (l0:=k0) (x:=a0))) fun l0_=>w6 (by omega) l0_ a0) fun y4 hy4 i2 cs2=>FV (fun S hS=>Ku (hS.get (k:=0) rfl)) fun hcs_=>?_
   obtain ⟨v5,v6,v7,v8,rfl⟩:=hcs_
   refine Bc rfl fun b3=>Bb 0 rfl rfl rfl (by decide) rfl<|AX 0 rfl rfl rfl<|G6 (W:=AV.agg) (mg:=m7 y4 a1 a2) CL (aF3 (AZ (Em 1 rfl)) (Ab rfl) (Ab rfl) fun l0_ l1_ l2_=>w7 (by omega) l0_ y4 a1 a2) fun y5 hy5 i3 cs3=>FV (fun S hS=>O9 (hS.get (k:=0) rfl)) fun hcs_=>?_
   obtain ⟨v9,v10,v11,v12,rfl⟩:=hcs_
   refine Bc rfl fun b4=>Bb 0 rfl rfl rfl (by decide) rfl<|AX 0 rfl rfl rfl<|AX 4 rfl rfl rfl<|A7 (aF2 (AZ (Em 1 rfl)) (AZ (Au (l0:=false) (x:=y3))) fun l0_ l1_=>w8 (by omega) l0_ y5 l1_ y3) fun y6 hy6=>q_p fr<|q_i ?_ ?_
   ·exact Ad (Ab rfl) rfl
   ·refine AX 2 rfl rfl rfl<|AX 6 rfl rfl rfl<|A7 (aF1 (AZ (Au (l0:=k0) (x:=a0))) fun l0_=>w6f (by omega) l0_ a0) fun y7 hy7=>A7 (aF2 (AZ (Em 3 rfl)) (AZ (Au (l0:=false) (x:=y7))) fun l0_ l1_=>w9 (by omega) l0_ y4 l1_ y7) fun y8 hy8=>q_p fr<|q_i ?_ ?_
    ·exact Ad (Ab rfl) rfl
    ·refine AX 2 rfl rfl rfl<|Ds 7 [3,0,1,2,4,5,6] (by decide) (by decide)<|q_s (mg:=m10 y4 1) (w10 (by omega) _ i2 (iW y4.F) v5 v6 v7 v8 y4 1) fun y9 hy9=>AM (A:=fun (s:Bool)=>[.bool s]) (B:=fun s=>[tr i2 [iW y4.F,v5,v6,v7,v8] (y9.2:Ae),bx b4 [iW y5.Code,iW y5.Cluster.F,v9,v10,v11,v12],tr i3 [iW y5.Code,iW y5.Cluster.F,v9,v10,v11,v12] (y5:Aq),bx b3 [iW y4.F,v5,v6,v7,v8],bx b2 [iW y3.Code,iW y3.Cluster.F,.rsl false false (y3.Cluster.Bad.map (Enc.cs false)),.rsl false false (y3.Cluster.Replicas.map (Enc.cs false)),.rsl false false (y3.Cluster.Ledger.map (Enc.cs false)),.rsl false false (y3.Cluster.Requests.map (Enc.cs false))],tr i1 [iW y2.F,v1,v2,v3,v4] (y2:Ae),bx b1 [iW a0.F,.rsl k0 false (a0.Bad.map (Enc.cs k0)),.rsl k0 false (a0.Replicas.map (Enc.cs k0)),.rsl k0 false (a0.Ledger.map (Enc.cs k0)),.rsl k0 false (a0.Requests.map (Enc.cs k0))]]) ?_ ?_ ?_ ?_
     ·refine q_p fr<|q_j ?_ ?_
      ·first | refine Ct ?_ | skip
       exact Aj 0 rr
      ·exact AX 1 rfl rfl rfl<|AX 4 rfl rfl rfl<|A7 (aF2 (AZ (Em 2 rfl)) (AZ (Au (l0:=false) (x:=y3))) fun l0_ l1_=>w8 (by omega) l0_ y5 l1_ y3) fun y10 hy10=>q_p fr<|q_i (Aj 0 rr)<|Aa 0 rr
     ·intro s2
      refine AX 1 rfl rfl rfl<|Ds 7 [2,0,1,3,4,5,6] (by decide) (by decide)<|q_s (mg:=m11 y5 1) (w11 (by omega) _ i3 (iW y5.Code) (iW y5.Cluster.F) v9 v10 v11 v12 y5 1) fun y11 hy11=>AX 2 rfl rfl rfl<|A7 (aF2 (AZ (Em 0 rfl)) (Ab rfl) fun l0_ l1_=>w12 (by omega) l0_ y11.2 1) fun y12 hy12=>q_p fr<|q_i ?_ ?_
      ·exact Ad (Ab rfl) rfl
      ·refine q_p fr<|q_i ?_ ?_
       ·exact Ad (Ab rfl) rfl
       ·refine AX 6 rfl rfl rfl<|G6 (W:=AV.agg) (mg:=m6 a0) CL (aF1 (AZ (Au (l0:=k0) (x:=a0))) fun l0_=>w6 (by omega) l0_ a0) fun y13 hy13 i5 cs4=>FV (fun S hS=>Ku (hS.get (k:=0) rfl)) fun hcs_=>?_
        obtain ⟨v13,v14,v15,v16,rfl⟩:=hcs_
        refine G6 (W:=AV.agg) (mg:=m7 y13 a1 a2) CL (aF3 (AZ (Em 0 rfl)) (Ab rfl) (Ab rfl) fun l0_ l1_ l2_=>w7 (by omega) l0_ y13 a1 a2) fun y14 hy14 i6 cs5=>FV (fun S hS=>O9 (hS.get (k:=0) rfl)) fun hcs_=>?_
        obtain ⟨v17,v18,v19,v20,rfl⟩:=hcs_
        exact Bc rfl fun b5=>Bb 0 rfl rfl rfl (by decide) rfl<|AX 0 rfl rfl rfl<|AX 7 rfl rfl rfl<|A7 (aF2 (AZ (Em 1 rfl)) (AZ (Au (l0:=false) (x:=y3))) fun l0_ l1_=>w8 (by omega) l0_ y14 l1_ y3) fun y15 hy15=>q_p fr<|q_i (Ad (Ab rfl) rfl)<|AX 5 rfl rfl rfl<|A7 (aF2 (AZ (Em 3 rfl)) (Ab rfl) fun l0_ l1_=>w12 (by omega) l0_ y11.2 1) fun y16 hy16=>q_p fr<|q_i (Ad (Ab rfl) rfl)<|q_p fr<|q_i (Ad (Ab rfl) rfl)<|Ad (Ab rfl) rfl
     ·exact fun i4 s2=>Ap
     ·exact fun s2=>Ad (Ab rfl) rfl
end
end Go.Proofs.YtdlleiaejipncaaGreatDoor
