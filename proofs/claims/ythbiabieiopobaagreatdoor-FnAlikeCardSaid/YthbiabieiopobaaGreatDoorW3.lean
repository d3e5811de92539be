/- Plain functions, and that the evaluator computes them. -/
import Derived.Test.YthbiabieiopobaaGreatDoorW2
namespace Go.Proofs.YthbiabieiopobaaGreatDoor
open Go Go.Rf
set_option linter.unusedVariables false
set_option linter.unusedSimpArgs false
noncomputable section
def Rl (a0:List Az) (s1:Int×Int):Option (LO (Int×Int)):=bif decide (s1.2 < (a0.length:Int)) then ( (Av a0 s1.2).bind fun x1=>(dH x1).bind fun y1=>bif y1 != 0 then some (LO.ret y1) else bif decide (s1.2 > 0) then (Av a0 (wi .i64 (s1.2 - 1))).bind fun x2=>bif Op.bytesLess x1.Path x2.Path || x1.Path == x2.Path then some (LO.ret 1) else some (LO.norm s1.1) else some (LO.norm s1.1)).bind (Ak (fun s3=>some (LO.norm (s3,wi .i64 (s1.2 + 1)))) (fun i1 s3=>some (LO.exit i1 (s3,s1.2))) (fun s3=>some (LO.ret (s3,s1.2)))) else some (LO.exit 0 (s1.1,s1.2))
def Rk (a0:List Az) (ys1:List Az) (s5:Int×Bool×Int):Option (LO (Int×Bool×Int)):=bif decide (s5.2.2 < (ys1.length:Int)) then ( (Av ys1 s5.2.2).bind fun x4=>(Yu x4.Path).bind fun y3=>(Nn a0 y3.1).bind fun y4=>bif !y4.2 then some (LO.ret (4,s5.2.1)) else bif s5.2.1 then some (LO.norm (s5.1,true)) else (Av a0 y4.1).bind fun x5=>some (LO.norm (s5.1,x5.Owner != 0))).bind (Ak (fun s7=>some (LO.norm (s7.1,s7.2,wi .i64 (s5.2.2 + 1)))) (fun i3 s7=>some (LO.exit i3 (s7.1,s7.2,s5.2.2))) (fun s7=>some (LO.ret (s7.1,s7.2,s5.2.2)))) else some (LO.exit 2 (s5.1,s5.2.1,s5.2.2))
def dJ (a0:List Az):Option (Int):=bif decide ((a0.length:Int) > 20) then some 2 else (AB (Rl a0) NN (0,0)).bind (Ak (fun _=>none) (fun i2 s4=>if i2 = 0 then (Nn a0 ([47]:Str)).bind fun y2=>bif !y2.2 then some 4 else (Av a0 0).bind fun x3=>(EL a0 1 (a0.length:Int)).bind fun ys1=>(AB (Rk a0 ys1) NN (s4.1,x3.Owner != 0,0)).bind (Ak (fun _=>none) (fun i4 s8=>if i4 = 2 then bif s8.2.1 then some 1 else some 0 else none) (fun s8=>some s8.1)) else none) (fun s4=>some s4.1))
theorem w221 {d:Nat} (hd:6≤d) (k0:Bool) (a0:List Az):Fit (R NN d 221 [.rsl k0 false (a0.map (Enc.cs k0))] []) (dJ a0) PI:=by
  obtain ⟨d,rfl,g⟩:=up hd
  refine AD (t221 NN d _) ?_
  unfold kS dJ
  refine AL<|q_p fr<|q_i ?_ ?_
  ·exact Am (Ad rfl) rfl
  ·refine AL<|CU (A:=fun (s:Int×Int)=>[iW s.1,iW s.2]) (B:=fun s=>[]) 0 rr ?_ ?_ ?_
   ·intro s1
    unfold UD Rl
    refine q_p fr<|q_i ?_ ?_
    ·refine Bo (A:=fun (s:Int)=>[iW s]) (B:=fun s=>[]) ?_ ?_ ?_ ?_
     ·refine Bf rfl fun x1 hx1=>q_p fr<|AE rfl fun b1=>A6 0 rfl rfl rfl (by decide) rfl<|A9 0 rfl rfl rfl<|A7 (aF1 (A8 (Aq (l0:=false) (x:=x1))) fun l0_=>w228 (by omega) l0_ x1) fun y1 hy1=>q_p fr<|q_i ?_ ?_
      ·exact Ar 1 rr
      ·refine q_p fr<|q_k ?_ ?_
       ·exact q_p fr<|Ao 0 rfl rfl<|q_p fr<|Bf rfl fun x2 hx2=>q_p fr<|q_p fr<|q_p (fun _=>U5)<|q_i (Ar 1 rr)<|Ae 1 rr
       ·first | refine CZ ?_ | skip
        exact Ae 1 rr
     ·exact fun s3=>q_p fr<|Ae 0 rr
     ·exact fun i1 s3=>Ax 0 rr
     ·exact fun s3=>Ar 0 rr
    ·exact Ax 0 rr
   ·intro i2 s4
    refine q_n ?_ ?_
    ·refine A7 (aF2 As (Ad rfl) fun l0_ l1_=>Pi (by omega) l0_ a0 ([47]:Str)) fun y2 hy2=>q_q fr<|q_q fr<|q_p fr<|q_i ?_ ?_
     ·exact Am (Ad rfl) rfl
     ·refine Bf rfl fun x3 hx3=>q_p fr<|q_p fr<|q_p fr<|NX rfl (.inl rfl) (.inr ⟨rfl,rfl⟩) fun fl1 ys1 hys1=>AL<|CU (A:=fun (s:Int×Bool×Int)=>[iW s.1,.bool s.2.1,iW s.2.2]) (B:=fun s=>[]) 0 rr ?_ ?_ ?_
      ·intro s5
       unfold UC Rk
       refine q_p fr<|q_i ?_ ?_
       ·refine Bo (A:=fun (s:Int×Bool)=>[iW s.1,.bool s.2]) (B:=fun s=>[]) ?_ ?_ ?_ ?_
        ·exact Bf rfl fun x4 hx4=>q_p fr<|AE rfl fun b2=>A6 0 rfl rfl rfl (by decide) rfl<|q_p fr<|Ao 0 rfl rfl<|A7 (aF1 (Ad rfl) fun l0_=>gC (by omega) x4.Path) fun y3 hy3=>q_q fr<|q_q fr<|A7 (aF2 As (Ad rfl) fun l0_ l1_=>Pi (by omega) l0_ a0 y3.1) fun y4 hy4=>q_q fr<|q_q fr<|q_p fr<|q_i (Ar 1 rr)<|q_j (Ae 1 rr)<|Bf rfl fun x5 hx5=>q_p fr<|q_p fr<|q_p fr<|Ae 1 rr
        ·exact fun s7=>q_p fr<|Ae 0 rr
        ·exact fun i3 s7=>Ax 0 rr
        ·exact fun s7=>Ar 0 rr
       ·exact Ax 0 rr
      ·exact fun i4 s8=>q_n (q_i (Am (Ad rfl) rfl)<|Am (Ad rfl) rfl)<|A4
      ·exact fun s8=>Am (Ad rfl) rfl
    ·exact A4
   ·exact fun s4=>Am (Ad rfl) rfl
def VX (a0:List Az) (a1:Str):Option (Int):=(dJ a0).bind fun y1=>bif y1 != 0 then some y1 else (Wn a1).bind fun y2=>some y2
theorem bL {d:Nat} (hd:7≤d) (k0:Bool) (a0:List Az) (a1:Str):Fit (R NN d 205 [.rsl k0 false (a0.map (Enc.cs k0)),AY a1] []) (VX a0 a1) PI:=by
  obtain ⟨d,rfl,g⟩:=up hd
  refine AD (t205 NN d _ _) ?_
  unfold kY VX
  exact A7 (aF1 As fun l0_=>w221 (by omega) l0_ a0) fun y1 hy1=>q_p fr<|q_i (Am (Ad rfl) rfl)<|A7 (aF1 (Ad rfl) fun l0_=>bT (by omega) a1) fun y2 hy2=>Am (Ad rfl) rfl
def m209 (a0:Str) (a1:Str):Option (Str):=bif a0 == ([47]:Str) then (eU a0 a1).bind fun t1=>some t1 else (eU a0 ([47]:Str)).bind fun t2=>(eU t2 a1).bind fun t3=>some t3
def Yt (a0:List Az) (a1:Int) (a2:List Az):Option (List Az):=YB 48 a0 a1 a2
theorem w210 {d:Nat} (hd:1≤d) (L0:List En) (i0_:List Nat) (v0_:AV) (a0:List Az) (a1:Int) (k2 f2_:Bool) (a2:List Az):Okh (wla i0_ v0_ a0::L0) (fun S=>R NN d 210 [v0_,iW a1,.rsl k2 f2_ (a2.map (Enc.cs k2))] S) (Yt a0 a1 a2) (P5 (fun (x:List Nat×AV) (t:List Az)=>x.2) (fun (x:List Nat×AV) (t:List Az)=>wla x.1 x.2 t::L0)):=by
  obtain ⟨d,rfl,g⟩:=up hd
  refine Do (t210 NN d _ _ _) ?_
  unfold kV Yt
  exact ZR rfl rfl (fun _ _=>rfl)
def dQ (a0:List Az) (a1:Str) (a2:Int) (a3:Int) (a4:Bool):Option (Bl):=(VX a0 a1).bind fun y1=>bif y1 != 0 then some (⟨y1,[],[]⟩:Bl) else ( bif !(Tu a2) then some (LO.ret 3) else bif !(Yv a3) then some (LO.ret 3) else bif a1 == ([47]:Str) then some (LO.ret 1) else some (LO.norm 0)).bind (Ak (fun s2=>(Yu a1).bind fun y2=>(Nn a0 y2.1).bind fun y3=>bif !y3.2 then some (⟨4,[],[]⟩:Bl) else (Av a0 y3.1).bind fun x1=>bif x1.Owner != 0 then some (⟨8,[],[]⟩:Bl) else (Ls a0).bind fun z1=>( bif a4 then none else some (LO.norm a1)).bind (Ak (fun s4=>(Nn z1 s4).bind fun y4=>bif y4.2 then some (⟨6,[],[]⟩:Bl) else bif (z1.length:Int) == 20 then some (⟨2,[],[]⟩:Bl) else (Yt z1 y4.1 [(⟨s4,a2,0,a3,0⟩:Az)]).bind fun z2=>some (⟨0,s4,z2⟩:Bl)) (fun i3 s4=>none) (fun s4=>some (⟨s2,[],[]⟩:Bl)))) (fun i1 s2=>none) (fun s2=>some (⟨s2,[],[]⟩:Bl)))
set_option maxRecDepth 4000 in
theorem w181 {d:Nat} (hd:8≤d) (k0:Bool) (a0:List Az) (a1:Str) (a2:Int) (a3:Int) (a4:Bool):Fit (R NN d 181 [.rsl k0 false (a0.map (Enc.cs k0)),AY a1,iW a2,iW a3,.bool a4] []) (dQ a0 a1 a2 a3 a4) (P0 (fun (t:Bl)=>AV.agg (Enc.cs false t))):=by
  obtain ⟨d,rfl,g⟩:=up hd
  refine AD (t181 NN d _ _ _ _ _) ?_
  unfold lH dQ
  refine AE rfl fun b1=>A7 (aF2 As (Ad rfl) fun l0_ l1_=>bL (by omega) l0_ a0 a1) fun y1 hy1=>q_p fr<|q_i ?_ ?_
  ·exact q_p (fun _=>Df rfl)<|A6 0 rfl rfl rfl (by decide) rfl<|AI (fun S hS=>hS.lda 0 rfl rfl) (A8 (Aa (Ad rfl) (Aa (Ad rfl) (Aa (As (α:=Az) (l0:=false) (fl:=true) (xs:=[])) Ah)))) rfl
  ·refine Bo (A:=fun (s:Int)=>[]) (B:=fun s=>[bx b1 [iW s,AY [],.rsl false true []]]) ?_ ?_ ?_ ?_
   ·refine AS (aF1 (Ad rfl) fun l0_=>XP (by omega) a2)<|q_p fr<|q_j ?_ ?_
    ·first | refine BW ?_ | skip
     exact q_p (fun _=>Df rfl)<|A6 0 rfl rfl rfl (by decide) rfl<|Ar 0 rr
    ·exact AS (aF1 (Ad rfl) fun l0_=>gD (by omega) a3)<|q_p fr<|q_i (q_p (fun _=>Df rfl)<|A6 0 rfl rfl rfl (by decide) rfl<|Ar 0 rr)<|q_p (fun _=>Js)<|q_i (q_p (fun _=>Df rfl)<|A6 0 rfl rfl rfl (by decide) rfl<|Ar 0 rr)<|Ae 0 rr
   ·intro s2
    refine A7 (aF1 (Ad rfl) fun l0_=>gC (by omega) a1) fun y2 hy2=>q_q fr<|q_q fr<|A7 (aF2 As (Ad rfl) fun l0_ l1_=>Pi (by omega) l0_ a0 y2.1) fun y3 hy3=>q_q fr<|q_q fr<|q_p fr<|q_i ?_ ?_
    ·exact q_p (fun _=>Df rfl)<|A6 0 rfl rfl rfl (by decide) rfl<|AI (fun S hS=>hS.lda 0 rfl rfl) (A8 (Aa (Ad rfl) (Aa (Ad rfl) (Aa (As (α:=Az) (l0:=false) (fl:=true) (xs:=[])) Ah)))) rfl
    ·refine Bf rfl fun x1 hx1=>q_p fr<|q_p fr<|q_p fr<|q_i ?_ ?_
     ·exact q_p (fun _=>Df rfl)<|A6 0 rfl rfl rfl (by decide) rfl<|AI (fun S hS=>hS.lda 0 rfl rfl) (A8 (Aa (Ad rfl) (Aa (Ad rfl) (Aa (As (α:=Az) (l0:=false) (fl:=true) (xs:=[])) Ah)))) rfl
     ·refine Vo (l:=k0) (fl:=false) (xs:=a0)<|QR (mg:=Ls a0) (fun S=>gL (by omega) _ S) Zv PK rfl rfl fun z1 hz1 i2 v1=>Bo (A:=fun (s:Str)=>[AY s]) (B:=fun s=>[wla i2 v1 (z1:List Az),bx b1 [iW s2,AY [],.rsl false true []]]) ?_ ?_ ?_ ?_
      ·exact q_i (A4)<|Ae 0 rr
      ·intro s4
       refine A7 (aF2 (DZ (α:=Az) 0 rfl) (Ad rfl) fun l0_ l1_=>Pi (by omega) l0_ z1 s4) fun y4 hy4=>q_q fr<|q_q fr<|q_i ?_ ?_
       ·exact q_p (fun _=>Df rfl)<|A6 1 rfl rfl rfl (by decide) rfl<|AI (fun S hS=>hS.lda 1 rfl rfl) (A8 (Aa (Ad rfl) (Aa (Ad rfl) (Aa (As (α:=Az) (l0:=false) (fl:=true) (xs:=[])) Ah)))) rfl
       ·refine Vs 0 rfl<|q_p fr<|q_i ?_ ?_
        ·exact q_p (fun _=>Df rfl)<|A6 1 rfl rfl rfl (by decide) rfl<|AI (fun S hS=>hS.lda 1 rfl rfl) (A8 (Aa (Ad rfl) (Aa (Ad rfl) (Aa (As (α:=Az) (l0:=false) (fl:=true) (xs:=[])) Ah)))) rfl
        ·refine q_p (fun _=>Q2 rfl)<|q_e (fun _=>Qy rfl)<|D5 (mg:=Yt z1 y4.1 [(⟨s4,a2,0,a3,0⟩:Az)]) (fun S=>rfl) (w210 (by omega) _ i2 v1 z1 y4.1 false true [(⟨s4,a2,0,a3,0⟩:Az)]) fun z2 hz2 ⟨i4,v2⟩=>GU (fun S hS=>Ud (by simp only [Bq,plc,gd,List.getD_cons_zero,List.getD_cons_succ,List.getElem?_cons_zero,List.getElem?_cons_succ,hS.cellw 0 rfl]; rfl)) ?_
         exact A6 1 rfl rfl rfl (by decide) rfl<|AI (fun S hS=>hS.lda 1 rfl rfl) (A8 (Aa (Ad rfl) (Aa (Ad rfl) (Aa (Qs (α:=Az) 0 rfl (fun _=>rfl)) Ah)))) rfl
      ·exact fun i3 s4=>A4
      ·exact fun s4=>AI (fun S hS=>hS.lda 1 rfl rfl) (A8 (Aa (Ad rfl) (Aa (Ad rfl) (Aa (As (α:=Az) (l0:=false) (fl:=true) (xs:=[])) Ah)))) rfl
   ·exact fun i1 s2=>A4
   ·exact fun s2=>AI (fun S hS=>hS.lda 0 rfl rfl) (A8 (Aa (Ad rfl) (Aa (Ad rfl) (Aa (As (α:=Az) (l0:=false) (fl:=true) (xs:=[])) Ah)))) rfl
def Yx (a0:Int) (a1:Az):Bool:=bif a0 == (-1) then true else a0 == a1.Version
theorem gG {d:Nat} (hd:1≤d) (a0:Int) (k1:Bool) (a1:Az):Fit (R NN d 187 [iW a0,.agg (Enc.cs k1 a1)] []) (some (Yx a0 a1)) PB:=by
  obtain ⟨d,rfl,g⟩:=up hd
  refine AD (t187 NN d _ _) ?_
  unfold lD Yx
  exact AG (n:=5) rfl rfl (by decide) fun b1=>q_p fr<|Vv (fun h1=>Am (Ad rfl) rfl) fun h1=>q_p fr<|Ao 0 rfl rfl<|q_p fr<|Am (Ad rfl) rfl
def dP (a0:List Az) (a1:Str) (a2:Int) (a3:Int):Option (Bl):=(VX a0 a1).bind fun y1=>bif y1 != 0 then some (⟨y1,[],[]⟩:Bl) else (Nn a0 a1).bind fun y2=>bif !(Tu a2) then some (⟨3,[],[]⟩:Bl) else bif !y2.2 then some (⟨4,[],[]⟩:Bl) else (Av a0 y2.1).bind fun x1=>bif !(Yx a3 x1) then some (⟨7,[],[]⟩:Bl) else (Av a0 y2.1).bind fun x2=>bif x2.Version == 999 then some (⟨2,[],[]⟩:Bl) else (Ls a0).bind fun y3=>(Av y3 y2.1).bind fun x3=>Lu (y3.set (Int.toNat y2.1) ({ x3 with Data:=a2 })) fun z1=>(Av z1 y2.1).bind fun x4=>(Av z1 y2.1).bind fun x5=>Lu (z1.set (Int.toNat y2.1) ({ x5 with Version:=wi .i64 (x4.Version + 1) })) fun z2=>some (⟨0,[],z2⟩:Bl)
theorem w183 {d:Nat} (hd:8≤d) (k0:Bool) (a0:List Az) (a1:Str) (a2:Int) (a3:Int):Fit (R NN d 183 [.rsl k0 false (a0.map (Enc.cs k0)),AY a1,iW a2,iW a3] []) (dP a0 a1 a2 a3) (P0 (fun (t:Bl)=>AV.agg (Enc.cs false t))):=by
  obtain ⟨d,rfl,g⟩:=up hd
  refine AD (t183 NN d _ _ _ _) ?_
  unfold lG dP
  refine AE rfl fun b1=>A7 (aF2 As (Ad rfl) fun l0_ l1_=>bL (by omega) l0_ a0 a1) fun y1 hy1=>q_p fr<|q_i ?_ ?_
  ·exact q_p (fun _=>Df rfl)<|A6 0 rfl rfl rfl (by decide) rfl<|AI (fun S hS=>hS.lda 0 rfl rfl) (A8 (Aa (Ad rfl) (Aa (Ad rfl) (Aa (As (α:=Az) (l0:=false) (fl:=true) (xs:=[])) Ah)))) rfl
  ·refine A7 (aF2 As (Ad rfl) fun l0_ l1_=>Pi (by omega) l0_ a0 a1) fun y2 hy2=>q_q fr<|q_q fr<|AS (aF1 (Ad rfl) fun l0_=>XP (by omega) a2)<|q_p fr<|q_i ?_ ?_
   ·exact q_p (fun _=>Df rfl)<|A6 0 rfl rfl rfl (by decide) rfl<|AI (fun S hS=>hS.lda 0 rfl rfl) (A8 (Aa (Ad rfl) (Aa (Ad rfl) (Aa (As (α:=Az) (l0:=false) (fl:=true) (xs:=[])) Ah)))) rfl
   ·refine q_p fr<|q_i ?_ ?_
    ·exact q_p (fun _=>Df rfl)<|A6 0 rfl rfl rfl (by decide) rfl<|AI (fun S hS=>hS.lda 0 rfl rfl) (A8 (Aa (Ad rfl) (Aa (Ad rfl) (Aa (As (α:=Az) (l0:=false) (fl:=true) (xs:=[])) Ah)))) rfl
    ·refine Bf rfl fun x1 hx1=>q_p fr<|AS (aF2 (Ad rfl) (A8 (Aq (l0:=k0) (x:=x1))) fun l0_ l1_=>gG (by omega) a3 l1_ x1)<|q_p fr<|q_i ?_ ?_
     ·exact q_p (fun _=>Df rfl)<|A6 0 rfl rfl rfl (by decide) rfl<|AI (fun S hS=>hS.lda 0 rfl rfl) (A8 (Aa (Ad rfl) (Aa (Ad rfl) (Aa (As (α:=Az) (l0:=false) (fl:=true) (xs:=[])) Ah)))) rfl
     ·refine Bf rfl fun x2 hx2=>q_p fr<|q_p fr<|q_p fr<|q_i ?_ ?_
      ·exact q_p (fun _=>Df rfl)<|A6 0 rfl rfl rfl (by decide) rfl<|AI (fun S hS=>hS.lda 0 rfl rfl) (A8 (Aa (Ad rfl) (Aa (Ad rfl) (Aa (As (α:=Az) (l0:=false) (fl:=true) (xs:=[])) Ah)))) rfl
      ·refine Ha (mg:=Ls a0) (aF1 As fun l0_=>bS (by omega) l0_ a0) fun y3 hy3 i1 v1=>NY 0 rfl rfl fun x3 hx3=>EJ 0 rfl hx3 (by decide)<|IY 0 rfl rfl hx3 rfl (SC a2) fun z1 hz1=>NY 0 rfl rfl fun x4 hx4=>EJ 0 rfl hx4 (by decide)<|Ja 0 rfl rfl hx4 Na<|q_p fr<|NY 0 rfl rfl fun x5 hx5=>EJ 0 rfl hx5 (by decide)<|IY 0 rfl rfl hx5 rfl (MS (wi .i64 (x4.Version + 1))) fun z2 hz2=>GU (fun S hS=>RV (by simp only [Bq,plc,gd,List.getD_cons_zero,List.getD_cons_succ,List.getElem?_cons_zero,List.getElem?_cons_succ,hS.cell1t 0 rfl]; rfl)) ?_
       exact A6 1 rfl rfl rfl (by decide) rfl<|AI (fun S hS=>hS.lda 1 rfl rfl) (A8 (Aa (Ad rfl) (Aa (Ad rfl) (Aa (Cb 0 rfl) Ah)))) rfl
def dO (a0:List Az) (a1:Str):Option (Bl):=(VX a0 a1).bind fun y1=>bif y1 != 0 then some (⟨y1,[],[]⟩:Bl) else (Nn a0 a1).bind fun y2=>bif !y2.2 then some (⟨4,[],[]⟩:Bl) else (Av a0 y2.1).bind fun x1=>some (⟨0,[],[x1]⟩:Bl)
theorem w186 {d:Nat} (hd:8≤d) (k0:Bool) (a0:List Az) (a1:Str):Fit (R NN d 186 [.rsl k0 false (a0.map (Enc.cs k0)),AY a1] []) (dO a0 a1) (P0 (fun (t:Bl)=>AV.agg (Enc.cs false t))):=by
  obtain ⟨d,rfl,g⟩:=up hd
  refine AD (t186 NN d _ _) ?_
  unfold lE dO
  exact AE rfl fun b1=>A7 (aF2 As (Ad rfl) fun l0_ l1_=>bL (by omega) l0_ a0 a1) fun y1 hy1=>q_p fr<|q_i (q_p (fun _=>Df rfl)<|A6 0 rfl rfl rfl (by decide) rfl<|AI (fun S hS=>hS.lda 0 rfl rfl) (A8 (Aa (Ad rfl) (Aa (Ad rfl) (Aa (As (α:=Az) (l0:=false) (fl:=true) (xs:=[])) Ah)))) rfl)<|A7 (aF2 As (Ad rfl) fun l0_ l1_=>Pi (by omega) l0_ a0 a1) fun y2 hy2=>q_q fr<|q_q fr<|q_p fr<|q_i (q_p (fun _=>Df rfl)<|A6 0 rfl rfl rfl (by decide) rfl<|AI (fun S hS=>hS.lda 0 rfl rfl) (A8 (Aa (Ad rfl) (Aa (Ad rfl) (Aa (As (α:=Az) (l0:=false) (fl:=true) (xs:=[])) Ah)))) rfl)<|Bf rfl fun x1 hx1=>q_p fr<|q_e (fun _=>Qy rfl)<|q_p (fun _=>RV rfl)<|A6 0 rfl rfl rfl (by decide) rfl<|AI (fun S hS=>hS.lda 0 rfl rfl) (A8 (Aa (Ad rfl) (Aa (Ad rfl) (Aa (As (α:=Az) (l0:=false) (fl:=true) (xs:=[x1])) Ah)))) rfl
def dV (a0:AQ) (a1:Int) (a2:TOp):Option (BK×AQ):=bif a2.Kind == 1 then (dR a0.Sessions a1 a0.Now).bind fun y1=>( bif y1.Code == 0 then some (LO.norm y1.Sessions) else some (LO.norm a0.Sessions)).bind (Ak (fun s2=>some ((⟨y1.Code,0,[]⟩:BK),(⟨a0.Nodes,s2,a0.Now,a0.Marks⟩:AQ))) (fun i1 s2=>none) (fun s2=>some ((⟨0,0,[]⟩:BK),(⟨[],[],0,[]⟩:AQ)))) else (Yy a0.Sessions a1 a0.Now).bind fun y2=>bif !y2 then some ((⟨9,0,[]⟩:BK),a0) else ( bif a2.Own then some (LO.norm a1) else some (LO.norm 0)).bind (Ak (fun s4=>( bif a2.Kind == 2 then (Np a0.Sessions).bind fun y3=>none else bif a2.Kind == 3 then (dQ a0.Nodes a2.Path a2.Data s4 a2.Seq).bind fun y4=>some (LO.norm (0,y4.Path,y4.Code,y4.Path,y4.Nodes)) else bif a2.Kind == 4 then none else bif a2.Kind == 5 then (dP a0.Nodes a2.Path a2.Data a2.Version).bind fun y5=>(Nn y5.Nodes a2.Path).bind fun y6=>bif y6.2 then (Av y5.Nodes y6.1).bind fun x1=>some (LO.norm (x1.Version,[],y5.Code,y5.Path,y5.Nodes)) else some (LO.norm (0,[],y5.Code,y5.Path,y5.Nodes)) else bif a2.Kind == 7 then none else (dO a0.Nodes a2.Path).bind fun y7=>bif y7.Code != 0 then some (LO.norm (0,[],y7.Code,[],a0.Nodes)) else bif a2.Kind == 6 then (Av y7.Nodes 0).bind fun x2=>some (LO.norm (x2.Data,[],y7.Code,[],a0.Nodes)) else (Av y7.Nodes 0).bind fun x3=>bif !(Yx a2.Version x3) then some (LO.norm (0,[],7,[],a0.Nodes)) else (Av y7.Nodes 0).bind fun x4=>some (LO.norm (x4.Version,[],y7.Code,[],a0.Nodes))).bind (Ak (fun s6=>bif s6.2.2.1 != 0 then some ((⟨s6.2.2.1,0,[]⟩:BK),a0) else some ((⟨0,s6.1,s6.2.1⟩:BK),(⟨s6.2.2.2.2,a0.Sessions,a0.Now,a0.Marks⟩:AQ))) (fun i3 s6=>none) (fun s6=>some ((⟨0,0,[]⟩:BK),(⟨[],[],0,[]⟩:AQ))))) (fun i2 s4=>none) (fun s4=>some ((⟨0,0,[]⟩:BK),(⟨[],[],0,[]⟩:AQ))))
set_option maxRecDepth 4000 in
theorem w150 {d:Nat} (hd:10≤d) (a0:AQ) (a1:Int) (k2:Bool) (a2:TOp):Fit (R NN d 150 [.agg (Enc.cs false a0),iW a1,.agg (Enc.cs k2 a2)] []) (dV a0 a1 a2) (P0 (fun (t:BK×AQ)=>AV.tup [.agg (Enc.cs false t.1),.agg (Enc.cs false t.2)])):=by
  obtain ⟨d,rfl,g⟩:=up hd
  refine AD (t150 NN d _ _ _) ?_
  unfold lU dV
  refine AG (n:=4) rfl rfl (by decide) fun b1=>AG (n:=1) rfl rfl (by decide) fun b2=>AG (n:=6) rfl rfl (by decide) fun b3=>AE rfl fun b4=>AE rfl fun b5=>q_p fr<|Ao 2 rfl rfl<|q_p fr<|q_i ?_ ?_
  ·refine q_p fr<|Ao 4 rfl rfl<|Ao 3 rfl rfl<|q_p fr<|Ao 4 rfl rfl<|A7 (aF3 As (Ad rfl) (Ad rfl) fun l0_ l1_ l2_=>w178 (by omega) l0_ a0.Sessions a1 a0.Now) fun y1 hy1=>AE rfl fun b6=>A6 0 rfl rfl rfl (by decide) rfl<|DD (I:=(fun (s:(List Au)) l L=>∃ (fl1:Bool),l = []∧L = [bx b6 [iW y1.Code,.rsl false false (y1.Sessions.map (Enc.cs false))],bx b5 [.rsl false true [],.rsl false true [],iW 0,.rsl false true []],bx b4 [iW 0,iW 0,AY []],bx b3 [iW a2.Kind,AY a2.Path,iW a2.Data,iW a2.Version,.bool a2.Seq,.bool a2.Own],bx b2 [iW a1],bx b1 [.rsl false false (a0.Nodes.map (Enc.cs false)),.rsl false fl1 (s.map (Enc.cs false)),iW a0.Now,.rsl false false (a0.Marks.map (Enc.cs false))]])) ?_ ?_ ?_ ?_
   ·exact q_p fr<|Ao 0 rfl rfl<|q_p fr<|q_i (q_p fr<|Ao 0 rfl rfl<|q_p fr<|A6 5 rfl rfl rfl (by decide) rfl<|Ae 0 ⟨false,rfl,rfl⟩)<|Ae 0 ⟨false,rfl,rfl⟩
   ·rintro s2 _ _ ⟨fl1,rfl,rfl⟩
    exact q_p fr<|Ao 0 rfl rfl<|q_p (fun _=>Q6 rfl)<|A9 5 rfl rfl rfl<|A6 2 rfl rfl rfl (by decide) rfl<|A6 1 rfl rfl rfl (by decide) rfl<|Jo (fun S hS=>(Gs (hS.ap 5 2 rfl rfl (by decide)) rfl))<|AI (fun S hS=>Dq (hS.lda 2 rfl rfl) (hS.lda 1 rfl rfl)) (Dl (Aa (A8 (Aa (Ad rfl) (Aa (Ad rfl) (Aa (Ad rfl) Ah)))) (Aa (A8 (Aa As (Aa As (Aa (Ad rfl) (Aa As Ah))))) Ah))) rfl
   ·rintro i1 s2 _ _ ⟨fl2,rfl,rfl⟩
    exact A4
   ·rintro s2 _ _ ⟨fl3,rfl,rfl⟩
    exact AI (fun S hS=>Dq (hS.lda 2 rfl rfl) (hS.lda 1 rfl rfl)) (Dl (Aa (A8 (Aa (Ad rfl) (Aa (Ad rfl) (Aa (Ad rfl) Ah)))) (Aa (A8 (Aa (As (α:=Az) (l0:=false) (fl:=true) (xs:=[])) (Aa (As (α:=Au) (l0:=false) (fl:=true) (xs:=[])) (Aa (Ad rfl) (Aa (As (α:=B7) (l0:=false) (fl:=true) (xs:=[])) Ah))))) Ah))) rfl
  ·refine q_p fr<|Ao 4 rfl rfl<|Ao 3 rfl rfl<|q_p fr<|Ao 4 rfl rfl<|A7 (aF3 As (Ad rfl) (Ad rfl) fun l0_ l1_ l2_=>gH (by omega) l0_ a0.Sessions a1 a0.Now) fun y2 hy2=>q_p fr<|q_i ?_ ?_
   ·exact q_p (fun _=>Q6 rfl)<|A9 4 rfl rfl rfl<|A6 1 rfl rfl rfl (by decide) rfl<|A6 0 rfl rfl rfl (by decide) rfl<|Jo (fun S hS=>(Gs (hS.ap 4 1 rfl rfl (by decide)) rfl))<|AI (fun S hS=>Dq (hS.lda 1 rfl rfl) (hS.lda 0 rfl rfl)) (Dl (Aa (A8 (Aa (Ad rfl) (Aa (Ad rfl) (Aa (Ad rfl) Ah)))) (Aa (A8 (Aq (l0:=false) (x:=a0))) Ah))) rfl
   ·refine Bo (A:=fun (s:Int)=>[iW s]) (B:=fun s=>[bx b5 [.rsl false true [],.rsl false true [],iW 0,.rsl false true []],bx b4 [iW 0,iW 0,AY []],bx b3 [iW a2.Kind,AY a2.Path,iW a2.Data,iW a2.Version,.bool a2.Seq,.bool a2.Own],bx b2 [iW a1],bx b1 [.rsl false false (a0.Nodes.map (Enc.cs false)),.rsl false false (a0.Sessions.map (Enc.cs false)),iW a0.Now,.rsl false false (a0.Marks.map (Enc.cs false))]]) ?_ ?_ ?_ ?_
    ·exact q_p fr<|Ao 2 rfl rfl<|q_i (Ao 3 rfl rfl<|Ae 0 rr)<|Ae 0 rr
    ·intro s4
     refine q_p (fun _=>kL rfl)<|q_p (fun _=>fF rfl)<|AE rfl fun b7=>AE rfl fun b8=>A6 1 rfl rfl rfl (by decide) rfl<|A6 0 rfl rfl rfl (by decide) rfl<|DD (I:=(fun (s:Int×Str×Int×Str×(List Az)) l L=>∃ (fl4:Bool),l = []∧L = [bx b8 [iW 0,iW s.1,AY s.2.1],bx b7 [iW s.2.2.1,AY s.2.2.2.1,.rsl false fl4 (s.2.2.2.2.map (Enc.cs false))],bx b5 [.rsl false true [],.rsl false true [],iW 0,.rsl false true []],bx b4 [iW 0,iW 0,AY []],bx b3 [iW a2.Kind,AY a2.Path,iW a2.Data,iW a2.Version,.bool a2.Seq,.bool a2.Own],bx b2 [iW a1],bx b1 [.rsl false false (a0.Nodes.map (Enc.cs false)),.rsl false false (a0.Sessions.map (Enc.cs false)),iW a0.Now,.rsl false false (a0.Marks.map (Enc.cs false))]])) ?_ ?_ ?_ ?_
     ·exact q_p fr<|Ao 4 rfl rfl<|q_p fr<|q_i (q_p fr<|Ao 6 rfl rfl<|A7 (aF1 As fun l0_=>Zr (by omega) l0_ a0.Sessions) fun y3 hy3=>A4)<|q_p fr<|q_i (q_p fr<|Ao 6 rfl rfl<|q_p fr<|Ao 4 rfl rfl<|q_p fr<|Ao 4 rfl rfl<|q_p fr<|Ao 4 rfl rfl<|A7 (fun S hS=>Si As (Ad rfl) (Ad rfl) (Ad rfl) (Ad rfl) hS fun l0_ l1_ l2_ l3_ l4_=>w181 (by omega) l0_ a0.Nodes a2.Path a2.Data s4 a2.Seq) fun y4 hy4=>A6 1 rfl rfl rfl (by decide) rfl<|q_p fr<|Ao 1 rfl rfl<|q_p fr<|A6 0 rfl rfl rfl (by decide) rfl<|Ae 0 ⟨false,rfl,rfl⟩)<|q_p fr<|q_i (q_p fr<|Ao 6 rfl rfl<|q_p fr<|Ao 4 rfl rfl<|q_p fr<|Ao 4 rfl rfl<|A4)<|q_p fr<|q_i (q_p fr<|Ao 6 rfl rfl<|q_p fr<|Ao 4 rfl rfl<|q_p fr<|Ao 4 rfl rfl<|q_p fr<|Ao 4 rfl rfl<|A7 (fun S hS=>FM As (Ad rfl) (Ad rfl) (Ad rfl) hS fun l0_ l1_ l2_ l3_=>w183 (by omega) l0_ a0.Nodes a2.Path a2.Data a2.Version) fun y5 hy5=>A6 1 rfl rfl rfl (by decide) rfl<|q_p fr<|Ao 1 rfl rfl<|q_p fr<|Ao 4 rfl rfl<|A7 (aF2 As (Ad rfl) fun l0_ l1_=>Pi (by omega) l0_ y5.Nodes a2.Path) fun y6 hy6=>q_q fr<|q_q fr<|q_i (q_p fr<|Ao 1 rfl rfl<|Bf rfl fun x1 hx1=>q_p fr<|q_p fr<|q_p fr<|A6 0 rfl rfl rfl (by decide) rfl<|Ae 0 ⟨false,rfl,rfl⟩)<|Ae 0 ⟨false,rfl,rfl⟩)<|q_p fr<|q_i (q_p fr<|Ao 6 rfl rfl<|q_p fr<|Ao 4 rfl rfl<|A4)<|q_p fr<|Ao 6 rfl rfl<|q_p fr<|Ao 4 rfl rfl<|A7 (aF2 As (Ad rfl) fun l0_ l1_=>w186 (by omega) l0_ a0.Nodes a2.Path) fun y7 hy7=>AE rfl fun b9=>A6 0 rfl rfl rfl (by decide) rfl<|q_p fr<|Ao 0 rfl rfl<|q_p fr<|Ao 7 rfl rfl<|q_p (fun _=>Ue rfl)<|A6 2 rfl rfl rfl (by decide) rfl<|q_p fr<|Ao 0 rfl rfl<|q_p fr<|q_i (Ae 1 ⟨false,rfl,rfl⟩)<|q_p fr<|Ao 5 rfl rfl<|q_p fr<|q_i (q_p fr<|Ao 0 rfl rfl<|Bf rfl fun x2 hx2=>q_p fr<|q_p fr<|q_p fr<|A6 1 rfl rfl rfl (by decide) rfl<|Ae 1 ⟨false,rfl,rfl⟩)<|q_p fr<|Ao 5 rfl rfl<|q_p fr<|Ao 0 rfl rfl<|Bf rfl fun x3 hx3=>q_p fr<|AS (aF2 (Ad rfl) (A8 (Aq (l0:=false) (x:=x3))) fun l0_ l1_=>gG (by omega) a2.Version l1_ x3)<|q_p fr<|q_i (q_p fr<|A6 2 rfl rfl rfl (by decide) rfl<|Ae 1 ⟨false,rfl,rfl⟩)<|q_p fr<|Ao 0 rfl rfl<|Bf rfl fun x4 hx4=>q_p fr<|q_p fr<|q_p fr<|A6 1 rfl rfl rfl (by decide) rfl<|Ae 1 ⟨false,rfl,rfl⟩
     ·rintro s6 _ _ ⟨fl4,rfl,rfl⟩
      exact q_p fr<|Ao 1 rfl rfl<|q_p fr<|q_i (q_p fr<|Ao 1 rfl rfl<|q_p (fun _=>Q6 rfl)<|A9 6 rfl rfl rfl<|A6 3 rfl rfl rfl (by decide) rfl<|A6 2 rfl rfl rfl (by decide) rfl<|Jo (fun S hS=>(Gs (hS.ap 6 3 rfl rfl (by decide)) rfl))<|AI (fun S hS=>Dq (hS.lda 3 rfl rfl) (hS.lda 2 rfl rfl)) (Dl (Aa (A8 (Aa (Ad rfl) (Aa (Ad rfl) (Aa (Ad rfl) Ah)))) (Aa (A8 (Aq (l0:=false) (x:=a0))) Ah))) rfl)<|q_p fr<|Ao 1 rfl rfl<|q_p fr<|A6 6 rfl rfl rfl (by decide) rfl<|A9 0 rfl rfl rfl<|A9 6 rfl rfl rfl<|A6 3 rfl rfl rfl (by decide) rfl<|A6 2 rfl rfl rfl (by decide) rfl<|Jo (fun S hS=>(Gs (hS.ap 6 3 rfl rfl (by decide)) rfl))<|AI (fun S hS=>Dq (hS.lda 3 rfl rfl) (hS.lda 2 rfl rfl)) (Dl (Aa (A8 (Aa (Ad rfl) (Aa (Ad rfl) (Aa (Ad rfl) Ah)))) (Aa (A8 (Aa As (Aa As (Aa (Ad rfl) (Aa As Ah))))) Ah))) rfl
     ·rintro i3 s6 _ _ ⟨fl5,rfl,rfl⟩
      exact A4
     ·rintro s6 _ _ ⟨fl6,rfl,rfl⟩
      exact AI (fun S hS=>Dq (hS.lda 3 rfl rfl) (hS.lda 2 rfl rfl)) (Dl (Aa (A8 (Aa (Ad rfl) (Aa (Ad rfl) (Aa (Ad rfl) Ah)))) (Aa (A8 (Aa (As (α:=Az) (l0:=false) (fl:=true) (xs:=[])) (Aa (As (α:=Au) (l0:=false) (fl:=true) (xs:=[])) (Aa (Ad rfl) (Aa (As (α:=B7) (l0:=false) (fl:=true) (xs:=[])) Ah))))) Ah))) rfl
    ·exact fun i2 s4=>A4
    ·exact fun s4=>AI (fun S hS=>Dq (hS.lda 1 rfl rfl) (hS.lda 0 rfl rfl)) (Dl (Aa (A8 (Aa (Ad rfl) (Aa (Ad rfl) (Aa (Ad rfl) Ah)))) (Aa (A8 (Aa (As (α:=Az) (l0:=false) (fl:=true) (xs:=[])) (Aa (As (α:=Au) (l0:=false) (fl:=true) (xs:=[])) (Aa (Ad rfl) (Aa (As (α:=B7) (l0:=false) (fl:=true) (xs:=[])) Ah))))) Ah))) rfl
def R1 (a1:Ag) (s2:List Au) (y2:AQ) (y4:(List Az)) (s3:Int×Int×Int×Str×(List Az)×(List Au)×Int×(List B7)):Option (LO (Int×Int×Int×Str×(List Az)×(List Au)×Int×(List B7))):=bif decide (s3.1 < (a1.Ops.length:Int)) then (Av a1.Ops s3.1).bind fun x2=>(dV (⟨s3.2.2.2.2.1,s3.2.2.2.2.2.1,s3.2.2.2.2.2.2.1,s3.2.2.2.2.2.2.2⟩:AQ) a1.Client x2).bind fun y6=>bif y6.1.Code != 0 then some (LO.exit 0 (s3.1,y6.1.Code,s3.1,[],y4,s2,Kq y2.Now a1.Time,y2.Marks)) else some (LO.norm (wi .i64 (s3.1 + 1),y6.1.Code,y6.1.Value,y6.1.Path,y6.2.Nodes,y6.2.Sessions,y6.2.Now,y6.2.Marks)) else some (LO.exit 0 (s3.1,s3.2.1,s3.2.2.1,s3.2.2.2.1,s3.2.2.2.2.1,s3.2.2.2.2.2.1,s3.2.2.2.2.2.2.1,s3.2.2.2.2.2.2.2))
def Tt (a0:AQ) (a1:Ag):Option (BK×AQ×Int):=(dZ a0.Marks a1.Client a1.Number).bind fun y1=>bif decide (y1 ≥ 0) then (Av a0.Marks y1).bind fun x1=>some (x1.Reply,a0,0) else bif (a0.Marks.length:Int) == 40 then some ((⟨0,0,[]⟩:BK),a0,2) else (PZ a0).bind fun y2=>(dY y2.Sessions (Kq y2.Now a1.Time)).bind fun y3=>(dX y2.Nodes y3.Over).bind fun y4=>( (dW y3.Live a1.Client (Kq y2.Now a1.Time)).bind fun y5=>bif y5.Code == 0 then some (LO.norm y5.Sessions) else some (LO.norm y3.Live)).bind (Ak (fun s2=>(AB (R1 a1 s2 y2 y4) NN (0,0,0,[],y4,s2,Kq y2.Now a1.Time,y2.Marks)).bind (Ak (fun _=>none) (fun i2 s4=>if i2 = 0 then (Wi s4.2.2.2.2.2.2.2).bind fun z1=>(Bw 48 z1 [(⟨a1.Client,a1.Number,(⟨s4.2.1,s4.2.2.1,s4.2.2.2.1⟩:BK)⟩:B7)]).bind fun z2=>some ((⟨s4.2.1,s4.2.2.1,s4.2.2.2.1⟩:BK),(⟨s4.2.2.2.2.1,s4.2.2.2.2.2.1,s4.2.2.2.2.2.2.1,z2⟩:AQ),0) else none) (fun s4=>some ((⟨0,0,[]⟩:BK),(⟨[],[],0,[]⟩:AQ),0)))) (fun i1 s2=>none) (fun s2=>some ((⟨0,0,[]⟩:BK),(⟨[],[],0,[]⟩:AQ),0)))
theorem w127 {d:Nat} (hd:11≤d) (a0:AQ) (k1:Bool) (a1:Ag):Fit (R NN d 127 [.agg (Enc.cs false a0),.agg (Enc.cs k1 a1)] []) (Tt a0 a1) (P0 (fun (t:BK×AQ×Int)=>AV.tup [.agg (Enc.cs false t.1),.agg (Enc.cs false t.2.1),iW t.2.2])):=by
  obtain ⟨d,rfl,g⟩:=up hd
  refine AD (t127 NN d _ _) ?_
  unfold mO Tt
  refine AG (n:=4) rfl rfl (by decide) fun b1=>AG (n:=4) rfl rfl (by decide) fun b2=>AE rfl fun b3=>AE rfl fun b4=>q_p fr<|Ao 3 rfl rfl<|q_p fr<|Ao 2 rfl rfl<|q_p fr<|Ao 2 rfl rfl<|A7 (aF3 As (Ad rfl) (Ad rfl) fun l0_ l1_ l2_=>w146 (by omega) l0_ a0.Marks a1.Client a1.Number) fun y1 hy1=>q_p fr<|q_i ?_ ?_
  ·exact q_p fr<|Ao 3 rfl rfl<|Bf rfl fun x1 hx1=>q_p fr<|q_p fr<|A9 3 rfl rfl rfl<|A6 1 rfl rfl rfl (by decide) rfl<|A6 0 rfl rfl rfl (by decide) rfl<|Jo (fun S hS=>(Gs (hS.ap 3 1 rfl rfl (by decide)) rfl))<|AI (fun S hS=>HJ (hS.lda 1 rfl rfl) (hS.lda 0 rfl rfl) rfl) (Dl (Aa (A8 (Aq (l0:=false) (x:=x1.Reply))) (Aa (A8 (Aq (l0:=false) (x:=a0))) (Aa (Ad rfl) Ah)))) rfl
  ·refine q_p fr<|Ao 3 rfl rfl<|AL<|q_p fr<|q_i ?_ ?_
   ·exact q_p (fun _=>fF rfl)<|A9 3 rfl rfl rfl<|A6 1 rfl rfl rfl (by decide) rfl<|A6 0 rfl rfl rfl (by decide) rfl<|Jo (fun S hS=>(Gs (hS.ap 3 1 rfl rfl (by decide)) rfl))<|AI (fun S hS=>HJ (hS.lda 1 rfl rfl) (hS.lda 0 rfl rfl) rfl) (Dl (Aa (A8 (Aa (Ad rfl) (Aa (Ad rfl) (Aa (Ad rfl) Ah)))) (Aa (A8 (Aq (l0:=false) (x:=a0))) (Aa (Ad rfl) Ah)))) rfl
   ·refine A9 3 rfl rfl rfl<|A7 (aF1 (A8 (Aq (l0:=false) (x:=a0))) fun l0_=>gW (by omega) l0_ a0) fun y2 hy2=>A6 3 rfl rfl rfl (by decide) rfl<|q_p fr<|Ao 3 rfl rfl<|q_p fr<|Ao 2 rfl rfl<|q_p (fun _=>aJ)<|q_p fr<|A6 3 rfl rfl rfl (by decide) rfl<|q_p fr<|Ao 3 rfl rfl<|q_p fr ?_
    refine Ao 3 rfl rfl<|A7 (aF2 As (Ad rfl) fun l0_ l1_=>w147 (by omega) l0_ y2.Sessions (Kq y2.Now a1.Time)) fun y3 hy3=>AE rfl fun b5=>A6 0 rfl rfl rfl (by decide) rfl<|q_p fr<|Ao 0 rfl rfl<|q_p fr<|A6 4 rfl rfl rfl (by decide) rfl<|q_p fr<|Ao 4 rfl rfl<|q_p fr<|Ao 0 rfl rfl<|A7 (aF2 As As fun l0_ l1_=>w148 (by omega) l0_ y2.Nodes l1_ y3.Over) fun y4 hy4=>?_
    refine q_p fr<|A6 4 rfl rfl rfl (by decide) rfl<|DD (I:=(fun (s:(List Au)) l L=>∃ (fl1:Bool),l = []∧L = [bx b5 [iW y3.Code,.rsl false false (y3.Live.map (Enc.cs false)),.rsl false false (y3.Over.map (Enc.cs false))],bx b4 [.rsl false true [],.rsl false true [],iW 0,.rsl false true []],bx b3 [iW 0,iW 0,AY []],bx b2 [iW a1.Client,iW a1.Number,iW a1.Time,.rsl k1 false (a1.Ops.map (Enc.cs k1))],bx b1 [.rsl false false (y4.map (Enc.cs false)),.rsl false fl1 (s.map (Enc.cs false)),iW (Kq y2.Now a1.Time),.rsl false false (y2.Marks.map (Enc.cs false))]])) ?_ ?_ ?_ ?_
    ·exact q_p fr<|Ao 4 rfl rfl<|q_p fr<|Ao 3 rfl rfl<|q_p fr<|Ao 4 rfl rfl<|A7 (aF3 As (Ad rfl) (Ad rfl) fun l0_ l1_ l2_=>w149 (by omega) l0_ y3.Live a1.Client (Kq y2.Now a1.Time)) fun y5 hy5=>AE rfl fun b6=>A6 0 rfl rfl rfl (by decide) rfl<|q_p fr<|Ao 0 rfl rfl<|q_p fr<|q_i (q_p fr<|Ao 0 rfl rfl<|q_p fr<|A6 5 rfl rfl rfl (by decide) rfl<|Ae 1 ⟨false,rfl,rfl⟩)<|Ae 1 ⟨false,rfl,rfl⟩
    ·rintro s2 _ _ ⟨fl1,rfl,rfl⟩
     refine A9 4 rfl rfl rfl<|q_p (fun _=>fF rfl)<|AE rfl fun b7=>AE rfl fun b8=>A6 1 rfl rfl rfl (by decide) rfl<|A6 0 rfl rfl rfl (by decide) rfl<|q_p fr<|Ao 5 rfl rfl<|AL<|Cm (I:=(fun (s:Int×Int×Int×Str×(List Az)×(List Au)×Int×(List B7)) l L=>∃ (fl2:Bool) (fl3:Bool) (fl4:Bool),l = [iW s.1]∧L = [bx b8 [iW s.2.1,iW s.2.2.1,AY s.2.2.2.1],bx b7 [.rsl false fl2 (s.2.2.2.2.1.map (Enc.cs false)),.rsl false fl3 (s.2.2.2.2.2.1.map (Enc.cs false)),iW s.2.2.2.2.2.2.1,.rsl false fl4 (s.2.2.2.2.2.2.2.map (Enc.cs false))],bx b5 [iW y3.Code,.rsl false false (y3.Live.map (Enc.cs false)),.rsl false false (y3.Over.map (Enc.cs false))],bx b4 [.rsl false true [],.rsl false true [],iW 0,.rsl false true []],bx b3 [iW 0,iW 0,AY []],bx b2 [iW a1.Client,iW a1.Number,iW a1.Time,.rsl k1 false (a1.Ops.map (Enc.cs k1))],bx b1 [.rsl false false (y4.map (Enc.cs false)),.rsl false fl1 (s2.map (Enc.cs false)),iW (Kq y2.Now a1.Time),.rsl false false (y2.Marks.map (Enc.cs false))]])) 0 ⟨false,fl1,false,rfl,rfl⟩ ?_ ?_ ?_
     ·rintro s3 _ _ ⟨fl2,fl3,fl4,rfl,rfl⟩
      unfold UV R1
      exact q_p fr<|q_i (Bf rfl fun x2 hx2=>q_p fr<|AE rfl fun b9=>A6 0 rfl rfl rfl (by decide) rfl<|A9 2 rfl rfl rfl<|q_p fr<|Ao 6 rfl rfl<|A9 0 rfl rfl rfl<|A7 (fun S hS=>nT (A8 (Aa As (Aa As (Aa (Ad rfl) (Aa As Ah))))) rfl (Ad rfl) (A8 (Aq (l0:=false) (x:=x2))) hS fun l1_ l2_=>w150 (by omega) (⟨s3.2.2.2.2.1,s3.2.2.2.2.2.1,s3.2.2.2.2.2.2.1,s3.2.2.2.2.2.2.2⟩:AQ) a1.Client l2_ x2) fun y6 hy6=>q_q fr<|q_q fr<|AE rfl fun b10=>AE rfl fun b11=>A6 1 rfl rfl rfl (by decide) rfl<|A6 0 rfl rfl rfl (by decide) rfl<|A9 1 rfl rfl rfl<|A9 0 rfl rfl rfl<|A6 3 rfl rfl rfl (by decide) rfl<|A6 4 rfl rfl rfl (by decide) rfl<|Jo (fun S hS=>(Gs (hS.ap 0 3 rfl rfl (by decide)) rfl))<|q_p fr<|Ao 1 rfl rfl<|q_p fr<|q_i (q_p fr<|Ao 1 rfl rfl<|q_p (fun _=>Xq rfl)<|A9 9 rfl rfl rfl<|A6 3 rfl rfl rfl (by decide) rfl<|A6 4 rfl rfl rfl (by decide) rfl<|Jo (fun S hS=>(Gs (hS.ap 9 3 rfl rfl (by decide)) rfl))<|Ax 3 ⟨false,fl1,false,rfl,rfl⟩)<|q_p fr<|Ae 3 ⟨false,false,false,rfl,rfl⟩)<|Ax 0 ⟨fl2,fl3,fl4,rfl,rfl⟩
     ·rintro i2 s4 _ _ ⟨fl5,fl6,fl7,rfl,rfl⟩
      exact q_n (q_p fr<|Ao 1 rfl rfl<|q_p fr<|Ao 5 rfl rfl<|q_p fr<|Ao 5 rfl rfl<|A9 0 rfl rfl rfl<|q_p (fun _=>Q1 rfl)<|q_q (fun _=>Vk (eY rfl))<|Vo (l:=false) (fl:=fl7) (xs:=s4.2.2.2.2.2.2.2)<|QR (mg:=Wi s4.2.2.2.2.2.2.2) (fun S=>gM (by omega) _ S) Zt PG rfl rfl fun z1 hz1 i3 v1=>QS (y:=(⟨a1.Client,a1.Number,(⟨s4.2.1,s4.2.2.1,s4.2.2.2.1⟩:BK)⟩:B7)) (l:=false) (fl':=true) rfl fun z2 hz2 v2 i4=>q_p fr<|F9 2 rfl (fun S hS=>(HP.cellw hS 0 rfl)) rfl<|A9 1 rfl rfl rfl<|A9 2 rfl rfl rfl<|A6 5 rfl rfl rfl (by decide) rfl<|A6 4 rfl rfl rfl (by decide) rfl<|Jo (fun S hS=>(Gs (hS.ap 2 5 rfl rfl (by decide)) rfl))<|AI (fun S hS=>HJ (hS.lda 5 rfl rfl) (hS.lda 4 rfl rfl) rfl) (Dl (Aa (A8 (Aa (Ad rfl) (Aa (Ad rfl) (Aa (Ad rfl) Ah)))) (Aa (A8 (Aa As (Aa As (Aa (Ad rfl) (Aa (Qs (α:=B7) 0 rfl (fun _=>rfl)) Ah))))) (Aa (Ad rfl) Ah)))) rfl)<|A4
     ·rintro s4 _ _ ⟨fl8,fl9,fl10,rfl,rfl⟩
      exact AI (fun S hS=>HJ (hS.lda 4 rfl rfl) (hS.lda 3 rfl rfl) rfl) (Dl (Aa (A8 (Aa (Ad rfl) (Aa (Ad rfl) (Aa (Ad rfl) Ah)))) (Aa (A8 (Aa (As (α:=Az) (l0:=false) (fl:=true) (xs:=[])) (Aa (As (α:=Au) (l0:=false) (fl:=true) (xs:=[])) (Aa (Ad rfl) (Aa (As (α:=B7) (l0:=false) (fl:=true) (xs:=[])) Ah))))) (Aa (Ad rfl) Ah)))) rfl
    ·rintro i1 s2 _ _ ⟨fl11,rfl,rfl⟩
     exact A4
    ·rintro s2 _ _ ⟨fl12,rfl,rfl⟩
     exact AI (fun S hS=>HJ (hS.lda 2 rfl rfl) (hS.lda 1 rfl rfl) rfl) (Dl (Aa (A8 (Aa (Ad rfl) (Aa (Ad rfl) (Aa (Ad rfl) Ah)))) (Aa (A8 (Aa (As (α:=Az) (l0:=false) (fl:=true) (xs:=[])) (Aa (As (α:=Au) (l0:=false) (fl:=true) (xs:=[])) (Aa (Ad rfl) (Aa (As (α:=B7) (l0:=false) (fl:=true) (xs:=[])) Ah))))) (Aa (Ad rfl) Ah)))) rfl
def Nk (a0:List Ag) (s1:Int×Int×Int×Str×(List Az)×(List Au)×Int×(List B7)×Int):Option (LO (Int×Int×Int×Str×(List Az)×(List Au)×Int×(List B7)×Int)):=bif decide (s1.1 < (a0.length:Int)) then (Av a0 s1.1).bind fun x1=>(m49 x1).bind fun y1=>bif y1 != 0 then some (LO.ret (s1.1,s1.2.1,s1.2.2.1,s1.2.2.2.1,s1.2.2.2.2.1,s1.2.2.2.2.2.1,s1.2.2.2.2.2.2.1,s1.2.2.2.2.2.2.2.1,y1)) else (Tt (⟨s1.2.2.2.2.1,s1.2.2.2.2.2.1,s1.2.2.2.2.2.2.1,s1.2.2.2.2.2.2.2.1⟩:AQ) x1).bind fun y2=>bif y2.2.2 != 0 then some (LO.ret (s1.1,s1.2.1,s1.2.2.1,s1.2.2.2.1,s1.2.2.2.2.1,s1.2.2.2.2.2.1,s1.2.2.2.2.2.2.1,s1.2.2.2.2.2.2.2.1,y2.2.2)) else some (LO.norm (wi .i64 (s1.1 + 1),y2.1.Code,y2.1.Value,y2.1.Path,y2.2.1.Nodes,y2.2.1.Sessions,y2.2.1.Now,y2.2.1.Marks,s1.2.2.2.2.2.2.2.2)) else some (LO.exit 0 (s1.1,s1.2.1,s1.2.2.1,s1.2.2.2.1,s1.2.2.2.2.1,s1.2.2.2.2.2.1,s1.2.2.2.2.2.2.1,s1.2.2.2.2.2.2.2.1,s1.2.2.2.2.2.2.2.2))
def m88 (a0:List Ag):Option (Bg):=bif decide ((a0.length:Int) > 40) then some (⟨2,(⟨0,0,[]⟩:BK),(⟨[],[],0,[]⟩:AQ)⟩:Bg) else (AB (Nk a0) NN (0,0,0,[],(Lt 0).Nodes,(Lt 0).Sessions,(Lt 0).Now,(Lt 0).Marks,0)).bind (Ak (fun _=>none) (fun i1 s2=>if i1 = 0 then (PZ (⟨s2.2.2.2.2.1,s2.2.2.2.2.2.1,s2.2.2.2.2.2.2.1,s2.2.2.2.2.2.2.2.1⟩:AQ)).bind fun y3=>some (⟨0,(⟨s2.2.1,s2.2.2.1,s2.2.2.2.1⟩:BK),y3⟩:Bg) else none) (fun s2=>some (⟨s2.2.2.2.2.2.2.2.2,(⟨0,0,[]⟩:BK),(⟨[],[],0,[]⟩:AQ)⟩:Bg)))
theorem w88 {d:Nat} (hd:12≤d) (k0:Bool) (a0:List Ag):Fit (R NN d 88 [.rsl k0 false (a0.map (Enc.cs k0)),.fn 89 []] []) (m88 a0) (P0 (fun (t:Bg)=>AV.agg (Enc.cs false t))):=by
  obtain ⟨d,rfl,g⟩:=up hd
  refine AD (t88 NN d _ _) ?_
  unfold b88 m88
  refine AE rfl fun b1=>AL<|q_p fr<|q_i ?_ ?_
  ·exact q_p (fun _=>Lo rfl)<|A6 0 rfl rfl rfl (by decide) rfl<|AI (fun S hS=>hS.lda 0 rfl rfl) (A8 (Aa (Ad rfl) (Aa (Ad rfl) (Aa (Ad rfl) (Aa (Ad rfl) (Aa (As (α:=Az) (l0:=false) (fl:=true) (xs:=[])) (Aa (As (α:=Au) (l0:=false) (fl:=true) (xs:=[])) (Aa (Ad rfl) (Aa (As (α:=B7) (l0:=false) (fl:=true) (xs:=[])) Ah))))))))) rfl
  ·refine AS (aF1 (Ad rfl) fun l0_=>w126 (by omega) 0)<|q_p (fun _=>fE rfl)<|AE rfl fun b2=>A6 0 rfl rfl rfl (by decide) rfl<|AL<|Cm (I:=(fun (s:Int×Int×Int×Str×(List Az)×(List Au)×Int×(List B7)×Int) l L=>∃ (fl1:Bool) (fl2:Bool) (fl3:Bool),l = [iW s.1]∧L = [bx b2 [iW 0,iW s.2.1,iW s.2.2.1,AY s.2.2.2.1,.rsl false fl1 (s.2.2.2.2.1.map (Enc.cs false)),.rsl false fl2 (s.2.2.2.2.2.1.map (Enc.cs false)),iW s.2.2.2.2.2.2.1,.rsl false fl3 (s.2.2.2.2.2.2.2.1.map (Enc.cs false))],bx b1 [iW s.2.2.2.2.2.2.2.2,iW 0,iW 0,AY [],.rsl false true [],.rsl false true [],iW 0,.rsl false true []]])) 0 ⟨false,false,false,rfl,rfl⟩ ?_ ?_ ?_
   ·rintro s1 _ _ ⟨fl1,fl2,fl3,rfl,rfl⟩
    unfold Z2 Nk
    exact q_p fr<|q_i (Bf rfl fun x1 hx1=>q_p fr<|AE rfl fun b3=>A6 0 rfl rfl rfl (by decide) rfl<|A9 0 rfl rfl rfl<|A7 (aF1 (A8 (Aq (l0:=k0) (x:=x1))) fun l0_=>w49 (by omega) l0_ x1) fun y1 hy1=>q_p fr<|q_i (q_p (fun _=>Lo rfl)<|A6 2 rfl rfl rfl (by decide) rfl<|Ar 1 ⟨fl1,fl2,fl3,rfl,rfl⟩)<|q_p fr<|A9 1 rfl rfl rfl<|A9 0 rfl rfl rfl<|A7 (fun S hS=>nU (A8 (Aa As (Aa As (Aa (Ad rfl) (Aa As Ah))))) rfl (A8 (Aq (l0:=k0) (x:=x1))) hS fun l1_=>w127 (by omega) (⟨s1.2.2.2.2.1,s1.2.2.2.2.2.1,s1.2.2.2.2.2.2.1,s1.2.2.2.2.2.2.2.1⟩:AQ) l1_ x1) fun y2 hy2=>q_q fr<|q_q fr<|q_q fr<|AE rfl fun b4=>AE rfl fun b5=>A6 1 rfl rfl rfl (by decide) rfl<|A6 0 rfl rfl rfl (by decide) rfl<|q_p fr<|q_i (q_p (fun _=>Lo rfl)<|A6 4 rfl rfl rfl (by decide) rfl<|Ar 3 ⟨fl1,fl2,fl3,rfl,rfl⟩)<|q_p fr<|q_p fr<|Ao 3 rfl rfl<|q_p fr<|Ao 0 rfl rfl<|Vq (y:=m89 s1.2.2.2.2.1 y2.2.1.Nodes) (E:=(fun _=>und)) (fun S=>YT _ _ _ _) (aF2 As As fun l0_ l1_=>w89 (by omega) l0_ s1.2.2.2.2.1 l1_ y2.2.1.Nodes)<|A9 1 rfl rfl rfl<|A9 0 rfl rfl rfl<|q_p (fun _=>Xo rfl)<|A6 3 rfl rfl rfl (by decide) rfl<|q_p fr<|Ae 3 ⟨false,false,false,rfl,rfl⟩)<|Ax 0 ⟨fl1,fl2,fl3,rfl,rfl⟩
   ·rintro i1 s2 _ _ ⟨fl4,fl5,fl6,rfl,rfl⟩
    exact q_n (q_p fr<|A9 0 rfl rfl rfl<|A7 (aF1 (A8 (Aa As (Aa As (Aa (Ad rfl) (Aa As Ah))))) fun l0_=>gW (by omega) l0_ (⟨s2.2.2.2.2.1,s2.2.2.2.2.2.1,s2.2.2.2.2.2.2.1,s2.2.2.2.2.2.2.2.1⟩:AQ)) fun y3 hy3=>q_p fr<|A6 0 rfl rfl rfl (by decide) rfl<|A9 0 rfl rfl rfl<|A6 1 rfl rfl rfl (by decide) rfl<|AI (fun S hS=>hS.lda 1 rfl rfl) (A8 (Aa (Ad rfl) (Aa (Ad rfl) (Aa (Ad rfl) (Aa (Ad rfl) (Aa As (Aa As (Aa (Ad rfl) (Aa As Ah))))))))) rfl)<|A4
   ·rintro s2 _ _ ⟨fl7,fl8,fl9,rfl,rfl⟩
    exact AI (fun S hS=>hS.lda 1 rfl rfl) (A8 (Aa (Ad rfl) (Aa (Ad rfl) (Aa (Ad rfl) (Aa (Ad rfl) (Aa (As (α:=Az) (l0:=false) (fl:=true) (xs:=[])) (Aa (As (α:=Au) (l0:=false) (fl:=true) (xs:=[])) (Aa (Ad rfl) (Aa (As (α:=B7) (l0:=false) (fl:=true) (xs:=[])) Ah))))))))) rfl
def m53 (a0:List Ag):Option (Bg):=(m88 a0).bind fun y1=>some y1
theorem w53 {d:Nat} (hd:14≤d) (k0:Bool) (a0:List Ag):Fit (R NN d 53 [.rsl k0 false (a0.map (Enc.cs k0))] []) (m53 a0) (P0 (fun (t:Bg)=>AV.agg (Enc.cs false t))):=by
  obtain ⟨d,rfl,g⟩:=up hd
  refine AD (t53 NN d _) ?_
  unfold b53 m53
  exact AE rfl fun b1=>A7 (aF2 As (BC Ah) fun l0_ l1_=>w88 (by omega) l0_ a0) fun y1 hy1=>A6 0 rfl rfl rfl (by decide) rfl<|AI (fun S hS=>hS.lda 0 rfl rfl) (A8 (Aq (l0:=false) (x:=y1))) rfl
def JZ (a0:Ab) (y1:(List Int)) (s1:Int×(List Ag)×Int):Option (LO (Int×(List Ag)×Int)):=bif decide (s1.1 < (y1.length:Int)) then ( (Av y1 s1.1).bind fun x1=>bif !(m52 a0 x1) then some (LO.ret (s1.2.1,4)) else bif decide (x1 > 0) then (Av a0.Requests (wi .i64 (x1 - 1))).bind fun x2=>(Bw 48 s1.2.1 [x2]).bind fun z1=>some (LO.norm (z1,s1.2.2)) else some (LO.norm (s1.2.1,s1.2.2))).bind (Ak (fun s3=>some (LO.norm (wi .i64 (s1.1 + 1),s3.1,s3.2))) (fun i1 s3=>some (LO.exit i1 (s1.1,s3.1,s3.2))) (fun s3=>some (LO.ret (s1.1,s3.1,s3.2)))) else some (LO.exit 0 (s1.1,s1.2.1,s1.2.2))
def m22 (a0:Ab) (a1:Af):Option (Bg):=(m51 a0 a1).bind fun y1=>(AB (JZ a0 y1) NN (0,[],0)).bind (Ak (fun _=>none) (fun i2 s4=>if i2 = 0 then (m53 s4.2.1).bind fun y2=>some y2 else none) (fun s4=>some (⟨s4.2.2,(⟨0,0,[]⟩:BK),(⟨[],[],0,[]⟩:AQ)⟩:Bg)))
theorem w22 {d:Nat} (hd:139≤d) (k0:Bool) (a0:Ab) (k1:Bool) (a1:Af):Fit (R NN d 22 [.rp k0 (Enc.cs k0 a0),.rp k1 (Enc.cs k1 a1)] []) (m22 a0 a1) (P0 (fun (t:Bg)=>AV.agg (Enc.cs false t))):=by
  obtain ⟨d,rfl,g⟩:=up hd
  refine AD (t22 NN d _ _) ?_
  unfold b22 m22
  refine AE rfl fun b1=>q_q (fun _=>cK)<|A7 (aF2 (AZ (Aq (l0:=k0) (x:=a0)) (fun _ _ _ h=>Enc.frz k0 a0 _ _ _ h)) (AZ (Aq (l0:=k1) (x:=a1)) (fun _ _ _ h=>Enc.frz k1 a1 _ _ _ h)) fun l0_ l1_=>w51 (by omega) l0_ a0 l1_ a1) fun y1 hy1=>AL<|DN (α:=Ag) k0<|Cm (I:=(fun (s:Int×(List Ag)×Int) l L=>∃ (v1:AV),l = [v1,iW s.1]∧L = [sl k0 v1 (s.2.1:List Ag),bx b1 [iW s.2.2,iW 0,iW 0,AY [],.rsl false true [],.rsl false true [],iW 0,.rsl false true []]])) 0 ⟨(.rsl false true []),rfl,rfl⟩ ?_ ?_ ?_
  ·rintro s1 _ _ ⟨v1,rfl,rfl⟩
   unfold ZJ JZ
   refine q_p fr<|q_i ?_ ?_
   ·refine DD (I:=(fun (s:(List Ag)×Int) l L=>∃ (v2:AV),l = [v2]∧L = [sl k0 v2 (s.1:List Ag),bx b1 [iW s.2,iW 0,iW 0,AY [],.rsl false true [],.rsl false true [],iW 0,.rsl false true []]])) ?_ ?_ ?_ ?_
    ·exact Bf rfl fun x1 hx1=>q_p fr<|AS (aF2 (AZ (Aq (l0:=k0) (x:=a0)) (fun _ _ _ h=>Enc.frz k0 a0 _ _ _ h)) (Ad rfl) fun l0_ l1_=>w52 (by omega) l0_ a0 x1)<|q_p fr<|q_i (q_p (fun _=>Lo rfl)<|A6 1 rfl rfl rfl (by decide) rfl<|Ar 0 ⟨v1,rfl,rfl⟩)<|q_p fr<|q_i (q_q fr<|q_p fr<|q_p fr<|q_p fr<|Bf rfl fun x2 hx2=>q_p fr<|q_e (fun _=>Xk rfl)<|DO (ys:=[x2]) 0 rfl rfl (fun _ _=>rfl) fun v2 z1 hz1=>Ae 0 ⟨v2,rfl,rfl⟩)<|Ae 0 ⟨v1,rfl,rfl⟩
    ·rintro s3 _ _ ⟨v3,rfl,rfl⟩
     exact q_p fr<|Ae 0 ⟨v3,rfl,rfl⟩
    ·rintro i1 s3 _ _ ⟨v4,rfl,rfl⟩
     exact Ax 0 ⟨v4,rfl,rfl⟩
    ·rintro s3 _ _ ⟨v5,rfl,rfl⟩
     exact Ar 0 ⟨v5,rfl,rfl⟩
   ·exact Ax 0 ⟨v1,rfl,rfl⟩
  ·rintro i2 s4 _ _ ⟨v6,rfl,rfl⟩
   exact q_n (A7 (aF1 (Il 0 rfl) fun l0_=>w53 (by omega) l0_ s4.2.1) fun y2 hy2=>A6 1 rfl rfl rfl (by decide) rfl<|AI (fun S hS=>hS.lda 1 rfl rfl) (A8 (Aq (l0:=false) (x:=y2))) rfl)<|A4
  ·rintro s4 _ _ ⟨v7,rfl,rfl⟩
   exact AI (fun S hS=>hS.lda 1 rfl rfl) (A8 (Aa (Ad rfl) (Aa (Ad rfl) (Aa (Ad rfl) (Aa (Ad rfl) (Aa (As (α:=Az) (l0:=false) (fl:=true) (xs:=[])) (Aa (As (α:=Au) (l0:=false) (fl:=true) (xs:=[])) (Aa (Ad rfl) (Aa (As (α:=B7) (l0:=false) (fl:=true) (xs:=[])) Ah))))))))) rfl
def m6 (a0:Ab) (a1:Int):Option (Bg):=(m21 a0 a1).bind fun y1=>bif y1 != 0 then some (⟨y1,(⟨0,0,[]⟩:BK),(⟨[],[],0,[]⟩:AQ)⟩:Bg) else (m23 a0 a1).bind fun y2=>FZ y2 ( none) fun r1=>(m22 a0 r1).bind fun y3=>some y3
theorem w6 {d:Nat} (hd:145≤d) (k0:Bool) (a0:Ab) (a1:Int):Fit (R NN d 6 [.agg (Enc.cs k0 a0),iW a1] []) (m6 a0 a1) (P0 (fun (t:Bg)=>AV.agg (Enc.cs false t))):=by
  obtain ⟨d,rfl,g⟩:=up hd
  refine AD (t6 NN d _ _) ?_
  unfold b6 m6
  exact AG (n:=5) rfl rfl (by decide) fun b1=>AE rfl fun b2=>A9 1 rfl rfl rfl<|A7 (aF2 (A8 (Aq (l0:=k0) (x:=a0))) (Ad rfl) fun l0_ l1_=>w21 (by omega) l0_ a0 a1) fun y1 hy1=>q_p fr<|q_i (q_p (fun _=>Lo rfl)<|A6 0 rfl rfl rfl (by decide) rfl<|AI (fun S hS=>hS.lda 0 rfl rfl) (A8 (Aa (Ad rfl) (Aa (Ad rfl) (Aa (Ad rfl) (Aa (Ad rfl) (Aa (As (α:=Az) (l0:=false) (fl:=true) (xs:=[])) (Aa (As (α:=Au) (l0:=false) (fl:=true) (xs:=[])) (Aa (Ad rfl) (Aa (As (α:=B7) (l0:=false) (fl:=true) (xs:=[])) Ah))))))))) rfl)<|Dt 2 [1,0] (by decide) (by decide)<|HN (mg:=m23 a0 a1) (v0:=fun _=>AV.nilp) (v1:=fun x r=>AV.rp x (Enc.cs x r)) (fun _=>rfl) (fun _ _=>rfl) (gB (by omega) _ k0 a0 _ a1) (fun x1=>A4) fun r1 x1 hy2=>A7 (aF2 (B9 0 rfl (Aa (Ad rfl) (Aa As (Aa As (Aa As (Aa As Ah)))))) (AZ (Aq (l0:=x1) (x:=r1)) (fun _ _ _ h=>Enc.frz x1 r1 _ _ _ h)) fun l0_ l1_=>w22 (by omega) l0_ a0 l1_ r1) fun y3 hy3=>A6 1 rfl rfl rfl (by decide) rfl<|AI (fun S hS=>hS.lda 1 rfl rfl) (A8 (Aq (l0:=false) (x:=y3))) rfl
def VS (a0:List Az) (a1:List Az) (s1:Bool×Int):Option (LO (Bool×Int)):=bif decide (s1.2 < (a0.length:Int)) then (Av a0 s1.2).bind fun x1=>(Av a1 s1.2).bind fun x2=>bif !(((x1.Path == x2.Path) && ((x1.Data == x2.Data) && ((x1.Version == x2.Version) && ((x1.Owner == x2.Owner) && ((x1.Next == x2.Next) && true)))))) then some (LO.ret (false,s1.2)) else some (LO.norm (s1.1,wi .i64 (s1.2 + 1))) else some (LO.exit 0 (s1.1,s1.2))
def m24 (a0:List Az) (a1:List Az):Option (Bool):=bif (a0.length:Int) != (a1.length:Int) then some false else (AB (VS a0 a1) NN (false,0)).bind (Ak (fun _=>none) (fun i1 s2=>if i1 = 0 then some true else none) (fun s2=>some s2.1))
theorem w24 {d:Nat} (hd:1≤d) (k0:Bool) (a0:List Az) (k1:Bool) (a1:List Az):Fit (R NN d 24 [.rsl k0 false (a0.map (Enc.cs k0)),.rsl k1 false (a1.map (Enc.cs k1))] []) (m24 a0 a1) PB:=by
  obtain ⟨d,rfl,g⟩:=up hd
  refine AD (t24 NN d _ _) ?_
  unfold b24 m24
  refine AL<|AL<|q_p fr<|q_i ?_ ?_
  ·exact Am (Ad rfl) rfl
  ·refine AL<|CU (A:=fun (s:Bool×Int)=>[.bool s.1,iW s.2]) (B:=fun s=>[]) 0 rr ?_ ?_ ?_
   ·intro s1
    unfold ZI VS
    exact q_p fr<|q_i (Bf rfl fun x1 hx1=>q_p fr<|Bf rfl fun x2 hx2=>q_p fr<|q_p (fun _=>XY _ _ _ _ _ _ _ _ _ _)<|q_i (Ar 0 rr)<|q_p fr<|Ae 0 rr)<|Ax 0 rr
   ·exact fun i1 s2=>q_n (Am (Ad rfl) rfl)<|A4
   ·exact fun s2=>Am (Ad rfl) rfl
def VQ (a0:List Au) (a1:List Au) (s1:Bool×Int):Option (LO (Bool×Int)):=bif decide (s1.2 < (a0.length:Int)) then (Av a0 s1.2).bind fun x1=>(Av a1 s1.2).bind fun x2=>bif !(((x1.Id == x2.Id) && ((x1.Until == x2.Until) && true))) then some (LO.ret (false,s1.2)) else some (LO.norm (s1.1,wi .i64 (s1.2 + 1))) else some (LO.exit 0 (s1.1,s1.2))
def m25 (a0:List Au) (a1:List Au):Option (Bool):=bif (a0.length:Int) != (a1.length:Int) then some false else (AB (VQ a0 a1) NN (false,0)).bind (Ak (fun _=>none) (fun i1 s2=>if i1 = 0 then some true else none) (fun s2=>some s2.1))
theorem w25 {d:Nat} (hd:1≤d) (k0:Bool) (a0:List Au) (k1:Bool) (a1:List Au):Fit (R NN d 25 [.rsl k0 false (a0.map (Enc.cs k0)),.rsl k1 false (a1.map (Enc.cs k1))] []) (m25 a0 a1) PB:=by
  obtain ⟨d,rfl,g⟩:=up hd
  refine AD (t25 NN d _ _) ?_
  unfold b25 m25
  refine AL<|AL<|q_p fr<|q_i ?_ ?_
  ·exact Am (Ad rfl) rfl
  ·refine AL<|CU (A:=fun (s:Bool×Int)=>[.bool s.1,iW s.2]) (B:=fun s=>[]) 0 rr ?_ ?_ ?_
   ·intro s1
    unfold ZH VQ
    exact q_p fr<|q_i (Bf rfl fun x1 hx1=>q_p fr<|Bf rfl fun x2 hx2=>q_p fr<|q_p (fun _=>XX _ _ _ _)<|q_i (Ar 0 rr)<|q_p fr<|Ae 0 rr)<|Ax 0 rr
   ·exact fun i1 s2=>q_n (Am (Ad rfl) rfl)<|A4
   ·exact fun s2=>Am (Ad rfl) rfl
def VP (a0:List B7) (a1:List B7) (s1:Bool×Int):Option (LO (Bool×Int)):=bif decide (s1.2 < (a0.length:Int)) then (Av a0 s1.2).bind fun x1=>(Av a1 s1.2).bind fun x2=>bif !(((x1.Client == x2.Client) && ((x1.Number == x2.Number) && (((x1.Reply.Code == x2.Reply.Code) && ((x1.Reply.Value == x2.Reply.Value) && ((x1.Reply.Path == x2.Reply.Path) && true))) && true)))) then some (LO.ret (false,s1.2)) else some (LO.norm (s1.1,wi .i64 (s1.2 + 1))) else some (LO.exit 0 (s1.1,s1.2))
def m26 (a0:List B7) (a1:List B7):Option (Bool):=bif (a0.length:Int) != (a1.length:Int) then some false else (AB (VP a0 a1) NN (false,0)).bind (Ak (fun _=>none) (fun i1 s2=>if i1 = 0 then some true else none) (fun s2=>some s2.1))
theorem w26 {d:Nat} (hd:1≤d) (k0:Bool) (a0:List B7) (k1:Bool) (a1:List B7):Fit (R NN d 26 [.rsl k0 false (a0.map (Enc.cs k0)),.rsl k1 false (a1.map (Enc.cs k1))] []) (m26 a0 a1) PB:=by
  obtain ⟨d,rfl,g⟩:=up hd
  refine AD (t26 NN d _ _) ?_
  unfold b26 m26
  refine AL<|AL<|q_p fr<|q_i ?_ ?_
  ·exact Am (Ad rfl) rfl
  ·refine AL<|CU (A:=fun (s:Bool×Int)=>[.bool s.1,iW s.2]) (B:=fun s=>[]) 0 rr ?_ ?_ ?_
   ·intro s1
    unfold ZG VP
    exact q_p fr<|q_i (Bf rfl fun x1 hx1=>q_p fr<|Bf rfl fun x2 hx2=>q_p fr<|q_p (fun _=>XW _ _ _ _ _ _ _ _ _ _)<|q_i (Ar 0 rr)<|q_p fr<|Ae 0 rr)<|Ax 0 rr
   ·exact fun i1 s2=>q_n (Am (Ad rfl) rfl)<|A4
   ·exact fun s2=>Am (Ad rfl) rfl
def m7 (a0:AQ) (a1:AQ):Option (Bool):=( (m24 a0.Nodes a1.Nodes).bind fun y1=>bif y1 then (m25 a0.Sessions a1.Sessions).bind fun y2=>bif y2 then bif a0.Now == a1.Now then (m26 a0.Marks a1.Marks).bind fun y3=>some (LO.norm y3) else some (LO.norm false) else some (LO.norm false) else some (LO.norm false)).bind (Ak (fun s2=>some s2) (fun i1 s2=>none) (fun s2=>some s2))
theorem w7 {d:Nat} (hd:2≤d) (k0:Bool) (a0:AQ) (k1:Bool) (a1:AQ):Fit (R NN d 7 [.agg (Enc.cs k0 a0),.agg (Enc.cs k1 a1)] []) (m7 a0 a1) PB:=by
  obtain ⟨d,rfl,g⟩:=up hd
  refine AD (t7 NN d _ _) ?_
  unfold b7 m7
  refine AG (n:=4) rfl rfl (by decide) fun b1=>AG (n:=4) rfl rfl (by decide) fun b2=>Bo (A:=fun (s:Bool)=>[.bool s]) (B:=fun s=>[bx b2 [.rsl k1 false (a1.Nodes.map (Enc.cs k1)),.rsl k1 false (a1.Sessions.map (Enc.cs k1)),iW a1.Now,.rsl k1 false (a1.Marks.map (Enc.cs k1))],bx b1 [.rsl k0 false (a0.Nodes.map (Enc.cs k0)),.rsl k0 false (a0.Sessions.map (Enc.cs k0)),iW a0.Now,.rsl k0 false (a0.Marks.map (Enc.cs k0))]]) ?_ ?_ ?_ ?_
  ·exact q_p fr<|Ao 1 rfl rfl<|q_p fr<|Ao 0 rfl rfl<|A7 (aF2 As As fun l0_ l1_=>w24 (by omega) l0_ a0.Nodes l1_ a1.Nodes) fun y1 hy1=>q_k (q_p fr<|Ao 1 rfl rfl<|q_p fr<|Ao 0 rfl rfl<|A7 (aF2 As As fun l0_ l1_=>w25 (by omega) l0_ a0.Sessions l1_ a1.Sessions) fun y2 hy2=>q_k (q_p fr<|Ao 1 rfl rfl<|q_p fr<|Ao 0 rfl rfl<|q_p fr<|q_k (q_p fr<|Ao 1 rfl rfl<|q_p fr<|Ao 0 rfl rfl<|A7 (aF2 As As fun l0_ l1_=>w26 (by omega) l0_ a0.Marks l1_ a1.Marks) fun y3 hy3=>Ae 0 rr)<|Ae 0 rr)<|Ae 0 rr)<|Ae 0 rr
  ·exact fun s2=>Am (Ad rfl) rfl
  ·exact fun i1 s2=>A4
  ·exact fun s2=>Am (Ad rfl) rfl
def m8 (a0:Ab):Option (Bool):=(m20 a0).bind fun y1=>some (y1 == 0)
theorem w8 {d:Nat} (hd:144≤d) (k0:Bool) (a0:Ab):Fit (R NN d 8 [.agg (Enc.cs k0 a0)] []) (m8 a0) PB:=by
  obtain ⟨d,rfl,g⟩:=up hd
  refine AD (t8 NN d _) ?_
  unfold b8 m8
  exact AG (n:=5) rfl rfl (by decide) fun b1=>A9 0 rfl rfl rfl<|A7 (aF1 (A8 (Aq (l0:=k0) (x:=a0))) fun l0_=>w20 (by omega) l0_ a0) fun y1 hy1=>q_p fr<|Am (Ad rfl) rfl
def M5 (s1:Bool×Int) (y1:Ab×Bool) (s2:Bool×Int):Option (LO (Bool×Int)):=bif decide (s2.2 < s1.2) then ( (Av y1.1.Replicas s1.2).bind fun x1=>(m6 y1.1 x1.Id).bind fun y2=>(Av y1.1.Replicas s2.2).bind fun x2=>(m6 y1.1 x2.Id).bind fun y3=>( (Av y1.1.Replicas s1.2).bind fun x3=>(Av y1.1.Replicas s2.2).bind fun x4=>bif x3.Done == x4.Done then bif y2.Code != 0 then some (LO.norm true) else bif y3.Code != 0 then some (LO.norm true) else (m7 y2.State y3.State).bind fun y4=>some (LO.norm (!y4)) else some (LO.norm false)).bind (Ak (fun s5=>bif s5 then some (LO.ret false) else some (LO.norm s2.1)) (fun i1 s5=>if i1 = 3 then some (LO.norm s2.1) else some (LO.exit i1 s2.1)) (fun s5=>some (LO.ret s2.1)))).bind (Ak (fun s6=>some (LO.norm (s6,wi .i64 (s2.2 + 1)))) (fun i2 s6=>some (LO.exit i2 (s6,s2.2))) (fun s6=>some (LO.ret (s6,s2.2)))) else some (LO.exit 2 (s2.1,s2.2))
def M4 (y1:Ab×Bool) (s1:Bool×Int):Option (LO (Bool×Int)):=bif decide (s1.2 < (y1.1.Replicas.length:Int)) then (AB (M5 s1 y1) NN (s1.1,0)).bind (Ak (fun _=>none) (fun i3 s7=>if i3 = 2 then some (LO.norm (s7.1,wi .i64 (s1.2 + 1))) else if i3 = 1 then some (LO.norm (s7.1,wi .i64 (s1.2 + 1))) else some (LO.exit i3 (s7.1,s1.2))) (fun s7=>some (LO.ret (s7.1,s1.2)))) else some (LO.exit 0 (s1.1,s1.2))
def m3 (a0:List U8):Option (Bool):=bif (m4 a0) then some true else (m5 a0).bind fun y1=>(AB (M4 y1) NN (false,0)).bind (Ak (fun _=>none) (fun i4 s8=>if i4 = 0 then ( bif y1.2 then (m8 y1.1).bind fun y5=>bif y5 then some (LO.norm (decide ((y1.1.Replicas.length:Int) > 0))) else some (LO.norm false) else some (LO.norm false)).bind (Ak (fun s10=>some s10) (fun i5 s10=>none) (fun s10=>some s10)) else none) (fun s8=>some s8.1))
theorem w3 {d:Nat} (hd:442≤d) (k0:Bool) (a0:List U8):Fit (R NN d 3 [.rsl k0 false (a0.map (Enc.cs k0))] []) (m3 a0) PB:=by
  obtain ⟨d,rfl,g⟩:=up hd
  refine AD (t3 NN d _) ?_
  unfold b3 m3
  refine AS (aF1 As fun l0_=>w4 (by omega) l0_ a0)<|q_i ?_ ?_
  ·exact Am (Ad rfl) rfl
  ·refine A7 (aF1 As fun l0_=>w5 (by omega) l0_ a0) fun y1 hy1=>q_q fr<|q_q fr<|AE rfl fun b1=>A6 0 rfl rfl rfl (by decide) rfl<|CU (A:=fun (s:Bool×Int)=>[.bool s.1,iW s.2]) (B:=fun s=>[bx b1 [iW y1.1.F,.rsl false false (y1.1.Bad.map (Enc.cs false)),.rsl false false (y1.1.Replicas.map (Enc.cs false)),.rsl false false (y1.1.Ledger.map (Enc.cs false)),.rsl false false (y1.1.Requests.map (Enc.cs false))]]) 0 rr ?_ ?_ ?_
   ·intro s1
    unfold jF M4
    refine q_p fr<|Ao 0 rfl rfl<|AL<|q_p fr<|q_i ?_ ?_
    ·refine CU (A:=fun (s:Bool×Int)=>[.bool s.1,iW s.2]) (B:=fun s=>[bx b1 [iW y1.1.F,.rsl false false (y1.1.Bad.map (Enc.cs false)),.rsl false false (y1.1.Replicas.map (Enc.cs false)),.rsl false false (y1.1.Ledger.map (Enc.cs false)),.rsl false false (y1.1.Requests.map (Enc.cs false))]]) 0 rr ?_ ?_ ?_
     ·intro s2
      unfold jG M5
      refine q_p fr<|q_i ?_ ?_
      ·refine Bo (A:=fun (s:Bool)=>[.bool s]) (B:=fun s=>[bx b1 [iW y1.1.F,.rsl false false (y1.1.Bad.map (Enc.cs false)),.rsl false false (y1.1.Replicas.map (Enc.cs false)),.rsl false false (y1.1.Ledger.map (Enc.cs false)),.rsl false false (y1.1.Requests.map (Enc.cs false))]]) ?_ ?_ ?_ ?_
       ·refine AE rfl fun b2=>A9 1 rfl rfl rfl<|q_p fr<|Ao 1 rfl rfl<|Bf rfl fun x1 hx1=>q_p fr<|q_p fr<|A7 (aF2 (A8 (Aq (l0:=false) (x:=y1.1))) (Ad rfl) fun l0_ l1_=>w6 (by omega) l0_ y1.1 x1.Id) fun y2 hy2=>A6 0 rfl rfl rfl (by decide) rfl<|AE rfl fun b3=>A9 2 rfl rfl rfl<|q_p fr<|Ao 2 rfl rfl ?_
        refine Bf rfl fun x2 hx2=>q_p fr<|q_p fr<|A7 (aF2 (A8 (Aq (l0:=false) (x:=y1.1))) (Ad rfl) fun l0_ l1_=>w6 (by omega) l0_ y1.1 x2.Id) fun y3 hy3=>A6 0 rfl rfl rfl (by decide) rfl<|Bo (A:=fun (s:Bool)=>[.bool s]) (B:=fun s=>[bx b3 [iW y3.Code,iW y3.Reply.Code,iW y3.Reply.Value,AY y3.Reply.Path,.rsl false false (y3.State.Nodes.map (Enc.cs false)),.rsl false false (y3.State.Sessions.map (Enc.cs false)),iW y3.State.Now,.rsl false false (y3.State.Marks.map (Enc.cs false))],bx b2 [iW y2.Code,iW y2.Reply.Code,iW y2.Reply.Value,AY y2.Reply.Path,.rsl false false (y2.State.Nodes.map (Enc.cs false)),.rsl false false (y2.State.Sessions.map (Enc.cs false)),iW y2.State.Now,.rsl false false (y2.State.Marks.map (Enc.cs false))],bx b1 [iW y1.1.F,.rsl false false (y1.1.Bad.map (Enc.cs false)),.rsl false false (y1.1.Replicas.map (Enc.cs false)),.rsl false false (y1.1.Ledger.map (Enc.cs false)),.rsl false false (y1.1.Requests.map (Enc.cs false))]]) ?_ ?_ ?_ ?_
        ·exact q_p fr<|Ao 2 rfl rfl<|Bf rfl fun x3 hx3=>q_p fr<|q_p fr<|q_p fr<|Ao 2 rfl rfl<|Bf rfl fun x4 hx4=>q_p fr<|q_p fr<|q_p fr<|q_k (q_p fr<|Ao 1 rfl rfl<|q_p fr<|q_j (Ae 0 rr)<|q_p fr<|Ao 0 rfl rfl<|q_p fr<|q_j (Ae 0 rr)<|q_p fr<|A9 1 rfl rfl rfl<|q_p fr<|A9 0 rfl rfl rfl<|A7 (aF2 (A8 (Aq (l0:=false) (x:=y2.State))) (A8 (Aq (l0:=false) (x:=y3.State))) fun l0_ l1_=>w7 (by omega) l0_ y2.State l1_ y3.State) fun y4 hy4=>q_p fr<|Ae 0 rr)<|Ae 0 rr
        ·exact fun s5=>q_i (Ar 2 rr)<|Ae 2 rr
        ·exact fun i1 s5=>q_n (Ae 2 rr)<|Ax 2 rr
        ·exact fun s5=>Ar 2 rr
       ·exact fun s6=>q_p fr<|Ae 0 rr
       ·exact fun i2 s6=>Ax 0 rr
       ·exact fun s6=>Ar 0 rr
      ·exact Ax 0 rr
     ·exact fun i3 s7=>q_n (q_p fr<|Ae 0 rr)<|q_n (q_p fr<|Ae 0 rr)<|Ax 0 rr
     ·exact fun s7=>Ar 0 rr
    ·exact Ax 0 rr
   ·intro i4 s8
    refine q_n ?_ ?_
    ·refine Bo (A:=fun (s:Bool)=>[.bool s]) (B:=fun s=>[bx b1 [iW y1.1.F,.rsl false false (y1.1.Bad.map (Enc.cs false)),.rsl false false (y1.1.Replicas.map (Enc.cs false)),.rsl false false (y1.1.Ledger.map (Enc.cs false)),.rsl false false (y1.1.Requests.map (Enc.cs false))]]) ?_ ?_ ?_ ?_
     ·exact q_k (A9 0 rfl rfl rfl<|A7 (aF1 (A8 (Aq (l0:=false) (x:=y1.1))) fun l0_=>w8 (by omega) l0_ y1.1) fun y5 hy5=>q_k (q_p fr<|Ao 0 rfl rfl<|AL<|q_p fr<|Ae 0 rr)<|Ae 0 rr)<|Ae 0 rr
     ·exact fun s10=>Am (Ad rfl) rfl
     ·exact fun i5 s10=>A4
     ·exact fun s10=>Am (Ad rfl) rfl
    ·exact A4
   ·exact fun s8=>Am (Ad rfl) rfl
end
end Go.Proofs.YthbiabieiopobaaGreatDoor
